/- Parts of the proof of the seat's statements (JdkA, JdkB, JdkC, JdkD, JdkE, JdkF, ShMap6, JdkG, JdkH, JdkI0, JdkI1, JdkJ, JC, JD, JE, JF, PuLaw3, PuLaw4, UpM, UpQ, UpS, UpT, UpU, UpV, UpW, PuLaw5, FdPoly, FdInv, FdThr, PrUnit, GrLaw, PrSpec, PrFill, PrCom, PrLaw, PrLaw2, PrLaw3, PrLaw4, PrLaw5, PrLaw6, PrSign, PrText, PrCode, PrRange, LsSpec, PrOpen, PuUse, PuLaw6, JnUp, JnRec, PuLaw7, UpX, UpY, UpZ, UqA): lemmas about the given translation and plain laws. No condition of their own. -/
import Derived.Test.YtbfkhodfjecndaaGreatDoorFac
import Derived.Laws.CopyRow
import Derived.Laws.IdiomCopy
set_option linter.all false
set_option maxRecDepth 100000
namespace Go.Proofs
open Go Go.Sh Go.RowKit DkSpec
@[reducible] def bsV (s:Bs):Value:=.string ⟨s.toArray⟩
def flV (x:Bs × Bs):Value:=.agg #[bsV x.1,bsV x.2]
def c9q (n:Int):Value:=.int .i64 n
def b8h (p:Int × Int):Value:=.agg #[.int .i64 p.1,.int .i64 p.2]
def b5j (p:Int × Int):List Value:=[.int .i64 p.1,.int .i64 p.2]
theorem g8l:KeyOK Tryz.prog 3 c9q:=g6c (by kernel_rfl)
theorem g8m:KeyOK Tryz.prog 176 b8h where
 find:=fun w k es ks h=>by
  refine (run_findKey_eq w (by kernel_rfl) _ _).trans ?_
  have:=c4u (P:=Tryz.prog) (kt:=176) b8h (fun w a b=>by
   simp [Op.equal,Op.maxDepth,b8h,go_sem]
   obtain ⟨a1,a2⟩:=a
   obtain ⟨b1,b2⟩:=b
   by_cases h1:a1 = b1 <;> by_cases h2:a2 = b2 <;> simp [h1,h2]) w k es ks 0 h
  simpa using this
 check:=fun b w k=>by
  have h:∀ n,(Instr.checkKey b (n + 2) 176 (b8h k)).run Tryz.prog w = .ok () w:=by
   intro n
   simp [Instr.checkKey,b8h,go_sem]
  exact h 9998
 same:=fun k=>by simp [b8h,Instr.sameBits]
structure Dk where
 fm:Nat
 sm:Nat
 q:Value
 kp:Value
def a1l (A:Ab) (h:Dk):Array Value:=#[.map (some h.fm),h.q,.map (some h.sm),.int .i64 A.lost,.bool A.down,.int .i64 A.armed,h.kp]
structure IsDk (w:World) (b:Nat) (A:Ab) (h:Dk):Prop where
 blk:w.heap[b]? = some (.cells (a1l A h) 135 (0,0))
 files:∃ l,MapIs c9q w h.fm l ∧ ∀ f,(a4a l f).getD (flV ([],[])) = flV (A.F f)
 set:∃ sl,MapIs b8h w h.sm sl ∧ ∀ p,a4a sl p = if p ∈ A.queue then some (.bool true) else none
 que:w.ownsRow 0 176 2 h.q A.queue.length (a3a b5j A.queue)
 kep:w.ownsRow 0 3 1 h.kp A.keep.length (A.keep.map c9q)
 ne:h.fm ≠ h.sm
 wf:WF A
def Own (b:Nat) (h:Dk) (i:Nat):Prop:=i = b ∨ i = h.fm ∨ i = h.sm ∨ h.q.ownBlock = some i
def Rdb (h:Dk) (i:Nat):Prop:=h.kp.ownBlock = some i
structure Step (w:World) (b:Nat) (h:Dk) (w':World) (h':Dk):Prop where
 fr:Fr (Own b h) w w'
 own:∀ i,Own b h' i → Own b h i ∨ w.heap.size ≤ i
 rd:∀ i,Rdb h' i → Rdb h i ∨ w.heap.size ≤ i
theorem Step.refl (w:World) (b:Nat) (h:Dk):Step w b h w h:=⟨Fr.refl _ _,fun _ h=>.inl h,fun _ h=>.inl h⟩
theorem Step.trans {w w1 w2:World} {b:Nat} {h h1 h2:Dk} (a:Step w b h w1 h1) (c:Step w1 b h1 w2 h2):Step w b h w2 h2:=
 ⟨a.fr.trans c.fr a.own,fun i hi=>(c.own i hi).elim (a.own i) (fun h=>.inr (Nat.le_trans a.fr.size h)),fun i hi=>(c.rd i hi).elim (a.rd i) (fun h=>.inr (Nat.le_trans a.fr.size h))⟩
section
variable {w w':World} {b:Nat} {A:Ab} {h:Dk}
theorem IsDk.lt (d:IsDk w b A h) {i:Nat} (hi:Own b h i ∨ Rdb h i):i < w.heap.size:=by
 rcases hi with (rfl | rfl | rfl | hi) | hi
 ·exact (Array.getElem?_eq_some_iff.1 d.blk).1
 ·obtain ⟨l,hl,_⟩:=d.files; exact hl.lt
 ·obtain ⟨l,hl,_⟩:=d.set; exact hl.lt
 ·exact (a0x d.que hi).1
 ·exact (a0x d.kep hi).1
theorem IsDk.keep (d:IsDk w b A h) (hk:∀ i,Own b h i ∨ Rdb h i → w'.heap[i]? = w.heap[i]?):IsDk w' b A h:=by
 refine ⟨?_,?_,?_,a1j d.que (fun i hi=>hk i (.inl (.inr (.inr (.inr hi))))),a1j d.kep (fun i hi=>hk i (.inr hi)),d.ne,d.wf⟩
 ·rw [hk b (.inl (.inl rfl))]; exact d.blk
 ·obtain ⟨l,hl,h2⟩:=d.files
  exact ⟨l,hl.of_block (hk _ (.inl (.inr (.inl rfl)))),h2⟩
 ·obtain ⟨l,hl,h2⟩:=d.set
  exact ⟨l,hl.of_block (hk _ (.inl (.inr (.inr (.inl rfl))))),h2⟩
theorem MapIs.isMap {κ:Type} {mk:κ → Value} {i:Nat} {l:List (κ × Value)} (h:MapIs mk w i l):∃ es c,w.heap[i]? = some (.map es c):=by
 obtain ⟨es,c,h,_⟩:=h; exact ⟨es,c,h⟩
theorem IsDk.bfm (d:IsDk w b A h):b ≠ h.fm:=by
 obtain ⟨l,hl,_⟩:=d.files
 obtain ⟨es,c,h1⟩:=MapIs.isMap hl
 intro e
 have h2:=d.blk
 rw [e,h1] at h2; cases h2
theorem IsDk.bsm (d:IsDk w b A h):b ≠ h.sm:=by
 obtain ⟨l,hl,_⟩:=d.set
 obtain ⟨es,c,h1⟩:=MapIs.isMap hl
 intro e
 have h2:=d.blk
 rw [e,h1] at h2; cases h2
theorem IsDk.qne (d:IsDk w b A h) {i:Nat} (hi:h.q.ownBlock = some i):i ≠ b ∧ i ≠ h.fm ∧ i ≠ h.sm:=by
 obtain ⟨_,_,cur,hc⟩:=a0x d.que hi
 refine ⟨?_,?_,?_⟩
 ·rintro rfl; rw [d.blk] at hc; cases hc
 ·rintro rfl
  obtain ⟨l,hl,_⟩:=d.files
  obtain ⟨es,c,h1⟩:=MapIs.isMap hl
  rw [h1] at hc; cases hc
 ·rintro rfl
  obtain ⟨l,hl,_⟩:=d.set
  obtain ⟨es,c,h1⟩:=MapIs.isMap hl
  rw [h1] at hc; cases hc
theorem IsDk.kne (d:IsDk w b A h) {i:Nat} (hi:h.kp.ownBlock = some i):i ≠ b ∧ i ≠ h.fm ∧ i ≠ h.sm ∧ h.q.ownBlock ≠ some i:=by
 obtain ⟨_,_,cur,hc⟩:=a0x d.kep hi
 refine ⟨?_,?_,?_,?_⟩
 ·rintro rfl; rw [d.blk] at hc; cases hc
 ·rintro rfl
  obtain ⟨l,hl,_⟩:=d.files
  obtain ⟨es,c,h1⟩:=MapIs.isMap hl
  rw [h1] at hc; cases hc
 ·rintro rfl
  obtain ⟨l,hl,_⟩:=d.set
  obtain ⟨es,c,h1⟩:=MapIs.isMap hl
  rw [h1] at hc; cases hc
 ·intro hq
  obtain ⟨_,_,cur',hc'⟩:=a0x d.que hq
  rw [hc] at hc'; cases hc'
theorem IsDk.cells (d:IsDk w b A h) {A':Ab} (hF:A'.F = A.F) (hq:A'.queue = A.queue) (hk:A'.keep = A.keep) (hw:WF A') (hb:w'.heap[b]? = some (.cells (a1l A' h) 135 (0,0))) (ho:∀ i,i ≠ b → w'.heap[i]? = w.heap[i]?):IsDk w' b A' h:=by
 refine ⟨hb,?_,?_,?_,?_,d.ne,hw⟩
 ·obtain ⟨l,hl,h2⟩:=d.files
  exact ⟨l,hl.of_block (ho _ d.bfm.symm),by rw [hF]; exact h2⟩
 ·obtain ⟨l,hl,h2⟩:=d.set
  exact ⟨l,hl.of_block (ho _ d.bsm.symm),by rw [hq]; exact h2⟩
 ·rw [hq]; exact a1j d.que (fun i hi=>ho i (d.qne hi).1)
 ·rw [hk]; exact a1j d.kep (fun i hi=>ho i (d.kne hi).1)
theorem IsDk.c (d:IsDk w b A h) (i:Nat):w.cell? ⟨b,i,none⟩ = (a1l A h)[i]?:=a0b d.blk i
theorem IsDk.fz (d:IsDk w b A h) (i:Nat):w.frozen? ⟨b,i,none⟩ = false:=a1d d.blk i
theorem IsDk.set3 (d:IsDk w b A h) (n:Int) (hn:0 ≤ n ∧ n < 2 ^ 63):IsDk (w.setCell ⟨b,3,none⟩ (.int .i64 n)) b { A with lost:=n } h:=
 d.cells rfl rfl rfl ⟨hn.1,hn.2,d.wf.a0,d.wf.a1,d.wf.nd,d.wf.qr,d.wf.sz,d.wf.kr,d.wf.kl⟩ (by rw [a3r d.blk]; rfl) (fun i hi=>a0q _ _ _ _ hi)
theorem IsDk.set4 (d:IsDk w b A h) (t:Bool):IsDk (w.setCell ⟨b,4,none⟩ (.bool t)) b { A with down:=t } h:=
 d.cells rfl rfl rfl ⟨d.wf.l0,d.wf.l1,d.wf.a0,d.wf.a1,d.wf.nd,d.wf.qr,d.wf.sz,d.wf.kr,d.wf.kl⟩ (by rw [a3r d.blk]; rfl) (fun i hi=>a0q _ _ _ _ hi)
theorem IsDk.set5 (d:IsDk w b A h) (n:Int) (hn:0 ≤ n ∧ n < 2 ^ 63):IsDk (w.setCell ⟨b,5,none⟩ (.int .i64 n)) b { A with armed:=n } h:=
 d.cells rfl rfl rfl ⟨d.wf.l0,d.wf.l1,hn.1,hn.2,d.wf.nd,d.wf.qr,d.wf.sz,d.wf.kr,d.wf.kl⟩ (by rw [a3r d.blk]; rfl) (fun i hi=>a0q _ _ _ _ hi)
theorem b2n (w:World) (b i:Nat) (h:Dk) (u:Value):Step w b h (w.setCell ⟨b,i,none⟩ u) h:=⟨(Fr.refl _ _).set _ _ (.inl (.inl rfl)),fun _ h=>.inl h,fun _ h=>.inl h⟩
theorem IsDk.look (d:IsDk w b A h) (f:Int):(Instr.lookup 131 (.map (some h.fm)) (.int .i64 f) false).run Tryz.prog w = .ok (flV (A.F f)) w:=by
 obtain ⟨l,hl,h2⟩:=d.files
 have:=b9x (P:=Tryz.prog) (t:=131) (et:=178) (z:=flV ([],[])) g8l (by kernel_rfl) (fun w=>by kernel_rfl) hl f
 rw [h2] at this
 exact this
end
@[reducible] def dkP (b:Nat):Value:=.pointer (some ⟨b,0,none⟩)
section
variable {w:World} {b:Nat} {A:Ab} {h:Dk} {K:VK}
theorem d9t (d:IsDk w b A h) (f:Int) (k:K (.int .i64 (A.F f).1.length) w):a0a Tryz.prog 182 #[dkP b,.int .i64 f] K w:=by
 apply d5w
 unfold f3z dkP
 have c0:=d.c 0
 simp only [a1l] at c0
 have hl:=d.look f
 repeat (any_goals ((with_reducible refine oG fun X Y=>?_); simp [go_sem,c0,hl,flV,bsV]; apply Y; clear Y X))
 exact k
theorem c9r (d:IsDk w b A h) (f:Int) (k:K (.int .i64 (b8u A f)) w):a0a Tryz.prog 167 #[dkP b,.int .i64 f] K w:=by
 apply d5t
 unfold f3w dkP
 have c4:=d.c 4
 simp only [a1l] at c4
 unfold b8u at k
 repeat (any_goals (first
 | (with_reducible first|refine a0v ?_|((refine a9c ?_); ((refine a6c ?_); first|refine zI ?_|refine zJ ?_|refine zK (fun hg=>?_) fun hg=>?_))|((refine a2x ?_); first|refine yD ?_|refine yE ?_)|((refine a1n ?_); first|refine yL ?_|refine yP (fun hg=>?_) fun hg=>?_|refine yY (fun hg=>?_) fun hg=>?_))
 | ((with_reducible refine oG fun X Y=>?_); simp [go_sem,c4]; apply Y; clear Y X)))
 all_goals (try simp_all)
theorem e9d (d:IsDk w b A h) (k:∀ w',IsDk w' b (b2k A) h → Step w b h w' h → K (.tuple #[]) w'):a0a Tryz.prog 47 #[dkP b] K w:=by
 apply e6k
 unfold g2q dkP
 have c4:=d.c 4
 have f4:=d.fz 4
 simp only [a1l] at c4
 refine Xg (An2 @c4 @f4) ?_
 exact k _ (d.set4 false) (b2n _ _ _ _ _)
theorem c7b (d:IsDk w b A h) (k:∀ w',IsDk w' b (a4b A).2 h → Step w b h w' h → K (.bool (a4b A).1) w'):a0a Tryz.prog 166 #[dkP b] K w:=by
 apply d5s
 unfold f3v dkP
 have c4:=d.c 4
 have c5:=d.c 5
 have f5:=d.fz 5
 simp only [a1l] at c4 c5
 have a0:=d.wf.a0
 have a1:=d.wf.a1
 unfold a4b at k
 repeat (any_goals (first
 | (with_reducible first|refine a0v ?_|((refine a9c ?_); first|refine zY ?_|refine zZ ?_|refine yA (fun hg=>?_) fun hg=>?_)|((refine a2x ?_); first|refine yJ ?_|refine yK ?_)|((refine a1n ?_); first|refine yL ?_|refine yP (fun hg=>?_) fun hg=>?_))
 | ((with_reducible refine oG fun X Y=>?_); simp [go_sem,c4,c5,f5]; (try simp (disch:=omega) only [a0u,a2y,a1r]); apply Y; clear Y X)))
 ·rw [if_pos (.inl hg)] at k
  exact k _ d (Step.refl _ _ _)
 ·rw [if_pos (.inr hg)] at k
  exact k _ d (Step.refl _ _ _)
 ·rename_i hg2
  rw [if_neg (by rw [hg2]; simp [hg])] at k
  have e:decide (A.armed - 1 = 0) = decide (A.armed = 1):=by
   by_cases h1:A.armed = 1
   ·simp [h1]
   ·have:¬ A.armed - 1 = 0:=by omega
    simp [h1,this]
  rw [e]
  exact k _ (d.set5 (A.armed - 1) (by omega)) (b2n _ _ _ _ _)
end
def intC (n:Int):List Value:=[c9q n]
theorem c9s (x:List UInt8) (i j:Nat):(⟨x.toArray⟩:ByteArray).extract i j = ⟨((x.drop i).take (j - i)).toArray⟩:=by
 apply ByteArray.ext
 rw [ByteArray.data_extract]
 simp [List.extract_eq_take_drop]
theorem e9e (l:List UInt8) (a n:Int) (ha:0 ≤ a) (hn:0 ≤ n):((⟨l.toArray⟩:ByteArray).extract (min a l.length).toNat l.length).extract 0 (min n ((l.length - (min a (l.length:Int)).toNat:Nat):Int)).toNat = ⟨((l.drop a.toNat).take n.toNat).toArray⟩:=by
 rw [c9s,c9s]
 congr 2
 rw [List.drop_zero,List.take_take]
 by_cases h:a ≤ l.length
 ·have e:(min a (l.length:Int)).toNat = a.toNat:=by omega
  rw [e,List.take_eq_take_iff,List.length_drop]
  omega
 ·have e:(min a (l.length:Int)).toNat = l.length:=by omega
  rw [e,List.drop_of_length_le (rL),List.drop_of_length_le (by omega)]
  simp
theorem d9u (l:List UInt8) (a n:Int) (ha:0 ≤ a) (hn:0 ≤ n):(l.drop (min a (l.length:Int)).toNat).take (min n ((l.length - (min a (l.length:Int)).toNat:Nat):Int)).toNat = (l.drop a.toNat).take n.toNat:=by
 by_cases h:a ≤ l.length
 ·have e:(min a (l.length:Int)).toNat = a.toNat:=by omega
  rw [e,List.take_eq_take_iff,List.length_drop]
  omega
 ·have e:(min a (l.length:Int)).toNat = l.length:=by omega
  rw [e,List.drop_of_length_le (rL),List.drop_of_length_le (by omega)]
  simp
section
variable {w:World} {b:Nat} {A:Ab} {h:Dk} {K:VK}
theorem g5h (k:∀ w' b h,IsDk w' b c6s h → Fr (fun _=>False) w w' → (∀ i,Own b h i → w.heap.size ≤ i) → (∀ i,¬ Rdb h i) → K (dkP b) w'):a0a Tryz.prog 30 #[] K w:=by
 apply e6i
 unfold g2o
 refine Xc0 ?_
 have s1:(w.alloc (.map #[] 0)).heap.size = w.heap.size + 1:=a0z _ _
 have s2:((w.alloc (.map #[] 0)).alloc (.map #[] 0)).heap.size = w.heap.size + 1 + 1:=by rw [a0z,a0z]
 have m1:MapIs c9q (w.alloc (.map #[] 0)) w.heap.size []:=b7b w
 have m2:MapIs b8h ((w.alloc (.map #[] 0)).alloc (.map #[] 0)) (w.heap.size + 1) []:=by
  have:=b7b (mk:=b8h) (w.alloc (.map #[] 0))
  rw [s1] at this
  exact this
 refine k _ (w.heap.size + 1 + 1) ⟨w.heap.size,w.heap.size + 1,.slice none 0 0,.slice none 0 0⟩ ⟨?_,?_,?_,?_,?_,?_,d4j⟩ (((Fr.refl _ _).alloc _).alloc _ |>.alloc _) ?_ ?_
 ·have:=heap_alloc_new ((w.alloc (.map #[] 0)).alloc (.map #[] 0)) (.cells (a1l c6s ⟨w.heap.size,w.heap.size + 1,.slice none 0 0,.slice none 0 0⟩) 135 (0,0))
  rw [s2] at this
  exact this
 ·exact ⟨[],(m1.alloc _).alloc _,fun f=>rfl⟩
 ·exact ⟨[],m2.alloc _,fun p=>by simp [c6s,a7u]⟩
 ·exact World.ownsRow_nil _ _ _ _
 ·exact World.ownsRow_nil _ _ _ _
 ·simp
 ·rintro i (rfl | rfl | rfl | hi)
  ·omega
  ·exact rL
  ·simp
  ·cases hi
 ·intro i hi; cases hi
theorem f9h (d:IsDk w b A h) (f at_ size:Int) (k:K (.tuple #[bsV (b2l A f at_ size).1,.int .i64 (b2l A f at_ size).2]) w):a0a Tryz.prog 181 #[dkP b,.int .i64 f,.int .i64 at_,.int .i64 size] K w:=by
 apply d5v
 unfold f3y
 refine c9r d f ?_
 have c0:=d.c 0
 simp only [a1l] at c0
 have hl:=d.look f
 unfold b2l at k
 unfold dkP
 repeat (any_goals (first
 | (with_reducible first|refine a0v ?_|((refine a9c ?_); ((refine a6c ?_); first|refine zI ?_|refine zJ ?_|refine zK (fun hg=>?_) fun hg=>?_))|((refine a2x ?_); first|refine yD ?_|refine yE ?_)|((refine a1n ?_); first|refine yL ?_|refine yP (fun hg=>?_) fun hg=>?_|refine yS (fun hg=>?_) fun hg=>?_))
 | ((with_reducible refine oG fun X Y=>?_); simp [go_sem,c0,hl,flV,bsV]; (first|refine Y _ _ ?_|refine And.intro (by omega) (Y _ _ ?_)); clear Y X)))
 ·rename_i h0
  rw [if_neg (by omega),if_pos (.inl hg)] at k
  exact k
 ·rename_i h0
  rw [if_neg (by omega),if_pos (.inr hg)] at k
  exact k
 ·rename_i h0
  rw [if_neg (by omega),if_neg (by omega)] at k
  first | rw [e9e _ _ _ (by omega) (by omega)] | rw [d9u _ _ _ (by omega) (by omega)]
  exact k
 ·rw [if_pos hg] at k
  exact k
theorem g5i (t:List UInt8):((⟨t.toArray⟩:ByteArray) = ⟨#[]⟩) ↔ t = []:=by
 constructor
 ·intro h
  have:=congrArg (fun b=>b.data.toList) h
  simpa using this
 ·rintro rfl; rfl
theorem c9t {α:Type} (f:α → Value) (l:List α):a3a (fun x=>[f x]) l = l.map f:=by
 induction l with
 | nil=>rfl
 | cons x l ih=>rw [b0x,ih]; rfl
theorem g5j (s t:Bs) (a:Int) (h0:0 ≤ a) (ha:a + t.length ≤ 16777216) (hs:s.length ≤ 16777216) (k:∀ w',Fr (fun _=>False) w w' → K (bsV (b0f s a.toNat t)) w'):a0a Tryz.prog 126 #[bsV s,.int .i64 a,bsV t] K w:=by
 apply d5r
 unfold f3u bsV
 by_cases ht:t = []
 ·subst ht
  refine Xc0 ?_
  exact k _ (Fr.refl _ _)
 ·have hne:¬ ((⟨t.toArray⟩:ByteArray) = ⟨#[]⟩):=fun e=>ht ((g5i t).1 e)
  obtain ⟨n,rfl⟩:=Int.eq_ofNat_of_zero_le h0
  have hmax:max (s.length:Int) ((n:Int) + t.length) = ((max s.length (n + t.length):Nat):Int):=by omega
  refine Xg @hmax ?_
  have hpos:0 < t.length:=List.length_pos_iff.2 ht
  refine c4o (e:=5) (i:=(Tryz.prog.info? 5).getD default) (by kernel_rfl) (by kernel_rfl) (by kernel_rfl) (by kernel_rfl) (by kernel_rfl) _ (by omega) (fun hB=>?_)
  have g1:Fr (fun _=>False) w (w.alloc (.cells (Lib.byteCells (List.replicate (max s.length (n + t.length)) 0)).toArray 5)):=(Fr.refl _ _).alloc _
  generalize (w.alloc (.cells (Lib.byteCells (List.replicate (max s.length (n + t.length)) 0)).toArray 5)) = w1 at *
  refine b9v (e:=5) (by kernel_rfl) (by kernel_rfl) hB s (by omega) (by simp; omega) (fun w2 hB2 hg2=>?_)
  have g2:=g1.by hg2 (fun i hi=>by cases hi; exact .inr (rL))
  refine b4s (sz:=1) (by kernel_rfl) (fun w=>by kernel_rfl) n (by omega) (by omega) ?_
  rw [Nat.zero_add,Nat.mul_one]
  refine b9v (e:=5) (by kernel_rfl) (by kernel_rfl) hB2 t (by omega) (by simp; omega) (fun w3 hB3 hg3=>?_)
  have g3:=g2.by hg3 (fun i hi=>by cases hi; exact .inr (rL))
  have e1:(List.replicate (max s.length (n + t.length)) (0:UInt8)).take 0 ++ s ++ (List.replicate (max s.length (n + t.length)) 0).drop (0 + s.length) = s ++ List.replicate (n + t.length - s.length) 0:=by
   rw [List.take_zero,List.nil_append,List.drop_replicate]
   congr 2
   omega
  have e2:=a5x s n t
  rw [if_neg ht] at e2
  have e3:(s ++ List.replicate (n + t.length - s.length) 0).take n ++ t ++ (s ++ List.replicate (n + t.length - s.length) 0).drop (n + t.length) = b0f s n t:=by
   unfold b0f
   rw [if_neg ht]
  rw [e1,e3] at hB3
  refine f0w (e:=5) (by kernel_rfl) (by kernel_rfl) (by kernel_rfl) hB3 e2.symm ?_
  have:=k w3 g3
  rw [Int.toNat_natCast] at this
  exact this
theorem d9v (s t:Bs) (a:Int) (h0:0 ≤ a) (ha:a + t.length ≤ 16777216) (hs:s.length ≤ 16777216) (k:∀ w',Fr (fun _=>False) w w' → K (bsV (b0f s a.toNat t)) w'):a0a Tryz.prog 126 #[.string ⟨s.toArray⟩,.int .i64 a,.string ⟨t.toArray⟩] K w:=g5j s t a h0 ha hs k
theorem b1f (p:Int × Int):(b5j p).length = 2:=rfl
theorem e9f (p:Int × Int):∀ u ∈ b5j p,u.oneCell' = true:=by
 intro u hu
 simp [b5j] at hu
 rcases hu with rfl | rfl <;> rfl
theorem a6j {w w':World} (h:w'.heap = w.heap) (a:Addr):w'.cell? a = w.cell? a:=by
 unfold World.cell?; rw [h]
theorem IsDk.heap {w':World} (d:IsDk w b A h) (e:w'.heap = w.heap):IsDk w' b A h:=d.keep (fun i _=>by rw [e])
theorem IsDk.fresh {w':World} (d:IsDk w b A h) (f:Fr (fun _=>False) w w'):IsDk w' b A h:=d.keep (fun i hi=>f.block i (d.lt hi) (fun h=>h))
theorem Step.fresh {w':World} (f:Fr (fun _=>False) w w'):Step w b h w' h:=⟨f.mono (fun _ _ h=>h.elim),fun _ h=>.inl h,fun _ h=>.inl h⟩
def a8b (n m:Nat):List Int:=(List.range' n (m + 1 - n)).map Int.ofNat
theorem c7c {n m:Nat} (h:n ≤ m):a8b n m = (n:Int) :: a8b (n + 1) m:=by
 unfold a8b
 have e:m + 1 - n = (m + 1 - (n + 1)) + 1:=by omega
 rw [e,List.range'_succ]
 rfl
theorem c7d {n m:Nat} (h:m < n):a8b n m = []:=by
 unfold a8b
 have e:m + 1 - n = 0:=by omega
 rw [e]
 rfl
theorem f9i (hw:WF A) {f n:Int} (hf:0 ≤ f ∧ f < 16) (hn:0 ≤ n ∧ n < 262144) (hq:(f,n) ∉ A.queue):WF { A with queue:=A.queue ++ [(f,n)] }:=by
 refine ⟨hw.l0,hw.l1,hw.a0,hw.a1,?_,?_,hw.sz,hw.kr,hw.kl⟩
 ·show (A.queue ++ [(f,n)]).Nodup
  rw [List.nodup_append]
  refine ⟨hw.nd,by simp,?_⟩
  intro a ha c hc
  simp only [List.mem_singleton] at hc
  subst hc
  rintro rfl
  exact hq ha
 ·intro p hp
  rcases List.mem_append.1 hp with hp | hp
  ·exact hw.qr p hp
  ·simp only [List.mem_singleton] at hp
   subst hp
   exact ⟨hf.1,hf.2,hn.1,hn.2⟩
theorem IsDk.lookS (d:IsDk w b A h) (p:Int × Int):(Instr.lookup 132 (.map (some h.sm)) (.agg #[.int .i64 p.1,.int .i64 p.2]) false).run Tryz.prog w = .ok (.bool (decide (p ∈ A.queue))) w:=by
 obtain ⟨l,hl,h2⟩:=d.set
 have:=b9x (P:=Tryz.prog) (t:=132) (et:=4) (z:=.bool false) g8m (by kernel_rfl) (fun w=>by kernel_rfl) hl p
 rw [h2] at this
 unfold b8h at this
 rw [this]
 by_cases hp:p ∈ A.queue <;> simp [hp]
theorem IsDk.setFile (d:IsDk w b A h) (f:Int) (x:Bs × Bs) (hx:x.1.length ≤ 16777216 ∧ x.2.length ≤ 16777216):∃ w',(Instr.mapUpdate 131 (.map (some h.fm)) (.int .i64 f) (.agg #[.string ⟨x.1.toArray⟩,.string ⟨x.2.toArray⟩])).run Tryz.prog w = .ok () w' ∧ IsDk w' b { A with F:=b1c A.F f x } h ∧ Step w b h w' h:=by
 obtain ⟨l,m,hl⟩:=d.files
 obtain ⟨w',hr,m',g,z⟩:=d3a (P:=Tryz.prog) (t:=131) (et:=178) g8l (by kernel_rfl) m f (flV x)
 have hne:∀ i,i < w.heap.size → i ≠ h.fm → w'.heap[i]? = w.heap[i]?:=fun i hi hn=>g.block i hi (fun e=>hn (by cases e; rfl))
 refine ⟨w',hr,⟨?_,⟨_,m',?_⟩,?_,?_,?_,d.ne,?_⟩,⟨(Fr.refl _ _).by g (fun i hi=>by cases hi; exact .inl (.inr (.inl rfl))),fun _ h=>.inl h,fun _ h=>.inl h⟩⟩
 ·rw [hne b (d.lt (.inl (.inl rfl))) d.bfm]; exact d.blk
 ·intro g
  rw [c4r]
  show _ = flV (b1c A.F f x g)
  by_cases hg:g = f
  ·subst hg
   rw [if_pos rfl,a3d]; rfl
  ·rw [if_neg hg,b3r _ _ _ _ hg]; exact hl g
 ·obtain ⟨ls,ms,hs⟩:=d.set
  exact ⟨ls,ms.of_block (hne _ ms.lt (Ne.symm d.ne)),hs⟩
 ·exact a1j d.que (fun i hi=>hne i (d.lt (.inl (.inr (.inr (.inr hi))))) (d.qne hi).2.1)
 ·exact a1j d.kep (fun i hi=>hne i (d.lt (.inr hi)) (d.kne hi).2.1)
 ·refine ⟨d.wf.l0,d.wf.l1,d.wf.a0,d.wf.a1,d.wf.nd,d.wf.qr,?_,d.wf.kr,d.wf.kl⟩
  intro g
  show (b1c A.F f x g).1.length ≤ _ ∧ (b1c A.F f x g).2.length ≤ _
  by_cases hg:g = f
  ·subst hg; rw [a3d]; exact hx
  ·rw [b3r _ _ _ _ hg]; exact d.wf.sz g
theorem d9w {w9 w10 w13:World} {p:Int × Int} {v':Value} {ls:List ((Int × Int) × Value)} (d9:IsDk w9 b A h) (hg10:w9.grownBy w10 h.q.ownBlock) (ho:w10.ownsRow 0 176 2 v' (A.queue.length + 1) (a3a b5j A.queue ++ b5j p)) (hv:∀ i,v'.ownBlock = some i → h.q.ownBlock = some i ∨ w9.heap.size ≤ i)
  (m13:MapIs b8h w13 h.sm (c6m ls p (.bool true))) (hls:∀ p,a4a ls p = if p ∈ A.queue then some (.bool true) else none) (g13:(w10.setCell ⟨b,1,none⟩ v').grownBy w13 (some h.sm)) (hwf:WF { A with queue:=A.queue ++ [p] }) :
  IsDk w13 b { A with queue:=A.queue ++ [p] } { h with q:=v' } ∧ Step w9 b h w13 { h with q:=v' }:=by
 have hs10:=hg10.size
 have hb9:=d9.lt (.inl (.inl rfl))
 have hf9:h.fm < w9.heap.size:=d9.lt (.inl (.inr (.inl rfl)))
 have hsm9:h.sm < w9.heap.size:=d9.lt (.inl (.inr (.inr (.inl rfl))))
 have k10:∀ i,i < w9.heap.size → h.q.ownBlock ≠ some i → w10.heap[i]? = w9.heap[i]?:=fun i hi hn=>hg10.block i hi (fun e=>hn e.symm)
 have hsz11:(w10.setCell ⟨b,1,none⟩ v').heap.size = w10.heap.size:=by simp [World.setCell]
 have k13:∀ i,i < w10.heap.size → i ≠ h.sm → i ≠ b → w13.heap[i]? = w10.heap[i]?:=fun i hi hn hb=>by
  rw [g13.block i (by rw [hsz11]; exact hi) (fun e=>hn (by cases e; rfl)),a0q _ _ _ _ hb]
 have hqb:h.q.ownBlock ≠ some b:=fun e=>(d9.qne e).1 rfl
 have hqf:h.q.ownBlock ≠ some h.fm:=fun e=>(d9.qne e).2.1 rfl
 have hqs:h.q.ownBlock ≠ some h.sm:=fun e=>(d9.qne e).2.2 rfl
 have hvne:∀ i,v'.ownBlock = some i → i ≠ b ∧ i ≠ h.sm:=fun i hi=>by
  rcases hv i hi with e | e
  ·exact ⟨(d9.qne e).1,(d9.qne e).2.2⟩
  ·omega
 refine ⟨⟨?_,?_,?_,?_,?_,d9.ne,hwf⟩,⟨?_,?_,fun i hi=>.inl hi⟩⟩
 ·have hb10:=k10 b hb9 hqb
  rw [d9.blk] at hb10
  rw [g13.block b (by rw [hsz11]; omega) (fun e=>d9.bsm (by cases e; rfl)),a3r hb10]
  rfl
 ·obtain ⟨l,m,hl⟩:=d9.files
  refine ⟨l,m.of_block ?_,hl⟩
  rw [k13 _ (by omega) d9.ne d9.bfm.symm,k10 _ hf9 hqf]
 ·refine ⟨_,m13,fun r=>?_⟩
  rw [c4r,hls]
  by_cases hr:r = p
  ·subst hr; simp
  ·simp [hr]
 ·show w13.ownsRow 0 _ 2 v' (A.queue ++ [p]).length (a3a b5j (A.queue ++ [p]))
  rw [flat_snoc,List.length_append]
  exact a1j ho (fun i hi=>k13 i (a0x ho hi).1 (hvne i hi).2 (hvne i hi).1)
 ·refine a1j d9.kep (fun i hi=>?_)
  have hi':=d9.lt (.inr hi)
  have:=d9.kne hi
  rw [k13 i (by omega) this.2.2.1 this.1,k10 i hi' this.2.2.2]
 ·refine (((Fr.refl _ _).by hg10 (fun i hi=>.inl (.inr (.inr (.inr hi))))).set ⟨b,1,none⟩ v' (.inl (.inl rfl))).by g13 (fun i hi=>?_)
  cases hi
  exact .inl (.inr (.inr (.inl rfl)))
 ·rintro i (rfl | rfl | rfl | hi)
  ·exact .inl (.inl rfl)
  ·exact .inl (.inr (.inl rfl))
  ·exact .inl (.inr (.inr (.inl rfl)))
  ·exact (hv i hi).imp (fun e=>.inr (.inr (.inr e))) id
set_option maxHeartbeats 1000000 in
theorem e9g (d:IsDk w b A h) (f at_:Int) (s:Bs) (hs:s.length < 2 ^ 60) (hat:-2 ^ 63 ≤ at_ ∧ at_ < 2 ^ 63) (k:∀ w' h',IsDk w' b (wrA A f at_ s).2 h' → Step w b h w' h' → K (.int .i64 (wrA A f at_ s).1) w'):a0a Tryz.prog 246 #[dkP b,.int .i64 f,.int .i64 at_,bsV s] K w:=by
 apply d6d
 unfold f4g
 refine c9r d f ?_
 have k':∀ r A',wrA A f at_ s = (r,A') → ∀ w' h',IsDk w' b A' h' → Step w b h w' h' → K (.int .i64 r) w':=by
  intro r A' e w' h' h1 h2
  have:=k w' h' (by rw [e]; exact h1) h2
  rw [e] at this
  exact this
 clear k
 unfold wrA at k'
 have c0:=d.c 0
 simp only [a1l] at c0
 have hl:=d.look f
 unfold dkP bsV
 repeat (any_goals (first
 | (with_reducible first|refine a0v ?_|((refine a9c ?_); ((refine a6c ?_); first|refine zI ?_|refine zJ ?_|refine zK (fun hg=>?_) fun hg=>?_))|((refine a2x ?_); first|refine yD ?_|refine yE ?_)|((refine a1n ?_); first|refine yL ?_|refine yP (fun hg=>?_) fun hg=>?_|refine yS (fun hg=>?_) fun hg=>?_))
 | ((with_reducible refine oG fun X Y=>?_); simp [go_sem,c0,hl,flV,bsV]; (try simp (disch:=omega) only [a0u,a2y,a1r]); apply Y; clear Y X)))
 ·rename_i hm
  exact k' 1 A (by rw [if_neg (by omega),if_pos hg]) w h d (Step.refl _ _ _)
 ·rename_i hm h1
  exact k' 6 A (by rw [if_neg (by omega),if_neg h1,if_pos (by omega)]) w h d (Step.refl _ _ _)
 ·rename_i hm h1 h2
  exact k' 6 A (by rw [if_neg (by omega),if_neg h1,if_pos (by omega)]) w h d (Step.refl _ _ _)
 ·rename_i hm h1 h2 h3
  exact k' 0 A (by rw [if_neg (by omega),if_neg h1,if_neg (by omega),hg]; rfl) w h d (Step.refl _ _ _)
 ·rename_i hm h1 h2 h3
  have hmay:=c6u hm
  have hsne:¬ s = []:=hg
  have k0:=k' 0 (b8v A f at_.toNat s) (by rw [if_neg (by omega),if_neg h1,if_neg (by omega)])
  clear k'
  obtain ⟨a,rfl⟩:=Int.eq_ofNat_of_zero_le (by omega:0 ≤ at_)
  rw [Int.toNat_natCast] at k0
  have hlen:0 < s.length:=List.length_pos_iff.2 hg
  have hn:=heap_alloc_new w (.cells #[bsV (A.F f).1,bsV (A.F f).2] 178 (0,0))
  have f0:Fr (fun _=>False) w (w.alloc (.cells #[bsV (A.F f).1,bsV (A.F f).2] 178 (0,0))):=(Fr.refl _ _).alloc _
  have z0:=a0z w (.cells #[bsV (A.F f).1,bsV (A.F f).2] 178 (0,0))
  simp only [bsV] at hn f0 z0
  generalize w.alloc (.cells #[.string ⟨(A.F f).1.toArray⟩,.string ⟨(A.F f).2.toArray⟩] 178 (0,0)) = w0 at *
  have e0:=a0b hn 0
  simp at e0
  repeat (any_goals (with_reducible refine d9v (A.F f).1 s (a:Int) (by omega) (by omega) (d.wf.sz f).1 ?_))
  intro w1 g1
  have f1:=f0.trans g1 (fun _ h=>h.elim)
  have z1:=g1.size
  have hn1:=(g1.block w.heap.size (by omega) (fun h=>h)).trans hn
  have y0:=a1d hn1 0
  have e1:=a0b hn1 0
  simp at e1
  have hn2:=a3r (i:=0) hn1 (bsV (b0f (A.F f).1 a s))
  unfold bsV at hn2
  repeat (any_goals ((with_reducible refine oG fun X Y=>?_); simp [go_sem,y0,e1,bsV]; apply Y; clear Y X))
  have f2:=f1.set ⟨w.heap.size,0,none⟩ (.string ⟨(b0f (A.F f).1 a s).toArray⟩) (.inr (rL))
  generalize w1.setCell ⟨w.heap.size,0,none⟩ (.string ⟨(b0f (A.F f).1 a s).toArray⟩) = w2 at *
  have d2:=d.fresh f2
  have c20:=d2.c 0
  simp only [a1l] at c20
  have e20:=a0b hn2 0
  have e21:=a0b hn2 1
  simp at e20 e21
  refine ⟨fun s w'=>s ≤ 0 → w'.heap = w2.heap,fun _=>rfl,?_⟩
  repeat (first | (with_reducible refine pX ?_) | (with_reducible refine a4g ?_) | (with_reducible refine a3b rfl ?_) | (with_reducible refine a2i rfl ?_) | (refine a3h ⟨_,rfl⟩ (fun W0 hW0=>by (obtain ⟨s0,hs0,hC⟩:=hW0); (refine oG (fun X Y=>?_)); simp [go_sem,a6j (hC (by omega)),c20,e20,e21]; (first | exact Y _ _ ⟨rfl,rfl⟩ | exact ⟨by omega,Y _ _ ⟨rfl,rfl⟩⟩)) ?_))
  generalize hw3:({ w2 with drawn:=w2.drawn + 1 }:World) = w3
  have d3:IsDk w3 b A h:=d2.heap (by rw [← hw3])
  have f3:Fr (fun _=>False) w w3:=by rw [← hw3]; exact f2.drew
  have hpl:=a5x (A.F f).1 a s
  rw [if_neg hg] at hpl
  obtain ⟨w4,hr4,d4,t4⟩:=d3.setFile f (b0f (A.F f).1 a s,(A.F f).2) ⟨by show List.length (b0f _ _ _) ≤ _; rw [hpl]; have:=(d.wf.sz f).1; omega,(d.wf.sz f).2⟩
  simp only at hr4
  have t04:Step w b h w4 h:=(Step.fresh f3).trans t4
  repeat (any_goals (first
  | (with_reducible refine And.intro (fun hs=>absurd hs (by decide)) ?_)
  | ((with_reducible refine oG fun X Y=>?_); simp [go_sem,hr4]; (try simp (disch:=omega) only [a0u,a2y,a1r]); apply Y; clear Y X)))
  obtain ⟨m,hm'⟩:∃ m,m = (a + s.length - 1) / 64:=⟨_,rfl⟩
  have hd1:((a:Int) + (s.length:Int) - 1).tdiv 64 = (m:Int):=by
   rw [g9l _ _ (by omega)]; omega
  have hd2:((a:Int) + (s.length:Int) - 1) / 64 = (m:Int):=by omega
  have hmb:m < 262144:=by omega
  have hbs:w.heap.size ≤ w4.heap.size:=t04.fr.size
  refine ⟨fun l w'=>∃ (n:Nat) (q:List (Int × Int)) (h1:Dk),l = [.int .i64 (n:Int)] ∧ n ≤ m + 1 ∧ IsDk w' b { A with F:=b1c A.F f (b0f (A.F f).1 a s,(A.F f).2),queue:=q } h1 ∧ Step w b h w' h1 ∧ b5b f q (a8b n m) = b5b f A.queue (g2d a s.length),fun l _=>match l with | [.int _ n]=>((m:Int) + 1 - n).toNat | _=>0,⟨a / 64,A.queue,h,by simp,by omega,d4,t04,by rw [hm']; rfl⟩,?_⟩
  rintro l u w5 ⟨n,q,h5,rfl,hnm,d5,t5,hp⟩
  simp only [List.getD_cons_zero]
  repeat (any_goals (first
  | (with_reducible ((refine a1n ?_); refine yP (fun hg=>?_) fun hg=>?_))
  | ((with_reducible refine oG fun X Y=>?_); simp [go_sem,hd1,hd2]; (try simp (disch:=omega) only [a0u,a2y,a1r]); apply Y; clear Y X)))
  ·rw [c7c hg] at hp
   have hp:b5b f (if (f,(n:Int)) ∈ q then q else q ++ [(f,(n:Int))]) (a8b (n + 1) m) = _:=hp
   refine ⟨fun _ w'=>∃ (q':List (Int × Int)) (h':Dk),IsDk w' b { A with F:=b1c A.F f (b0f (A.F f).1 a s,(A.F f).2),queue:=q' } h' ∧ Step w b h w' h' ∧ b5b f q' (a8b (n + 1) m) = b5b f A.queue (g2d a s.length),?_,?_⟩
   ·refine Xc0 ?_
    have p0:=heap_alloc_new w5 (.cells #[.int .i64 f,.int .i64 (n:Int)] 176 (0,0))
    have pf:Fr (fun _=>False) w5 (w5.alloc (.cells #[.int .i64 f,.int .i64 (n:Int)] 176 (0,0))):=(Fr.refl _ _).alloc _
    have pz:=a0z w5 (.cells #[.int .i64 f,.int .i64 (n:Int)] 176 (0,0))
    generalize w5.alloc (.cells #[.int .i64 f,.int .i64 (n:Int)] 176 (0,0)) = w6 at *
    have d6:=d5.fresh pf
    have c62:=d6.c 2
    simp only [a1l] at c62
    have p00:=a0b p0 0
    have p01:=a0b p0 1
    simp at p00 p01
    have lk:∀ W:World,W.heap = w6.heap → _:=fun W hW=>(d6.heap hW).lookS (f,(n:Int))
    simp only at lk
    refine ⟨fun s w'=>s ≤ 0 → w'.heap = w6.heap,fun _=>rfl,?_⟩
    repeat (first | (with_reducible refine pX ?_) | (with_reducible refine a4g ?_) | (with_reducible refine a3b rfl ?_) | (with_reducible refine a2i rfl ?_) | (refine a3h ⟨_,rfl⟩ (fun W0 hW0=>by (obtain ⟨s0,hs0,hC⟩:=hW0); (refine oG (fun X Y=>?_)); simp [go_sem,a6j (hC (by omega)),c62,p00,p01,lk W0 (hC (by omega))]; (first | exact Y _ _ ⟨rfl,rfl⟩ | exact ⟨by omega,Y _ _ ⟨rfl,rfl⟩⟩)) ?_))
    generalize hw7:({ w6 with drawn:=w6.drawn + 1 }:World) = w7
    have d7:IsDk w7 b _ h5:=d6.heap (by rw [← hw7])
    have t7:Step w b h w7 h5:=t5.trans (Step.fresh (by rw [← hw7]; exact pf.drew))
    have p7:w7.heap[w5.heap.size]? = some (.cells #[.int .i64 f,.int .i64 (n:Int)] 176 (0,0)):=by rw [← hw7]; exact p0
    have z7:w7.heap.size = w5.heap.size + 1:=by rw [← hw7]; exact pz
    clear hw7
    have b5:b < w5.heap.size:=d5.lt (.inl (.inl rfl))
    repeat (any_goals (with_reducible ((refine a1n ?_); refine yS (fun hg=>?_) fun hg=>?_)))
    ·rename_i hin
     rw [if_pos (by assumption)] at hp
     exact ⟨q,h5,d7,t7,hp⟩
    ·rename_i hin
     refine ⟨fun sg w'=>sg ≤ 5 → w'.heap[w5.heap.size]? = some (.cells #[.int .i64 f,.int .i64 (n:Int)] 176 (0,0)) ∧ (sg ≤ 2 → w'.heap[b]? = some (.cells (a1l { A with F:=b1c A.F f (b0f (A.F f).1 a s,(A.F f).2),queue:=q } h5) 135 (0,0))),fun _=>⟨p7,fun _=>d7.blk⟩,?_⟩
     iterate 5 (first | (with_reducible refine pX ?_) | (with_reducible refine a4g ?_) | (with_reducible refine a3b rfl ?_) | (with_reducible refine a2i rfl ?_) | (refine a3h ⟨_,rfl⟩ (fun W0 hW0=>by (obtain ⟨s0,hs0,hC⟩:=hW0); (have hsk:s0 ≤ 2:=by omega); (refine oG (fun X Y=>?_)); simp [go_sem,a0b (hC (Nat.le_trans hsk (by decide))).1,a0b ((hC (Nat.le_trans hsk (by decide))).2 hsk),a1l]; (first | exact Y _ _ ⟨rfl,rfl⟩ | exact ⟨by omega,Y _ _ ⟨rfl,rfl⟩⟩)) ?_))
     iterate 1 (first | (with_reducible refine pX ?_) | (with_reducible refine a4g ?_) | (with_reducible refine a3b rfl ?_) | (with_reducible refine a2i rfl ?_) | (refine a3h ⟨_,rfl⟩ (fun W0 hW0=>by (obtain ⟨s0,hs0,hC⟩:=hW0); (have hsk:s0 ≤ 5:=by omega); (refine oG (fun X Y=>?_)); simp [go_sem,a0b (hC hsk).1]; (first | exact Y _ _ ⟨rfl,rfl⟩ | exact ⟨by omega,Y _ _ ⟨rfl,rfl⟩⟩)) ?_))
     repeat (first | (with_reducible refine pX ?_) | (with_reducible refine a4g ?_) | (with_reducible refine a3b rfl ?_) | (with_reducible refine a2i rfl ?_) | (refine a3h ⟨_,rfl⟩ (fun W0 hW0=>by (obtain ⟨s0,hs0,hC⟩:=hW0); (have hsk:s0 ≤ 2:=by omega); (refine oG (fun X Y=>?_)); simp [go_sem,a0b (hC (Nat.le_trans hsk (by decide))).1,a0b ((hC (Nat.le_trans hsk (by decide))).2 hsk),a1l]; (first | exact Y _ _ ⟨rfl,rfl⟩ | exact ⟨by omega,Y _ _ ⟨rfl,rfl⟩⟩)) ?_))
     generalize hw8:({ w7 with drawn:=w7.drawn + 1 }:World) = w8
     have d8:IsDk w8 b _ h5:=d7.heap (by rw [← hw8])
     have t8:Step w b h w8 h5:=t7.trans (Step.fresh (by rw [← hw8]; exact (Fr.refl _ _).drew))
     have p8:w8.heap[w5.heap.size]? = some (.cells #[.int .i64 f,.int .i64 (n:Int)] 176 (0,0)):=by rw [← hw8]; exact p7
     clear hw8
     refine Xc0 ?_
     have hnq:(f,(n:Int)) ∉ q:=by assumption
     rw [if_neg hnq] at hp
     have hql:q.length ≤ 4194304:=d8.wf.ql
     have b8:b < w8.heap.size:=d8.lt (.inl (.inl rfl))
     have p8l:=(Array.getElem?_eq_some_iff.1 p8).1
     have g9:Fr (fun _=>False) w8 (w8.alloc (.cells #[.int .i64 f,.int .i64 (n:Int)] 176 (0,0))):=(Fr.refl _ _).alloc _
     have n9:=heap_alloc_new w8 (.cells #[.int .i64 f,.int .i64 (n:Int)] 176 (0,0))
     have z9:=a0z w8 (.cells #[.int .i64 f,.int .i64 (n:Int)] 176 (0,0))
     generalize w8.alloc (.cells #[.int .i64 f,.int .i64 (n:Int)] 176 (0,0)) = w9 at *
     have d9:=d8.fresh g9
     have p9:=(g9.block _ p8l (fun h=>h)).trans p8
     refine ⟨fun _=>⟨p9,fun _=>d9.blk⟩,?_⟩
     refine a8y 133 133 176 ((Tryz.prog.info? 176).getD default) (.agg #[.int .i64 0,.int .i64 0]) 2 16 (by kernel_rfl) (by kernel_rfl) (by kernel_rfl) (by kernel_rfl) (by kernel_rfl) (by kernel_rfl) (by omega) d9.que (b5j (f,(n:Int))) rfl ?_ ?_ (e9f _) (by simp only [maxLen]; show q.length + 1 ≤ _; omega) (by show (q.length + 1) * 16 ≤ _; omega) ?_
     ·intro h; cases h
     ·rintro ad hu j x hj
      cases hu
      rw [a4n,Nat.zero_add,a0b n9]
      match j,hj with
      | 0,hj=>exact hj
      | 1,hj=>exact hj
     intro v' w10 ho hg10 hv
     have hqb:h5.q.ownBlock ≠ some b:=fun e=>(d9.qne e).1 rfl
     have p10:=(hg10.block w5.heap.size (by omega) (fun e=>by
      have hq5:=(a0x d5.que e.symm).1
      omega)).trans p9
     have b10:=(hg10.block b (by omega) (fun e=>hqb e.symm)).trans d9.blk
     have c101:=a0b b10 1
     have y101:=a1d b10 1
     simp [a1l] at c101
     obtain ⟨va,vc,rfl⟩:=a2a ho
     have n11:b ≠ w5.heap.size:=by omega
     have p11:(w10.setCell ⟨b,1,none⟩ (.slice va (q.length + 1) vc)).heap[w5.heap.size]? = _:=(a0q w10 ⟨b,1,none⟩ _ _ (Ne.symm n11)).trans p10
     refine ⟨fun _=>⟨p10,fun _=>b10⟩,?_⟩
     obtain ⟨ls,ms,hls⟩:=d9.set
     have hsm9:h5.sm < w9.heap.size:=d9.lt (.inl (.inr (.inr (.inl rfl))))
     have m10:MapIs b8h w10 h5.sm ls:=ms.of_block (hg10.block _ hsm9 (fun e=>(d9.qne e.symm).2.2 rfl))
     have m11:MapIs b8h (w10.setCell ⟨b,1,none⟩ (.slice va (q.length + 1) vc)) h5.sm ls:=m10.of_block (a0q _ _ _ _ d9.bsm.symm)
     obtain ⟨w12,st,hr12,g12,z12,hst⟩:=c4v (P:=Tryz.prog) (t:=132) (et:=4) (z:=.bool false) g8m (by kernel_rfl) (fun w=>by kernel_rfl) m11 (f,(n:Int)) (by rw [hls]; exact if_neg hnq)
     obtain ⟨w13,hr13,m13,g13,z13⟩:=hst (.bool true)
     simp only [b8h] at hr12
     repeat (any_goals (first
     | (with_reducible refine And.intro (fun _=>And.intro p10 (fun hs=>absurd hs (by decide))) ?_) | (with_reducible refine And.intro (fun _=>And.intro p11 (fun hs=>absurd hs (by decide))) ?_) | (with_reducible refine And.intro (fun hs=>absurd hs (by decide)) ?_)
     | ((with_reducible refine oG fun X Y=>?_); simp [go_sem,c101,y101,hr12,hr13]; apply Y; clear Y X)))
     obtain ⟨d13,t13⟩:=d9w d9 hg10 ho hv m13 hls (a0l g12 g13) (f9i d9.wf hmay.2 (by omega) hnq)
     exact ⟨q ++ [(f,(n:Int))],_,d13,t8.trans ((Step.fresh g9).trans t13),hp⟩
   ·rintro l u w6 ⟨q',h6,d6,t6,hp6⟩
    repeat (any_goals ((with_reducible refine oG fun X Y=>?_); simp [go_sem]; (try simp (disch:=omega) only [a0u,a2y,a1r]); apply Y; clear Y X))
    refine ⟨⟨n + 1,q',h6,by simp,by omega,d6,t6,hp6⟩,?_⟩
    show ((m:Int) + 1 - ((n:Int) + 1)).toNat < ((m:Int) + 1 - (n:Int)).toNat
    omega
  ·rw [c7d (by omega)] at hp
   have hp:q = _:=hp
   refine k0 w5 h5 ?_ t5
   have e:b8v A f a s = { A with F:=b1c A.F f (b0f (A.F f).1 a s,(A.F f).2),queue:=q }:=by
    unfold b8v
    rw [if_neg hsne,hp]
   rw [e]
   exact d5
 ·exact k' (b8u A f) A (by rw [if_pos hg]) w h d (Step.refl _ _ _)
end
attribute [local go_sem] a2b
section
variable {w:World} {b:Nat} {A:Ab} {h:Dk} {K:VK}
theorem c9u:a8v Tryz.prog 219 = true:=by kernel_rfl
theorem e9h:a8v Tryz.prog 221 = true:=by kernel_rfl
theorem c9v {x:Nat} {f:Int} (p:Int × Int) (hx:w.heap[x]? = some (.cells #[.int .i64 f] 3 (0,0))) (k:∀ w',Fr (fun _=>False) w w' → K (.bool (decide (p.1 = f))) w'):a0a Tryz.prog 219 #[.agg #[.int .i64 p.1,.int .i64 p.2],.pointer (some ⟨x,0,none⟩)] K w:=by
 apply d6a
 unfold f4d
 have hlt:=(Array.getElem?_eq_some_iff.1 hx).1
 have f0:Fr (fun _=>False) w (w.alloc (.cells #[.int .i64 p.1,.int .i64 p.2] 176 (0,0))):=(Fr.refl _ _).alloc _
 have hx2:=(f0.block x hlt (fun h=>h)).trans hx
 have e:=a0b hx2 0
 simp at e
 refine Xg @e ?_
 exact k _ f0
theorem e9i {x:Nat} {f:Int} (p:Int × Int) (v:Value) (hx:w.heap[x]? = some (.cells #[.int .i64 f] 3 (0,0))) (k:∀ w',Fr (fun _=>False) w w' → K (.bool (decide (p.1 = f))) w'):a0a Tryz.prog 221 #[.agg #[.int .i64 p.1,.int .i64 p.2],v,.pointer (some ⟨x,0,none⟩)] K w:=by
 apply d6c
 unfold f4f
 have hlt:=(Array.getElem?_eq_some_iff.1 hx).1
 have f0:Fr (fun _=>False) w (w.alloc (.cells #[.int .i64 p.1,.int .i64 p.2] 176 (0,0))):=(Fr.refl _ _).alloc _
 have hx2:=(f0.block x hlt (fun h=>h)).trans hx
 have e:=a0b hx2 0
 simp at e
 refine Xg @e ?_
 exact k _ f0
def idxOf (f:Int):List (Int × Int) → Int
 | []=>-1
 | p :: q=>if p.1 = f then 0 else if idxOf f q = -1 then -1 else idxOf f q + 1
theorem c7e (f:Int) (q:List (Int × Int)):(idxOf f q = -1 ∧ ∀ p ∈ q,p.1 ≠ f) ∨ ∃ q1 p q2,q = q1 ++ p :: q2 ∧ p.1 = f ∧ (∀ r ∈ q1,r.1 ≠ f) ∧ idxOf f q = q1.length:=by
 induction q with
 | nil=>exact .inl ⟨rfl,by simp⟩
 | cons p q ih=>
  by_cases hp:p.1 = f
  ·exact .inr ⟨[],p,q,rfl,hp,by simp,by simp [idxOf,hp]⟩
  ·rcases ih with ⟨h1,h2⟩ | ⟨q1,r,q2,rfl,h2,h3,h4⟩
   ·refine .inl ⟨by simp [idxOf,hp,h1],?_⟩
    intro r hr
    rcases List.mem_cons.1 hr with rfl | hr
    ·exact hp
    ·exact h2 r hr
   ·refine .inr ⟨p :: q1,r,q2,rfl,h2,?_,?_⟩
    ·intro x hx
     rcases List.mem_cons.1 hx with rfl | hx
     ·exact hp
     ·exact h3 x hx
    ·simp only [idxOf,hp,if_false,h4,List.length_cons]
     rw [if_neg (by omega)]
     omega
theorem d1v (f:Int) (q:List (Int × Int)) (j:Nat) (hj:∀ p ∈ q.take j,p.1 ≠ f) (p:Int × Int) (hp:q[j]? = some p) (hf:p.1 = f):idxOf f q = j:=by
 induction q generalizing j with
 | nil=>simp at hp
 | cons r q ih=>
  cases j with
  | zero=>
   simp only [List.getElem?_cons_zero,Option.some.injEq] at hp
   subst hp
   simp [idxOf,hf]
  | succ j=>
   have hr:r.1 ≠ f:=hj r (by simp)
   have:=ih j (fun x hx=>hj x (by simp [hx])) (by simpa using hp)
   simp only [idxOf,hr,if_false,this]
   rw [if_neg (by omega)]
   omega
theorem d1w (f:Int) (q:List (Int × Int)) (h:∀ p ∈ q,p.1 ≠ f):idxOf f q = -1:=by
 induction q with
 | nil=>rfl
 | cons r q ih=>
  have hr:r.1 ≠ f:=h r (List.mem_cons_self ..)
  simp [idxOf,hr,ih (fun p hp=>h p (List.mem_cons_of_mem _ hp))]
theorem c3f {v:Value} {q:List (Int × Int)} (ho:w.ownsRow 0 176 2 v q.length (a3a b5j q)) {j:Nat} {p:Int × Int} (hj:q[j]? = some p):∃ g c,v = .slice (some ⟨g,0,none⟩) q.length c ∧ w.cell? ⟨g,j * 2,none⟩ = some (.int .i64 p.1) ∧ w.cell? ⟨g,j * 2 + 1,none⟩ = some (.int .i64 p.2):=by
 have hlt:=(gS hj).1
 obtain ⟨g,cap,cur,rfl,_,_,_,_,_,hc⟩:=a3u ho (by omega)
 refine ⟨g,cap,rfl,hc _ _ ?_,hc _ _ ?_⟩
 ·have:=b2b b1f q j 0 hj (by omega)
  simpa [b5j] using this
 ·have:=b2b b1f q j 1 hj (by omega)
  simpa [b5j] using this
theorem c9w {g n c k:Nat} (hk:k < n) (w:World):(Instr.indexAt 133 (.slice (some ⟨g,0,none⟩) n c) (.int .i64 k)).run Tryz.prog w = .ok (.pointer (some ⟨g,k * 2,none⟩)) w:=by
 rw [run_indexAt_slice (h:=by kernel_rfl),if_pos (by omega)]
 have hs:(sizeOf (Tryz.prog.elem 133)).run Tryz.prog w = .ok 2 w:=by kernel_rfl
 rw [hs]
 simp only [Result.andThen,Int.toNat_natCast,a4n,Nat.zero_add]
theorem e9j {x:Nat} {f:Int} {v:Value} {q:List (Int × Int)} (hq:q.length < 2 ^ 40) (hx:w.heap[x]? = some (.cells #[.int .i64 f] 3 (0,0))) (ho:w.ownsRow 0 176 2 v q.length (a3a b5j q)) (k:∀ w',Fr (fun _=>False) w w' → K (.int .i64 (idxOf f q)) w'):a0a Tryz.prog 265 #[v,.func (.func 219) #[] #[.pointer (some ⟨x,0,none⟩)]] K w:=by
 apply d6e
 unfold f4h
 obtain ⟨va,vc,rfl⟩:=a2a ho
 refine Xc0 ?_
 refine ⟨fun l w'=>∃ u1 u2,∃ j:Nat,l = [u1,u2,.int .i64 (j:Int)] ∧ j ≤ q.length ∧ (∀ p ∈ q.take j,p.1 ≠ f) ∧ Fr (fun _=>False) w w',fun l _=>match l with | [_,_,.int _ n]=>((q.length:Int) - n).toNat | _=>0,⟨_,_,0,rfl,by omega,by simp,Fr.refl _ _⟩,?_⟩
 rintro l u w1 ⟨u1,u2,j,rfl,hj,hpre,fr⟩
 simp only [List.getD_cons_zero,List.getD_cons_succ]
 repeat (any_goals (first
 | (with_reducible ((refine a1n ?_); refine yP (fun hg=>?_) fun hg=>?_))
 | ((with_reducible refine oG fun X Y=>?_); simp [go_sem]; apply Y; clear Y X)))
 ·have hlt:j < q.length:=by omega
  have hx1:=(fr.block x (Array.getElem?_eq_some_iff.1 hx).1 (fun h=>h)).trans hx
  have ho1:w1.ownsRow 0 176 2 (.slice va q.length vc) q.length (a3a b5j q):=a1j ho (fun i hi=>fr.block i (a0x ho hi).1 (fun h=>h))
  obtain ⟨g,c,hv,e0,e1⟩:=c3f ho1 (gE hlt)
  cases hv
  have hix:=c9w (c:=vc) (g:=g) hlt w1
  repeat (any_goals (first
  | (with_reducible refine a3q c9u ?_)
  | ((with_reducible refine oG fun X Y=>?_); simp [go_sem,hix,e0,e1]; apply Y; clear Y X)))
  refine c9v (f:=f) q[j] hx1 (fun w2 f2=>?_)
  repeat (any_goals (first
  | (with_reducible ((refine a1n ?_); refine yP (fun hg=>?_) fun hg=>?_))
  | ((with_reducible refine oG fun X Y=>?_); simp [go_sem]; (try simp (disch:=omega) only [a0u,a2y,a1r]); apply Y; clear Y X)))
  ·have hg':q[j].1 = f:=by assumption
   rw [d1v f q j hpre _ (gE hlt) hg'] at k
   exact k w2 (fr.trans f2 (fun _ h=>h.elim))
  ·have hg':¬ q[j].1 = f:=by assumption
   refine ⟨⟨_,_,j + 1,rfl,by omega,?_,fr.trans f2 (fun _ h=>h.elim)⟩,?_⟩
   ·intro p hp
    rw [List.take_succ_eq_append_getElem hlt] at hp
    rcases List.mem_append.1 hp with hp | hp
    ·exact hpre p hp
    ·simp only [List.mem_singleton] at hp
     rw [hp]; exact hg'
   ·show ((q.length:Int) - ((j:Int) + 1)).toNat < ((q.length:Int) - (j:Int)).toNat
    omega
 ·rw [d1w f q (by
   rw [List.take_of_length_le (by omega)] at hpre
   exact hpre)] at k
  exact k w1 fr
theorem e9k {t T e:TypeId} {z:Value} {g o n c:Nat} {cur:Array Value} {zs:List Value} (ht:Tryz.prog.underlying t = some (.slice e)) (hv:∀ w,(zeroValue e).run Tryz.prog w = .ok z w) (hn:0 < n) (hzs:(Builtin.zeroCells z.cells n).toList = zs) (h1:∀ v ∈ zs,v.oneCell' = true) (hg:w.heap[g]? = some (.cells cur e (0,0))) (hfit:o + zs.length ≤ cur.size)
  (k:∀ w' cur',w.grownBy w' (some g) → w'.heap[g]? = some (.cells cur' e (0,0)) → cur'.size = cur.size → (∀ i,i < o → cur'[i]? = cur[i]?) → K (.tuple #[]) w'):oM Tryz.prog (.call { callee:=.builtin .clear,args:=#[.tmp 0],argTypes:=#[t] }) T [.slice (some ⟨g,o,none⟩) n c] K w:=by
 have hst:=run_storeCells_at Tryz.prog g o e zs 0 cur w hg (by simpa using hfit) h1
 rw [f1e]
 have hr:(Builtin.clear_ #[t] T #[.slice (some ⟨g,o,none⟩) n c]).run Tryz.prog w = .ok (.tuple #[]) (w.setRow g (cur.toList.take o ++ zs ++ cur.toList.drop (o + zs.length)).toArray):=by
  obtain ⟨m,rfl⟩:∃ m,n = m + 1:=⟨n - 1,by omega⟩
  simp only [Nat.add_zero] at hst
  simp [Builtin.clear_,run_underlying ht,hv,hzs,hst]
 rw [hr]
 refine k _ _ (a3k _ _ _) (setRow_heap w g _ _ e (0,0) hg) ?_ ?_
 ·simp
  omega
 ·intro i hi
  simp only [List.getElem?_toArray,List.append_assoc]
  rw [List.getElem?_append_left (by simp; omega),List.getElem?_take_of_lt hi]
  simp
theorem b6a {t T e:TypeId} {x y:Value} {g o:Nat} {cur:Array Value} (hs:∀ w,(sizeOf t).run Tryz.prog w = .ok 2 w) (hx:x.oneCell' = true) (hy:y.oneCell' = true) (hg:w.heap[g]? = some (.cells cur e (0,0))) (hfit:o + 2 ≤ cur.size)
  (k:∀ w' cur',w.grownBy w' (some g) → w'.heap[g]? = some (.cells cur' e (0,0)) → cur'.size = cur.size → (∀ i,i ≠ o → i ≠ o + 1 → cur'[i]? = cur[i]?) → cur'[o]? = some x → cur'[o + 1]? = some y → K undef w'):oM Tryz.prog (.store t (.tmp 0) (.tmp 1)) T [.pointer (some ⟨g,o,none⟩),.agg #[x,y]] K w:=by
 have hst:=run_storeCells_at Tryz.prog g o e [x,y] 0 cur w hg (by simpa using hfit) (by
  intro v hv
  simp at hv
  rcases hv with rfl | rfl
  ·exact hx
  ·exact hy)
 rw [a9u]
 have hr:(Instr.storeAt t (.pointer (some ⟨g,o,none⟩)) (.agg #[x,y])).run Tryz.prog w = .ok () (w.setRow g (cur.toList.take o ++ [x,y] ++ cur.toList.drop (o + 2)).toArray):=by
  simp only [Nat.add_zero,List.length_cons,List.length_nil,Nat.zero_add] at hst
  have e2:(Value.agg #[x,y]).cells = #[x,y]:=rfl
  simp [Instr.storeAt,storeVar,hs,e2,go_sem]
  simpa [go_sem] using hst
 rw [hr]
 have hl:(cur.toList.take o).length = o:=by simp; omega
 refine k _ _ (a3k _ _ _) (setRow_heap w g _ _ e (0,0) hg) ?_ ?_ ?_ ?_
 ·simp
  omega
 ·intro i h1 h2
  simp only [List.getElem?_toArray,List.append_assoc,List.cons_append,List.nil_append]
  by_cases hi:i < o
  ·rw [List.getElem?_append_left (by rw [hl]; exact hi),List.getElem?_take_of_lt hi]
   simp
  ·rw [List.getElem?_append_right (by rw [hl]; omega),hl]
   obtain ⟨m,rfl⟩:∃ m,i = o + (m + 2):=⟨i - o - 2,by omega⟩
   have e3:o + (m + 2) - o = m + 2:=by omega
   rw [e3]
   simp only [List.getElem?_cons_succ,List.getElem?_drop,Array.getElem?_toList]
   congr 1
   omega
 ·simp only [List.getElem?_toArray,List.append_assoc,List.cons_append,List.nil_append]
  rw [List.getElem?_append_right (by rw [hl]; omega),hl]
  simp
 ·simp only [List.getElem?_toArray,List.append_assoc,List.cons_append,List.nil_append]
  rw [List.getElem?_append_right (by rw [hl]; omega),hl]
  have e3:o + 1 - o = 1:=by omega
  rw [e3]
  simp
theorem e9l (n:Nat):(Builtin.zeroCells (Value.agg #[.int .i64 0,.int .i64 0]).cells n).toList.length = n * 2 ∧ ∀ v ∈ (Builtin.zeroCells (Value.agg #[.int .i64 0,.int .i64 0]).cells n).toList,v.oneCell' = true:=by
 constructor
 ·simp [Builtin.zeroCells,Value.cells]
 ·intro v hv
  simp only [Builtin.zeroCells,Array.toList_map,List.mem_map] at hv
  obtain ⟨i,_,rfl⟩:=hv
  have:i % 2 = 0 ∨ i % 2 = 1:=by omega
  rcases this with e | e <;> simp [Value.cells,e,Value.oneCell']
def a5j (f:Int) (q:List (Int × Int)):List (Int × Int):=q.filter (fun p=>decide (p.1 ≠ f))
theorem b9g (f:Int) (q:List (Int × Int)) (j:Nat) (h:j < q.length):a5j f (q.take (j + 1)) = if q[j].1 = f then a5j f (q.take j) else a5j f (q.take j) ++ [q[j]]:=by
 unfold a5j
 rw [List.take_succ_eq_append_getElem h,List.filter_append]
 by_cases hf:q[j].1 = f
 ·rw [if_pos hf]; simp [hf]
 ·rw [if_neg hf]; simp [hf]
def d9x (w:World) (g cap:Nat) (f:Int) (q:List (Int × Int)) (j:Nat):Prop:=
 ∃ cur:Array Value,w.heap[g]? = some (.cells cur 176 (0,0)) ∧ cur.size = cap * 2 ∧ (∀ (k:Nat) (x:Value),(a3a b5j (a5j f (q.take j)))[k]? = some x → cur[k]? = some x) ∧ (∀ (k:Nat) (x:Value),2 * j ≤ k → (a3a b5j q)[k]? = some x → cur[k]? = some x)
theorem d9y {x:Nat} {f:Int} {v:Value} {q:List (Int × Int)} (hq:q.length < 2 ^ 40) (hx:w.heap[x]? = some (.cells #[.int .i64 f] 3 (0,0))) (ho:w.ownsRow 0 176 2 v q.length (a3a b5j q)) (k:∀ v' w',w'.ownsRow 0 176 2 v' (a5j f q).length (a3a b5j (a5j f q)) → Fr (fun i=>v.ownBlock = some i) w w' → (∀ i,v'.ownBlock = some i → v.ownBlock = some i) → K v' w'):a0a Tryz.prog 218 #[v,.func (.func 219) #[] #[.pointer (some ⟨x,0,none⟩)]] K w:=by
 apply d5z
 unfold f4c
 refine e9j hq hx ho (fun w1 f1=>?_)
 have hx1:=(f1.block x (Array.getElem?_eq_some_iff.1 hx).1 (fun h=>h)).trans hx
 have ho1:w1.ownsRow 0 176 2 v q.length (a3a b5j q):=a1j ho (fun i hi=>f1.block i (a0x ho hi).1 (fun h=>h))
 rcases c7e f q with ⟨hi,hall⟩ | ⟨q1,p,q2,hsp,hpf,hpre,hi⟩
 ·rw [hi]
  have hk:a5j f q = q:=List.filter_eq_self.2 (fun p hp=>by simpa using hall p hp)
  rw [hk] at k
  refine Xc0 ?_
  exact k v w1 ho1 (f1.mono (fun _ _ h=>h.elim)) (fun i h=>h)
 ·rw [hi]
  have hlen:q.length = q1.length + 1 + q2.length:=by rw [hsp]; simp; omega
  obtain ⟨g,cap,cur,rfl,hg,_,hcur,hcs,hnc,hcell⟩:=a3u ho1 (by omega)
  have ht1:q.take q1.length = q1:=by rw [hsp]; simp
  have hk1:a5j f (q.take q1.length) = q1:=by
   rw [ht1]
   exact List.filter_eq_self.2 (fun p hp=>by simpa using hpre p hp)
  have hqg:q[q1.length]? = some p:=by rw [hsp]; simp
  have hk2:a5j f (q.take (q1.length + 1)) = q1:=by
   rw [b9g f q q1.length (by omega),hk1,if_pos]
   rw [gE (by omega)] at hqg
   rw [oI hqg]; exact hpf
  have hcf:∀ (k:Nat) (x:Value),(a3a b5j q)[k]? = some x → cur[k]? = some x:=fun k x h=>by
   have:=hcell k x h
   rw [a0b hcur] at this
   exact this
  have hxg:x ≠ g:=fun e=>by rw [e,hcur] at hx1; cases hx1
  refine Xc0 ?_
  have T1:d9x w1 g cap f q (q1.length + 1):=⟨cur,hcur,hcs,fun k x h=>by
   rw [hk2] at h
   refine hcf k x ?_
   rw [hsp,b7g]
   rw [List.getElem?_append_left (by have:=(gS h).1; exact this)]
   exact h,fun k x _ h=>hcf k x h⟩
  refine ⟨fun l w'=>∃ j:Nat,l = [.int .i64 ((a5j f (q.take j)).length:Int),.int .i64 (j:Int)] ∧ (a5j f (q.take j)).length + 1 ≤ j ∧ j ≤ q.length ∧ d9x w' g cap f q j ∧ Fr (fun i=>i = g) w w',fun l _=>match l with | [_,.int _ n]=>((q.length:Int) - n).toNat | _=>0,⟨q1.length + 1,by rw [hk2]; rfl,by rw [hk2]; omega,by omega,T1,f1.mono (fun _ _ h=>h.elim)⟩,?_⟩
  rintro l u w2 ⟨j,rfl,hij,hjn,T2,f2⟩
  simp only [List.getD_cons_zero,List.getD_cons_succ]
  repeat (any_goals (first
  | (with_reducible ((refine a1n ?_); refine yP (fun hg=>?_) fun hg=>?_))
  | ((with_reducible refine oG fun X Y=>?_); simp [go_sem]; apply Y; clear Y X)))
  ·have hlt:j < q.length:=by omega
   obtain ⟨cur2,hcur2,hcs2,hlo2,hhi2⟩:=T2
   have hx2:=(f2.block x (Array.getElem?_eq_some_iff.1 hx).1 (fun h=>hxg h)).trans hx
   have e0:w2.cell? ⟨g,j * 2,none⟩ = some (.int .i64 q[j].1):=by
    rw [a0b hcur2]
    exact hhi2 _ _ (by omega) (by have:=b2b b1f q j 0 (gE hlt) (by omega); simpa [b5j] using this)
   have e1:w2.cell? ⟨g,j * 2 + 1,none⟩ = some (.int .i64 q[j].2):=by
    rw [a0b hcur2]
    exact hhi2 _ _ (by omega) (by have:=b2b b1f q j 1 (gE hlt) (by omega); simpa [b5j] using this)
   have hix:=c9w (c:=cap) (g:=g) hlt w2
   refine ⟨fun l w'=>l = [.int .i64 ((a5j f (q.take (j + 1))).length:Int)] ∧ (a5j f (q.take (j + 1))).length + 1 ≤ j + 1 ∧ d9x w' g cap f q (j + 1) ∧ Fr (fun i=>i = g) w w',?_,?_⟩
   ·refine Xg (An3 @hix @e0 @e1) ?_
    have pf:Fr (fun _=>False) w2 (w2.alloc (.cells #[.int .i64 q[j].1,.int .i64 q[j].2] 176 (0,0))):=(Fr.refl _ _).alloc _
    have p0:=heap_alloc_new w2 (.cells #[.int .i64 q[j].1,.int .i64 q[j].2] 176 (0,0))
    have pz:=a0z w2 (.cells #[.int .i64 q[j].1,.int .i64 q[j].2] 176 (0,0))
    generalize w2.alloc (.cells #[.int .i64 q[j].1,.int .i64 q[j].2] 176 (0,0)) = w3 at *
    have hx3:=(pf.block x (Array.getElem?_eq_some_iff.1 hx2).1 (fun h=>h)).trans hx2
    refine a3q c9u (c9v (f:=f) q[j] hx3 (fun w4 f4=>?_))
    have hg2:=(Array.getElem?_eq_some_iff.1 hcur2).1
    have f24:=pf.trans f4 (fun _ h=>h.elim)
    have hcur4:=(f24.block g hg2 (fun h=>h)).trans hcur2
    have p4:=(f4.block w2.heap.size (by omega) (fun h=>h)).trans p0
    have p40:=a0b p4 0
    have p41:=a0b p4 1
    simp at p40 p41
    have fr4:Fr (fun i=>i = g) w w4:=f2.trans f24 (fun _ h=>h.elim)
    have hkt:=b9g f q j hlt
    have hix4:=c9w (c:=cap) (g:=g) (n:=q.length) (k:=(a5j f (q.take j)).length) (by omega) w4
    obtain ⟨i,hii⟩:∃ i,i = (a5j f (q.take j)).length:=⟨_,rfl⟩
    rw [← hii] at hix4 hij ⊢
    have z0:=a0b hcur4 (i * 2)
    have z1:=a1d hcur4 (i * 2)
    have z3:=a1d hcur4 (i * 2 + 1)
    have s0:(cur2[i * 2]?).isSome = true:=by simp; omega
    have s1:(cur2[i * 2 + 1]?).isSome = true:=by simp; omega
    have T4:(∀ (k:Nat) (x:Value),2 * (j + 1) ≤ k → (a3a b5j q)[k]? = some x → cur2[k]? = some x):=fun k x h1 h2=>hhi2 k x (by omega) h2
    repeat (any_goals (first
    | (with_reducible ((refine a1n ?_); refine yS (fun hg=>?_) fun hg=>?_))
    | ((with_reducible refine oG fun X Y=>?_); simp [go_sem,p40,p41,hix4]; apply Y; clear Y X)))
    ·have hpf':q[j].1 = f:=by assumption
     rw [if_pos hpf'] at hkt
     refine ⟨by rw [hkt,hii],by rw [hkt]; omega,⟨cur2,hcur4,hcs2,by rw [hkt]; exact hlo2,T4⟩,fr4⟩
    ·have hpf':¬ q[j].1 = f:=by assumption
     rw [if_neg hpf'] at hkt
     refine b6a (fun w=>by kernel_rfl) rfl rfl hcur4 (by omega) (fun w5 cur5 hg5 hcur5 hs5 hne5 ha5 hb5=>?_)
     refine Xc0 ?_
     have hfl:=a9v b1f (a5j f (q.take j))
     refine ⟨by rw [hkt,List.length_append,← hii]; rfl,by rw [hkt,List.length_append,← hii]; simp; omega,⟨cur5,hcur5,by rw [hs5,hcs2],?_,?_⟩,fr4.by hg5 (fun i hi=>by cases hi; exact .inl rfl)⟩
     ·intro k x hk
      rw [hkt,flat_snoc] at hk
      by_cases hki:k < i * 2
      ·rw [List.getElem?_append_left (by rw [hfl,← hii]; exact hki)] at hk
       rw [hne5 k (by omega) (by omega)]
       exact hlo2 k x hk
      ·rw [List.getElem?_append_right (by rw [hfl,← hii]; omega),hfl,← hii] at hk
       have hk2:k - i * 2 < 2:=by have:=(gS hk).1; exact this
       obtain ⟨m,rfl⟩:∃ m,k = i * 2 + m:=⟨k - i * 2,by omega⟩
       have e3:i * 2 + m - i * 2 = m:=by omega
       rw [e3] at hk hk2
       match m,hk2,hk with
       | 0,_,hk=>rw [Nat.add_zero,ha5]; exact hk
       | 1,_,hk=>rw [hb5]; exact hk
     ·intro k x h1 h2
      rw [hne5 k (by omega) (by omega)]
      exact T4 k x h1 h2
   ·rintro l u w3 ⟨rfl,hij3,T3,f3⟩
    simp only [List.getD_cons_zero]
    repeat (any_goals ((with_reducible refine oG fun X Y=>?_); simp [go_sem]; (try simp (disch:=omega) only [a0u,a2y,a1r]); apply Y; clear Y X))
    refine ⟨⟨j + 1,rfl,hij3,by omega,T3,f3⟩,?_⟩
    show ((q.length:Int) - ((j:Int) + 1)).toNat < ((q.length:Int) - (j:Int)).toNat
    omega
  ·have hjq:j = q.length:=by omega
   subst hjq
   obtain ⟨cur2,hcur2,hcs2,hlo2,hhi2⟩:=T2
   have htk:q.take q.length = q:=List.take_of_length_le (rL)
   rw [htk] at hij hlo2 ⊢
   obtain ⟨hz1,hz2⟩:=e9l (q.length - (a5j f q).length)
   refine b4s (sz:=2) (by kernel_rfl) (fun w=>by kernel_rfl) _ (by omega) (by omega) ?_
   rw [Nat.zero_add]
   refine e9k (by kernel_rfl) (z:=.agg #[.int .i64 0,.int .i64 0]) (fun w=>by kernel_rfl) (by omega) rfl hz2 hcur2 (by rw [hz1]; omega) (fun w3 cur3 hg3 hcur3 hs3 hlo3=>?_)
   refine d2z (sz:=2) (by kernel_rfl) (fun w=>by kernel_rfl) _ (by omega) ?_
   have f3:Fr (fun i=>i = g) w w3:=f2.by hg3 (fun i hi=>by cases hi; exact .inl rfl)
   have hfl:=a9v b1f (a5j f q)
   refine k _ w3 ⟨hfl,.inr ⟨g,cap,cur3,rfl,Nat.zero_le _,hcur3,by omega,?_,by rw [hs3,hcs2],?_⟩⟩ (f3.mono (fun i _ hi=>by rw [hi]; rfl)) (fun i hi=>hi)
   ·rcases ho.2 with ⟨h1,_⟩ | ⟨g',cap',cur',h1,_,_,_,hm,_⟩
    ·cases h1
    ·cases h1; exact hm
   ·apply List.ext_getElem?
    intro i
    by_cases hi:i < (a5j f q).length * 2
    ·rw [List.getElem?_take_of_lt hi]
     have hx':(a3a b5j (a5j f q))[i]? = some ((a3a b5j (a5j f q))[i]'(by rw [hfl]; exact hi)):=gE _
     rw [hx',Array.getElem?_toList,hlo3 i hi]
     exact hlo2 i _ hx'
    ·rw [List.getElem?_eq_none (by simp; omega),List.getElem?_eq_none (by rw [hfl]; omega)]
end
end Go.Proofs
namespace Go.Sh
open Go Go.RowKit
theorem a7c {κ:Type} [DecidableEq κ] (d ks:List κ) (hn:d.Nodup) (hs:∀ x ∈ d,x ∈ ks):d.length ≤ ks.length:=by
 induction d generalizing ks with
 | nil=>simp
 | cons a d ih=>
  rw [List.nodup_cons] at hn
  have ha:=hs a (List.mem_cons_self ..)
  have:=ih (ks.erase a) hn.2 (fun x hx=>by
   have hne:x ≠ a:=fun e=>hn.1 (by rw [← e]; exact hx)
   exact (List.mem_erase_of_ne hne).2 (hs x (List.mem_cons_of_mem _ hx)))
  rw [List.length_erase_of_mem ha] at this
  have:=List.length_pos_of_mem ha
  simp only [List.length_cons]
  omega
@[go_sem] theorem g0n {P:Program} {K:VK} {w:World} (T:TypeId) (a:Value):oM P (.extract (.tmp 0) 0) T [.tuple #[a]] K w = K a w:=a3g rfl
section
variable {w:World} {κ:Type} [DecidableEq κ] {mk:κ → Value}
theorem Ranged.seen {it b:Nat} {l:List (κ × Value)} {ks done:List κ} (h:Ranged mk w it b l ks done):(w.iterSeen it).size = done.length:=by
 obtain ⟨es,clock,seen,f,h1,h2,h3,h4,h5,h6,h7,h8,_⟩:=h
 unfold World.iterSeen
 rw [h2]
 have:=congrArg List.length h8
 simpa using this
theorem Ranged.sub {it b:Nat} {l:List (κ × Value)} {ks done:List κ} (h:Ranged mk w it b l ks done):∀ a ∈ done,a ∈ ks:=by
 obtain ⟨es,clock,seen,f,h1,h2,h3,h4,h5,h6,h7,h8,h9,h10⟩:=h
 exact h10
end
end Go.Sh
namespace Go.Proofs
open Go Go.Sh Go.RowKit DkSpec
attribute [local go_sem] a2b
section
variable {w:World} {b:Nat} {A:Ab} {h:Dk} {K:VK}
theorem d9z {P:Program} {f:FuncId} {fs cs:Array Value} {T:TypeId} {ts:Array TypeId} {x y:Value} (hb:a8v P f = true) (h:a0a P f (fs ++ #[x,y] ++ cs) K w):oM P (.call { callee:=.value (.tmp 0),args:=#[.tmp 1,.tmp 2],argTypes:=ts }) T [.func (.func f) fs cs,x,y] K w:=
 b5n _ hb (by simp [xop,execOp,a1e,evE,resolve,Deferred.ofValue,invoke]) h
theorem c3g {x sm:Nat} {f:Int} {ls:List ((Int × Int) × Value)} (hx:w.heap[x]? = some (.cells #[.int .i64 f] 3 (0,0))) (m:MapIs b8h w sm ls) (k:∀ w',MapIs b8h w' sm (ls.filter (fun y=>decide (y.1.1 ≠ f))) → Fr (fun i=>i = sm) w w' → K (.tuple #[]) w'):a0a Tryz.prog 220 #[.map (some sm),.func (.func 221) #[] #[.pointer (some ⟨x,0,none⟩)]] K w:=by
 apply d6b
 unfold f4e
 obtain ⟨o,hr,R⟩:=c4x (P:=Tryz.prog) (t:=132) (kt:=176) (et:=4) (by kernel_rfl) m
 have f0:Fr (fun i=>i = sm) w (w.alloc o):=(Fr.refl _ _).alloc _
 refine Xg @hr ?_
 generalize w.alloc o = w0 at *
 have hsm:sm < w.heap.size:=m.lt
 refine ⟨fun l w'=>∃ u done,l = [u] ∧ done.Nodup ∧ Ranged b8h w' w.heap.size sm (ls.filter (fun y=>decide (¬ (y.1 ∈ done ∧ y.1.1 = f)))) (ls.map (·.1)) done ∧ Fr (fun i=>i = sm) w w',fun _ w'=>(ls.map (·.1)).length + 1 - (w'.iterSeen w.heap.size).size,⟨_,[],rfl,List.nodup_nil,by
  have e:ls.filter (fun y=>decide (¬ (y.1 ∈ ([]:List (Int × Int)) ∧ y.1.1 = f))) = ls:=List.filter_eq_self.2 (fun y _=>by simp)
  rw [e]; exact R,f0⟩,?_⟩
 rintro l u w1 ⟨u1,done,rfl,hnd,R1,f1⟩
 have hlen:=a7c done _ hnd R1.sub
 have hseen:=R1.seen
 rcases d0z (P:=Tryz.prog) (ty:=0) R1 with ⟨hall,hn⟩ | ⟨y,hy,hyd,w2,hn,R2,g2,z2⟩
 ·refine Xg @hn ?_
  refine k w1 ?_ f1
  have:=R1.map
  have e:ls.filter (fun y=>decide (¬ (y.1 ∈ done ∧ y.1.1 = f))) = ls.filter (fun y=>decide (y.1.1 ≠ f)):=by
   apply List.filter_congr
   intro y hy
   by_cases hf:y.1.1 = f
   ·by_cases hd:y.1 ∈ done
    ·simp [hf,hd]
    ·have hy':y ∈ ls.filter (fun y=>decide (¬ (y.1 ∈ done ∧ y.1.1 = f))):=List.mem_filter.2 ⟨hy,by simp [hd]⟩
     exact absurd (hall y hy') hd
   ·simp [hf]
  rw [e] at this
  exact this
 ·have he:=c4y (P:=Tryz.prog) R2 hy
  have f2:Fr (fun i=>i = sm) w w2:=f1.by g2 (fun i hi=>by cases hi; exact .inr (rL))
  simp only [b8h] at hn he
  refine Xg (An2 @hn @he) ?_
  have pf:Fr (fun _=>False) w2 (w2.alloc (.cells #[.int .i64 y.1.1,.int .i64 y.1.2] 176 (0,0))):=(Fr.refl _ _).alloc _
  have p0:=heap_alloc_new w2 (.cells #[.int .i64 y.1.1,.int .i64 y.1.2] 176 (0,0))
  have pz:=a0z w2 (.cells #[.int .i64 y.1.1,.int .i64 y.1.2] 176 (0,0))
  generalize w2.alloc (.cells #[.int .i64 y.1.1,.int .i64 y.1.2] 176 (0,0)) = w3 at *
  have hxl:=(Array.getElem?_eq_some_iff.1 hx).1
  have hxs:x ≠ sm:=fun e=>by
   obtain ⟨es,c,hm⟩:=MapIs.isMap m
   rw [e,hm] at hx; cases hx
  have hx2:=(f2.block x hxl hxs).trans hx
  have hx3:=(pf.block x (Array.getElem?_eq_some_iff.1 hx2).1 (fun h=>h)).trans hx2
  refine d9z e9h (e9i (f:=f) y.1 y.2 hx3 (fun w4 f4=>?_))
  have f24:=pf.trans f4 (fun _ h=>h.elim)
  have R4:=R2.of_blocks (f24.block sm R2.lt.1 (fun h=>h)) (f24.block w.heap.size R2.lt.2.1 (fun h=>h))
  have p4:=(f4.block w2.heap.size (by omega) (fun h=>h)).trans p0
  have p40:=a0b p4 0
  have p41:=a0b p4 1
  simp at p40 p41
  have fr4:Fr (fun i=>i = sm) w w4:=f2.trans f24 (fun _ h=>h.elim)
  have hmem:y.1 ∈ (ls.filter (fun y=>decide (¬ (y.1 ∈ done ∧ y.1.1 = f)))).map (·.1):=List.mem_map_of_mem hy
  have hlen4:=a7c (y.1 :: done) _ (List.nodup_cons.2 ⟨hyd,hnd⟩) R4.sub
  simp only [List.length_cons] at hlen4
  obtain ⟨w5,hd,R5,g5,z5⟩:=c8j (P:=Tryz.prog) (t:=132) (et:=4) (ty:=0) g8m (by kernel_rfl) R4 y.1 hmem
  simp only [b8h] at hd
  repeat (any_goals (first
  | (with_reducible ((refine a1n ?_); refine yP (fun hg=>?_) fun hg=>?_))
  | ((with_reducible refine oG fun X Y=>?_); simp [go_sem,p40,p41,hd]; apply Y; clear Y X)))
  ·have hf:y.1.1 = f:=by assumption
   refine ⟨⟨_,y.1 :: done,rfl,List.nodup_cons.2 ⟨hyd,hnd⟩,?_,fr4.by g5 (fun i hi=>by cases hi; exact .inl rfl)⟩,?_⟩
   ·have e:f1a (ls.filter (fun y=>decide (¬ (y.1 ∈ done ∧ y.1.1 = f)))) y.1 = ls.filter (fun z=>decide (¬ (z.1 ∈ y.1 :: done ∧ z.1.1 = f))):=by
     unfold f1a
     rw [List.filter_filter]
     apply List.filter_congr
     intro z _
     by_cases hz:z.1 = y.1
     ·simp [hz,hf]
     ·simp [hz]
    rw [← e]; exact R5
   ·have:=R5.seen
    simp only [List.length_cons] at this
    show _ - _ < _ - _
    omega
  ·have hf:¬ y.1.1 = f:=by assumption
   refine ⟨⟨_,y.1 :: done,rfl,List.nodup_cons.2 ⟨hyd,hnd⟩,?_,fr4⟩,?_⟩
   ·have e:ls.filter (fun y=>decide (¬ (y.1 ∈ done ∧ y.1.1 = f))) = ls.filter (fun z=>decide (¬ (z.1 ∈ y.1 :: done ∧ z.1.1 = f))):=by
     apply List.filter_congr
     intro z _
     by_cases hz:z.1 = y.1
     ·simp [hz,hf]
     ·simp [hz]
    rw [← e]; exact R4
   ·have:=R4.seen
    simp only [List.length_cons] at this
    show _ - _ < _ - _
    omega
end
end Go.Proofs
namespace Go.Proofs
open Go Go.Sh Go.RowKit DkSpec
attribute [local go_sem] a2b
section
variable {w:World} {b:Nat} {A:Ab} {h:Dk} {K:VK}
theorem c3h (d:IsDk w b A h) (f:Int) (s:Bs) (hs:s.length ≤ 16777216) (k:∀ w' h',IsDk w' b (a3v A f s) h' → Step w b h w' h' → K (.tuple #[]) w'):a0a Tryz.prog 168 #[dkP b,.int .i64 f,bsV s] K w:=by
 apply d5u
 unfold f3x
 refine Xc0 ?_
 have pf:Fr (fun _=>False) w (w.alloc (.cells #[.int .i64 f] 3 (0,0))):=(Fr.refl _ _).alloc _
 have p0:=heap_alloc_new w (.cells #[.int .i64 f] 3 (0,0))
 have pz:=a0z w (.cells #[.int .i64 f] 3 (0,0))
 generalize w.alloc (.cells #[.int .i64 f] 3 (0,0)) = w1 at *
 have d1:=d.fresh pf
 have c0:=d1.c 0
 simp only [a1l] at c0
 have p00:=a0b p0 0
 simp at p00
 refine ⟨fun sg w'=>sg ≤ 1 → w'.heap = w1.heap,fun _=>rfl,?_⟩
 repeat (first | (with_reducible refine pX ?_) | (with_reducible refine a4g ?_) | (with_reducible refine a3b rfl ?_) | (with_reducible refine a2i rfl ?_) | (refine a3h ⟨_,rfl⟩ (fun W0 hW0=>by (obtain ⟨s0,hs0,hC⟩:=hW0); (refine oG (fun X Y=>?_)); simp [go_sem,a6j (hC (by omega)),c0,p00]; (first | exact Y _ _ ⟨rfl,rfl⟩ | exact ⟨by omega,Y _ _ ⟨rfl,rfl⟩⟩)) ?_))
 generalize hw2:({ w1 with drawn:=w1.drawn + 1 }:World) = w2
 have hh:w2.heap = w1.heap:=by rw [← hw2]
 have d2:=d1.heap hh
 have f2:Fr (fun _=>False) w w2:=by rw [← hw2]; exact pf.drew
 have p2:w2.heap[w.heap.size]? = some (.cells #[.int .i64 f] 3 (0,0)):=by rw [hh]; exact p0
 rw [← hh] at pz
 clear hw2
 obtain ⟨w4,hr4,d4,t4⟩:=d2.setFile f (s,s) ⟨hs,hs⟩
 simp only at hr4
 repeat (any_goals (first
 | (with_reducible refine And.intro (fun _=>hh) ?_) | (with_reducible refine And.intro (fun hs=>absurd hs (by decide)) ?_)
 | ((with_reducible refine oG fun X Y=>?_); simp [go_sem,hr4]; apply Y; clear Y X)))
 have t04:Step w b h w4 h:=(Step.fresh f2).trans t4
 have blt:b < w.heap.size:=d.lt (.inl (.inl rfl))
 have hnown:∀ i,Own b h i → i < w.heap.size:=fun i hi=>d.lt (.inl hi)
 have p4:=(t4.fr.block w.heap.size (by omega) (fun ho=>by have:=hnown _ ho; omega)).trans p2
 have c1:=d4.c 1
 simp only [a1l] at c1
 repeat (any_goals (first
 | (with_reducible refine d9y (f:=f) (by have:=d4.wf.ql; omega) p4 d4.que ?_)
 | ((with_reducible refine oG fun X Y=>?_); simp [go_sem,c1]; apply Y; clear Y X)))
 intro v' w5 ho5 f5 hv5
 obtain ⟨va,vc,rfl⟩:=a2a ho5
 have hq4:∀ i,h.q.ownBlock = some i → i < w.heap.size:=fun i hi=>hnown i (.inr (.inr (.inr hi)))
 have k5:∀ i,i < w4.heap.size → h.q.ownBlock ≠ some i → w5.heap[i]? = w4.heap[i]?:=fun i hi hn=>f5.block i hi (fun e=>hn e)
 have hz4:=t4.fr.size
 have hz5:=f5.size
 have hqb:h.q.ownBlock ≠ some b:=fun e=>(d4.qne e).1 rfl
 have hqf:h.q.ownBlock ≠ some h.fm:=fun e=>(d4.qne e).2.1 rfl
 have hqs:h.q.ownBlock ≠ some h.sm:=fun e=>(d4.qne e).2.2 rfl
 have b5:=(k5 b (by omega) hqb).trans d4.blk
 have p5:=(k5 w.heap.size (by omega) (fun e=>by have:=hq4 _ e; omega)).trans p4
 have e1:=a0b b5 1
 have y1:=a1d b5 1
 have b6:=a3r (i:=1) b5 (.slice va (a5j f A.queue).length vc)
 have e2:=a0b b6 2
 simp [a1l] at e1 e2
 refine Xg (An3 @e1 @y1 @e2) ?_
 have k6:∀ i,i ≠ b → (w5.setCell ⟨b,1,none⟩ (.slice va (a5j f A.queue).length vc)).heap[i]? = w5.heap[i]?:=fun i hi=>a0q _ _ _ _ hi
 have z6:=b3e w5 ⟨b,1,none⟩ (.slice va (a5j f A.queue).length vc)
 have zz6:(w5.setCell ⟨b,1,none⟩ (.slice va (a5j f A.queue).length vc)).heap.size = w5.heap.size:=by simp [World.setCell]
 generalize w5.setCell ⟨b,1,none⟩ (.slice va (a5j f A.queue).length vc) = w6 at *
 have p6:=(k6 w.heap.size (by omega)).trans p5
 have hsm4:h.sm < w.heap.size:=hnown _ (.inr (.inr (.inl rfl)))
 have hfm4:h.fm < w.heap.size:=hnown _ (.inr (.inl rfl))
 obtain ⟨ls,ms,hls⟩:=d4.set
 have m6:MapIs b8h w6 h.sm ls:=ms.of_block ((k6 _ d4.bsm.symm).trans (k5 _ (by omega) hqs))
 refine c3g (f:=f) p6 m6 (fun w7 m7 f7=>?_)
 have k7:∀ i,i < w4.heap.size → i ≠ h.sm → w7.heap[i]? = w6.heap[i]?:=fun i hi hn=>f7.block i (by omega) hn
 have hvn:∀ i,(Value.slice va (a5j f A.queue).length vc).ownBlock = some i → i ≠ b ∧ i ≠ h.sm ∧ i < w.heap.size:=fun i hi=>⟨(d4.qne (hv5 i hi)).1,(d4.qne (hv5 i hi)).2.2,hq4 i (hv5 i hi)⟩
 refine k w7 { h with q:=.slice va (a5j f A.queue).length vc } ⟨?_,?_,?_,?_,?_,d.ne,b1d d.wf f s hs⟩ ⟨?_,?_,fun i hi=>.inl hi⟩
 ·rw [k7 b (by omega) d4.bsm,b6]; rfl
 ·obtain ⟨l,m,hl⟩:=d4.files
  exact ⟨l,m.of_block (by rw [k7 _ (by omega) d4.ne,k6 _ d4.bfm.symm,k5 _ (by omega) hqf]),hl⟩
 ·refine ⟨_,m7,fun p=>?_⟩
  rw [c4s (fun p:Int × Int=>decide (p.1 ≠ f)),hls]
  show _ = if p ∈ A.queue.filter (fun p=>decide (p.1 ≠ f)) then _ else _
  by_cases hp:p.1 = f
  ·simp [hp]
  ·simp [hp]
 ·exact a1j ho5 (fun i hi=>by
   have:=hvn i hi
   rw [k7 i (by omega) this.2.1,k6 i this.1])
 ·refine a1j d4.kep (fun i hi=>?_)
  have h1:=d4.kne hi
  have h2:=d4.lt (.inr hi)
  rw [k7 i h2 h1.2.2.1,k6 i h1.1,k5 i h2 h1.2.2.2]
 ·have fA:Fr (Own b h) w w5:=t04.fr.trans f5 (fun i hi=>.inl (.inr (.inr (.inr hi))))
  have fB:Fr (Own b h) w w6:=fA.by z6 (fun i hi=>by cases hi; exact .inl (.inl rfl))
  exact fB.trans f7 (fun i hi=>.inl (.inr (.inr (.inl hi))))
 ·rintro i (rfl | rfl | rfl | hi)
  ·exact .inl (.inl rfl)
  ·exact .inl (.inr (.inl rfl))
  ·exact .inl (.inr (.inr (.inl rfl)))
  ·exact .inl (.inr (.inr (.inr (hv5 i hi))))
end
end Go.Proofs
namespace Go.Proofs
open Go Go.Sh Go.RowKit DkSpec
attribute [local go_sem] a2b
def f7n (a0 v5_20 v6_32 v39_31 x:Value) (M_16:List Value → World → Prop) (w:World):Prop:=
 (a4t w (fun C_52 w=>(oH Tryz.prog (Go.Op.fieldAddr 178 (.tmp 0) 1) 0 [v6_32] (a0p C_52 0) (fun v61_53=>
 oH Tryz.prog (Go.Op.load 9 (.tmp 0)) 9 [v61_53] (a0p C_52 0) (fun v62_54=>
 a0g v39_31 (a0p C_52 0) (fun v63_55=>
 oH Tryz.prog (Go.Op.fieldAddr 178 (.tmp 0) 0) 0 [v6_32] (a0p C_52 0) (fun v64_56=>
 oH Tryz.prog (Go.Op.load 9 (.tmp 0)) 9 [v64_56] (a0p C_52 0) (fun v65_57=>
 a0g v39_31 (a0p C_52 0) (fun v66_58=>
 a0g v39_31 (a0p C_52 0) (fun v67_59=>
 oH Tryz.prog (Go.Op.binOp Go.BinOp.add 3 (.tmp 0) (.tmp 1) 3) 3 [v67_59,(.int .i64 64)] (a0p C_52 0) (fun v68_60=>
 oH Tryz.prog (Go.Op.fieldAddr 178 (.tmp 0) 0) 0 [v6_32] (a0p C_52 0) (fun v69_61=>
 oH Tryz.prog (Go.Op.load 9 (.tmp 0)) 9 [v69_61] (a0p C_52 0) (fun v70_62=>
 oH Tryz.prog (Go.Op.call (Go.Call.mk (Go.Callee.builtin Go.Builtin.len) #[(.tmp 0)] #[9])) 3 [v70_62] (a0p C_52 0) (fun v71_63=>
 oH Tryz.prog (Go.Op.call (Go.Call.mk (Go.Callee.builtin Go.Builtin.min) #[(.tmp 0),(.tmp 1)] #[3,3])) 3 [v68_60,v71_63] (a0p C_52 0) (fun v72_64=>
 oH Tryz.prog (Go.Op.slice 9 (.tmp 0) (some (.tmp 1)) (some (.tmp 2)) none) 9 [v65_57,v66_58,v72_64] (a0p C_52 0) (fun v73_65=>
 a0a Tryz.prog 126 #[v62_54,v63_55,v73_65] (fun v74_66 w=>C_52 1 w ∧ (
 oM Tryz.prog (Go.Op.fieldAddr 178 (.tmp 0) 1) 0 [v6_32] (fun v75_67 w=>C_52 2 w ∧ (
 oM Tryz.prog (Go.Op.store 9 (.tmp 0) (.tmp 1)) 0 [v75_67,v74_66] (fun _ w=>C_52 3 w ∧ (
 a4t w (fun C_68 w=>(a0g a0 (a0p C_68 0) (fun v76_69=>
 oH Tryz.prog (Go.Op.nilCheck (.tmp 0)) 0 [v76_69] (a0p C_68 0) (fun v77_70=>
 oH Tryz.prog (Go.Op.fieldAddr 135 (.tmp 0) 0) 0 [v77_70] (a0p C_68 0) (fun v78_71=>
 oH Tryz.prog (Go.Op.load 131 (.tmp 0)) 131 [v78_71] (a0p C_68 0) (fun v79_72=>
 oH Tryz.prog (Go.Op.fieldAddr 176 (.tmp 0) 0) 0 [v5_20] (a0p C_68 0) (fun v80_73=>
 oH Tryz.prog (Go.Op.load 3 (.tmp 0)) 3 [v80_73] (a0p C_68 0) (fun v81_74=>
 oH Tryz.prog (Go.Op.load 178 (.tmp 0)) 178 [v6_32] (a0p C_68 0) (fun v82_75=>
 oM Tryz.prog (Go.Op.mapUpdate 131 (.tmp 0) (.tmp 1) (.tmp 2)) 0 [v79_72,v81_74,v82_75] (fun _ w=>C_68 1 w ∧ (
 M_16 [x,v39_31] w)) w))))))))))) w)) w)) w))))))))))))))))
def g5k (a0:Value) (K:VK) (w:World):Prop:=
 (oM Tryz.prog (Go.Op.nilCheck (.tmp 0)) 0 [a0] (fun v85_77 w=>
 oM Tryz.prog (Go.Op.fieldAddr 135 (.tmp 0) 0) 0 [v85_77] (fun v86_78 w=>
 oM Tryz.prog (Go.Op.load 131 (.tmp 0)) 131 [v86_78] (fun v87_79 w=>
 oM Tryz.prog (Go.Op.range 131 (.tmp 0)) 0 [v87_79] (fun v88_80 w=>
 e1w [undef] w (fun J_81 m_82 l_83 u_l_83 w0_l_83=>(fun w=>(
 oM Tryz.prog (Go.Op.next (.tmp 0) false) 0 [v88_80] (fun v89_84 w=>
 oM Tryz.prog (Go.Op.extract (.tmp 0) 0) 4 [v89_84] (fun v90_85 w=>
 a2c v90_85
 (oM Tryz.prog (Go.Op.entry (.tmp 0)) 0 [v88_80] (fun v91_86 w=>
 oM Tryz.prog (Go.Op.extract (.tmp 0) 0) 3 [v91_86] (fun v92_87 w=>
 oM Tryz.prog (Go.Op.extract (.tmp 0) 1) 178 [v91_86] (fun v93_88 w=>
 oM Tryz.prog (Go.Op.alloc 178) 0 [] (fun v9_89 w=>
 oM Tryz.prog (Go.Op.store 178 (.tmp 0) (.tmp 1)) 0 [v9_89,v93_88] (fun _ w=>
 a4t w (fun C_90 w=>(a0g a0 (a0p C_90 1) (fun v94_91=>
 oH Tryz.prog (Go.Op.nilCheck (.tmp 0)) 0 [v94_91] (a0p C_90 1) (fun v95_92=>
 oH Tryz.prog (Go.Op.fieldAddr 135 (.tmp 0) 0) 0 [v95_92] (a0p C_90 1) (fun v96_93=>
 oH Tryz.prog (Go.Op.load 131 (.tmp 0)) 131 [v96_93] (a0p C_90 1) (fun v97_94=>
 a0g v92_87 (a0p C_90 1) (fun v98_95=>
 oH Tryz.prog (Go.Op.fieldAddr 178 (.tmp 0) 1) 0 [v9_89] (a0p C_90 0) (fun v99_96=>
 oH Tryz.prog (Go.Op.load 9 (.tmp 0)) 9 [v99_96] (a0p C_90 0) (fun v100_97=>
 oH Tryz.prog (Go.Op.fieldAddr 178 (.tmp 0) 1) 0 [v9_89] (a0p C_90 0) (fun v101_98=>
 oH Tryz.prog (Go.Op.load 9 (.tmp 0)) 9 [v101_98] (a0p C_90 0) (fun v102_99=>
 oM Tryz.prog (Go.Op.build 178 #[(0,(.tmp 0)),(1,(.tmp 1))]) 178 [v100_97,v102_99] (fun v103_100 w=>C_90 1 w ∧ (
 oM Tryz.prog (Go.Op.mapUpdate 131 (.tmp 0) (.tmp 1) (.tmp 2)) 0 [v97_94,v98_95,v103_100] (fun _ w=>C_90 2 w ∧ (
 J_81 [v92_87] w ∧ m_82 [v92_87] w < m_82 l_83 w0_l_83)) w)) w)))))))))))) w) w) w) w) w)
 (oM Tryz.prog (Go.Op.makeMap 132 none) 132 [] (fun v106_101 w=>
 oM Tryz.prog (Go.Op.nilCheck (.tmp 0)) 0 [a0] (fun v107_102 w=>
 oM Tryz.prog (Go.Op.fieldAddr 135 (.tmp 0) 1) 0 [v107_102] (fun v108_103 w=>
 oM Tryz.prog (Go.Op.store 133 (.tmp 0) (.tmp 1)) 0 [v108_103,(.slice none 0 0)] (fun _ w=>
 oM Tryz.prog (Go.Op.nilCheck (.tmp 0)) 0 [a0] (fun v109_104 w=>
 oM Tryz.prog (Go.Op.fieldAddr 135 (.tmp 0) 2) 0 [v109_104] (fun v110_105 w=>
 oM Tryz.prog (Go.Op.store 132 (.tmp 0) (.tmp 1)) 0 [v110_105,v106_101] (fun _ w=>
 K (.tuple #[]) w) w) w) w) w) w) w) w)) w) w)) w0_l_83)) w) w) w) w)
section
variable {w:World} {b:Nat} {A:Ab} {h:Dk} {K:VK}
set_option maxHeartbeats 1000000 in
theorem e0a {n m:Nat} {p:Int × Int} {x:Value} {M:List Value → World → Prop} (d:IsDk w b A h) (hp:w.heap[n]? = some (.cells #[.int .i64 p.1,.int .i64 p.2] 176 (0,0))) {cur:Array Value} (hm:w.heap[m]? = some (.cells cur 178 (0,0))) (hc0:cur[0]? = some (bsV (A.F p.1).1)) (hc1:cur[1]? = some (bsV (A.F p.1).2)) (hs:cur.size = 2)
  (hn:¬ Own b h n) (hm':¬ Own b h m) (hm2:¬ Rdb h m) (hnm:n ≠ m) (h0:0 ≤ p.2 ∧ p.2 < 262144) (hbig:64 * p.2 < ((A.F p.1).1.length:Int))
  (k:∀ w',IsDk w' b { A with F:=b1c A.F p.1 ((A.F p.1).1,b0f (A.F p.1).2 (64 * p.2).toNat (DkSpec.sector (A.F p.1).1 p.2)) } h → Fr (fun i=>Own b h i ∨ i = m) w w' → M [x,.int .i64 (64 * p.2)] w'):f7n (dkP b) (.pointer (some ⟨n,0,none⟩)) (.pointer (some ⟨m,0,none⟩)) (.int .i64 (64 * p.2)) x M w:=by
 unfold f7n
 have z0:=a0b hm 0
 have z1:=a0b hm 1
 have hsz:=d.wf.sz p.1
 obtain ⟨now,hnow⟩:∃ now,now = (A.F p.1).1:=⟨_,rfl⟩
 obtain ⟨last,hlast⟩:∃ last,last = (A.F p.1).2:=⟨_,rfl⟩
 rw [← hnow,← hlast] at hsz
 rw [← hnow] at hc0 hbig
 rw [← hlast] at hc1
 rw [hc0] at z0
 rw [hc1] at z1
 obtain ⟨a,ha⟩:∃ a:Nat,(a:Int) = 64 * p.2:=⟨(64 * p.2).toNat,by omega⟩
 have hmin:min ((a:Int) + 64) (now.length:Int) = ((min (a + 64) now.length:Nat):Int):=by omega
 rw [← ha] at hbig ⊢
 refine ⟨fun sg w'=>sg ≤ 0 → w'.heap = w.heap,fun _=>rfl,?_⟩
 have hwr:IntKind.i64.wrap ((a:Int) + 64) = (a:Int) + 64:=a0u _ (by omega) (by omega)
 repeat (first | (with_reducible refine pX ?_) | (with_reducible refine a4g ?_) | (with_reducible refine a3b rfl ?_) | (with_reducible refine a2i rfl ?_) | (refine a3h ⟨_,rfl⟩ (fun W0 hW0=>by (obtain ⟨s0,hs0,hC⟩:=hW0); (refine oG (fun X Y=>?_)); simp [go_sem,a6j (hC (by omega)),z0,z1,hwr,hmin,c9s]; (first | exact Y _ _ ⟨rfl,rfl⟩ | exact ⟨by omega,Y _ _ ⟨rfl,rfl⟩⟩)) ?_))
 have hsec:(now.drop a).take (min (a + 64) now.length - a) = DkSpec.sector now p.2:=by
  unfold DkSpec.sector
  rw [← ha,Int.toNat_natCast,List.take_eq_take_iff,List.length_drop]
  omega
 simp only [bsV,Int.toNat_natCast]
 rw [hsec]
 generalize hw2:({ w with drawn:=w.drawn + 1 }:World) = w2
 have hh:w2.heap = w.heap:=by rw [← hw2]
 have f2:Fr (fun _=>False) w w2:=by rw [← hw2]; exact (Fr.refl _ _).drew
 clear hw2
 have hsl:(DkSpec.sector now p.2).length ≤ 64:=by unfold DkSpec.sector; simp; omega
 refine d9v last (DkSpec.sector now p.2) (a:Int) (by omega) (by have:=hsl; unfold DkSpec.sector at *; simp at *; omega) hsz.2 (fun w3 f3=>⟨fun hs=>absurd hs (by decide),?_⟩)
 have f03:=f2.trans f3 (fun _ h=>h.elim)
 have d3:=d.fresh f03
 have hml:=(Array.getElem?_eq_some_iff.1 hm).1
 have hpl:=(Array.getElem?_eq_some_iff.1 hp).1
 have hm3:=(f03.block m hml (fun h=>h)).trans hm
 have hp3:=(f03.block n hpl (fun h=>h)).trans hp
 have y1:=a1d hm3 1
 have q1:=a0b hm3 1
 rw [hc1] at q1
 have hm4:=a3r (i:=1) hm3 (bsV (b0f last a (DkSpec.sector now p.2)))
 have hp4:=(a0q w3 ⟨m,1,none⟩ (bsV (b0f last a (DkSpec.sector now p.2))) n hnm).trans hp3
 have d4:IsDk (w3.setCell ⟨m,1,none⟩ (bsV (b0f last a (DkSpec.sector now p.2)))) b A h:=d3.keep (fun i hi=>a0q _ _ _ _ (fun e=>by subst e; exact hi.elim hm' hm2))
 rw [Int.toNat_natCast]
 repeat (any_goals (first
 | (with_reducible refine And.intro (fun hs=>absurd hs (by decide)) ?_)
 | ((with_reducible refine oG fun X Y=>?_); simp [go_sem,y1,q1]; apply Y; clear Y X)))
 have f04:Fr (fun i=>Own b h i ∨ i = m) w (w3.setCell ⟨m,1,none⟩ (bsV (b0f last a (DkSpec.sector now p.2)))):=(f03.mono (fun i _ hi=>hi.elim)).set ⟨m,1,none⟩ _ (.inl (.inr rfl))
 generalize w3.setCell ⟨m,1,none⟩ (bsV (b0f last a (DkSpec.sector now p.2))) = w4 at *
 have c0:=d4.c 0
 simp only [a1l] at c0
 have e0:=a0b hm4 0
 have e1:=a0b hm4 1
 have g0:=a0b hp4 0
 simp at g0
 have h1lt:1 < cur.size:=by omega
 rw [Array.getElem?_setIfInBounds_ne (by omega),hc0] at e0
 rw [Array.getElem?_setIfInBounds_self_of_lt h1lt] at e1
 refine ⟨fun sg w'=>sg ≤ 0 → w'.heap = w4.heap,fun _=>rfl,?_⟩
 repeat (first | (with_reducible refine pX ?_) | (with_reducible refine a4g ?_) | (with_reducible refine a3b rfl ?_) | (with_reducible refine a2i rfl ?_) | (refine a3h ⟨_,rfl⟩ (fun W0 hW0=>by (obtain ⟨s0,hs0,hC⟩:=hW0); (refine oG (fun X Y=>?_)); simp [go_sem,a6j (hC (by omega)),c0,e0,e1,g0]; (first | exact Y _ _ ⟨rfl,rfl⟩ | exact ⟨by omega,Y _ _ ⟨rfl,rfl⟩⟩)) ?_))
 generalize hw5:({ w4 with drawn:=w4.drawn + 1 }:World) = w5
 have d5:IsDk w5 b A h:=d4.heap (by rw [← hw5])
 have f05:Fr (fun i=>Own b h i ∨ i = m) w w5:=by rw [← hw5]; exact f04.drew
 clear hw5
 have hpl2:=a5x last a (DkSpec.sector now p.2)
 obtain ⟨w6,hr6,d6,t6⟩:=d5.setFile p.1 (now,b0f last a (DkSpec.sector now p.2)) ⟨hsz.1,by
  show (b0f last a (DkSpec.sector now p.2)).length ≤ _
  rw [hpl2]
  split
  ·exact hsz.2
  ·have hs2:(DkSpec.sector now p.2).length ≤ now.length - a:=by rw [← hsec]; simp; omega
   omega⟩
 simp only at hr6
 repeat (any_goals (first
 | (with_reducible refine And.intro (fun hs=>absurd hs (by decide)) ?_)
 | ((with_reducible refine oG fun X Y=>?_); simp [go_sem,hr6]; apply Y; clear Y X)))
 rw [← hnow,← hlast,← ha,Int.toNat_natCast] at k
 exact k w6 d6 (f05.trans t6.fr (fun i hi=>.inl (.inl hi)))
def d4d (F:Int → Bs × Bs) (l:List (Int × Value)) (done:List Int):List (Int × Value):=l.map (fun y=>(y.1,if y.1 ∈ done then flV ((F y.1).2,(F y.1).2) else y.2))
theorem e9m (F:Int → Bs × Bs) (l:List (Int × Value)):d4d F l [] = l:=by
 unfold d4d
 have:(fun y:Int × Value=>(y.1,if y.1 ∈ ([]:List Int) then flV ((F y.1).2,(F y.1).2) else y.2)) = id:=by funext y; simp
 rw [this,List.map_id]
theorem b0n (F:Int → Bs × Bs) (l:List (Int × Value)) (done:List Int):(d4d F l done).map (·.1) = l.map (·.1):=by
 unfold d4d; rw [List.map_map]; rfl
theorem e9n (F:Int → Bs × Bs) (l:List (Int × Value)) (done:List Int) (k:Int) (hk:k ∈ l.map (·.1)):c6m (d4d F l done) k (flV ((F k).2,(F k).2)) = d4d F l (k :: done):=by
 unfold c6m
 rw [if_pos ((a5c _ _).2 (by rw [b0n]; exact hk))]
 unfold d4d
 rw [List.map_map]
 apply List.map_congr_left
 intro y _
 simp only [Function.comp]
 by_cases hy:y.1 = k
 ·simp [hy]
 ·simp [hy]
theorem c3i (F:Int → Bs × Bs) (l:List (Int × Value)) (done:List Int) (k:Int):a4a (d4d F l done) k = (a4a l k).map (fun v=>if k ∈ done then flV ((F k).2,(F k).2) else v):=by
 unfold d4d
 exact c4t (fun k v=>if k ∈ done then flV ((F k).2,(F k).2) else v) l k
theorem f9j {x y:Bs × Bs} (h:flV x = flV y):x = y:=by
 obtain ⟨a,b⟩:=x
 obtain ⟨c,d⟩:=y
 simp [flV,bsV] at h
 simp [h.1,h.2]
theorem e9o (d:IsDk w b A h) (k:∀ w' h',IsDk w' b { A with F:=fun f=>((A.F f).2,(A.F f).2),queue:=[] } h' → Step w b h w' h' → K (.tuple #[]) w'):g5k (dkP b) K w:=by
 unfold g5k
 have c0:=d.c 0
 simp only [a1l] at c0
 obtain ⟨l0,m0,hl0⟩:=d.files
 have hnd0:(l0.map (·.1)).Nodup:=by obtain ⟨es,c,h1,h2,h3,_⟩:=m0; exact h3
 obtain ⟨o,hr,R⟩:=c4x (P:=Tryz.prog) (t:=131) (kt:=3) (et:=178) (by kernel_rfl) m0
 have f0:Fr (fun i=>i = h.fm) w (w.alloc o):=(Fr.refl _ _).alloc _
 refine Xg (An2 @c0 @hr) ?_
 generalize w.alloc o = w0 at *
 have hfm:h.fm < w.heap.size:=m0.lt
 have hbl:b < w.heap.size:=d.lt (.inl (.inl rfl))
 refine ⟨fun l w'=>∃ u done,l = [u] ∧ done.Nodup ∧ Ranged c9q w' w.heap.size h.fm (d4d A.F l0 done) (l0.map (·.1)) done ∧ Fr (fun i=>i = h.fm) w w',fun _ w'=>(l0.map (·.1)).length + 1 - (w'.iterSeen w.heap.size).size,⟨_,[],rfl,List.nodup_nil,by rw [e9m]; exact R,f0⟩,?_⟩
 rintro l u w1 ⟨u1,done,rfl,hnd,R1,f1⟩
 have hlen:=a7c done _ hnd R1.sub
 have hseen:=R1.seen
 rcases d0z (P:=Tryz.prog) (ty:=0) R1 with ⟨hall,hn⟩ | ⟨y,hy,hyd,w2,hn,R2,g2,z2⟩
 ·have m1:=R1.map
  have hF:∀ f,(a4a (d4d A.F l0 done) f).getD (flV ([],[])) = flV ((A.F f).2,(A.F f).2):=by
   intro f
   rw [c3i]
   have h2:=hl0 f
   cases hlk:a4a l0 f with
   | none=>
    rw [hlk] at h2
    have:=f9j h2
    simp only [Option.map_none,Option.getD_none]
    rw [← this]
   | some v=>
    have hfk:f ∈ l0.map (·.1):=(a5c _ _).1 (by rw [hlk]; rfl)
    rw [← b0n A.F l0 done] at hfk
    obtain ⟨y,hy,rfl⟩:=List.mem_map.1 hfk
    simp only [Option.map_some,Option.getD_some,if_pos (hall y hy)]
  have b1:=(f1.block b hbl d.bfm).trans d.blk
  refine Xg @hn ?_
  have pf:Fr (fun _=>False) w1 (w1.alloc (.map #[] 0)):=(Fr.refl _ _).alloc _
  have pm:MapIs b8h (w1.alloc (.map #[] 0)) w1.heap.size []:=b7b w1
  have pz:=a0z w1 (.map #[] 0)
  have hz1:=f1.size
  have hb2:=(pf.block b (by omega) (fun h=>h)).trans b1
  have m2:=m1.alloc (.map #[] 0)
  have f2:=f1.trans pf (fun _ h=>h.elim)
  generalize w1.alloc (.map #[] 0) = w2 at *
  have y1:=a1d hb2 1
  have e1:=a0b hb2 1
  have hb3:=a3r (i:=1) hb2 (.slice none 0 0)
  have y2:=a1d hb3 2
  have e2:=a0b hb3 2
  have hb4:=a3r (i:=2) hb3 (.map (some w1.heap.size))
  simp [a1l] at e1 e2
  refine Xg (An4 @y1 @e1 @y2 @e2) ?_
  have f4:=(f2.mono (S':=Own b h) (fun i _ hi=>.inr (.inl hi))).set ⟨b,1,none⟩ (.slice none 0 0) (.inl (.inl rfl)) |>.set ⟨b,2,none⟩ (.map (some w1.heap.size)) (.inl (.inl rfl))
  have k4:∀ i,i ≠ b → ((w2.setCell ⟨b,1,none⟩ (.slice none 0 0)).setCell ⟨b,2,none⟩ (.map (some w1.heap.size))).heap[i]? = w2.heap[i]?:=fun i hi=>by rw [a0q _ _ _ _ hi,a0q _ _ _ _ hi]
  generalize (w2.setCell ⟨b,1,none⟩ (.slice none 0 0)).setCell ⟨b,2,none⟩ (.map (some w1.heap.size)) = w4 at *
  have hfne:h.fm ≠ w1.heap.size:=by omega
  refine k w4 { h with q:=.slice none 0 0,sm:=w1.heap.size } ⟨?_,⟨_,m2.of_block (k4 _ d.bfm.symm),hF⟩,⟨[],pm.of_block (k4 _ (by omega)),fun p=>by simp [a7u]⟩,?_,?_,hfne,?_⟩ ⟨f4,?_,fun i hi=>.inl hi⟩
  ·rw [hb4]; rfl
  ·exact World.ownsRow_nil _ _ _ _
  ·refine a1j d.kep (fun i hi=>?_)
   have h1:=d.kne hi
   have h2:=d.lt (.inr hi)
   rw [k4 i h1.1]
   exact f2.block i h2 h1.2.1
  ·exact ⟨d.wf.l0,d.wf.l1,d.wf.a0,d.wf.a1,List.nodup_nil,fun p hp=>absurd hp (by simp),fun f=>⟨(d.wf.sz f).2,(d.wf.sz f).2⟩,d.wf.kr,d.wf.kl⟩
  ·rintro i (rfl | rfl | rfl | hi)
   ·exact .inl (.inl rfl)
   ·exact .inl (.inr (.inl rfl))
   ·exact .inr hz1
   ·cases hi
 ·have he:=c4y (P:=Tryz.prog) R2 hy
  have f2:Fr (fun i=>i = h.fm) w w2:=f1.by g2 (fun i hi=>by cases hi; exact .inr (rL))
  have hyk:y.1 ∈ l0.map (·.1):=by
   have:=List.mem_map_of_mem (f:=(·.1)) hy
   rw [b0n] at this
   exact this
  have hyv:y.2 = flV (A.F y.1):=by
   have h1:=e2h (d4d A.F l0 done) (by rw [b0n]; exact hnd0) y hy
   rw [c3i] at h1
   have h2:=hl0 y.1
   cases hlk:a4a l0 y.1 with
   | none=>rw [hlk] at h1; cases h1
   | some v=>
    rw [hlk] at h1 h2
    simp only [Option.map_some,if_neg hyd,Option.some.injEq] at h1
    simp only [Option.getD_some] at h2
    rw [← h1,h2]
  rw [hyv] at he
  simp only [c9q] at hn he
  refine Xg (An2 @hn @he) ?_
  have pf:Fr (fun _=>False) w2 (w2.alloc (.cells #[.string ⟨#[]⟩,.string ⟨#[]⟩] 178 (0,0))):=(Fr.refl _ _).alloc _
  have p0:=heap_alloc_new w2 (.cells #[.string ⟨#[]⟩,.string ⟨#[]⟩] 178 (0,0))
  have pz:=a0z w2 (.cells #[.string ⟨#[]⟩,.string ⟨#[]⟩] 178 (0,0))
  generalize w2.alloc (.cells #[.string ⟨#[]⟩,.string ⟨#[]⟩] 178 (0,0)) = w3 at *
  refine b6a (fun w=>by kernel_rfl) rfl rfl p0 (by simp) (fun w4 cur4 g4 n4 s4 _ a4 b4=>?_)
  have f24:Fr (fun _=>False) w2 w4:=pf.by g4 (fun i hi=>by cases hi; exact .inr (rL))
  have R4:=R2.of_blocks (f24.block h.fm R2.lt.1 (fun h=>h)) (f24.block w.heap.size R2.lt.2.1 (fun h=>h))
  have fr4:Fr (fun i=>i = h.fm) w w4:=f2.trans f24 (fun _ h=>h.elim)
  have b4':w4.heap[b]? = some (.cells (a1l A h) 135 (0,0)):=(fr4.block b hbl d.bfm).trans d.blk
  have e0:=a0b b4' 0
  simp only [a1l] at e0
  have z0:=a0b n4 1
  rw [Nat.zero_add] at b4
  rw [b4] at z0
  refine ⟨fun sg w'=>sg ≤ 1 → w'.heap = w4.heap,fun _=>rfl,?_⟩
  repeat (first | (with_reducible refine pX ?_) | (with_reducible refine a4g ?_) | (with_reducible refine a3b rfl ?_) | (with_reducible refine a2i rfl ?_) | (refine a3h ⟨_,rfl⟩ (fun W0 hW0=>by (obtain ⟨s0,hs0,hC⟩:=hW0); (refine oG (fun X Y=>?_)); simp [go_sem,a6j (hC (by omega)),e0,z0]; (first | exact Y _ _ ⟨rfl,rfl⟩ | exact ⟨by omega,Y _ _ ⟨rfl,rfl⟩⟩)) ?_))
  generalize hw5:({ w4 with drawn:=w4.drawn + 1 }:World) = w5
  have hh5:w5.heap = w4.heap:=by rw [← hw5]
  have f5:Fr (fun i=>i = h.fm) w w5:=by rw [← hw5]; exact fr4.drew
  have R5:=R4.of_blocks (w':=w5) (by rw [hh5]) (by rw [hh5])
  clear hw5
  obtain ⟨w6,hu,R6,g6,z6⟩:=c8i (P:=Tryz.prog) (t:=131) (et:=178) g8l (by kernel_rfl) R5 y.1 (flV ((A.F y.1).2,(A.F y.1).2)) (by rw [b0n]; exact hyk)
  rw [e9n _ _ _ _ hyk] at R6
  simp only [c9q,flV,bsV] at hu
  repeat (any_goals (first
  | (with_reducible refine And.intro (fun _=>hh5) ?_) | (with_reducible refine And.intro (fun hs=>absurd hs (by decide)) ?_)
  | ((with_reducible refine oG fun X Y=>?_); simp [go_sem,hu]; apply Y; clear Y X)))
  refine ⟨⟨_,y.1 :: done,rfl,List.nodup_cons.2 ⟨hyd,hnd⟩,R6,f5.by g6 (fun i hi=>by cases hi; exact .inl rfl)⟩,?_⟩
  have h6:=R6.seen
  have h7:=a7c (y.1 :: done) _ (List.nodup_cons.2 ⟨hyd,hnd⟩) R6.sub
  simp only [List.length_cons] at h6 h7
  show _ - _ < _ - _
  omega
end
end Go.Proofs
namespace Go.Proofs
open Go Go.Sh Go.RowKit DkSpec
attribute [local go_sem] a2b
def g5l (a0 a1 v5_20 v6_32 v39_31 x:Value) (M_16:List Value → World → Prop) (w:World):Prop:=
 (oM Tryz.prog (Go.Op.call (Go.Call.mk (Go.Callee.builtin Go.Builtin.len) #[(.tmp 0)] #[24])) 3 [a1] (fun v41_34 w=>
 oM Tryz.prog (Go.Op.binOp Go.BinOp.eql 3 (.tmp 0) (.const (.int .i64 0)) 3) 4 [v41_34] (fun v42_35 w=>
 gdM (gd v42_35 false) (a0f a1) (fun v44_36 w=>
 gdM (gd v42_35 false) (a0f x) (fun v45_37 w=>
 gdM (gd v42_35 false) (a0f a1) (fun v46_38 w=>
 gdM (gd v42_35 false) (oM Tryz.prog (Go.Op.call (Go.Call.mk (Go.Callee.builtin Go.Builtin.len) #[(.tmp 0)] #[24])) 3 [v46_38]) (fun v47_39 w=>
 gdM (gd v42_35 false) (oM Tryz.prog (Go.Op.binOp Go.BinOp.rem 3 (.tmp 0) (.tmp 1) 3) 3 [v45_37,v47_39]) (fun v48_40 w=>
 gdM (gd v42_35 false) (oM Tryz.prog (Go.Op.indexAddr 24 (.tmp 0) (.tmp 1)) 0 [v44_36,v48_40]) (fun v49_41 w=>
 gdM (gd v42_35 false) (oM Tryz.prog (Go.Op.load 3 (.tmp 0)) 3 [v49_41]) (fun v50_42 w=>
 gdM (gd v42_35 false) (oM Tryz.prog (Go.Op.binOp Go.BinOp.and 3 (.tmp 0) (.tmp 1) 3) 3 [v50_42,(.int .i64 1)]) (fun v51_43 w=>
 gdM (gd v42_35 false) (oM Tryz.prog (Go.Op.binOp Go.BinOp.eql 3 (.tmp 0) (.const (.int .i64 0)) 3) 4 [v51_43]) (fun v52_44 w=>
 oM Tryz.prog (Go.Op.pick (.tmp 0) (.tmp 1) (.tmp 2)) 4 [v42_35,(.bool true),v52_44] (fun v53_45 w=>
 gdM (gd v53_45 false) (a0f v39_31) (fun v55_46 w=>
 gdM (gd v53_45 false) (oM Tryz.prog (Go.Op.fieldAddr 178 (.tmp 0) 0) 0 [v6_32]) (fun v56_47 w=>
 gdM (gd v53_45 false) (oM Tryz.prog (Go.Op.load 9 (.tmp 0)) 9 [v56_47]) (fun v57_48 w=>
 gdM (gd v53_45 false) (oM Tryz.prog (Go.Op.call (Go.Call.mk (Go.Callee.builtin Go.Builtin.len) #[(.tmp 0)] #[9])) 3 [v57_48]) (fun v58_49 w=>
 gdM (gd v53_45 false) (oM Tryz.prog (Go.Op.binOp Go.BinOp.geq 3 (.tmp 0) (.tmp 1) 3) 4 [v55_46,v58_49]) (fun v59_50 w=>
 oM Tryz.prog (Go.Op.pick (.tmp 0) (.tmp 1) (.tmp 2)) 4 [v53_45,(.bool true),v59_50] (fun v60_51 w=>
 a2c v60_51
 (M_16 [x,v39_31] w)
 (a4t w (fun C_52 w=>(oH Tryz.prog (Go.Op.fieldAddr 178 (.tmp 0) 1) 0 [v6_32] (a0p C_52 0) (fun v61_53=>
 oH Tryz.prog (Go.Op.load 9 (.tmp 0)) 9 [v61_53] (a0p C_52 0) (fun v62_54=>
 a0g v39_31 (a0p C_52 0) (fun v63_55=>
 oH Tryz.prog (Go.Op.fieldAddr 178 (.tmp 0) 0) 0 [v6_32] (a0p C_52 0) (fun v64_56=>
 oH Tryz.prog (Go.Op.load 9 (.tmp 0)) 9 [v64_56] (a0p C_52 0) (fun v65_57=>
 a0g v39_31 (a0p C_52 0) (fun v66_58=>
 a0g v39_31 (a0p C_52 0) (fun v67_59=>
 oH Tryz.prog (Go.Op.binOp Go.BinOp.add 3 (.tmp 0) (.tmp 1) 3) 3 [v67_59,(.int .i64 64)] (a0p C_52 0) (fun v68_60=>
 oH Tryz.prog (Go.Op.fieldAddr 178 (.tmp 0) 0) 0 [v6_32] (a0p C_52 0) (fun v69_61=>
 oH Tryz.prog (Go.Op.load 9 (.tmp 0)) 9 [v69_61] (a0p C_52 0) (fun v70_62=>
 oH Tryz.prog (Go.Op.call (Go.Call.mk (Go.Callee.builtin Go.Builtin.len) #[(.tmp 0)] #[9])) 3 [v70_62] (a0p C_52 0) (fun v71_63=>
 oH Tryz.prog (Go.Op.call (Go.Call.mk (Go.Callee.builtin Go.Builtin.min) #[(.tmp 0),(.tmp 1)] #[3,3])) 3 [v68_60,v71_63] (a0p C_52 0) (fun v72_64=>
 oH Tryz.prog (Go.Op.slice 9 (.tmp 0) (some (.tmp 1)) (some (.tmp 2)) none) 9 [v65_57,v66_58,v72_64] (a0p C_52 0) (fun v73_65=>
 a0a Tryz.prog 126 #[v62_54,v63_55,v73_65] (fun v74_66 w=>C_52 1 w ∧ (
 oM Tryz.prog (Go.Op.fieldAddr 178 (.tmp 0) 1) 0 [v6_32] (fun v75_67 w=>C_52 2 w ∧ (
 oM Tryz.prog (Go.Op.store 9 (.tmp 0) (.tmp 1)) 0 [v75_67,v74_66] (fun _ w=>C_52 3 w ∧ (
 a4t w (fun C_68 w=>(a0g a0 (a0p C_68 0) (fun v76_69=>
 oH Tryz.prog (Go.Op.nilCheck (.tmp 0)) 0 [v76_69] (a0p C_68 0) (fun v77_70=>
 oH Tryz.prog (Go.Op.fieldAddr 135 (.tmp 0) 0) 0 [v77_70] (a0p C_68 0) (fun v78_71=>
 oH Tryz.prog (Go.Op.load 131 (.tmp 0)) 131 [v78_71] (a0p C_68 0) (fun v79_72=>
 oH Tryz.prog (Go.Op.fieldAddr 176 (.tmp 0) 0) 0 [v5_20] (a0p C_68 0) (fun v80_73=>
 oH Tryz.prog (Go.Op.load 3 (.tmp 0)) 3 [v80_73] (a0p C_68 0) (fun v81_74=>
 oH Tryz.prog (Go.Op.load 178 (.tmp 0)) 178 [v6_32] (a0p C_68 0) (fun v82_75=>
 oM Tryz.prog (Go.Op.mapUpdate 131 (.tmp 0) (.tmp 1) (.tmp 2)) 0 [v79_72,v81_74,v82_75] (fun _ w=>C_68 1 w ∧ (
 M_16 [x,v39_31] w)) w))))))))))) w)) w)) w))))))))))))))))) w) w) w) w) w) w) w) w) w) w) w) w) w) w) w) w) w) w)
def f7o (a0 a1 v23_10 x:Value) (M_16:List Value → World → Prop) (w:World):Prop:=
 (oM Tryz.prog (Go.Op.indexAddr 133 (.tmp 0) (.tmp 1)) 0 [v23_10,x] (fun v28_18 w=>
 oM Tryz.prog (Go.Op.load 176 (.tmp 0)) 176 [v28_18] (fun v29_19 w=>
 oM Tryz.prog (Go.Op.alloc 176) 0 [] (fun v5_20 w=>
 oM Tryz.prog (Go.Op.store 176 (.tmp 0) (.tmp 1)) 0 [v5_20,v29_19] (fun _ w=>
 a4t w (fun C_21 w=>(a0g a0 (a0p C_21 1) (fun v30_22=>
 oH Tryz.prog (Go.Op.nilCheck (.tmp 0)) 0 [v30_22] (a0p C_21 1) (fun v31_23=>
 oH Tryz.prog (Go.Op.fieldAddr 135 (.tmp 0) 0) 0 [v31_23] (a0p C_21 1) (fun v32_24=>
 oH Tryz.prog (Go.Op.load 131 (.tmp 0)) 131 [v32_24] (a0p C_21 1) (fun v33_25=>
 oH Tryz.prog (Go.Op.fieldAddr 176 (.tmp 0) 0) 0 [v5_20] (a0p C_21 1) (fun v34_26=>
 oH Tryz.prog (Go.Op.load 3 (.tmp 0)) 3 [v34_26] (a0p C_21 1) (fun v35_27=>
 oH Tryz.prog (Go.Op.lookup 131 (.tmp 0) (.tmp 1) false) 178 [v33_25,v35_27] (a0p C_21 1) (fun v36_28=>
 oH Tryz.prog (Go.Op.fieldAddr 176 (.tmp 0) 1) 0 [v5_20] (a0p C_21 2) (fun v37_29=>
 oH Tryz.prog (Go.Op.load 3 (.tmp 0)) 3 [v37_29] (a0p C_21 2) (fun v38_30=>
 oH Tryz.prog (Go.Op.binOp Go.BinOp.mul 3 (.tmp 0) (.tmp 1) 3) 3 [v38_30,(.int .i64 64)] (a0p C_21 2) (fun v39_31=>
 oM Tryz.prog (Go.Op.alloc 178) 0 [] (fun v6_32 w=>C_21 1 w ∧ (
 oM Tryz.prog (Go.Op.store 178 (.tmp 0) (.tmp 1)) 0 [v6_32,v36_28] (fun _ w=>C_21 2 w ∧ (
 C_21 3 w ∧ (oM Tryz.prog (Go.Op.call (Go.Call.mk (Go.Callee.builtin Go.Builtin.len) #[(.tmp 0)] #[24])) 3 [a1] (fun v41_34 w=>
 oM Tryz.prog (Go.Op.binOp Go.BinOp.eql 3 (.tmp 0) (.const (.int .i64 0)) 3) 4 [v41_34] (fun v42_35 w=>
 gdM (gd v42_35 false) (a0f a1) (fun v44_36 w=>
 gdM (gd v42_35 false) (a0f x) (fun v45_37 w=>
 gdM (gd v42_35 false) (a0f a1) (fun v46_38 w=>
 gdM (gd v42_35 false) (oM Tryz.prog (Go.Op.call (Go.Call.mk (Go.Callee.builtin Go.Builtin.len) #[(.tmp 0)] #[24])) 3 [v46_38]) (fun v47_39 w=>
 gdM (gd v42_35 false) (oM Tryz.prog (Go.Op.binOp Go.BinOp.rem 3 (.tmp 0) (.tmp 1) 3) 3 [v45_37,v47_39]) (fun v48_40 w=>
 gdM (gd v42_35 false) (oM Tryz.prog (Go.Op.indexAddr 24 (.tmp 0) (.tmp 1)) 0 [v44_36,v48_40]) (fun v49_41 w=>
 gdM (gd v42_35 false) (oM Tryz.prog (Go.Op.load 3 (.tmp 0)) 3 [v49_41]) (fun v50_42 w=>
 gdM (gd v42_35 false) (oM Tryz.prog (Go.Op.binOp Go.BinOp.and 3 (.tmp 0) (.tmp 1) 3) 3 [v50_42,(.int .i64 1)]) (fun v51_43 w=>
 gdM (gd v42_35 false) (oM Tryz.prog (Go.Op.binOp Go.BinOp.eql 3 (.tmp 0) (.const (.int .i64 0)) 3) 4 [v51_43]) (fun v52_44 w=>
 oM Tryz.prog (Go.Op.pick (.tmp 0) (.tmp 1) (.tmp 2)) 4 [v42_35,(.bool true),v52_44] (fun v53_45 w=>
 gdM (gd v53_45 false) (a0f v39_31) (fun v55_46 w=>
 gdM (gd v53_45 false) (oM Tryz.prog (Go.Op.fieldAddr 178 (.tmp 0) 0) 0 [v6_32]) (fun v56_47 w=>
 gdM (gd v53_45 false) (oM Tryz.prog (Go.Op.load 9 (.tmp 0)) 9 [v56_47]) (fun v57_48 w=>
 gdM (gd v53_45 false) (oM Tryz.prog (Go.Op.call (Go.Call.mk (Go.Callee.builtin Go.Builtin.len) #[(.tmp 0)] #[9])) 3 [v57_48]) (fun v58_49 w=>
 gdM (gd v53_45 false) (oM Tryz.prog (Go.Op.binOp Go.BinOp.geq 3 (.tmp 0) (.tmp 1) 3) 4 [v55_46,v58_49]) (fun v59_50 w=>
 oM Tryz.prog (Go.Op.pick (.tmp 0) (.tmp 1) (.tmp 2)) 4 [v53_45,(.bool true),v59_50] (fun v60_51 w=>
 a2c v60_51
 (M_16 [x,v39_31] w)
 (a4t w (fun C_52 w=>(oH Tryz.prog (Go.Op.fieldAddr 178 (.tmp 0) 1) 0 [v6_32] (a0p C_52 0) (fun v61_53=>
 oH Tryz.prog (Go.Op.load 9 (.tmp 0)) 9 [v61_53] (a0p C_52 0) (fun v62_54=>
 a0g v39_31 (a0p C_52 0) (fun v63_55=>
 oH Tryz.prog (Go.Op.fieldAddr 178 (.tmp 0) 0) 0 [v6_32] (a0p C_52 0) (fun v64_56=>
 oH Tryz.prog (Go.Op.load 9 (.tmp 0)) 9 [v64_56] (a0p C_52 0) (fun v65_57=>
 a0g v39_31 (a0p C_52 0) (fun v66_58=>
 a0g v39_31 (a0p C_52 0) (fun v67_59=>
 oH Tryz.prog (Go.Op.binOp Go.BinOp.add 3 (.tmp 0) (.tmp 1) 3) 3 [v67_59,(.int .i64 64)] (a0p C_52 0) (fun v68_60=>
 oH Tryz.prog (Go.Op.fieldAddr 178 (.tmp 0) 0) 0 [v6_32] (a0p C_52 0) (fun v69_61=>
 oH Tryz.prog (Go.Op.load 9 (.tmp 0)) 9 [v69_61] (a0p C_52 0) (fun v70_62=>
 oH Tryz.prog (Go.Op.call (Go.Call.mk (Go.Callee.builtin Go.Builtin.len) #[(.tmp 0)] #[9])) 3 [v70_62] (a0p C_52 0) (fun v71_63=>
 oH Tryz.prog (Go.Op.call (Go.Call.mk (Go.Callee.builtin Go.Builtin.min) #[(.tmp 0),(.tmp 1)] #[3,3])) 3 [v68_60,v71_63] (a0p C_52 0) (fun v72_64=>
 oH Tryz.prog (Go.Op.slice 9 (.tmp 0) (some (.tmp 1)) (some (.tmp 2)) none) 9 [v65_57,v66_58,v72_64] (a0p C_52 0) (fun v73_65=>
 a0a Tryz.prog 126 #[v62_54,v63_55,v73_65] (fun v74_66 w=>C_52 1 w ∧ (
 oM Tryz.prog (Go.Op.fieldAddr 178 (.tmp 0) 1) 0 [v6_32] (fun v75_67 w=>C_52 2 w ∧ (
 oM Tryz.prog (Go.Op.store 9 (.tmp 0) (.tmp 1)) 0 [v75_67,v74_66] (fun _ w=>C_52 3 w ∧ (
 a4t w (fun C_68 w=>(a0g a0 (a0p C_68 0) (fun v76_69=>
 oH Tryz.prog (Go.Op.nilCheck (.tmp 0)) 0 [v76_69] (a0p C_68 0) (fun v77_70=>
 oH Tryz.prog (Go.Op.fieldAddr 135 (.tmp 0) 0) 0 [v77_70] (a0p C_68 0) (fun v78_71=>
 oH Tryz.prog (Go.Op.load 131 (.tmp 0)) 131 [v78_71] (a0p C_68 0) (fun v79_72=>
 oH Tryz.prog (Go.Op.fieldAddr 176 (.tmp 0) 0) 0 [v5_20] (a0p C_68 0) (fun v80_73=>
 oH Tryz.prog (Go.Op.load 3 (.tmp 0)) 3 [v80_73] (a0p C_68 0) (fun v81_74=>
 oH Tryz.prog (Go.Op.load 178 (.tmp 0)) 178 [v6_32] (a0p C_68 0) (fun v82_75=>
 oM Tryz.prog (Go.Op.mapUpdate 131 (.tmp 0) (.tmp 1) (.tmp 2)) 0 [v79_72,v81_74,v82_75] (fun _ w=>C_68 1 w ∧ (
 M_16 [x,v39_31] w)) w))))))))))) w)) w)) w))))))))))))))))) w) w) w) w) w) w) w) w) w) w) w) w) w) w) w) w) w) w))) w)) w))))))))))))) w) w) w) w)
theorem c3j (keep:List Int) (q:List (Int × Int)) (p:Int × Int) (F:Int → Bs × Bs) (i:Nat):a2z keep F i (q ++ [p]) = a6h keep (a2z keep F i q) (i + q.length) p:=by
 induction q generalizing F i with
 | nil=>rfl
 | cons r q ih=>
  show a2z keep (a6h keep F i r) (i + 1) (q ++ [p]) = a6h keep (a2z keep (a6h keep F i r) (i + 1) q) (i + (q.length + 1)) p
  rw [ih]
  congr 1
  omega
section
variable {w:World} {b:Nat} {A:Ab} {h:Dk} {K:VK}
theorem IsDk.reF (d:IsDk w b A h) {F:Int → Bs × Bs} (e:F = A.F):IsDk w b { A with F:=F } h:=by
 rw [e]; exact d
set_option maxHeartbeats 1000000 in
theorem e9p {n m i:Nat} {p:Int × Int} {M:List Value → World → Prop} (d:IsDk w b A h) (hp:w.heap[n]? = some (.cells #[.int .i64 p.1,.int .i64 p.2] 176 (0,0))) {cur:Array Value} (hm:w.heap[m]? = some (.cells cur 178 (0,0))) (hc0:cur[0]? = some (bsV (A.F p.1).1)) (hc1:cur[1]? = some (bsV (A.F p.1).2)) (hs:cur.size = 2)
  (hn:¬ Own b h n) (hm':¬ Own b h m) (hm2:¬ Rdb h m) (hnm:n ≠ m) (h0:0 ≤ p.2 ∧ p.2 < 262144) (hi:i < 2 ^ 40) {kv:Value} {kl:List Int} (hkr:RowR intC 1 w kv kl) (hkl:kl.length < 2 ^ 62)
  (k:∀ w',IsDk w' b { A with F:=a6h kl A.F i p } h → Fr (fun j=>Own b h j ∨ j = m) w w' → M [.int .i64 (i:Int),.int .i64 (64 * p.2)] w'):g5l (dkP b) kv (.pointer (some ⟨n,0,none⟩)) (.pointer (some ⟨m,0,none⟩)) (.int .i64 (64 * p.2)) (.int .i64 (i:Int)) M w:=by
 unfold g5l
 have z7:=a0b hm 0
 have z71:=a0b hm 1
 have hsz:=d.wf.sz p.1
 have hlen:(A.F p.1).1.length ≤ 16777216:=hsz.1
 rw [hc0] at z7
 rw [hc1] at z71
 obtain ⟨ad,c,rfl,h0',hc⟩:=id hkr
 by_cases hkn:kl = []
 ·subst hkn
  have hsv:a6h [] A.F i p = A.F:=by unfold a6h; rw [if_pos (.inl rfl)]
  refine Xc0 ?_
  exact k w (d.reF hsv) (Fr.refl _ _)
 ·rcases hc with hc | ⟨kb,ko,rfl,hkb,hc⟩
  ·exact absurd hc hkn
  have hkpos:0 < kl.length:=List.length_pos_iff.2 hkn
  have hmod:((i:Int)).tmod (kl.length:Int) = ((i % kl.length:Nat):Int):=by
   rw [g9m _ _ (by omega)]; rfl
  have hml:i % kl.length < kl.length:=Nat.mod_lt _ hkpos
  have hki:=hc (i % kl.length) (c9q kl[i % kl.length]) (by rw [show a3a intC kl = kl.map c9q from c9t c9q kl]; simp [hml])
  unfold c9q at hki
  have hixk:(Instr.indexAt 24 (.slice (some ⟨kb,ko,none⟩) kl.length c) (.int .i64 ((i % kl.length:Nat):Int))).run Tryz.prog w = .ok (.pointer (some ⟨kb,ko + i % kl.length,none⟩)) w:=by
   rw [run_indexAt_slice (h:=by kernel_rfl),if_pos (by omega)]
   have hs:(sizeOf (Tryz.prog.elem 24)).run Tryz.prog w = .ok 1 w:=by kernel_rfl
   rw [hs]
   simp only [Result.andThen,Int.toNat_natCast,a4n,Nat.mul_one]
  rw [Int.natCast_emod] at hixk
  have hgd:kl.getD (i % kl.length) 0 = kl[i % kl.length]:=by simp [List.getD,hml]
  clear hkr hc h0'
  obtain ⟨kx,hkx⟩:∃ kx,kx = kl[i % kl.length]:=⟨_,rfl⟩
  rw [← hkx] at hki hgd
  clear hkx
  repeat (any_goals (first
  | (with_reducible first|refine a0v ?_|((refine a9c ?_); ((refine a6c ?_); first|refine zI ?_|refine zJ ?_|refine zK (fun hg=>?_) fun hg=>?_))|((refine a2x ?_); first|refine yD ?_|refine yE ?_)|((refine a1n ?_); first|refine yL ?_|refine yP (fun hg=>?_) fun hg=>?_))
  | ((with_reducible refine oG fun X Y=>?_); simp [go_sem,hmod,hixk,hki,z7,z71]; (first|refine Y _ _ ?_|refine And.intro (by omega) (Y _ _ ?_)); clear Y X)))
  ·have hsv:a6h kl A.F i p = A.F:=by unfold a6h; rw [if_pos (.inr (.inl (by rw [hgd]; assumption)))]
   exact k w (d.reF hsv) (Fr.refl _ _)
  ·have hsv:a6h kl A.F i p = A.F:=by unfold a6h; rw [if_pos (.inr (.inr (by assumption)))]
   exact k w (d.reF hsv) (Fr.refl _ _)
  ·have hbig:¬ ((A.F p.1).1.length:Int) ≤ 64 * p.2:=by assumption
   have hodd:¬ kx % 2 = 0:=by assumption
   have hsv:a6h kl A.F i p = b1c A.F p.1 ((A.F p.1).1,b0f (A.F p.1).2 (64 * p.2).toNat (DkSpec.sector (A.F p.1).1 p.2)):=by
    unfold a6h
    rw [if_neg]
    rw [hgd]
    rintro (h | h | h)
    ·exact hkn h
    ·exact hodd h
    ·exact hbig h
   refine e0a (n:=n) (m:=m) (p:=p) d hp hm hc0 hc1 hs hn hm' hm2 hnm h0 (by omega) (fun w8 d8 f8=>?_)
   refine k w8 ?_ f8
   rw [hsv]
   exact d8
set_option maxHeartbeats 1000000 in
theorem e0b {i:Nat} {p:Int × Int} {M:List Value → World → Prop} (d:IsDk w b A h) {qa:Option Addr} {qc:Nat} (hq:h.q = .slice qa A.queue.length qc) (hqi:A.queue[i]? = some p) {kv:Value} {kl:List Int} (hkr:RowR intC 1 w kv kl) (hkl:kl.length < 2 ^ 62)
  (k:∀ w' (at_:Int),IsDk w' b { A with F:=a6h kl A.F i p } h → Step w b h w' h → M [.int .i64 (i:Int),.int .i64 at_] w'):f7o (dkP b) kv (.slice qa A.queue.length qc) (.int .i64 (i:Int)) M w:=by
 unfold f7o
 have hlt:i < A.queue.length:=(gS hqi).1
 have hql:=d.wf.ql
 have hpr:=d.wf.qr p (List.mem_of_getElem? hqi)
 have ho3:=d.que
 rw [hq] at ho3
 obtain ⟨g,c,hv,e0,e1⟩:=c3f ho3 hqi
 cases hv
 have hix:=c9w (c:=qc) (g:=g) hlt w
 refine Xg (An3 @hix @e0 @e1) ?_
 have pf:Fr (fun _=>False) w (w.alloc (.cells #[.int .i64 p.1,.int .i64 p.2] 176 (0,0))):=(Fr.refl _ _).alloc _
 have p0:=heap_alloc_new w (.cells #[.int .i64 p.1,.int .i64 p.2] 176 (0,0))
 have pz:=a0z w (.cells #[.int .i64 p.1,.int .i64 p.2] 176 (0,0))
 generalize w.alloc (.cells #[.int .i64 p.1,.int .i64 p.2] 176 (0,0)) = w4 at *
 have d4:=d.fresh pf
 have p00:=a0b p0 0
 have p01:=a0b p0 1
 simp at p00 p01
 have c0:=d4.c 0
 simp only [a1l] at c0
 have lk:∀ W:World,IsDk W b A h → _:=fun W hW=>hW.look p.1
 simp only [flV,bsV] at lk
 have hwr:IntKind.i64.wrap (p.2 * 64) = 64 * p.2:=by rw [a0u _ (by omega) (by omega)]; omega
 refine ⟨fun sg w'=>sg ≤ 2 → IsDk w' b A h ∧ w'.heap[w.heap.size]? = some (.cells #[.int .i64 p.1,.int .i64 p.2] 176 (0,0)),fun _=>⟨d4.heap rfl,p0⟩,?_⟩
 repeat (first | (with_reducible refine pX ?_) | (with_reducible refine a4g ?_) | (with_reducible refine a3b rfl ?_) | (with_reducible refine a2i rfl ?_) | (refine a3h ⟨_,rfl⟩ (fun W0 hW0=>by (obtain ⟨s0,hs0,hC⟩:=hW0); (refine oG (fun X Y=>?_)); simp [go_sem,a0b (hC (by omega)).1.blk,a0b (hC (by omega)).2,a1l,lk W0 (hC (by omega)).1,hwr]; (first | exact Y _ _ ⟨rfl,rfl⟩ | exact ⟨by omega,Y _ _ ⟨rfl,rfl⟩⟩)) ?_))
 generalize hw5:({ w4 with drawn:=w4.drawn + 1 }:World) = w5
 have f35:Fr (fun _=>False) w w5:=by rw [← hw5]; exact pf.drew
 have d5:=d.fresh f35
 have p5:w5.heap[w.heap.size]? = some (.cells #[.int .i64 p.1,.int .i64 p.2] 176 (0,0)):=by rw [← hw5]; exact p0
 clear hw5
 refine Xc0 ?_
 have z35:=f35.size
 have p5l:=(Array.getElem?_eq_some_iff.1 p5).1
 have g6:Fr (fun _=>False) w5 (w5.alloc (.cells #[.string ⟨#[]⟩,.string ⟨#[]⟩] 178 (0,0))):=(Fr.refl _ _).alloc _
 have n6:=heap_alloc_new w5 (.cells #[.string ⟨#[]⟩,.string ⟨#[]⟩] 178 (0,0))
 generalize w5.alloc (.cells #[.string ⟨#[]⟩,.string ⟨#[]⟩] 178 (0,0)) = w6 at *
 refine ⟨fun _=>⟨d5.fresh g6,(g6.block _ p5l (fun h=>h)).trans p5⟩,?_⟩
 refine b6a (fun w=>by kernel_rfl) rfl rfl n6 (by simp) (fun w7 cur7 g7 n7 s7 _ a7 b7=>?_)
 have f7:Fr (fun _=>False) w5 w7:=g6.by g7 (fun i hi=>by cases hi; exact .inr (rL))
 have f37:=f35.trans f7 (fun _ h=>h.elim)
 have d7:=d.fresh f37
 have p7:=(f7.block _ p5l (fun h=>h)).trans p5
 refine ⟨fun _=>⟨d7,p7⟩,fun hs=>absurd hs (by decide),?_⟩
 rw [Nat.zero_add] at b7
 have hz37:=f37.size
 have hown:∀ i,Own b h i ∨ Rdb h i → i < w.heap.size:=fun i hi=>d.lt hi
 have hkr7:RowR intC 1 w7 kv kl:=hkr.keep hz37 (fun i _ hi=>f37.block i hi (fun h=>h))
 refine e9p (n:=w.heap.size) (m:=w5.heap.size) (p:=p) d7 p7 n7 a7 b7 (by rw [s7]; rfl) (fun e=>by have:=hown _ (.inl e); omega) (fun e=>by have:=hown _ (.inl e); omega) (fun e=>by have:=hown _ (.inr e); omega) (by omega) ⟨hpr.2.2.1,hpr.2.2.2⟩ (by omega) hkr7 hkl (fun w8 d8 f8=>?_)
 exact k w8 _ d8 ⟨(f37.mono (fun i _ hi=>hi.elim)).trans f8 (fun i hi=>hi.elim .inl (fun e=>.inr (by omega))),fun _ h=>.inl h,fun _ h=>.inl h⟩
set_option maxHeartbeats 1000000 in
theorem c9x (d:IsDk w b A h) {kv:Value} {kl:List Int} (hkr:RowR intC 1 w kv kl) (hkl:kl.length < 2 ^ 62) (hkv:∀ w',Fr (Own b h) w w' → RowR intC 1 w' kv kl) (k:∀ w' h',IsDk w' b (a4p A kl) h' → Step w b h w' h' → K (.tuple #[]) w'):a0a Tryz.prog 46 #[dkP b,kv] K w:=by
 apply e6j
 unfold g2p
 have c4:=d.c 4
 have f4:=d.fz 4
 simp only [a1l] at c4
 have d1:=d.set4 true
 have c5:=d1.c 5
 have f5:=d1.fz 5
 simp only [a1l] at c5
 have d2:=d1.set5 0 (by omega)
 have c1:=d2.c 1
 simp only [a1l] at c1
 obtain ⟨qa,qc,hq⟩:=a2a d.que
 repeat (any_goals (first
 | (with_reducible ((refine a1n ?_); refine yY (fun hg=>?_) fun hg=>?_))
 | ((with_reducible refine oG fun X Y=>?_); simp [go_sem,c4,f4,c5,f5,c1,hq]; apply Y; clear Y X)))
 ·have e:a4p A kl = A:=by unfold a4p; rw [if_pos hg]
  rw [e] at k
  exact k w h d (Step.refl _ _ _)
 have hdown:A.down = false:=hg
 have t2:Step w b h ((w.setCell ⟨b,4,none⟩ (.bool true)).setCell ⟨b,5,none⟩ (.int .i64 0)) h:=(b2n _ _ _ _ _).trans (b2n _ _ _ _ _)
 generalize (w.setCell ⟨b,4,none⟩ (.bool true)).setCell ⟨b,5,none⟩ (.int .i64 0) = w2 at *
 refine ⟨fun l w'=>∃ u1 u2,∃ i:Nat,l = [u1,u2,.int .i64 (i:Int)] ∧ i ≤ A.queue.length ∧ IsDk w' b { A with F:=a2z kl A.F 0 (A.queue.take i),down:=true,armed:=0 } h ∧ Step w b h w' h,fun l _=>match l with | [_,_,.int _ n]=>((A.queue.length:Int) - n).toNat | _=>0,⟨_,_,0,rfl,by omega,d2,t2⟩,?_⟩
 rintro l u w3 ⟨u1,u2,i,rfl,hin,d3,t3⟩
 have hqlen:=d.wf.ql
 simp only [List.getD_cons_zero,List.getD_cons_succ]
 repeat (any_goals (first
 | (with_reducible ((refine a1n ?_); refine yP (fun hg=>?_) fun hg=>?_))
 | ((with_reducible refine oG fun X Y=>?_); simp [go_sem]; apply Y; clear Y X)))
 ·have hlt:i < A.queue.length:=by omega
  obtain ⟨Fi,hFi⟩:∃ Fi,Fi = a2z kl A.F 0 (A.queue.take i):=⟨_,rfl⟩
  rw [← hFi] at d3
  obtain ⟨p,hp⟩:∃ p,p = A.queue[i]:=⟨_,rfl⟩
  have hqi:A.queue[i]? = some p:=by rw [hp]; exact gE hlt
  have hnext:a2z kl A.F 0 (A.queue.take (i + 1)) = a6h kl Fi i p:=by
   rw [List.take_succ_eq_append_getElem hlt,c3j,← hFi,hp,List.length_take,Nat.zero_add,Nat.min_eq_left (by omega)]
  have hkr3:RowR intC 1 w3 kv kl:=hkv _ t3.fr
  refine ⟨fun l w'=>∃ u1,∃ at_:Int,l = [u1,.int .i64 at_] ∧ IsDk w' b { A with F:=a2z kl A.F 0 (A.queue.take (i + 1)),down:=true,armed:=0 } h ∧ Step w b h w' h,?_,?_⟩
  ·refine e0b (M:=fun l w'=>∃ u1,∃ at_:Int,l = [u1,.int .i64 at_] ∧ IsDk w' b { A with F:=a2z kl A.F 0 (A.queue.take (i + 1)),down:=true,armed:=0 } h ∧ Step w b h w' h) (p:=p) d3 hq hqi hkr3 hkl (fun w' at_ d' t'=>⟨_,at_,rfl,?_,t3.trans t'⟩)
   rw [hnext]
   exact d'
  ·rintro l u w4 ⟨u3,at_,rfl,d4,t4⟩
   simp only [List.getD_cons_zero,List.getD_cons_succ]
   repeat (any_goals ((with_reducible refine oG fun X Y=>?_); simp [go_sem]; (try simp (disch:=omega) only [a0u,a2y,a1r]); apply Y; clear Y X))
   refine ⟨⟨_,_,i + 1,rfl,by omega,d4,t4⟩,?_⟩
   show ((A.queue.length:Int) - ((i:Int) + 1)).toNat < ((A.queue.length:Int) - (i:Int)).toNat
   omega
 ·have hi:i = A.queue.length:=by omega
  subst hi
  rw [List.take_of_length_le (rL)] at d3
  have e:a4p A kl = { ({ A with F:=a2z kl A.F 0 A.queue,down:=true,armed:=0 }:Ab) with F:=fun f=>((a2z kl A.F 0 A.queue f).2,(a2z kl A.F 0 A.queue f).2),queue:=[] }:=by
   unfold a4p
   rw [if_neg (by rw [hdown]; simp)]
  rw [e] at k
  exact e9o d3 (fun w' h' d' t'=>k w' h' d' (t3.trans t'))
end
end Go.Proofs
namespace Go.Proofs
open Go Go.Sh Go.RowKit DkSpec
attribute [local go_sem] a2b
section
variable {w:World} {b:Nat} {A:Ab} {h:Dk} {K:VK}
theorem c7f {B:Nat} {e:TypeId} {sz:Nat} {v:Value} {n:Nat} {xs:List Value} (ho:w.ownsRow B e sz v n xs) {i:Nat} (hi:Value.inBlock v = some i):v.ownBlock = some i:=by
 rcases ho.2 with ⟨rfl,_⟩ | ⟨g,cap,cur,rfl,_⟩
 ·cases hi
 ·cases hi; rfl
theorem IsDk.keepRow (d:IsDk w b A h):RowR intC 1 w h.kp A.keep:=by
 have:=d.kep
 rw [show A.keep.map c9q = a3a intC A.keep from (c9t c9q A.keep).symm] at this
 exact RowR.of_owns this
theorem b6b (d:IsDk w b A h) (k:∀ w' h',IsDk w' b (a4p A A.keep) h' → Step w b h w' h' → K (.tuple #[]) w'):a0a Tryz.prog 46 #[dkP b,h.kp] K w:=
 c9x d d.keepRow d.wf.kl (fun w' f=>d.keepRow.keep f.size (fun i hi hlt=>f.block i hlt (fun ho=>by
  have hk:=c7f d.kep hi
  have:=d.kne hk
  rcases ho with rfl | rfl | rfl | ho
  ·exact this.1 rfl
  ·exact this.2.1 rfl
  ·exact this.2.2.1 rfl
  ·exact this.2.2.2 ho))) k
theorem e9q (d:IsDk w b A h) (f at_:Int) (s:Bs) (hs:s.length < 2 ^ 60) (hat:-2 ^ 63 ≤ at_ ∧ at_ < 2 ^ 63) (k:∀ w' h',IsDk w' b (a7n A f at_ s).2 h' → Step w b h w' h' → K (.int .i64 (a7n A f at_ s).1) w'):a0a Tryz.prog 193 #[dkP b,.int .i64 f,.int .i64 at_,bsV s] K w:=by
 apply d5y
 unfold f4b
 refine c7b d (fun w1 d1 t1=>?_)
 refine e9g d1 f at_ s hs hat (fun w2 h2 d2 t2=>?_)
 have t02:=t1.trans t2
 unfold a7n at k
 cases he:(a4b A).1 with
 | false=>
  rw [he] at k
  simp only [Bool.false_eq_true,if_false] at k
  refine Xc0 ?_
  exact k w2 h2 d2 t02
 | true=>
  rw [he] at k
  simp only [if_true] at k
  have c6:=d2.c 6
  simp only [a1l] at c6
  repeat (any_goals (first
  | (with_reducible refine b6b d2 ?_)
  | (with_reducible refine yL ?_)
  | ((with_reducible refine oG fun X Y=>?_); simp [go_sem,c6]; apply Y; clear Y X)))
  intro w3 h3 d3 t3
  refine Xc0 ?_
  exact k w3 h3 d3 (t02.trans t3)
theorem e0c (d:IsDk w b A h) (f:Int) (k:∀ w' h',IsDk w' b (a3y A f).2 h' → Step w b h w' h' → K (.int .i64 (a3y A f).1) w'):a0a Tryz.prog 89 #[dkP b,.int .i64 f] K w:=by
 apply e6l
 unfold g2r
 refine ⟨fun l w'=>l = [] ∧ ∃ h',IsDk w' b (a1g A) h' ∧ Step w b h w' h',?_,?_⟩
 ·refine c7b d (fun w1 d1 t1=>?_)
  unfold a1g
  cases he:(a4b A).1 with
  | false=>
   simp only [Bool.false_eq_true,if_false]
   refine Xc0 ?_
   exact ⟨by first | trivial | rfl,h,d1,t1⟩
  | true=>
   simp only [if_true]
   have c6:=d1.c 6
   simp only [a1l] at c6
   repeat (any_goals (first
   | (with_reducible refine b6b d1 ?_)
   | (with_reducible refine yL ?_)
   | ((with_reducible refine oG fun X Y=>?_); simp [go_sem,c6]; apply Y; clear Y X)))
   intro w3 h3 d3 t3
   exact ⟨by first | trivial | rfl,h3,d3,t1.trans t3⟩
 ·rintro l u w1 ⟨rfl,h1,d1,t1⟩
  refine c9r d1 f ?_
  have c0:=d1.c 0
  have c3:=d1.c 3
  have f3:=d1.fz 3
  simp only [a1l] at c0 c3
  have hl:=d1.look f
  have l0:=d1.wf.l0
  have l1:=d1.wf.l1
  unfold a3y at k
  repeat (any_goals (first
  | (with_reducible ((refine a1n ?_); first|refine yP (fun hg=>?_) fun hg=>?_|refine yS (fun hg=>?_) fun hg=>?_))
  | ((with_reducible refine oG fun X Y=>?_); simp [go_sem,c0,c3,f3,hl,flV,bsV]; (try simp (disch:=omega) only [a0u,a2y,a1r]); apply Y; clear Y X)))
  ·rename_i hm
   rw [if_neg (by omega),if_pos hg] at k
   exact k _ _ (d1.set3 ((a1g A).lost - 1) (by omega)) (t1.trans (b2n _ _ _ _ _))
  ·rename_i hm
   rw [if_neg (by omega),if_neg hg] at k
   refine c3h d1 f ((a1g A).F f).1 (d1.wf.sz f).1 (fun w2 h2 d2 t2=>?_)
   refine Xc0 ?_
   exact k w2 h2 d2 (t1.trans t2)
  ·rw [if_pos hg] at k
   exact k _ _ d1 t1
theorem c9y (d:IsDk w b A h) (f n:Int) (k:∀ w' h',IsDk w' b (a5a A f n).2 h' → Step w b h w' h' → K (.int .i64 (a5a A f n).1) w'):a0a Tryz.prog 184 #[dkP b,.int .i64 f,.int .i64 n] K w:=by
 apply d5x
 unfold f4a
 refine ⟨fun l w'=>l = [] ∧ ∃ h',IsDk w' b (a1g A) h' ∧ Step w b h w' h',?_,?_⟩
 ·refine c7b d (fun w1 d1 t1=>?_)
  unfold a1g
  cases he:(a4b A).1 with
  | false=>
   simp only [Bool.false_eq_true,if_false]
   refine Xc0 ?_
   exact ⟨by first | trivial | rfl,h,d1,t1⟩
  | true=>
   simp only [if_true]
   have c6:=d1.c 6
   simp only [a1l] at c6
   repeat (any_goals (first
   | (with_reducible refine b6b d1 ?_)
   | (with_reducible refine yL ?_)
   | ((with_reducible refine oG fun X Y=>?_); simp [go_sem,c6]; apply Y; clear Y X)))
   intro w3 h3 d3 t3
   exact ⟨by first | trivial | rfl,h3,d3,t1.trans t3⟩
 ·rintro l u w1 ⟨rfl,h1,d1,t1⟩
  refine c9r d1 f ?_
  have c0:=d1.c 0
  simp only [a1l] at c0
  have hl:=d1.look f
  unfold a5a at k
  repeat (any_goals (first
  | (with_reducible refine d9t d1 f ?_)
  | (with_reducible first|refine a0v ?_|((refine a9c ?_); ((refine a6c ?_); first|refine zI ?_|refine zJ ?_|refine zK (fun hg=>?_) fun hg=>?_))|((refine a2x ?_); first|refine yD ?_|refine yE ?_)|((refine a1n ?_); first|refine yL ?_|refine yP (fun hg=>?_) fun hg=>?_|refine yS (fun hg=>?_) fun hg=>?_))
  | ((with_reducible refine oG fun X Y=>?_); simp [go_sem,c0,hl,flV,bsV]; (first|refine Y _ _ ?_|refine And.intro (by omega) (Y _ _ ?_)); clear Y X)))
  ·rename_i hm
   rw [if_neg (by omega),if_pos (.inl hg)] at k
   exact k _ _ d1 t1
  ·rename_i hm h0
   rw [if_neg (by omega),if_pos (.inr (by omega))] at k
   exact k _ _ d1 t1
  ·rename_i hm h0
   rw [if_neg (by omega),if_neg (by omega)] at k
   have hsz:=(d1.wf.sz f).1
   have e:(⟨((a1g A).F f).1.toArray⟩:ByteArray).extract 0 n.toNat = ⟨(((a1g A).F f).1.take n.toNat).toArray⟩:=by
    rw [c9s]; simp
   try rw [e]
   refine c3h d1 f (((a1g A).F f).1.take n.toNat) (by simp; omega) (fun w2 h2 d2 t2=>?_)
   refine Xc0 ?_
   exact k w2 h2 d2 (t1.trans t2)
  ·rw [if_pos hg] at k
   exact k _ _ d1 t1
end
end Go.Proofs
namespace Go.Proofs
open Go Go.Sh Go.RowKit CodeSpec JnSpec DkSpec
attribute [local go_sem] a2b
def JO (p:Nat) (v:Value) (i:Nat):Prop:=i = p ∨ v.ownBlock = some i
def a5y (b:Nat) (f:Int) (v:Value) (j:Jn):Array Value:=#[dkP b,.int .i64 f,v,.int .i64 (j.bytes:Int),.bool j.broken]
structure IsJn (w:World) (b:Nat) (h:Dk) (p:Nat) (f:Int) (j:Jn) (v:Value):Prop where
 blk:w.heap[p]? = some (.cells (a5y b f v j) 211 (0,0))
 row:w.ownsRow 0 9 1 v j.recs.length (j.recs.map Cd.strV)
 sep:∀ i,JO p v i → ¬ Own b h i ∧ ¬ Rdb h i
 six:∀ i,JO p v i → 8 ≤ i
 len:j.recs.length ≤ j.bytes ∧ j.bytes ≤ 16777216
structure Sys (w:World) (b:Nat) (A:Ab) (h:Dk):Prop where
 d:IsDk w b A h
 l:Cd.LaidE w
 six:∀ i,Own b h i → 8 ≤ i
section
variable {w w':World} {b p:Nat} {A A':Ab} {h h':Dk} {f:Int} {j j':Jn} {v v':Value} {K:VK}
theorem Sys.step (s:Sys w b A h) (d:IsDk w' b A' h') (t:Step w b h w' h'):Sys w' b A' h':=
 ⟨d,s.l.keep (fun k hk=>t.fr.block k (by have:=s.l.size; omega) (fun ho=>by have:=s.six k ho; omega)) t.fr.size,fun i hi=>(t.own i hi).elim (s.six i) (fun hn=>by have:=s.l.size; omega)⟩
theorem Sys.fresh (s:Sys w b A h) {S:Nat → Prop} (f:Fr S w w') (hs:∀ i,S i → ¬ (Own b h i ∨ Rdb h i) ∧ 8 ≤ i):Sys w' b A h:=
 ⟨s.d.keep (fun i hi=>f.block i (s.d.lt hi) (fun hx=>(hs i hx).1 hi)),s.l.keep (fun k hk=>f.block k (by have:=s.l.size; omega) (fun hx=>by have:=(hs k hx).2; omega)) f.size,s.six⟩
theorem Sys.below (s:Sys w b A h) (f:Bw w w'):Sys w' b A h:=
 s.fresh (S:=fun _=>False) ⟨f.os,f.tape,f.output,f.size,fun i hi _=>f.block i hi⟩ (fun _ h=>h.elim)
theorem IsJn.lt (jn:IsJn w b h p f j v) {i:Nat} (hi:JO p v i):i < w.heap.size:=by
 rcases hi with rfl | hi
 ·exact (Array.getElem?_eq_some_iff.1 jn.blk).1
 ·exact (a0x jn.row hi).1
theorem IsJn.pv (jn:IsJn w b h p f j v):v.ownBlock ≠ some p:=fun hp=>by
 obtain ⟨_,_,cur,hc⟩:=a0x jn.row hp
 rw [jn.blk] at hc; cases hc
theorem IsJn.keep (jn:IsJn w b h p f j v) {S:Nat → Prop} (g:Fr S w w') (hs:∀ i,S i → ¬ JO p v i) (ho:∀ i,Own b h' i ∨ Rdb h' i → Own b h i ∨ Rdb h i ∨ w.heap.size ≤ i):IsJn w' b h' p f j v:=by
 have hb:∀ i,JO p v i → w'.heap[i]? = w.heap[i]?:=fun i hi=>g.block i (jn.lt hi) (fun hx=>hs i hx hi)
 refine ⟨by rw [hb p (.inl rfl)]; exact jn.blk,a1j jn.row (fun i hi=>hb i (.inr hi)),fun i hi=>?_,jn.six,jn.len⟩
 have hl:=jn.lt hi
 have hs:=jn.sep i hi
 exact ⟨fun hx=>(ho i (.inl hx)).elim hs.1 (fun hy=>hy.elim hs.2 (fun hz=>by omega)),fun hx=>(ho i (.inr hx)).elim hs.1 (fun hy=>hy.elim hs.2 (fun hz=>by omega))⟩
theorem IsJn.step (jn:IsJn w b h p f j v) (t:Step w b h w' h'):IsJn w' b h' p f j v:=
 jn.keep t.fr (fun i hi hj=>(jn.sep i hj).1 hi) (fun i hi=>hi.elim (fun hx=>(t.own i hx).elim .inl (fun hy=>.inr (.inr hy))) (fun hx=>(t.rd i hx).elim (fun hy=>.inr (.inl hy)) (fun hy=>.inr (.inr hy))))
theorem IsJn.below (jn:IsJn w b h p f j v) (g:Bw w w'):IsJn w' b h p f j v:=
 jn.keep (S:=fun _=>False) ⟨g.os,g.tape,g.output,g.size,fun i hi _=>g.block i hi⟩ (fun _ h=>h.elim) (fun i hi=>hi.elim .inl (fun h=>.inr (.inl h)))
theorem IsJn.c (jn:IsJn w b h p f j v) (i:Nat):w.cell? ⟨p,i,none⟩ = (a5y b f v j)[i]?:=a0b jn.blk i
theorem IsJn.fz (jn:IsJn w b h p f j v) (i:Nat):w.frozen? ⟨p,i,none⟩ = false:=a1d jn.blk i
@[reducible] def jnP (p:Nat):Value:=.pointer (some ⟨p,0,none⟩)
end
end Go.Proofs
namespace Go.Proofs
open Go Go.Sh Go.RowKit CodeSpec JnSpec DkSpec
section
variable {w w':World} {b p:Nat} {A A':Ab} {h h':Dk} {f:Int} {j j':Jn} {v v':Value} {K:VK}
theorem g5g (jn:IsJn w b h p f j v) (k:∀ v' w',w'.ownsRow w.heap.size 9 1 v' j.recs.length (j.recs.map Cd.strV) → Bw w w' → K v' w'):a0a Tryz.prog 116 #[jnP p] K w:=by
 apply d6k
 unfold f4n jnP
 have c2:=jn.c 2
 simp only [a5y] at c2
 have hlen:=jn.len
 have hrow:=jn.row
 obtain ⟨va,vc,rfl⟩:=a2a hrow
 have hmk:=run_make (P:=Tryz.prog) w 60 9 Tryz.t9 (.string ⟨#[]⟩) Tryz.underlying60 (by kernel_rfl) (by kernel_rfl) .i64 .i64 (j.recs.length:Int) (j.recs.length:Int) (by omega) (Int.le_refl _) (by
  have:Tryz.t9.bytes = 16:=by kernel_rfl
  rw [this]; omega) (by omega)
 simp only [Int.toNat_natCast] at hmk
 have hsz:Tryz.t9.size = 1:=by kernel_rfl
 rw [hsz,Nat.mul_one] at hmk
 obtain ⟨cs,hcs⟩:∃ cs,cs = madeCells (Value.string ⟨#[]⟩).cells j.recs.length:=⟨_,rfl⟩
 have hcz:cs.size = j.recs.length:=by rw [hcs]; simp [madeCells]
 rw [← hcs] at hmk
 have hb1:Below w.heap.size w (w.alloc (.cells cs 9)):=(bR).alloc (rL) _
 have h1:=heap_alloc_new w (.cells cs 9)
 have jn1:=jn.below hb1
 have c21:=jn1.c 2
 simp only [a5y] at c21
 refine Xa (An2 @c2 @hmk) ?_
 generalize w.alloc (.cells cs 9) = w1 at *
 by_cases hn:j.recs.length = 0
 ·have hcp:=run_copy_none (P:=Tryz.prog) w1 60 60 3 9 (some ⟨w.heap.size,0,none⟩) va j.recs.length j.recs.length j.recs.length vc Tryz.underlying60 (by kernel_rfl) (by rw [hn]; rfl)
  refine Xa (An2 @c21 @hcp) ?_
  have e0:j.recs = []:=List.length_eq_zero_iff.1 hn
  refine k _ w1 ⟨by simp,.inr ⟨_,_,_,rfl,rL,h1,rL,by unfold maxLen; omega,by omega,by rw [hn,e0]; simp⟩⟩ hb1
 ·obtain ⟨g,cap,cur,hv,hg,_,hcur,hcs2,hnc,hcell⟩:=a3u jn1.row (by omega)
  cases hv
  have hxl:(j.recs.map Cd.strV).length = j.recs.length:=by simp
  have hcp:=run_copy_row (P:=Tryz.prog) w1 60 60 3 9 w.heap.size 0 j.recs.length j.recs.length ⟨g,0,none⟩ j.recs.length vc cs 9 (j.recs.map Cd.strV) Tryz.underlying60 (by kernel_rfl) h1 (by rw [hxl]; exact (Nat.min_self _).symm) (fun i x hx=>by
   rw [Cd.addr_add,Nat.zero_add]; exact hcell i x hx) (by omega) (by
   intro x hx
   obtain ⟨s,_,rfl⟩:=List.mem_map.1 hx
   rfl)
  refine Xa (An2 @c21 @hcp) ?_
  have e1:cs.toList.drop j.recs.length = []:=List.drop_eq_nil_of_le (by simp; omega)
  rw [e1,List.append_nil]
  have h2:=setRow_heap w1 w.heap.size cs (j.recs.map Cd.strV).toArray 9 (0,0) h1
  refine k _ _ ⟨by simp,.inr ⟨_,_,_,rfl,rL,h2,rL,by unfold maxLen; omega,by simp,by rw [Nat.mul_one,List.take_of_length_le (by simp)]⟩⟩ (hb1.trans (Cd.below_of_grown (a3k _ _ _) hb1.size (fun i hi=>by cases hi; exact rL)))
end
end Go.Proofs
namespace Go.Proofs
open Go Go.Sh Go.RowKit CodeSpec JnSpec DkSpec
structure JSt (w:World) (b:Nat) (h:Dk) (p:Nat) (v:Value) (w':World) (h':Dk) (v':Value):Prop where
 fr:Fr (fun i=>Own b h i ∨ JO p v i) w w'
 own:∀ i,Own b h' i → Own b h i ∨ w.heap.size ≤ i
 rd:∀ i,Rdb h' i → Rdb h i ∨ w.heap.size ≤ i
 jo:∀ i,JO p v' i → JO p v i ∨ w.heap.size ≤ i
def Same (w W:World):Prop:=W.heap = w.heap ∧ W.os = w.os ∧ W.tape = w.tape ∧ W.output = w.output
theorem Same.below {w W:World} (h:Same w W):Bw w W:=⟨h.2.1,h.2.2.1,h.2.2.2,by rw [h.1]; exact rL,fun i _=>by rw [h.1]⟩
section
variable {w w' w2:World} {b p:Nat} {A A':Ab} {h h' h2:Dk} {f:Int} {j j':Jn} {v v' v2:Value} {K:VK}
theorem JSt.refl:JSt w b h p v w h v:=⟨Fr.refl _ _,fun _ h=>.inl h,fun _ h=>.inl h,fun _ h=>.inl h⟩
theorem JSt.of_step (t:Step w b h w' h'):JSt w b h p v w' h' v:=⟨t.fr.mono (fun _ _ h=>.inl h),t.own,t.rd,fun _ h=>.inl h⟩
theorem JSt.trans (t:JSt w b h p v w' h' v') (u:JSt w' b h' p v' w2 h2 v2):JSt w b h p v w2 h2 v2:=
 ⟨t.fr.trans u.fr (fun i hi=>hi.elim (fun h=>(t.own i h).elim (fun h=>.inl (.inl h)) .inr) (fun h=>(t.jo i h).elim (fun h=>.inl (.inr h)) .inr)),
  fun i hi=>(u.own i hi).elim (t.own i) (fun h=>.inr (Nat.le_trans t.fr.size h)),
  fun i hi=>(u.rd i hi).elim (t.rd i) (fun h=>.inr (Nat.le_trans t.fr.size h)),
  fun i hi=>(u.jo i hi).elim (t.jo i) (fun h=>.inr (Nat.le_trans t.fr.size h))⟩
theorem JSt.below (g:Bw w w'):JSt w b h p v w' h v:=⟨⟨g.os,g.tape,g.output,g.size,fun i hi _=>g.block i hi⟩,fun _ h=>.inl h,fun _ h=>.inl h,fun _ h=>.inl h⟩
theorem IsJn.set4 (jn:IsJn w b h p f j v) (t:Bool):IsJn (w.setCell ⟨p,4,none⟩ (.bool t)) b h p f { j with broken:=t } v:=by
 refine ⟨by rw [a3r jn.blk]; rfl,a1j jn.row (fun i hi=>a0q _ _ _ _ (fun e=>jn.pv (by rw [hi]; exact congrArg some e))),jn.sep,jn.six,jn.len⟩
theorem JSt.set (i:Nat) (u:Value):JSt w b h p v (w.setCell ⟨p,i,none⟩ u) h v:=⟨(Fr.refl _ _).set _ _ (.inl (.inr (.inl rfl))),fun _ h=>.inl h,fun _ h=>.inl h,fun _ h=>.inl h⟩
theorem Sys.set (s:Sys w b A h) (jn:IsJn w b h p f j v) (i:Nat) (u:Value):Sys (w.setCell ⟨p,i,none⟩ u) b A h:=
 s.fresh (S:=fun k=>k = p) ((Fr.refl _ _).set _ _ (.inl rfl)) (fun k hk=>by
  subst hk
  have h1:=jn.sep k (.inl rfl)
  exact ⟨fun h=>h.elim h1.1 h1.2,jn.six k (.inl rfl)⟩)
theorem Sys.drew (s:Sys w b A h):Sys { w with drawn:=w.drawn + 1 } b A h:=s.fresh (S:=fun _=>False) ((Fr.refl _ _).drew) (fun _ h=>h.elim)
theorem e9b (s:Sys w b A h) (jn:IsJn w b h p f j v) (k:∀ w' h',Sys w' b (a6s A f j).2.1 h' → IsJn w' b h' p f (a6s A f j).2.2 v → JSt w b h p v w' h' v → K (.int .i64 (a6s A f j).1) w'):a0a Tryz.prog 93 #[jnP p] K w:=by
 apply e6m
 unfold g2s jnP
 have c0:=jn.c 0
 have c1:=jn.c 1
 have c4:=jn.c 4
 simp only [a5y] at c0 c1 c4
 cases hb:j.broken with
 | true=>
  rw [hb] at c4
  unfold a6s at k
  rw [if_pos hb] at k
  refine Xa @c4 ?_
  exact k w h s jn JSt.refl
 | false=>
  rw [hb] at c4
  unfold a6s at k
  rw [if_neg (by rw [hb]; simp)] at k
  refine Xa @c4 ?_
  refine ⟨Same w,⟨rfl,rfl,rfl,rfl⟩,?_⟩
  refine ⟨rfl,?_⟩
  repeat (first | (with_reducible refine pX ?_) | (with_reducible refine a4g ?_) | (with_reducible refine a3b rfl ?_) | (with_reducible refine a2i rfl ?_) | (refine a3h ⟨_,rfl⟩ (fun W0 hW0=>by (refine oG (fun X Y=>?_)); simp [go_sem,a6j hW0.1,c0,c1]; (first | exact Y _ _ ⟨rfl,rfl⟩ | exact ⟨by omega,Y _ _ ⟨rfl,rfl⟩⟩)) ?_))
  refine ⟨fun _ _=>True,fun w1 hw1=>?_⟩
  have s1:=s.below hw1.below
  have jn1:=jn.below hw1.below
  refine e0c s1.d f (fun w2 h2 d2 t2=>?_)
  have s2:=s1.step d2 t2
  have jn2:=jn1.step t2
  have c42:=jn2.c 4
  have f42:=jn2.fz 4
  simp only [a5y] at c42
  have e1:(decide ((a3y A f).1 ≠ 0)) = !decide ((a3y A f).1 = 0):=by simp
  refine Xa (An2 @c42 @f42) ?_
  rw [← e1]
  exact k _ h2 (s2.set jn2 4 _) (jn2.set4 _) ((JSt.below hw1.below).trans ((JSt.of_step t2).trans (JSt.set 4 _)))
theorem c3e (s:Sys w b A h) (jn:IsJn w b h p f j v) (hf:0 ≤ f ∧ f ≤ 15) (t:List UInt8) (ht:t.length ≤ 16777216) (k:∀ w' h' v',Sys w' b (a0j A f j t).2.1 h' → IsJn w' b h' p f (a0j A f j t).2.2 v' → JSt w b h p v w' h' v' → K (.int .i64 (a0j A f j t).1) w'):a0a Tryz.prog 119 #[jnP p,.string ⟨t.toArray⟩] K w:=by
 apply d6j
 unfold f4m jnP
 refine d9m t ht s.l (fun w1 hb1=>?_)
 have s1:=s.below hb1
 have jn1:=jn.below hb1
 have j1:JSt w b h p v w1 h v:=JSt.below hb1
 have hfl:=b2p ht
 have hfp:=a8c t
 have hl:=jn.len
 clear hb1 s jn
 have c0:=jn1.c 0
 have c1:=jn1.c 1
 have c3:=jn1.c 3
 have c4:=jn1.c 4
 simp only [a5y] at c0 c1 c3 c4
 cases hb:j.broken with
 | true=>
  rw [hb] at c4
  unfold a0j at k
  rw [if_pos hb] at k
  refine Xa @c4 ?_
  exact k w1 h v s1 jn1 j1
 | false=>
  rw [hb] at c4
  unfold a0j at k
  rw [if_neg (by rw [hb]; simp)] at k
  by_cases h1:20000 < t.length
  ·rw [if_pos h1] at k
   refine Xa @c4 ?_
   exact k w1 h v s1 jn1 j1
  rw [if_neg h1] at k
  by_cases h2:1048576 < j.bytes + (form t).length
  ·rw [if_pos h2] at k
   refine Xa (An2 @c4 @c3) ?_
   exact k w1 h v s1 jn1 j1
  rw [if_neg h2] at k
  refine Xa (An2 @c4 @c3) ?_
  refine ⟨Same w1,⟨rfl,rfl,rfl,rfl⟩,?_⟩
  refine ⟨rfl,?_⟩
  repeat (first | (with_reducible refine pX ?_) | (with_reducible refine a4g ?_) | (with_reducible refine a3b rfl ?_) | (with_reducible refine a2i rfl ?_) | (refine a3h ⟨_,rfl⟩ (fun W0 hW0=>by (refine oG (fun X Y=>?_)); simp [go_sem,a6j hW0.1,c0,c1,c3]; (first | exact Y _ _ ⟨rfl,rfl⟩ | exact ⟨by omega,Y _ _ ⟨rfl,rfl⟩⟩)) ?_))
  refine ⟨fun _ _=>True,fun w2 hw2=>?_⟩
  have s2:=s1.below hw2.below
  have jn2:=jn1.below hw2.below
  have j2:=j1.trans (JSt.below hw2.below)
  clear s1 jn1 j1 hw2 c0 c1 c3 c4
  refine e9q s2.d f j.bytes (form t) (by omega) (by omega) (fun w3 hh3 d3 t3=>?_)
  have s3:=s2.step d3 t3
  have jn3:=jn2.step t3
  have j3:=j2.trans (JSt.of_step t3)
  clear s2 jn2 j2 t3 d3
  by_cases h3:(a7n A f j.bytes (form t)).1 = 0
  ·rw [if_neg (by rw [h3]; simp)] at k
   refine Xa0 ?_
   have b3:=jn3.blk
   have hwr:IntKind.i64.wrap ((j.bytes:Int) + ((form t).length:Int)) = ((j.bytes + (form t).length:Nat):Int):=by rw [a0u] <;> omega
   refine ⟨fun sg W=>sg ≤ 2 → W.heap[p]? = some (.cells (a5y b f v j) 211 (0,0)),fun _=>b3,?_⟩
   iterate 11 (first | (with_reducible refine pX ?_) | (with_reducible refine a4g ?_) | (with_reducible refine a3b rfl ?_) | (with_reducible refine a2i rfl ?_) | (refine a3h ⟨_,rfl⟩ (fun W0 hW0=>by (obtain ⟨s0,hs0,hC⟩:=hW0); (have hsk:s0 ≤ 2:=by omega); (refine oG (fun X Y=>?_)); simp [go_sem,a0b (hC hsk),a5y]; (first | exact Y _ _ ⟨rfl,rfl⟩ | exact ⟨by omega,Y _ _ ⟨rfl,rfl⟩⟩)) ?_))
   repeat (first | (with_reducible refine pX ?_) | (with_reducible refine a4g ?_) | (with_reducible refine a3b rfl ?_) | (with_reducible refine a2i rfl ?_) | (refine a3h ⟨_,rfl⟩ (fun W0 hW0=>by (obtain ⟨s0,hs0,hC⟩:=hW0); (refine oG (fun X Y=>?_)); simp [go_sem,hwr]; (first | exact Y _ _ ⟨rfl,rfl⟩ | exact ⟨by omega,Y _ _ ⟨rfl,rfl⟩⟩)) ?_))
   have s4:=s3.drew
   have jn4:=jn3.below (w':={ w3 with drawn:=w3.drawn + 1 }) ((bR).drew)
   have j4:=j3.trans (JSt.below (w':={ w3 with drawn:=w3.drawn + 1 }) ((bR).drew))
   generalize ({ w3 with drawn:=w3.drawn + 1 }:World) = w4 at *
   clear s3 jn3 j3 b3
   refine Xa0 ?_
   have hb5:Below w4.heap.size w4 (w4.alloc (.cells #[.string ⟨t.toArray⟩] 9)):=(bR).alloc (rL) _
   have hn5:=heap_alloc_new w4 (.cells #[.string ⟨t.toArray⟩] 9)
   have s5:=s4.below hb5
   have jn5:=jn4.below hb5
   have j5:=j4.trans (JSt.below hb5)
   generalize w4.alloc (.cells #[.string ⟨t.toArray⟩] 9) = w5 at *
   clear s4 jn4 j4
   have b5:=jn5.blk
   have hp5:=jn5.lt (.inl rfl)
   refine ⟨fun _=>b5,?_⟩
   refine a8y 60 60 9 Tryz.t9 (.string ⟨#[]⟩) 1 16 Tryz.underlying60 (by kernel_rfl) (by kernel_rfl) (by kernel_rfl) (by kernel_rfl) rfl (by omega) jn5.row [Cd.strV t] rfl (fun e=>by cases e) (fun a ha i u hu=>by
    cases ha
    rw [Cd.addr_add,Nat.zero_add,a0b hn5]
    match i,hu with
    | 0,hu=>exact hu
    | i + 1,hu=>simp at hu) (by intro u hu; simp only [List.mem_singleton] at hu; subst hu; rfl) (by unfold maxLen; omega) (by omega) (fun v6 w6 ho6 hg6 hv6=>?_)
   have b6:w6.heap[p]? = some (.cells (a5y b f v j) 211 (0,0)):=(hg6.block p hp5 (fun e=>jn5.pv e.symm)).trans b5
   refine ⟨fun _=>b6,?_⟩
   have f62:=a1d b6 2
   have c63:=a3r (i:=2) b6 v6
   have f63:=a1d c63 3
   have c62:=a0b b6 2
   have c633:=a0b c63 3
   simp [a5y] at c62 c633
   obtain ⟨va6,vc6,rfl⟩:=a2a ho6
   repeat (any_goals (first
   | (refine ⟨fun hh=>absurd hh (by decide),?_⟩)
   | ((with_reducible refine oG fun X Y=>?_); simp [go_sem,c62,c633,f62,f63]; apply Y; clear Y X)))
   obtain ⟨v6,hv6e⟩:∃ v6,v6 = Value.slice va6 (j.recs.length + 1) vc6:=⟨_,rfl⟩
   rw [← hv6e] at c63 ho6 hv6 ⊢
   have c64:=a3r (i:=3) c63 (.int .i64 ((j.bytes + (form t).length:Nat):Int))
   have hz6:=hg6.size
   have hpv6:v6.ownBlock ≠ some p:=fun e=>(hv6 p e).elim (fun e=>jn5.pv e) (fun e=>by omega)
   have hz5:=s5.l.size
   have hF:Fr (JO p v) w5 ((w6.setCell ⟨p,2,none⟩ v6).setCell ⟨p,3,none⟩ (.int .i64 ((j.bytes + (form t).length:Nat):Int))):=
    (((Fr.refl (JO p v) w5).by hg6 (fun i e=>.inl (.inr e))).set _ _ (.inl (.inl rfl))).set _ _ (.inl (.inl rfl))
   refine k _ hh3 v6 (s5.fresh hF (fun i hi=>⟨fun e=>e.elim (jn5.sep i hi).1 (jn5.sep i hi).2,jn5.six i hi⟩)) ⟨?_,?_,?_,?_,?_⟩ (j5.trans ⟨hF.mono (fun _ _ h=>.inr h),fun _ h=>.inl h,fun _ h=>.inl h,?_⟩)
   ·refine Eq.trans c64 ?_
    simp [a5y,hb]
   ·simp only [List.length_append,List.length_singleton,List.map_append,List.map_cons,List.map_nil]
    refine a1j ho6 (fun i hi=>?_)
    have hip:i ≠ p:=fun e=>hpv6 (by rw [← e]; exact hi)
    rw [a0q _ _ _ _ hip,a0q _ _ _ _ hip]
   ·rintro i (rfl | hi)
    ·exact jn5.sep _ (.inl rfl)
    ·rcases hv6 i hi with e | e
     ·exact jn5.sep i (.inr e)
     ·exact ⟨fun ho=>by have:=s5.d.lt (.inl ho); omega,fun ho=>by have:=s5.d.lt (.inr ho); omega⟩
   ·rintro i (rfl | hi)
    ·exact jn5.six _ (.inl rfl)
    ·rcases hv6 i hi with e | e
     ·exact jn5.six i (.inr e)
     ·omega
   ·simp only [List.length_append,List.length_singleton]
    omega
   ·rintro i (rfl | hi)
    ·exact .inl (.inl rfl)
    ·exact (hv6 i hi).imp .inr id
  ·rw [if_pos h3] at k
   have c43:=jn3.c 4
   have f43:=jn3.fz 4
   simp only [a5y] at c43
   refine Xa (An2 @c43 @f43) ?_
   exact k _ hh3 v (s3.set jn3 4 _) (jn3.set4 _) (j3.trans (JSt.set 4 _))
end
end Go.Proofs
namespace Go.Proofs
open Go Go.Sh Go.RowKit CodeSpec JnSpec DkSpec
section
variable {w w' w2:World} {b p:Nat} {A A':Ab} {h h' h2:Dk} {f:Int} {j j':Jn} {v v' v2:Value} {K:VK}
theorem Step.below (g:Bw w w'):Step w b h w' h:=⟨⟨g.os,g.tape,g.output,g.size,fun i hi _=>g.block i hi⟩,fun _ h=>.inl h,fun _ h=>.inl h⟩
theorem d9p (A:Ab) (f a n:Int):(b2l A f a n).1.length ≤ (A.F f).1.length:=by
 unfold b2l
 split
 ·simp
 ·split
  ·simp
  ·simp; omega
theorem d9q (l:List Bs):l.length ≤ (a2v l).length:=by
 induction l with
 | nil=>simp
 | cons t l ih=>
  have:=a8c t
  rw [a5z,List.length_append,List.length_cons]
  omega
def d9r (w:World) (b:Nat) (h:Dk) (w0:World) (f:Int) (r:Value):Option Jn → Prop
 | none=>r = .pointer none
 | some j=>∃ p v,r = jnP p ∧ IsJn w b h p f j v ∧ ∀ i,JO p v i → w0.heap.size ≤ i
theorem d9s {w:World} {B:Nat} {e:TypeId} {sz n:Nat} {v:Value} {xs:List Value} (h:w.ownsRow B e sz v n xs):w.ownsRow 0 e sz v n xs:=by
 refine ⟨h.1,h.2.imp id ?_⟩
 rintro ⟨g,cap,cur,a,b,c⟩
 exact ⟨g,cap,cur,a,Nat.zero_le _,c⟩
theorem b9f {w0 w2 w3:World} {C:Ab} {h1 h3:Dk} {recs:List Bs} {n:Nat} (s3:Sys w3 b C h3) (t3:Step w2 b h1 w3 h3) (ho:w2.ownsRow 0 9 1 v recs.length (recs.map Cd.strV)) (hvo:∀ i,v.ownBlock = some i → w0.heap.size ≤ i)
  (hvd:∀ i,v.ownBlock = some i → ¬ Own b h1 i ∧ ¬ Rdb h1 i) (h6:8 ≤ w0.heap.size) (hz:w0.heap.size ≤ w2.heap.size) (hn:recs.length ≤ n ∧ n ≤ 16777216) :
  Sys (w3.alloc (.cells #[dkP b,.int .i64 f,v,.int .i64 (n:Int),.bool false] 211)) b C h3 ∧ Step w2 b h1 (w3.alloc (.cells #[dkP b,.int .i64 f,v,.int .i64 (n:Int),.bool false] 211)) h3 ∧
  d9r (w3.alloc (.cells #[dkP b,.int .i64 f,v,.int .i64 (n:Int),.bool false] 211)) b h3 w0 f (jnP w3.heap.size) (some ⟨recs,n,false⟩):=by
 have hb:Below w3.heap.size w3 (w3.alloc (.cells #[dkP b,.int .i64 f,v,.int .i64 (n:Int),.bool false] 211)):=(bR).alloc (rL) _
 have hnew:=heap_alloc_new w3 (.cells #[dkP b,.int .i64 f,v,.int .i64 (n:Int),.bool false] 211)
 generalize w3.alloc (.cells #[dkP b,.int .i64 f,v,.int .i64 (n:Int),.bool false] 211) = w4 at *
 have hz3:=t3.fr.size
 refine ⟨s3.below hb,t3.trans (Step.below hb),_,v,rfl,⟨hnew,?_,?_,?_,hn⟩,?_⟩
 ·refine a1j ho (fun i hi=>?_)
  have hl:=(a0x ho hi).1
  rw [hb.block i (by omega)]
  exact t3.fr.block i hl (hvd i hi).1
 ·rintro i (rfl | hi)
  ·exact ⟨fun ho=>by have:=s3.d.lt (.inl ho); omega,fun ho=>by have:=s3.d.lt (.inr ho); omega⟩
  ·have hl:=(a0x ho hi).1
   exact ⟨fun hx=>(t3.own i hx).elim (hvd i hi).1 (fun h=>by omega),fun hx=>(t3.rd i hx).elim (hvd i hi).2 (fun h=>by omega)⟩
 ·rintro i (rfl | hi)
  ·omega
  ·have:=hvo i hi; omega
 ·rintro i (rfl | hi)
  ·omega
  ·exact hvo i hi
theorem e9c (s:Sys w b A h) (f:Int) (k:∀ w' h' r,Sys w' b (openJ A f).2.2 h' → Step w b h w' h' → d9r w' b h' w f r (openJ A f).1 → K (.tuple #[r,.int .i64 (openJ A f).2.1]) w'):a0a Tryz.prog 113 #[dkP b,.int .i64 f] K w:=by
 apply d6i
 unfold f4l
 unfold openJ at k
 by_cases hf:f < 0 ∨ 15 < f
 ·rw [if_pos hf] at k
  by_cases h0:f < 0
  ·refine Xa0 ?_
   exact k w h _ s (Step.refl _ _ _) rfl
  ·have h1:15 < f:=hf.resolve_left h0
   refine Xa0 ?_
   exact k w h _ s (Step.refl _ _ _) rfl
 rw [if_neg hf] at k
 have h0:¬ f < 0:=fun e=>hf (.inl e)
 have h1:¬ 15 < f:=fun e=>hf (.inr e)
 refine Xa0 ?_
 refine e0c s.d f (fun w1 h1' d1 t1=>?_)
 have s1:=s.step d1 t1
 by_cases he:(a3y A f).1 = 0
 ·rw [if_neg (by simp [he])] at k
  refine Xa0 ?_
  refine d9t s1.d f ?_
  refine f9h s1.d f 0 _ ?_
  have hrl:=d9p (a3y A f).2 f 0 ((((a3y A f).2.F f).1.length:Nat):Int)
  have hsz:=(s1.d.wf.sz f).1
  generalize (a3y A f).2 = B at *
  unfold d1x at k
  generalize b2l B f 0 (((B.F f).1.length:Nat):Int) = r at *
  obtain ⟨x,e⟩:=r
  dsimp only at k hrl ⊢
  by_cases h2:e = 0
  ·rw [if_neg (by simp [h2])] at k
   refine Xa0 ?_
   refine e9a x (by omega) s1.l (fun v w2 ho2 hb2=>?_)
   have hrs:=a6a x
   have hrl1:=d9q (readJ x).1
   rw [← hrs.2.1] at hrl1
   have hrl2:(readJ x).2 ≤ x.length:=by
    have:=congrArg List.length hrs.2.2.1
    rw [List.length_append,← hrs.2.1] at this
    omega
   clear hrs
   have s2:=s1.below hb2
   have t2:=t1.trans (Step.below (b:=b) (h:=h1') hb2)
   have hz1:=t1.fr.size
   have hvo:∀ i,v.ownBlock = some i → w1.heap.size ≤ i:=fun i hi=>(a0x ho2 hi).2.1
   have ho20:w2.ownsRow 0 9 1 v (readJ x).1.length ((readJ x).1.map Cd.strV):=d9s ho2
   have hvd:∀ i,v.ownBlock = some i → ¬ Own b h1' i ∧ ¬ Rdb h1' i:=fun i hi=>by
    have h3:=hvo i hi
    exact ⟨fun ho=>by have:=s1.d.lt (.inl ho); omega,fun ho=>by have:=s1.d.lt (.inr ho); omega⟩
   have hz2:=hb2.size
   have hz5:=s.l.size
   by_cases h3:(readJ x).2 < x.length
   ·rw [if_pos h3] at k
    by_cases h4:(a5a B f (readJ x).2).1 = 0
    ·rw [if_neg (by simp [h4])] at k
     refine Xa0 ?_
     refine ⟨fun vs W=>∃ u h',vs = [u,.pointer none,.int .i64 0] ∧ Sys W b (a5a B f (readJ x).2).2 h' ∧ Step w2 b h1' W h',?_,?_⟩
     ·refine Xa0 ?_
      refine c9y s2.d f (readJ x).2 (fun w3 h3' d3 t3=>?_)
      refine Xa0 ?_
      exact ⟨_,h3',rfl,s2.step d3 t3,t3⟩
     ·rintro _ _ w3 ⟨u,h3',rfl,s3,t3⟩
      obtain ⟨va,vc,hve⟩:=a2a ho20
      have hve2:=hve
      subst hve
      refine Xa0 ?_
      obtain ⟨s4,t4,o4⟩:=b9f (f:=f) (w0:=w) (n:=(readJ x).2) s3 t3 ho20 (fun i hi=>Nat.le_trans hz1 (hvo i hi)) hvd (by omega) (by omega) ⟨hrl1,by omega⟩
      exact k _ h3' _ s4 (t2.trans t4) o4
    ·rw [if_pos h4] at k
     refine Xa0 ?_
     refine ⟨fun _ _=>False,?_,fun _ _ _ h=>h.elim⟩
     refine Xa0 ?_
     refine c9y s2.d f (readJ x).2 (fun w3 h3' d3 t3=>?_)
     refine Xa0 ?_
     exact k w3 h3' _ (s2.step d3 t3) (t2.trans t3) rfl
   ·rw [if_neg h3] at k
    refine Xa0 ?_
    refine ⟨fun vs W=>∃ u h',vs = [u,.pointer none,.int .i64 0] ∧ Sys W b B h' ∧ Step w2 b h1' W h',?_,?_⟩
    ·refine Xa0 ?_
     exact ⟨_,h1',rfl,s2,Step.refl _ _ _⟩
    ·rintro _ _ w3 ⟨u,h3',rfl,s3,t3⟩
     obtain ⟨va,vc,hve⟩:=a2a ho20
     subst hve
     refine Xa0 ?_
     obtain ⟨s4,t4,o4⟩:=b9f (f:=f) (w0:=w) (n:=(readJ x).2) s3 t3 ho20 (fun i hi=>Nat.le_trans hz1 (hvo i hi)) hvd (by omega) (by omega) ⟨hrl1,by omega⟩
     exact k _ h3' _ s4 (t2.trans t4) o4
  ·rw [if_pos h2] at k
   refine Xa0 ?_
   exact k w1 h1' _ s1 t1 rfl
 ·rw [if_pos he] at k
  refine Xa0 ?_
  exact k w1 h1' _ s1 t1 rfl
end
end Go.Proofs
namespace PuSpec
open FdSpec TkSpec CodeSpec
variable {s:Stp} {lims:List Lim}
theorem d2e:a7r ⟨[],false⟩ = true:=rfl
theorem c3u (vs:List Int) (hl:Len vs.length) (h:∀ v ∈ vs,InR v):a0c ⟨a1y vs,false⟩ = (vs,⟨[],false⟩):=by
 have:=a3c vs [] hl h
 rw [List.append_nil] at this
 exact this
theorem c3v (vs:List Int) (h:vs.length = 2 ∨ vs.length = 3):¬ [48,59] <+: a1y vs:=by
 have e:a1y vs = Go.Lib.itoa vs.length ++ 91 :: ((vs.map a0n).flatten ++ [93]):=by simp [a1y,a0d,a2g]
 rw [e]
 rcases h with h | h <;> rw [h]
 ·rw [show Go.Lib.itoa ((2:Nat):Int) = [50] by decide +kernel]
  intro hp
  have:=List.cons_prefix_cons.1 hp
  exact absurd this.1 (by decide)
 ·rw [show Go.Lib.itoa ((3:Nat):Int) = [51] by decide +kernel]
  intro hp
  have:=List.cons_prefix_cons.1 hp
  exact absurd this.1 (by decide)
theorem b9m (items:List Itm) (h:Hld) (w:WHld h) (hl:h.links.length ≤ 4) :
  a4o s lims items (a4s h) = if validM s lims h = true ∧ c0r items h.t = false ∧ items.length < 400 then some (items ++ [a3e h]) else none:=by
 have e0:a4s h = [48,59] ++ a3m h:=by
  have:a1a 0 = [48,59]:=by decide +kernel
  rw [a4s,this]
 unfold a4o
 rw [if_pos (by rw [e0]; exact List.prefix_append _ _)]
 rw [e0]
 have e1:([48,59] ++ a3m h).drop 2 = a3m h:=rfl
 rw [e1]
 unfold g1s
 rw [b9j h w hl]
 dsimp only
 by_cases hc:validM s lims h = true ∧ c0r items h.t = false ∧ items.length < 400
 ·rw [if_pos hc,if_neg]
  simp only [Bool.not_true,Bool.false_or,hc.1,hc.2.1,Bool.or_false,decide_eq_true_eq]
  omega
 ·rw [if_neg hc,if_pos]
  simp only [Bool.not_true,Bool.false_or,Bool.or_eq_true,decide_eq_true_eq,Bool.not_eq_true']
  by_cases h1:validM s lims h = true
  ·by_cases h2:c0r items h.t = true
   ·exact .inr h2
   ·by_cases h3:items.length < 400
    ·exact absurd ⟨h1,by simpa using h2,h3⟩ hc
    ·exact .inl (.inl (by omega))
  ·exact .inl (.inr (by simpa using h1))
theorem c7o (items:List Itm) (n:List Int) (h:∀ v ∈ n,InR v) (hn:n.length = 2 ∨ n.length = 3) {i:Nat} (hi:n.getD 1 0 = i) {x:Itm} (hx:items[i]? = some x) :
  a4o s lims items (a1y n) = (b2v s n x).map fun y=>items.set i y:=by
 unfold a4o
 rw [if_neg (c3v n hn),c3u n (by simp only [Len]; omega) h]
 rw [if_neg (by simp [d2e]; omega)]
 dsimp only
 rw [hi,if_neg (by omega)]
 simp only [Int.toNat_natCast,hx]
 cases b2v s n x <;> rfl
theorem a4r:∀ (a b:List a0h) (items:List Itm),a1q s lims items (a ++ b) = (a1q s lims items a).bind fun l=>a1q s lims l b
 | [],b,items=>rfl
 | r :: a,b,items=>by
  rw [List.cons_append,a1q,a1q]
  cases a4o s lims items r with
  | none=>rfl
  | some l=>exact a4r a b l
theorem b1x (items:List Itm) (r:a0h):a1q s lims items [r] = a4o s lims items r:=by
 rw [a1q]
 cases a4o s lims items r <;> rfl
structure Later (x y:Itm):Prop where
 held:y.held = x.held
 up:x.status ≤ y.status
 dare:x.status ≠ 0 → y.dare = x.dare ∧ y.lent = x.lent
 back:x.back = true → y.back = true
def LaterL (l m:List Itm):Prop:=∀ (i:Nat) (x:Itm),l[i]? = some x → ∃ y,m[i]? = some y ∧ Later x y
theorem Later.refl (x:Itm):Later x x:=⟨rfl,Int.le_refl _,fun _=>⟨rfl,rfl⟩,id⟩
theorem LaterL.refl (l:List Itm):LaterL l l:=fun _ x h=>⟨x,h,.refl x⟩
def Raw (l:List Itm):Prop:=∀ x ∈ l,x.status = 0 ∨ x.status = 1 ∨ x.status = 2
theorem Later.trans {x y z:Itm} (h:Later x y) (k:Later y z) (hx:0 ≤ x.status):Later x z:=
 ⟨k.held.trans h.held,Int.le_trans h.up k.up,fun hn=>by
  have hy:y.status ≠ 0:=by have:=h.up; omega
  exact ⟨(k.dare hy).1.trans (h.dare hn).1,(k.dare hy).2.trans (h.dare hn).2⟩,fun hb=>k.back (h.back hb)⟩
theorem d2f {n:List Int} {x y:Itm} (h:b2v s n x = some y):Later x y ∧ (y.status = x.status ∨ y.status = 1 ∨ y.status = 2):=by
 unfold b2v at h
 split at h
 ·split at h
  ·split at h
   ·rename_i _ hc
    simp only [Option.some.injEq] at h
    subst h
    simp only [Bool.and_eq_true,decide_eq_true_eq] at hc
    exact ⟨⟨rfl,by dsimp only; omega,fun hn=>absurd hc.1.1 hn,id⟩,.inr (.inl rfl)⟩
   ·cases h
  ·cases h
 ·split at h
  ·split at h
   ·rename_i hc
    simp only [Option.some.injEq] at h
    subst h
    exact ⟨⟨rfl,by dsimp only; omega,fun _=>⟨rfl,rfl⟩,id⟩,.inr (.inr rfl)⟩
   ·cases h
  ·split at h
   ·split at h
    ·simp only [Option.some.injEq] at h
     subst h
     exact ⟨⟨rfl,Int.le_refl _,fun _=>⟨rfl,rfl⟩,fun _=>rfl⟩,.inl rfl⟩
    ·cases h
   ·cases h
 ·cases h
def Fr (s:Stp) (x:Itm):Prop:=(x.status = 0 → x = a3e x.held) ∧ (x.status ≠ 0 → 1 ≤ x.dare ∧ x.dare < s.g.Q)
theorem f9p {n:List Int} {x y:Itm} (h:b2v s n x = some y) (hx:Fr s x):Fr s y:=by
 unfold b2v at h
 split at h
 ·split at h
  ·split at h
   ·rename_i _ hc
    simp only [Option.some.injEq] at h
    subst h
    simp only [Bool.and_eq_true,decide_eq_true_eq] at hc
    exact ⟨fun e=>absurd e (by simp),fun _=>⟨hc.1.2,hc.2⟩⟩
   ·cases h
  ·cases h
 ·split at h
  ·split at h
   ·rename_i hc
    simp only [Option.some.injEq] at h
    subst h
    exact ⟨fun e=>absurd e (by simp),fun _=>hx.2 (by rw [hc]; decide)⟩
   ·cases h
  ·split at h
   ·split at h
    ·rename_i hc
     simp only [Option.some.injEq] at h
     subst h
     have hn:x.status ≠ 0:=fun e=>by
      have:=hx.1 e
      rw [this] at hc
      simp [a3e] at hc
     exact ⟨fun e=>absurd e hn,fun _=>hx.2 hn⟩
    ·cases h
   ·cases h
 ·cases h
theorem a2e (h:Hld):Fr s (a3e h):=⟨fun _=>rfl,fun e=>absurd rfl e⟩
def g5p (l:List Itm):Prop:=∀ (i j:Nat) (x y:Itm),l[i]? = some x → l[j]? = some y → x.held.t = y.held.t → i = j
def h2q (s:Stp) (lims:List Lim) (l:List Itm):Prop:=∀ x ∈ l,validM s lims x.held = true
theorem e0y {l:List Itm} {i:Nat} {x y:Itm} (hx:l[i]? = some x) (h:Later x y):LaterL l (l.set i y):=by
 intro j z hz
 rw [List.getElem?_set]
 by_cases hj:i = j
 ·subst hj
  rw [hx] at hz
  cases hz
  have hl:i < l.length:=(List.getElem?_eq_some_iff.1 hx).1
  rw [if_pos rfl,if_pos hl]
  exact ⟨y,rfl,h⟩
 ·rw [if_neg hj]
  exact ⟨z,hz,.refl z⟩
theorem c3w (l:List Itm) (m:List Itm):LaterL l (l ++ m):=fun i x hx=>⟨x,by rw [List.getElem?_append_left (List.getElem?_eq_some_iff.1 hx).1]; exact hx,.refl x⟩
theorem LaterL.trans {l m n:List Itm} (h:LaterL l m) (k:LaterL m n) (hr:Raw l):LaterL l n:=by
 intro i x hx
 obtain ⟨y,hy,h1⟩:=h i x hx
 obtain ⟨z,hz,h2⟩:=k i y hy
 exact ⟨z,hz,h1.trans h2 (by rcases hr x (List.mem_of_getElem? hx) with e | e | e <;> omega)⟩
theorem f0a {l:List Itm} (h:g5p l) {i:Nat} {x y:Itm} (hx:l[i]? = some x) (hy:y.held = x.held):g5p (l.set i y):=by
 have key:∀ (j:Nat) (z:Itm),(l.set i y)[j]? = some z → ∃ w,l[j]? = some w ∧ w.held = z.held:=by
  intro j z hz
  rw [List.getElem?_set] at hz
  by_cases hj:i = j
  ·subst hj
   rw [if_pos rfl] at hz
   split at hz
   ·cases hz; exact ⟨x,hx,hy.symm⟩
   ·cases hz
  ·rw [if_neg hj] at hz
   exact ⟨z,hz,rfl⟩
 intro a b u v hu hv e
 obtain ⟨u',hu',eu⟩:=key a u hu
 obtain ⟨v',hv',ev⟩:=key b v hv
 exact h a b u' v' hu' hv' (by rw [eu,ev]; exact e)
theorem d2g {l:List Itm} {t:Tkt} (h:c0r l t = false):∀ x ∈ l,x.held.t ≠ t:=by
 intro x hx e
 have:c0r l t = true:=List.any_eq_true.2 ⟨x,hx,by simpa using e⟩
 rw [h] at this; cases this
theorem c7p {l:List Itm} (h:g5p l) {x:Itm} (hx:c0r l x.held.t = false):g5p (l ++ [x]):=by
 have hn:=d2g hx
 have key:∀ (j:Nat) (z:Itm),(l ++ [x])[j]? = some z → (l[j]? = some z ∧ j < l.length) ∨ (z = x ∧ j = l.length):=by
  intro j z hz
  rw [List.getElem?_append] at hz
  split at hz
  ·rename_i hj; exact .inl ⟨hz,hj⟩
  ·rename_i hj
   right
   have hj0:j - l.length = 0:=by
    rcases hk:j - l.length with _ | k
    ·rfl
    ·rw [hk] at hz; simp at hz
   rw [hj0] at hz
   simp only [List.getElem?_cons_zero,Option.some.injEq] at hz
   exact ⟨hz.symm,by omega⟩
 intro a b u v hu hv e
 rcases key a u hu with ⟨u1,u2⟩ | ⟨u1,u2⟩ <;> rcases key b v hv with ⟨v1,v2⟩ | ⟨v1,v2⟩
 ·exact h a b u v u1 v1 e
 ·subst v1; exact absurd e (hn u (List.mem_of_getElem? u1))
 ·subst u1; exact absurd e.symm (hn v (List.mem_of_getElem? v1))
 ·omega
structure GoodI (s:Stp) (lims:List Lim) (l:List Itm):Prop where
 raw:Raw l
 uniq:g5p l
 val:h2q s lims l
 fr:∀ x ∈ l,Fr s x
theorem c3x:GoodI s lims [] where
 raw x h:=by cases h
 uniq i j x y h:=by simp at h
 val x h:=by cases h
 fr x h:=by cases h
theorem c3y {l m:List Itm} {r:a0h} (g:GoodI s lims l) (h:a4o s lims l r = some m):GoodI s lims m ∧ LaterL l m:=by
 unfold a4o at h
 split at h
 ·unfold g1s at h
  generalize a2d (List.drop 2 r) = d at h
  split at h
  ·cases h
  ·rename_i hc
   simp only [Option.some.injEq] at h
   subst h
   simp only [Bool.or_eq_true,Bool.not_eq_true',decide_eq_true_eq,not_or,Bool.not_eq_false,Bool.not_eq_true] at hc
   refine ⟨⟨?_,c7p g.uniq hc.2,?_,?_⟩,c3w _ _⟩
   ·intro x hx
    rcases List.mem_append.1 hx with hx | hx
    ·exact g.raw x hx
    ·simp only [List.mem_singleton] at hx
     subst hx; exact .inl rfl
   ·intro x hx
    rcases List.mem_append.1 hx with hx | hx
    ·exact g.val x hx
    ·simp only [List.mem_singleton] at hx
     subst hx; exact hc.1.2
   ·intro x hx
    rcases List.mem_append.1 hx with hx | hx
    ·exact g.fr x hx
    ·simp only [List.mem_singleton] at hx
     subst hx; exact a2e _
 ·split at h
  ·cases h
  ·dsimp only at h
   split at h
   ·cases h
   ·split at h
    ·cases h
    ·rename_i x hx
     split at h
     ·cases h
     ·rename_i y hy
      simp only [Option.some.injEq] at h
      subst h
      obtain ⟨k1,k2⟩:=d2f hy
      have gx:=g.raw x (List.mem_of_getElem? hx)
      refine ⟨⟨?_,f0a g.uniq hx k1.held,?_,?_⟩,e0y hx k1⟩
      ·intro z hz
       rcases List.mem_or_eq_of_mem_set hz with hz | rfl
       ·exact g.raw z hz
       ·rcases k2 with e | e | e
        ·rw [e]; exact gx
        ·exact .inr (.inl e)
        ·exact .inr (.inr e)
      ·intro z hz
       rcases List.mem_or_eq_of_mem_set hz with hz | rfl
       ·exact g.val z hz
       ·rw [k1.held]; exact g.val x (List.mem_of_getElem? hx)
      ·intro z hz
       rcases List.mem_or_eq_of_mem_set hz with hz | rfl
       ·exact g.fr z hz
       ·exact f9p hy (g.fr x (List.mem_of_getElem? hx))
theorem a6y:∀ (rs:List a0h) {l m:List Itm},GoodI s lims l → a1q s lims l rs = some m → GoodI s lims m ∧ LaterL l m
 | [],l,m,g,h=>by
  rw [a1q,Option.some.injEq] at h
  subst h
  exact ⟨g,.refl _⟩
 | r :: rs,l,m,g,h=>by
  rw [a1q] at h
  split at h
  ·cases h
  ·rename_i k hk
   obtain ⟨g1,h1⟩:=c3y g hk
   obtain ⟨g2,h2⟩:=a6y rs g1 h
   exact ⟨g2,h1.trans h2 g.raw⟩
theorem b6g {a b:List a0h} (h:a <+: b) {m:List Itm} (hb:a1q s lims [] b = some m):∃ l,a1q s lims [] a = some l ∧ GoodI s lims l ∧ GoodI s lims m ∧ LaterL l m:=by
 obtain ⟨c,rfl⟩:=h
 rw [a4r] at hb
 rcases e:a1q s lims [] a with _ | l
 ·rw [e] at hb; cases hb
 ·rw [e] at hb
  obtain ⟨g1,_⟩:=a6y a c3x e
  obtain ⟨g2,h2⟩:=a6y c g1 hb
  exact ⟨l,rfl,g1,g2,h2⟩
end PuSpec
namespace PuSpec
open FdSpec TkSpec CodeSpec DkSpec JnSpec
structure Pst where
 j:Jn
 items:List Itm
def b1y (s:Stp) (lims:List Lim) (A:Ab):Option Pst × Int × Ab:=
 if !a1u s || !c7u lims then (none,1,A)
 else match openJ A 0 with
  | (none,e,B)=>(none,e,B)
  | (some j,_,B)=>match c7v s lims j.recs with
   | none=>(none,2,B)
   | some l=>(some ⟨j,l⟩,0,B)
def c7q (s:Stp) (lims:List Lim) (A:Ab) (p:Pst) (h:Hld):Int × Ab × Pst:=
 if a6l s lims p.items h ≠ 0 then (a6l s lims p.items h,A,p)
 else if (a0j A 0 p.j (a4s h)).1 ≠ 0 then ((a0j A 0 p.j (a4s h)).1,(a0j A 0 p.j (a4s h)).2.1,⟨(a0j A 0 p.j (a4s h)).2.2,p.items⟩)
 else (0,(a0j A 0 p.j (a4s h)).2.1,⟨(a0j A 0 p.j (a4s h)).2.2,p.items ++ [a3e h]⟩)
def a9g (A:Ab) (p:Pst) (i:Nat) (kind dare:Int):Int × Ab × Pst:=
 let a:=a0j A 0 p.j (a1y [kind,i,dare])
 if a.1 ≠ 0 then (a.1,a.2.1,⟨a.2.2,p.items⟩)
 else
  let b:=a6s a.2.1 0 a.2.2
  if b.1 ≠ 0 then (b.1,b.2.1,⟨b.2.2,p.items.modify i fun x=>{ x with dare:=dare,status:=3 }⟩)
  else (0,b.2.1,⟨b.2.2,p.items.modify i fun x=>{ x with dare:=dare,status:=1,lent:=decide (kind = 3) }⟩)
def a6z (s:Stp) (lims:List Lim) (A:Ab) (p:Pst) (limit now dare:Int):(Nat × Int) × Ab × Pst:=
 if (a1w lims p.items limit now).2 = 1 ∨ dare < 1 ∨ s.g.Q ≤ dare then ((0,1),A,p)
 else if (a1w lims p.items limit now).2 ≠ 0 then ((0,(a1w lims p.items limit now).2),A,p)
 else if (a9g A p (a1w lims p.items limit now).1 1 dare).1 ≠ 0 then ((0,(a9g A p (a1w lims p.items limit now).1 1 dare).1),(a9g A p (a1w lims p.items limit now).1 1 dare).2)
 else (((a1w lims p.items limit now).1,0),(a9g A p (a1w lims p.items limit now).1 1 dare).2)
def e0z (kind:Int) (x:Itm):Option Itm:=
 if kind = 2 ∧ x.status = 1 then some { x with status:=2 } else if kind = 4 ∧ x.lent = true ∧ x.back = false then some { x with back:=true } else none
structure RelI (r x:Itm):Prop where
 held:x.held = r.held
 back:x.back = r.back
 rest:(x.status = r.status ∧ x.dare = r.dare ∧ x.lent = r.lent) ∨ (r.status = 1 ∧ x.status = 3 ∧ x.dare = r.dare ∧ (x.lent = true → r.lent = true))
def Match (l m:List Itm):Prop:=l.length = m.length ∧ ∀ (i:Nat) (r x:Itm),l[i]? = some r → m[i]? = some x → RelI r x
theorem RelI.refl (x:Itm):RelI x x:=⟨rfl,rfl,.inl ⟨rfl,rfl,rfl⟩⟩
theorem Match.get {l m:List Itm} (h:Match l m) {i:Nat} {x:Itm} (hx:m[i]? = some x):∃ r,l[i]? = some r ∧ RelI r x:=by
 have hi:i < l.length:=by rw [h.1]; exact (List.getElem?_eq_some_iff.1 hx).1
 exact ⟨l[i],List.getElem?_eq_getElem hi,h.2 i _ _ (List.getElem?_eq_getElem hi) hx⟩
theorem Match.set {l m:List Itm} (h:Match l m) (i:Nat) {r x:Itm} (k:RelI r x):Match (l.set i r) (m.set i x):=by
 refine ⟨by simp [h.1],fun j a b ha hb=>?_⟩
 rw [List.getElem?_set] at ha hb
 by_cases hj:i = j
 ·subst hj
  rw [if_pos rfl] at ha hb
  split at ha <;> split at hb
  ·cases ha; cases hb; exact k
  all_goals first | (cases hb; done) | (cases ha; done)
 ·rw [if_neg hj] at ha hb
  exact h.2 j a b ha hb
theorem Match.push {l m:List Itm} (h:Match l m) (x:Itm):Match (l ++ [x]) (m ++ [x]):=by
 refine ⟨by simp [h.1],fun j a b ha hb=>?_⟩
 rw [List.getElem?_append] at ha hb
 rw [h.1] at ha
 split at ha
 ·rename_i hj; rw [if_pos hj] at hb; exact h.2 j a b ha hb
 ·rename_i hj
  rw [if_neg hj,ha] at hb
  cases hb
  exact .refl _
theorem Match.has {l m:List Itm} (h:Match l m) (t:Tkt):c0r l t = c0r m t:=by
 rw [Bool.eq_iff_iff]
 simp only [c0r,List.any_eq_true,decide_eq_true_eq]
 constructor
 ·rintro ⟨r,hr,e⟩
  obtain ⟨i,hi⟩:=List.mem_iff_getElem?.1 hr
  have hl:i < m.length:=by rw [← h.1]; exact (List.getElem?_eq_some_iff.1 hi).1
  have k:=h.2 i r m[i] hi (List.getElem?_eq_getElem hl)
  exact ⟨m[i],List.getElem_mem hl,by rw [k.held]; exact e⟩
 ·rintro ⟨x,hx,e⟩
  obtain ⟨i,hi⟩:=List.mem_iff_getElem?.1 hx
  obtain ⟨r,hr,k⟩:=h.get hi
  exact ⟨r,List.mem_of_getElem? hr,by rw [← k.held]; exact e⟩
variable {s:Stp} {lims:List Lim}
structure Inv (s:Stp) (lims:List Lim) (A:Ab) (p:Pst) (all sure:List a0h):Prop where
 lj:LJ 0 A p.j all sure
 all:∃ ra,a1q s lims [] all = some ra
 live:∃ rj,a1q s lims [] p.j.recs = some rj ∧ Match rj p.items
 spent:∀ (i:Nat) (x:Itm),p.items[i]? = some x → x.status = 1 ∨ x.status = 2 →
  ∃ rs y,a1q s lims [] sure = some rs ∧ rs[i]? = some y ∧ y.held = x.held ∧ y.dare = x.dare ∧ (y.status = 1 ∨ y.status = 2)
theorem c3z:(0:Int) ≤ 0 ∧ (0:Int) ≤ 15:=by omega
theorem LJ.recs {A:Ab} {j:Jn} {all sure:List a0h} (h:LJ 0 A j all sure) (hb:j.broken = false):all = j.recs:=by
 rcases h with ⟨_,h⟩ | ⟨h,_⟩
 ·exact h.recs
 ·rw [hb] at h; cases h
theorem d2h {A:Ab} {p:Pst} {all sure:List a0h} (v:Inv s lims A p all sure) {t:a0h} {rj rj':List Itm} (hj:a1q s lims [] p.j.recs = some rj) (ht:a4o s lims rj t = some rj') :
  ((a0j A 0 p.j t).1 = 0 ∧ (a0j A 0 p.j t).2.2.recs = p.j.recs ++ [t] ∧ LJ 0 (a0j A 0 p.j t).2.1 (a0j A 0 p.j t).2.2 (all ++ [t]) sure ∧
   a1q s lims [] (p.j.recs ++ [t]) = some rj' ∧ a1q s lims [] (all ++ [t]) = some rj') ∨
  ((a0j A 0 p.j t).1 ≠ 0 ∧ ∃ all',all <+: all' ∧ Inv s lims (a0j A 0 p.j t).2.1 ⟨(a0j A 0 p.j t).2.2,p.items⟩ all' sure):=by
 have hr:a1q s lims [] (p.j.recs ++ [t]) = some rj':=by
  rw [a4r,hj,Option.bind_some,b1x,ht]
 have hall:p.j.broken = false → a1q s lims [] (all ++ [t]) = some rj':=fun hb=>by rw [LJ.recs v.lj hb]; exact hr
 rcases b6c v.lj c3z t with ⟨a1,a2,a3⟩ | ⟨a1,a2,a3⟩ | ⟨a1,a2,a3⟩
 ·have hb:p.j.broken = false:=by
   cases hb:p.j.broken with
   | false=>rfl
   | true=>
    unfold a0j at a1
    rw [if_pos hb] at a1
    cases a1
  exact .inl ⟨a1,a2,a3,hr,hall hb⟩
 ·have hb:p.j.broken = false:=by
   cases hb:p.j.broken with
   | false=>rfl
   | true=>
    unfold a0j at a1
    rw [if_pos hb] at a1
    cases a1
  refine .inr ⟨by rw [a1]; decide,all ++ [t],List.prefix_append _ _,⟨a3,⟨rj',hall hb⟩,?_,v.spent⟩⟩
  obtain ⟨r,h1,h2⟩:=v.live
  exact ⟨r,by dsimp only; rw [a2]; exact h1,h2⟩
 ·refine .inr ⟨by rcases a1 with e | e | e <;> rw [e] <;> decide,all,List.prefix_refl _,⟨a3,v.all,?_,v.spent⟩⟩
  obtain ⟨r,h1,h2⟩:=v.live
  exact ⟨r,by dsimp only; rw [a2]; exact h1,h2⟩
end PuSpec
namespace Go.Proofs
open Go Go.Sh Go.RowKit FdSpec TkSpec CodeSpec PuSpec DkSpec JnSpec
section
variable {K:VK} {w w' w0 W W':World} {L:List (Addr × Value)}
structure Ph where
 b:Nat
 h:Dk
 q:Nat
 u:Value
 pb:Nat
 iv:Value
 lv:Value
 bv:Value
 x:Nat → Prop:=fun _=>False
def Mu (p:Ph) (i:Nat):Prop:=Own p.b p.h i ∨ Rdb p.h i ∨ JO p.q p.u i ∨ i = p.pb ∨ p.iv.ownBlock = some i
def Im (p:Ph) (W:World) (i:Nat):Prop:=i < W.heap.size ∧ ¬ Mu p i ∧ ¬ p.x i
@[reducible] def puC (s:Stp) (p:Ph):List Value:=[.int .i64 s.g.P,.int .i64 s.g.Q,.int .i64 s.g.G,p.bv,.int .i64 s.blind,p.lv,p.iv,jnP p.q]
structure StR (s:Stp) (lims:List Lim) (W:World) (p:Ph) (items:List Itm):Prop where
 pur:Holds W p.pb 130 (puC s p)
 itm:GRow 18 93 c5w 0 (Im p W) W p.iv items
 rd:FP (Im p W) W (fun W=>SetR W s p.bv ∧ c5v W p.lv lims)
 cnt:items.length ≤ 400
 sp:¬ Own p.b p.h p.pb ∧ ¬ Rdb p.h p.pb ∧ ¬ JO p.q p.u p.pb
 si:∀ i,p.iv.ownBlock = some i → ¬ Own p.b p.h i ∧ ¬ Rdb p.h i ∧ ¬ JO p.q p.u i ∧ i ≠ p.pb
 xl:∀ i,p.x i → i < W.heap.size
theorem StR.set {s:Stp} {lims:List Lim} {p:Ph} {items:List Itm} (h:StR s lims W p items):SetR W s p.bv:=h.rd.here.1
theorem StR.lim {s:Stp} {lims:List Lim} {p:Ph} {items:List Itm} (h:StR s lims W p items):c5v W p.lv lims:=h.rd.here.2
theorem StR.items {s:Stp} {lims:List Lim} {p:Ph} {items:List Itm} (h:StR s lims W p items):SRow 18 (b8b 18 c5w) W p.iv items:=h.itm.srow (by omega) (by have:=h.cnt; omega)
theorem e4d (h:DbT w):FP (fun i=>i < 8) w DbT:=fun w' _ _ _ hs e=>⟨lL h.1 hs,fun j hj=>by rw [World.cell?_of_block (show w'.heap[4]? = w.heap[4]? from e _ (by decide))]; exact h.2 j hj⟩
structure PuR (s:Stp) (lims:List Lim) (w0 W:World) (p:Ph) (A:Ab) (P:Pst):Prop where
 sys:Sys W p.b A p.h
 jn:IsJn W p.b p.h p.q 0 P.j p.u
 st:StR s lims W p P.items
 yg:∀ i,Mu p i → w0.heap.size ≤ i
 bl:Bw w0 W
 low:8 ≤ w0.heap.size
structure PuSt (p:Ph) (W:World) (p':Ph) (W':World):Prop where
 fr:Fr (Mu p) W W'
 mu:∀ i,Mu p' i → Mu p i ∨ W.heap.size ≤ i
 x:p'.x = p.x
theorem PuSt.trans {p p1 p2:Ph} {W1 W2:World} (a:PuSt p W p1 W1) (b:PuSt p1 W1 p2 W2):PuSt p W p2 W2:=
 ⟨a.fr.trans b.fr a.mu,fun i hi=>(b.mu i hi).elim (a.mu i) (fun h=>.inr (Nat.le_trans a.fr.size h)),b.x.trans a.x⟩
structure PuIt (p:Ph) (W:World) (p':Ph) (W':World):Prop where
 fr:Fr (fun i=>i = p.pb ∨ p.iv.ownBlock = some i) W W'
 iv:∀ i,p'.iv.ownBlock = some i → p.iv.ownBlock = some i ∨ W.heap.size ≤ i
 eq:p' = { p with iv:=p'.iv }
theorem PuIt.below {p:Ph} (hb:Bw W W'):PuIt p W p W':=⟨⟨hb.os,hb.tape,hb.output,hb.size,fun i hi _=>hb.block i hi⟩,fun _ h=>.inl h,rfl⟩
theorem PuIt.refl (p:Ph) (W:World):PuIt p W p W:=⟨Fr.refl _ _,fun _ h=>.inl h,rfl⟩
theorem PuIt.trans {p p1 p2:Ph} {W1 W2:World} (a:PuIt p W p1 W1) (b:PuIt p1 W1 p2 W2):PuIt p W p2 W2:=by
 obtain ⟨a1,a2,a3⟩:=a
 obtain ⟨b1,b2,b3⟩:=b
 rw [a3] at b1 b2 b3
 exact ⟨a1.trans b1 (fun i hi=>hi.elim (fun h=>.inl (.inl h)) (fun h=>(a2 i h).imp .inr id)),fun i hi=>(b2 i hi).elim (a2 i) (fun h=>.inr (Nat.le_trans a1.size h)),b3⟩
theorem PuIt.st {p p':Ph} (t:PuIt p W p' W'):PuSt p W p' W':=by
 obtain ⟨a,c,e⟩:=t
 refine ⟨a.mono (fun i _ hi=>hi.elim (fun h=>.inr (.inr (.inr (.inl h)))) (fun h=>.inr (.inr (.inr (.inr h))))),fun i hi=>?_,by rw [e]⟩
 rw [e] at hi
 rcases hi with hi | hi | hi | hi | hi
 ·exact .inl (.inl hi)
 ·exact .inl (.inr (.inl hi))
 ·exact .inl (.inr (.inr (.inl hi)))
 ·exact .inl (.inr (.inr (.inr (.inl hi))))
 ·exact (c i hi).imp (fun h=>.inr (.inr (.inr (.inr h)))) id
theorem Im.mono {p p':Ph} (hs:W.heap.size ≤ W'.heap.size) (hm:∀ i,Mu p' i → Mu p i ∨ W.heap.size ≤ i) (hx:p'.x = p.x):∀ i,Im p W i → Im p' W' i:=fun i hi=>⟨lL hi.1 hs,fun h=>(hm i h).elim hi.2.1 (fun h2=>by have:=hi.1; omega),by rw [hx]; exact hi.2.2⟩
theorem c9a {p p':Ph} {f:WK} (h:FP (Im p W) W f) (t:PuSt p W p' W'):FP (Im p' W') W' f:=(h.fr t.fr (fun i hi=>⟨hi.1,hi.2.1⟩)).mono (Im.mono t.fr.size t.mu t.x)
theorem PuSt.below {p:Ph} (hb:Bw W W'):PuSt p W p W':=⟨⟨hb.os,hb.tape,hb.output,hb.size,fun i hi _=>hb.block i hi⟩,fun _ h=>.inl h,rfl⟩
theorem StR.keep {s:Stp} {lims:List Lim} {p p':Ph} {items:List Itm} {S:Nat → Prop} (h:StR s lims W p items) (hf:Fr S W W') (hS:∀ i,S i → Mu p i ∧ i ≠ p.pb ∧ p.iv.ownBlock ≠ some i)
  (hm:∀ i,Mu p' i → Mu p i ∨ W.heap.size ≤ i) (e:p'.pb = p.pb ∧ p'.iv = p.iv ∧ p'.lv = p.lv ∧ p'.bv = p.bv ∧ p'.q = p.q ∧ p'.x = p.x) (hsp:∀ i,Own p'.b p'.h i ∨ Rdb p'.h i ∨ JO p'.q p'.u i → Own p.b p.h i ∨ Rdb p.h i ∨ JO p.q p.u i ∨ W.heap.size ≤ i):StR s lims W' p' items:=by
 obtain ⟨e1,e2,e3,e4,e5,e6⟩:=e
 have t:PuSt p W p' W':=⟨hf.mono (fun i _ hi=>(hS i hi).1),hm,e6⟩
 have hlt:=h.pur.lt
 have no:∀ i,i < W.heap.size → ¬ Own p.b p.h i → ¬ Rdb p.h i → ¬ JO p.q p.u i → ¬ Own p'.b p'.h i ∧ ¬ Rdb p'.h i ∧ ¬ JO p'.q p'.u i:=fun i hl a b c=>by
  have key:∀ h:Own p'.b p'.h i ∨ Rdb p'.h i ∨ JO p'.q p'.u i,False:=fun h=>by
   rcases hsp i h with h | h | h | h
   ·exact a h
   ·exact b h
   ·exact c h
   ·omega
  exact ⟨fun h=>key (.inl h),fun h=>key (.inr (.inl h)),fun h=>key (.inr (.inr h))⟩
 refine ⟨?_,?_,?_,h.cnt,?_,?_,by rw [e6]; exact fun i hi=>lL (h.xl i hi) hf.size⟩
 ·have:puC s p' = puC s p:=by simp only [puC,e2,e3,e4,e5]
  rw [this,e1]
  exact (hf.block p.pb hlt (fun hs=>(hS _ hs).2.1 rfl)).trans h.pur
 ·rw [e2]
  exact (h.itm.keep hf (fun i hi=>⟨hi.1,fun hs=>hi.2.1 (hS i hs).1⟩) (fun i hi hs=>(hS i hs).2.2 hi)).mono (Im.mono hf.size hm e6)
 ·rw [e3,e4]
  exact c9a h.rd t
 ·rw [e1]
  exact no _ hlt h.sp.1 h.sp.2.1 h.sp.2.2
 ·rw [e2,e1]
  intro i hi
  have h1:=h.si i hi
  have h2:=no i (h.itm.own hi).1 h1.1 h1.2.1 h1.2.2.1
  exact ⟨h2.1,h2.2.1,h2.2.2,h1.2.2.2⟩
theorem StR.next {s:Stp} {lims:List Lim} {p:Ph} {items:List Itm} (h:StR s lims W p items) (hb:Bw W W'):StR s lims W' p items:=
 h.keep (S:=fun _=>False) ⟨hb.os,hb.tape,hb.output,hb.size,fun i hi _=>hb.block i hi⟩ (fun _ h=>h.elim) (fun _ h=>.inl h) ⟨rfl,rfl,rfl,rfl,rfl,rfl⟩ (fun i h=>by rcases h with h | h | h; exact .inl h; exact .inr (.inl h); exact .inr (.inr (.inl h)))
theorem PuR.next {s:Stp} {lims:List Lim} {p:Ph} {A:Ab} {P:Pst} (h:PuR s lims w0 W p A P) (hb:Bw W W'):PuR s lims w0 W' p A P:=
 ⟨h.sys.below hb,h.jn.below hb,h.st.next hb,h.yg,h.bl.trans (hb.mono h.bl.size),h.low⟩
theorem PuR.jour {s:Stp} {lims:List Lim} {p:Ph} {A A':Ab} {P:Pst} {j':Jn} {h':Dk} {u':Value} (h:PuR s lims w0 W p A P) (s':Sys W' p.b A' h') (jn':IsJn W' p.b h' p.q 0 j' u') (t:JSt W p.b p.h p.q p.u W' h' u') :
  PuR s lims w0 W' { p with h:=h',u:=u' } A' ⟨j',P.items⟩ ∧ PuSt p W { p with h:=h',u:=u' } W':=by
 have hz:=h.bl.size
 have hm:∀ i,Mu { p with h:=h',u:=u' } i → Mu p i ∨ W.heap.size ≤ i:=by
  rintro i (hi | hi | hi | hi | hi)
  ·exact (t.own i hi).imp .inl id
  ·exact (t.rd i hi).imp (fun h=>.inr (.inl h)) id
  ·exact (t.jo i hi).imp (fun h=>.inr (.inr (.inl h))) id
  ·exact .inl (.inr (.inr (.inr (.inl hi))))
  ·exact .inl (.inr (.inr (.inr (.inr hi))))
 have hst:StR s lims W' { p with h:=h',u:=u' } P.items:=h.st.keep t.fr (fun i hi=>by
  rcases hi with hi | hi
  ·exact ⟨.inl hi,fun e=>h.st.sp.1 (e ▸ hi),fun e=>(h.st.si i e).1 hi⟩
  ·exact ⟨.inr (.inr (.inl hi)),fun e=>h.st.sp.2.2 (e ▸ hi),fun e=>(h.st.si i e).2.2.1 hi⟩) hm ⟨rfl,rfl,rfl,rfl,rfl,rfl⟩ (fun i hi=>by
  rcases hi with hi | hi | hi
  ·exact (t.own i hi).imp id (fun h=>.inr (.inr h))
  ·exact (t.rd i hi).elim (fun h=>.inr (.inl h)) (fun h=>.inr (.inr (.inr h)))
  ·exact (t.jo i hi).elim (fun h=>.inr (.inr (.inl h))) (fun h=>.inr (.inr (.inr h))))
 have fr:Fr (Mu p) W W':=t.fr.mono (fun i _ hi=>by rcases hi with hi | hi; exact .inl hi; exact .inr (.inr (.inl hi)))
 refine ⟨⟨s',jn',hst,fun i hi=>(hm i hi).elim (h.yg i) (fun h=>by omega),h.bl.trans ⟨fr.os,fr.tape,fr.output,fr.size,fun i hi=>fr.block i (by omega) (fun hx=>by have:=h.yg i hx; omega)⟩,h.low⟩,fr,hm,rfl⟩
end
end Go.Proofs
namespace Go.Proofs
open Go Go.Sh Go.RowKit FdSpec TkSpec CodeSpec PuSpec
section
variable {α β:Type} {n:Nat} {e:TypeId} {V:World → List Value → α → Prop} {w w' W:World} {v:Value} {l:List α} {mk:β → List Value} {B:Nat} {D E:Nat → Prop} {ys:List β}
theorem c2l (hm:∀ y,(mk y).length = n) (h:w.ownsRow B e n v ys.length (a3a mk ys)):GRow n e (fun _ c y=>c = mk y) B (fun _=>False) w v ys:=by
 refine ⟨ys.map (fun y=>⟨mk y,hm y⟩),?_,fun W _ _ _ _ _=>⟨by simp,fun i c x hc hx=>?_⟩⟩
 ·have e1:a3a Cl.cs (ys.map (fun y=>(⟨mk y,hm y⟩:Cl n))) = a3a mk ys:=by
   unfold a3a
   rw [List.flatMap_map]
   rfl
  rw [e1]
  exact h
 ·rw [List.getElem?_map,hx] at hc
  simp at hc
  rw [← hc]
theorem GRow.conv {f:β → α} (h:GRow n e (fun _ c y=>c = mk y) B D w v ys) (hE:FP E w (fun W=>∀ y ∈ ys,V W (mk y) (f y))):GRow n e V B E w v (ys.map f):=by
 obtain ⟨cs,h1,h2⟩:=h.ex
 refine ⟨cs,by rw [List.length_map]; exact h1,hE.imp fun W hW=>?_⟩
 obtain ⟨a,b⟩:=h2.here
 refine ⟨by simpa using a,fun i c x hc hx=>?_⟩
 rw [List.getElem?_map,Option.map_eq_some_iff] at hx
 obtain ⟨y,hy,rfl⟩:=hx
 rw [b i c y hc hy]
 exact hW y (List.mem_of_getElem? hy)
theorem c6c {f:β → α} {Q:World → β → Prop} (hm:∀ y,(mk y).length = n) (hp:∀ c x,V w c x → ∃ y,c = mk y ∧ f y = x ∧ Q w y) {b:Nat} (hb:b < w.heap.size):∀ (l:List α) (o:Nat),(∀ (i:Nat) (h:i < l.length),b8b n V w b (o + i * n) l[i]) →
  ∃ ys:List β,ys.map f = l ∧ (∀ y ∈ ys,Q w y) ∧ ∀ (k:Nat) (x:Value),(a3a mk ys)[k]? = some x → w.cell? ⟨b,o + k,none⟩ = some x
 | [],o,_=>⟨[],rfl,(fun _ h=>by cases h),(fun k x h=>by simp [a3a] at h)⟩
 | a :: l,o,h=>by
  obtain ⟨c1,hc1,hc2,hc3⟩:=h 0 (by simp)
  obtain ⟨y,rfl,hy2,hy3⟩:=hp c1 a hc3
  obtain ⟨ys,h1,h2,h3⟩:=c6c (f:=f) (Q:=Q) hm hp hb l (o + n) (fun i hi=>by
   have:=h (i + 1) (by simp; omega)
   rw [Nat.succ_mul] at this
   rw [show o + n + i * n = o + (i * n + n) by omega]
   exact this)
  refine ⟨y :: ys,by simp [hy2,h1],fun z hz=>?_,fun k x hk=>?_⟩
  ·rcases List.mem_cons.1 hz with rfl | hz
   ·exact hy3
   ·exact h2 z hz
  ·rw [b0x] at hk
   by_cases hkn:k < n
   ·rw [List.getElem?_append_left (by rw [hm]; omega)] at hk
    have:=hc2 k x hk
    rwa [Nat.zero_mul,Nat.add_zero] at this
   ·rw [List.getElem?_append_right (by rw [hm]; omega),hm] at hk
    have:=h3 (k - n) x hk
    rwa [show o + n + (k - n) = o + k by omega] at this
theorem SRow.rowR {f:β → α} {Q:World → β → Prop} {a:Addr} {m c:Nat} (hm:∀ y,(mk y).length = n) (hp:∀ c x,V w c x → ∃ y,c = mk y ∧ f y = x ∧ Q w y) (h:SRow n (b8b n V) w (.slice (some a) m c) l) :
  ∃ ys:List β,ys.map f = l ∧ (∀ y ∈ ys,Q w y) ∧ RowR mk n w (.slice (some a) m c) ys:=by
 obtain ⟨⟨ad,c',hv,hr⟩,_⟩:=h
 cases hv
 rcases hr with rfl | ⟨b,o,hbo,hlt,hc⟩
 ·exact ⟨[],rfl,(fun _ h=>by cases h),_,_,rfl,(fun h=>by cases h),.inl rfl⟩
 ·obtain ⟨ys,h1,h2,h3⟩:=c6c (f:=f) (Q:=Q) hm hp hlt l o hc
  refine ⟨ys,h1,h2,_,_,by rw [← h1,List.length_map],(fun h=>by cases h),.inr ⟨b,o,hbo,hlt,h3⟩⟩
end
abbrev LkP:=Lnk × (Option Addr × Nat × Nat)
@[reducible] def g7o (y:LkP):Value:=.slice y.2.1 y.2.2.1 y.2.2.2
@[reducible] def f8j (y:LkP):List Value:=lkC y.1 (g7o y)
section
variable {K:VK} {w w' w0 W W':World} {L:List (Addr × Value)} {rb b:Nat}
theorem f2n (c:List Value) (x:Lnk) (h:c6n w c x):∃ y:LkP,c = f8j y ∧ y.1 = x ∧ (Ints w (g7o y) y.1.spend.answers ∧ WLnk y.1):=by
 obtain ⟨av,rfl,h1,h2⟩:=h
 obtain ⟨ad,c,rfl⟩:=h1.isSlice
 exact ⟨(x,ad,_,c),rfl,rfl,h1,h2⟩
def LkRow (w:World) (v:Value) (ys:List LkP):Prop:=(∃ c,v = .slice none ys.length c ∧ ys = []) ∨ ∃ a c,v = .slice (some a) ys.length c ∧ RowR f8j 9 w v ys
theorem f2o {v:Value} {l:List Lnk} (hr:b7s w v l):∃ ys,ys.map (fun y:LkP=>y.1) = l ∧ (∀ y ∈ ys,Ints w (g7o y) y.1.spend.answers ∧ WLnk y.1) ∧ LkRow w v ys:=by
 obtain ⟨ad,c,rfl⟩:=hr.isSlice
 cases ad with
 | none=>
  have:l = []:=by
   obtain ⟨⟨a',c',hv,h⟩,_⟩:=hr
   cases hv
   rcases h with h | ⟨b,o,hb,_⟩
   ·exact h
   ·cases hb
  subst this
  exact ⟨[],rfl,(fun _ h=>by cases h),.inl ⟨c,rfl,rfl⟩⟩
 | some a=>
  obtain ⟨ys,rfl,hq,hi⟩:=hr.rowR (mk:=f8j) (f:=fun y:LkP=>y.1) (Q:=fun w y=>Ints w (g7o y) y.1.spend.answers ∧ WLnk y.1) (fun _=>rfl) (fun c x h=>f2n c x h)
  exact ⟨ys,rfl,hq,.inr ⟨a,c,by rw [List.length_map],hi⟩⟩
theorem LkRow.next {v:Value} {ys:List LkP} (h:LkRow w v ys) (hb:Bw w w'):LkRow w' v ys:=h.imp id (fun ⟨a,c,e,h⟩=>⟨a,c,e,h.keep hb.size (fun i _ hi=>hb.block i hi)⟩)
theorem c9b {v:Value} {ys:List LkP} (hr:LkRow w v ys) (hl:ys.length < 1000) (k:∀ v' w',GRow 9 95 (fun _ c y=>c = f8j y) w.heap.size (fun _=>False) w' v' ys → Bw w w' → K v' w'):a0a Tryz.prog 194 #[v] K w:=by
 apply d6x
 unfold f5a
 rcases hr with ⟨c,rfl,rfl⟩ | ⟨a,c,rfl,hi⟩
 ·refine b3i (e:=95) (by kernel_rfl) ?_
  simp only [Option.isNone_none]
  refine Xa0 ?_
  exact k _ _ .nil (bR)
 ·refine b3i (e:=95) (by kernel_rfl) ?_
  simp only [Option.isNone_some]
  refine Xa0 ?_
  have hr2:RowR f8j 9 (w.alloc (.cells #[] 95)) _ ys:=hi.keep (by rw [a0z]; omega) (fun i _ hi=>heap_alloc_old _ _ hi)
  refine b5p 32 32 95 ((Tryz.prog.info? 95).getD default) (.agg lnkZ.toArray) 9 96 (by kernel_rfl) (by kernel_rfl) (by kernel_rfl) (by kernel_rfl) (by kernel_rfl) (by kernel_rfl) (by omega) (fun _=>rfl) (fun x=>b2g _ _ _ _) hr2 (World.ownsRow_lit w #[] 0 (Nat.zero_le _) (Nat.zero_le _) rfl) (B:=w.heap.size) (by rw [a0z]; omega) (fun i hi=>by cases hi; exact rL) (by omega) (by omega) ?_
  intro v' w' ho hg hv
  refine k v' w' (c2l (fun _=>rfl) (a8o ho hv)) ?_
  exact a0y ((Below.refl _ w).alloc (rL) _) hg (rL)
end
end Go.Proofs
namespace Go.Proofs
open Go Go.Sh Go.RowKit FdSpec TkSpec CodeSpec PuSpec
section
variable {K:VK} {w w' w0 W W':World} {L:List (Addr × Value)} {rb b:Nat}
theorem b3o {B:Nat} {v:Value} {l:List Int} (h:OwnI w B v l) (hb:Bw w w'):OwnI w' B v l:=a1j h (fun i hi=>hb.block i (a0x h hi).1)
theorem _root_.Go.Sh.GRow.base {α:Type} {n:Nat} {e:TypeId} {V:World → List Value → α → Prop} {B C:Nat} {D:Nat → Prop} {v:Value} {l:List α} (h:GRow n e V B D w v l) (hC:C ≤ B):GRow n e V C D w v l:=by
 obtain ⟨cs,h1,h2⟩:=h.ex
 exact ⟨cs,a8x h1 hC,h2⟩
theorem _root_.Go.Sh.GRow.typ {α:Type} {n:Nat} {e:TypeId} {V:World → List Value → α → Prop} {B:Nat} {D:Nat → Prop} {v:Value} {l:List α} (h:GRow n e V B D w v l) {i:Nat} (hi:v.ownBlock = some i):∃ cur,w.heap[i]? = some (.cells cur e (0,0)):=by
 obtain ⟨cs,h1,h2⟩:=h.ex
 exact (a0x h1 hi).2.2
def GLk (B:Nat) (w:World) (v:Value) (ys:List LkP):Prop:=GRow 9 95 (fun _ c y=>c = f8j y) B (fun _=>False) w v ys
theorem e4h (h:Hld) {av yv kv:Value} (hh:HldR w h av yv kv) (ha:h.attrs.length < 1099511627776) (hy:h.bl.ys.length < 1099511627776) (hk:h.links.length < 1000) (hx:∀ x ∈ h.links,x.spend.answers.length < 1099511627776)
  (k:∀ w' av yv kv,Bw w w' → Fresh w w' (fun W=>HldR W h av yv kv) → GRow 9 95 c6n w.heap.size (fun j=>w.heap.size ≤ j ∧ j < w'.heap.size ∧ kv.ownBlock ≠ some j) w' kv h.links → K (b8c h av yv kv) w'):a0a Tryz.prog 120 #[b8c h av yv kv] K w:=by
 apply d6y
 unfold f5b
 obtain ⟨a1,c1,rfl⟩:=hh.attrs.isSlice
 obtain ⟨a2,c2,rfl⟩:=hh.ys.isSlice
 obtain ⟨ys,he,hq,hR⟩:=f2o hh.links
 have hyl:ys.length = h.links.length:=by rw [← he,List.length_map]
 obtain ⟨a3,c3,rfl⟩:=hh.links.isSlice
 refine a4f (cs:=b2f h (.slice a1 h.attrs.length c1) (.slice a2 h.bl.ys.length c2) (.slice a3 h.links.length c3)) rfl (fun b1 w1 h1 hb1 hB=>?_)
 refine a0m b0e (fun g2 w2 h2 hg2 hG=>?_)
 have hlt1:b1 < g2:=lL hB.lt hg2
 have hB:=(hB.next h2).next (.drawn (B:=w2.heap.size))
 have hG:=hG.next (.drawn (B:=w2.heap.size))
 have h03:=(h1.on h2).on (.drawn (B:=w2.heap.size))
 refine ⟨Nx { w2 with drawn:=w2.drawn + 1 },bR,rfl,?_⟩
 generalize ({ w2 with drawn:=w2.drawn + 1 }:World) = W3 at hB hG h03 ⊢
 have hlW3:=hB.lt
 have hgW3:=hG.lt
 refine Xc (fun W0 hW0=>(hB.next hW0).are) ?_
 refine ⟨Nx,?_⟩
 refine b0h (fun v w'=>OwnI w' W3.heap.size v h.attrs) (fun v w w1 hS h=>b3o h hS) ?_ ?_
 ·intro w4 h4
  exact b3j (hh.attrs.next (h03.on h4)) ha (fun v' w5 ho h5 hv=>⟨h4.on h5,h5,a8o ho (fun i hi=>Nat.le_trans h4.size (hv i hi))⟩)
 refine b0h (fun v w'=>OwnI w' W3.heap.size v h.bl.ys) (fun v w w1 hS h=>b3o h hS) ?_ ?_
 ·intro w4 h4
  exact b3j (hh.ys.next (h03.on h4)) hy (fun v' w5 ho h5 hv=>⟨h4.on h5,h5,a8o ho (fun i hi=>Nat.le_trans h4.size (hv i hi))⟩)
 refine b0h (fun v w'=>GLk W3.heap.size w' v ys) (fun v w w1 hS h=>GRow.next h hS (fun _ h=>h.elim)) ?_ ?_
 ·intro w4 h4
  exact c9b (hR.next (h03.on h4)) (by omega) (fun v' w5 hG h5=>⟨h4.on h5,h5,hG.base h4.size⟩)
 refine Xd0 ?_
 rintro w9 h9 v1 o1 v2 o2 v3 hGk _ rfl
 have hB:=hB.next h9
 have hG:=hG.next h9
 have hs9:=h9.size
 have hbl:=h03.size
 have hb3:=h9.size
 obtain ⟨d1,e1,rfl⟩:∃ ad c,v1 = .slice ad h.attrs.length c:=a2a o1
 obtain ⟨d2,e2,rfl⟩:∃ ad c,v2 = .slice ad h.bl.ys.length c:=a2a o2
 obtain ⟨d3,e3,rfl⟩:∃ ad c,v3 = .slice ad ys.length c:=GRow.isSlice hGk
 rw [hyl] at hGk ⊢
 have hdis1:∀ i,(Value.slice d3 h.links.length e3).ownBlock = some i → Value.inBlock (.slice d1 h.attrs.length e1) = some i → False:=fun i a b=>by
  obtain ⟨_,t1⟩:=GRow.typ hGk a
  obtain ⟨_,_,_,t2⟩:=a0x o1 (b1b o1 b)
  rw [t1] at t2
  cases t2
 have hdis2:∀ i,(Value.slice d3 h.links.length e3).ownBlock = some i → Value.inBlock (.slice d2 h.bl.ys.length e2) = some i → False:=fun i a b=>by
  obtain ⟨_,t1⟩:=GRow.typ hGk a
  obtain ⟨_,_,_,t2⟩:=a0x o2 (b1b o2 b)
  rw [t1] at t2
  cases t2
 have p1:=(o1.ints (fun x hx=>a1f (hh.wf.attrs x hx)) hh.attrs.len).fp
 have p2:=(o2.ints (fun x hx=>a1f (hh.wf.ys x hx)) hh.ys.len).fp
 have q1:∀ i,Value.inBlock (.slice d1 h.attrs.length e1) = some i → W3.heap.size ≤ i:=fun i hi=>(a0x o1 (b1b o1 hi)).2.1
 have q2:∀ i,Value.inBlock (.slice d2 h.bl.ys.length e2) = some i → W3.heap.size ≤ i:=fun i hi=>(a0x o2 (b1b o2 hi)).2.1
 refine a2j (i:=2) a9x rfl rfl hB (by simp) (fun w10 hg10 hB=>?_)
 simp only [List.set_cons_succ,List.set_cons_zero] at hB
 refine Xa0 ?_
 refine a2j (i:=6) a9x rfl rfl hB (by simp) (fun w11 hg11 hB=>?_)
 simp only [List.set_cons_succ,List.set_cons_zero] at hB
 refine Xa0 ?_
 refine a2j (i:=13) c8v rfl rfl hB (by simp) (fun w12 hg12 hB=>?_)
 simp only [List.set_cons_succ,List.set_cons_zero] at hB
 have f12:Fr (fun i=>i = b1) w9 w12:=((Fr.of_by hg10).trans (Fr.of_by hg11) (fun i hi=>.inl hi)).trans (Fr.of_by hg12) (fun i hi=>.inl hi)
 have c12:=hB.are
 refine Xa @c12 ?_
 have h12s:=f12.size
 have hb12:∀ i,i < w.heap.size → w12.heap[i]? = w.heap[i]?:=fun i hi=>(f12.block i (by omega) (by omega)).trans ((h9.block i (by omega)).trans (h03.block i hi))
 have hb012:Bw w w12:=⟨f12.os.trans (h9.os.trans h03.os),f12.tape.trans (h9.tape.trans h03.tape),f12.output.trans (h9.output.trans h03.output),by omega,hb12⟩
 have hB1:=hB.lt
 have hg3:∀ i,(Value.slice d3 h.links.length e3).ownBlock = some i → W3.heap.size ≤ i ∧ i < w12.heap.size:=fun i hi=>by have:=GRow.own hGk hi; omega
 have hGk:GLk W3.heap.size w12 (.slice d3 h.links.length e3) ys:=GRow.keep hGk f12 (fun _ h=>h.elim) (fun i hi e=>by have:=(hg3 i hi).1; omega)
 have p1:=p1.fr f12 (fun i hi=>⟨hi.2,fun e=>by have:=q1 i hi.1; omega⟩)
 have p2:=p2.fr f12 (fun i hi=>⟨hi.2,fun e=>by have:=q2 i hi.1; omega⟩)
 generalize hv3:Value.slice d3 h.links.length e3 = v3 at *
 refine ⟨fun vs W=>∃ (u:Value) (i:Nat) (zs:List LkP),vs = [u,.int .i64 (i:Int)] ∧ i ≤ h.links.length ∧ GLk W3.heap.size W v3 zs ∧ zs.map (fun y:LkP=>y.1) = h.links ∧ zs.drop i = ys.drop i ∧ Fr (fun j=>v3.ownBlock = some j) w12 W ∧ (∀ y ∈ zs.take i,FP (fun j=>w12.heap.size ≤ j ∧ j < W.heap.size) W (fun W=>Ints W (g7o y) y.1.spend.answers)),
  (fun vs _=>match vs with | [_,.int _ i]=>h.links.length - i.toNat | _=>0),⟨_,0,ys,rfl,by omega,hGk,he,rfl,Fr.refl _ _,by simp⟩,?_⟩
 rintro _ _ w13 ⟨u,i,zs,rfl,hi,hGz,hz,hd,f13,hfz⟩
 have hs13:=f13.size
 have hB13:Holds w13 b1 34 _:=(f13.block b1 hB1 (fun e=>by have:=(hg3 _ e).1; omega)).trans hB
 by_cases hin:i = h.links.length
 ·have hzl:zs.length = h.links.length:=by rw [← hz,List.length_map]
  subst hin
  rw [← hzl,List.take_length] at hfz
  have p1:=p1.fr f13 (fun i hi=>⟨by omega,fun e=>hdis1 i e hi.1⟩)
  have p2:=p2.fr f13 (fun i hi=>⟨by omega,fun e=>hdis2 i e hi.1⟩)
  have hwz:∀ y ∈ zs,WLnk y.1:=fun y hy=>hh.wf.links _ (by rw [← hz]; exact List.mem_map_of_mem hy)
  have p3:FP (fun j=>w12.heap.size ≤ j ∧ j < w13.heap.size) w13 (fun W=>∀ y ∈ zs,c6n W (f8j y) y.1):=fun w' a b c d e y hy=>⟨_,rfl,hfz y hy w' a b c d e,hwz y hy⟩
  have hGl:=GRow.conv (V:=c6n) (f:=fun y:LkP=>y.1) hGz p3
  rw [hz] at hGl
  have p3:=hGl.fp (by omega) (by have:=hh.links.len; omega)
  have hG13:Holds w13 g2 34 hldZ:=(f13.block g2 (by omega) (fun e=>by have:=(hg3 _ e).1; omega)).trans ((f12.block g2 (by omega) (by omega)).trans hG)
  have P:FP (fun i=>W3.heap.size ≤ i ∧ i < w13.heap.size) w13 (fun W=>HldR W h (.slice d1 h.attrs.length e1) (.slice d2 h.bl.ys.length e2) v3):=((p1.and p2).and p3 |>.imp (fun W hW=>⟨hW.1.1,hW.1.2,hW.2,hh.wf⟩)).mono (fun i hi=>by
   rcases hi with (hi | hi) | hi | hi
   ·have:=q1 i hi.1; omega
   ·have:=q2 i hi.1; omega
   ·omega
   ·have:=hg3 i hi; omega)
  refine Xa0 ?_
  obtain ⟨d3',e3',rfl⟩:=hGl.isSlice
  refine a2k hB13 a4u (by kernel_rfl) (by kernel_rfl) ?_
  refine a0i a8j rfl rfl (a5s _ _ _ _ _ _ _ _ _ _ _ _ _ _ _ _ _ _ _ _) hG13 rfl (fun w14 hg14 hG14=>?_)
  refine a5p hG14 a4u (by kernel_rfl) (by kernel_rfl) ?_
  have hs14:=hg14.size
  refine k _ _ _ _ ⟨hg14.os.trans (f13.os.trans hb012.os),hg14.tape.trans (f13.tape.trans hb012.tape),hg14.output.trans (f13.output.trans hb012.output),by omega,fun i hi=>(hg14.block i (by omega) (fun e=>by cases e; omega)).trans ((f13.block i (by omega) (fun e=>by have:=(hg3 _ e).1; omega)).trans (hb12 i hi))⟩ ?_ ?_
  ·exact (P.fr (Fr.of_by hg14) (fun i hi=>⟨hi.2,fun e=>by omega⟩)).mono (fun i hi=>⟨by omega,by omega⟩)
  ·exact ((hGl.keep (Fr.of_by hg14) (fun i hi=>⟨hi.2,fun e=>by omega⟩) (fun i hi e=>by have:=hg3 i hi; omega)).base (by omega)).mono (fun i hi=>⟨by omega,by omega,fun e=>by have:=hg3 i e; omega⟩)
 ·have hil:i < h.links.length:=by omega
  have hiZ:(i:Int) < h.links.length:=by omega
  have hzl:zs.length = h.links.length:=by rw [← hz,List.length_map]
  have hzi:i < zs.length:=by omega
  have hyi:i < ys.length:=by omega
  have ezy:zs[i] = ys[i]:=by
   have:=congrArg (fun l=>l[0]?) hd
   simp only [List.getElem?_drop,Nat.add_zero] at this
   rw [gE hzi,gE hyi] at this
   exact oI this
  have hq0:=hq ys[i] (List.getElem_mem hyi)
  obtain ⟨g,c,cs,hvg,hgl,hgB,hcl,hcc,hVc⟩:=GRow.elem hGz (gE hzi)
  have hcs:=hVc.here
  subst hcs
  rw [hzl] at hvg
  subst hvg
  refine Xa @hiZ ?_
  refine a3n hcc c0g (by kernel_rfl) (by kernel_rfl) ?_
  refine a0m c5s (fun g14 w14 h14 hg14 hL=>?_)
  have hL14:=hL.lt
  refine a0i c5t (xs:=f8j zs[i]) rfl rfl (b2g _ _ _ _) hL rfl (fun w15 hg15 hL=>?_)
  have hb1w:b1 < w13.heap.size:=hB13.lt
  have hs14:=h14.size
  have hs15:=hg15.size
  have hB15:=((hB13.next h14).other hg15 (by omega)).next (.drawn (B:=w15.heap.size))
  have hL:=hL.next (.drawn (B:=w15.heap.size))
  have f16:Fr (fun _=>False) w13 { w15 with drawn:=w15.drawn + 1 }:=((Fr.of_below (S:=fun _=>False) h14).trans (Fr.of_by hg15) (fun i hi=>.inr (by omega))).trans (Fr.of_below (S:=fun _=>False) .drawn) (fun i hi=>hi.elim)
  have hx0:=gE hzi
  have hwy:∀ x ∈ zs[i].1.spend.answers,I64 x:=fun x hx=>a1f ((hh.wf.links _ (by rw [← hz]; exact List.mem_map_of_mem (List.getElem_mem hzi))).ans x hx)
  have hxl:zs[i].1.spend.answers.length < 1099511627776:=hx _ (by rw [← hz]; exact List.mem_map_of_mem (List.getElem_mem hzi))
  refine ⟨Nx { w15 with drawn:=w15.drawn + 1 },bR,rfl,?_⟩
  generalize ({ w15 with drawn:=w15.drawn + 1 }:World) = W16 at hB15 hL f16 ⊢
  have hs16:=f16.size
  have hb016:Bw w W16:=⟨f16.os.trans (f13.os.trans hb012.os),f16.tape.trans (f13.tape.trans hb012.tape),f16.output.trans (f13.output.trans hb012.output),by omega,fun i hi=>(f16.block i (by omega) id).trans ((f13.block i (by omega) (fun e=>by have:=(hg3 _ e).1; omega)).trans (hb12 i hi))⟩
  rw [← ezy] at hq0
  refine Xc (fun W0 hW0=>An2 ((hB15.next hW0).are) ((hL.next hW0).are)) ?_
  refine ⟨Nx,?_⟩
  refine b0h (fun v w'=>OwnI w' W16.heap.size v zs[i].1.spend.answers) (fun v w w1 hS h=>b3o h hS) ?_ ?_
  ·intro w4 h4
   exact b3j (hq0.1.next (hb016.on h4)) hxl (fun v' w5 ho h5 hv=>⟨h4.on h5,h5,a8o ho (fun i hi=>Nat.le_trans h4.size (hv i hi))⟩)
  rintro w17 h17 v17 o17
  obtain ⟨d17,e17,rfl⟩:∃ ad c,v17 = .slice ad zs[i].1.spend.answers.length c:=a2a o17
  have hs17:=h17.size
  have f17:Fr (fun _=>False) w13 w17:=f16.trans (Fr.of_below (S:=fun _=>False) h17) (fun i hi=>hi.elim)
  have hG17:GLk W3.heap.size w17 _ zs:=GRow.keep hGz f17 (fun _ h=>h.elim) (fun _ _=>id)
  have p17:=(o17.ints hwy (by omega)).fp
  have q17:∀ j,Value.inBlock (.slice d17 zs[i].1.spend.answers.length e17) = some j → W16.heap.size ≤ j:=fun j hj=>(a0x o17 (b1b o17 hj)).2.1
  unfold GLk at hG17
  rw [← hzl] at hG17
  refine Xa @hiZ ?_
  refine GRow.put (off:=7) (m:=1) (xs:=[.slice d17 zs[i].1.spend.answers.length e17]) (y:=((zs[i].1,d17,zs[i].1.spend.answers.length,e17):LkP)) hG17 hx0 (by omega) a9x rfl rfl (fun u hu=>by rw [List.mem_singleton] at hu; subst hu; rfl) (fun _ h=>h.elim) (fun cs _ _ h=>h.imp (fun W e=>by subst e; rfl)) (fun w18 hg18 hG18=>?_)
  have hs18:=hg18.size
  have hgw:=(hg3 g rfl).2
  refine Xa0 ?_
  refine ⟨⟨_,i + 1,zs.set i (zs[i].1,d17,zs[i].1.spend.answers.length,e17),rfl,by omega,by rw [← hzl]; exact hG18,?_,?_,(f13.trans f17 (fun i hi=>hi.elim)).trans (Fr.of_by hg18) (fun j hj=>.inl (by subst hj; rfl)),?_⟩,by show h.links.length - (((i + 1:Nat):Int)).toNat < h.links.length - ((i:Nat):Int).toNat; omega⟩
  ·rw [List.map_set,← hz]
   have:(zs.map (fun y:LkP=>y.1))[i]'(by rw [List.length_map]; exact hzi) = zs[i].1:=List.getElem_map _
   rw [← this]
   exact List.set_getElem_self _
  ·rw [List.drop_set_of_lt (by omega)]
   have:=congrArg (fun l=>l.drop 1) hd
   simpa [List.drop_drop] using this
  ·intro y hy
   rw [List.take_set,List.take_succ_eq_append_getElem hzi,List.set_append_right _ _ (by simp; omega)] at hy
   have e0:i - (zs.take i).length = 0:=by rw [List.length_take]; omega
   rw [e0] at hy
   rcases List.mem_append.1 hy with hy | hy
   ·exact ((hfz y hy).fr (((f17.mono (fun _ _ h=>h.elim)).trans (Fr.of_by hg18) (fun j hj=>.inl hj):Fr (fun j=>j = g) w13 w18)) (fun j hj=>⟨hj.2,fun e=>by omega⟩)).mono (fun j hj=>⟨hj.1,by omega⟩)
   ·simp only [List.set_cons_zero,List.mem_singleton] at hy
    subst hy
    exact (p17.fr (Fr.of_by hg18) (fun j hj=>⟨hj.2,fun e=>by have:=q17 j hj.1; omega⟩)).mono (fun j hj=>⟨by have:=q17 j hj.1; omega,by omega⟩)
theorem d1k (h:Hld) {av yv kv:Value} (hh:HldR w h av yv kv) (ha:h.attrs.length < 1099511627776) (hy:h.bl.ys.length < 1099511627776) (hk:h.links.length < 1000) (hx:∀ x ∈ h.links,x.spend.answers.length < 1099511627776)
  (k:∀ w' av yv kv,Bw w w' → Fresh w w' (fun W=>HldR W h av yv kv) → K (b8c h av yv kv) w'):a0a Tryz.prog 120 #[b8c h av yv kv] K w:=
 e4h h hh ha hy hk hx (fun w' av yv kv hb hF _=>k w' av yv kv hb hF)
end
end Go.Proofs
namespace Go.Proofs
open Go Go.Sh Go.RowKit FdSpec TkSpec CodeSpec PuSpec DkSpec JnSpec
section
variable {K:VK} {w w' w0 W W':World} {L:List (Addr × Value)} {rb b:Nat} {s:Stp} {lims:List Lim} {p:Ph} {items:List Itm}
theorem g1i (x:Itm) (t:Tkt) {av yv lv:Value} {b:Nat} (hh:HldR w x.held av yv lv) (hb:a2h w (cellsOf [] b 0 (b4y t))) (k:∀ w',Bw w w' → K (.bool (decide (x.held.t = t))) w'):a0a Tryz.prog 190 #[g7n x av yv lv,.pointer (some ⟨b,0,none⟩)] K w:=by
 apply d7a
 unfold f5d
 obtain ⟨a1,n1,c1,a2,n2,c2,a3,n3,c3,rfl,rfl,rfl⟩:=a1k hh
 have hk:Kn w (cellsOf [] b 0 (b4y t)) w:=⟨bR,hb⟩
 refine a1b (cs:=c8w x (.slice a1 n1 c1) (.slice a2 n2 c2) (.slice a3 n3 c3)) rfl hk fun b1 W hk hb1 hbb=>?_
 refine Xa hk.cells ?_
 refine g1e x.held.t t (fun w2 h2=>?_)
 refine Xa0 ?_
 exact k _ (hk.next h2).below
theorem f8k (h:StR s lims w p items) (t:Tkt) (k:∀ w',Bw w w' → K (.bool (c0r items t)) w'):a0a Tryz.prog 118 #[.pointer (some ⟨p.pb,0,none⟩),b7p t] K w:=by
 apply d6z
 unfold f5c
 refine a1b (cs:=b4y t) rfl (.start w) fun b1 W hk hb1 hbb=>?_
 have hp:=(h.pur.next hk.below).cell 6 (by simp)
 simp only [List.getElem_cons_zero,List.getElem_cons_succ] at hp
 refine Xa @hp ?_
 refine b8r (fun i=>decide (i.held.t = t)) (h.items.next (a1o c5x) hk.below) ?_ (fun w2 h2=>?_)
 ·rintro w' x cs K' T hb hx ⟨av,yv,lv,rfl,hh,_⟩ h'
  refine a3q (by kernel_rfl) ?_
  exact g1i x t hh (hk.next hb).cells h'
 ·have k:=k _ (hk.below.on h2)
  unfold c0r at k
  refine Xa0 ?_
  exact k
theorem StR.grew (h:StR s lims W p items) (hmu:∀ i,Mu p i → i < W.heap.size) {x:Itm} {v':Value} {W2:World} (hG:GRow 18 93 c5w 0 (Im p W) W' v' (items ++ [x])) (hg:W.grownBy W' p.iv.ownBlock) (hv:∀ i,v'.ownBlock = some i → p.iv.ownBlock = some i ∨ W.heap.size ≤ i)
  (hs:W'.grownBy W2 (some p.pb)) (hH:Holds W2 p.pb 130 ((puC s p).set 6 v')) (hc:items.length + 1 ≤ 400):StR s lims W2 { p with iv:=v' } (items ++ [x]) ∧ PuIt p W { p with iv:=v' } W2:=by
 have hs1:=hg.size
 have hs2:=hs.size
 have hpb:=hmu p.pb (.inr (.inr (.inr (.inl rfl))))
 have f1:Fr (fun i=>i = p.pb ∨ p.iv.ownBlock = some i) W W':=(Fr.of_by' hg).mono (fun i _ hi=>.inr hi)
 have f2:Fr (fun i=>i = p.pb) W' W2:=Fr.of_by hs
 have t:PuIt p W { p with iv:=v' } W2:=⟨f1.trans f2 (fun i hi=>.inl (.inl hi)),hv,rfl⟩
 refine ⟨⟨hH,?_,c9a h.rd t.st,by rw [List.length_append]; exact hc,h.sp,fun i hi=>?_,fun i hi=>by have:=h.xl i hi; omega⟩,t⟩
 ·refine GRow.mono (GRow.keep hG f2 (fun i hi=>⟨by have:=hi.1; omega,fun e=>hi.2.1 (.inr (.inr (.inr (.inl e))))⟩) (fun i hi e=>?_)) (Im.mono t.fr.size t.st.mu rfl)
  rcases hv i hi with h1 | h1
  ·exact (h.si i h1).2.2.2 e
  ·omega
 ·rcases hv i hi with h1 | h1
  ·exact h.si i h1
  ·refine ⟨fun e=>?_,fun e=>?_,fun e=>?_,(show i ≠ p.pb by omega)⟩
   ·have:=hmu i (.inl e); omega
   ·have:=hmu i (.inr (.inl e)); omega
   ·have:=hmu i (.inr (.inr (.inl e))); omega
theorem d1l (hmu:∀ i,Mu p i → i < w0.heap.size) (hx:∀ i,p.x i → i < w0.heap.size) {f:WK} (h:Fresh w0 W f):FP (Im p W) W f:=h.mono (fun i hi=>⟨hi.2,fun e=>by have:=hmu i e; omega,fun e=>by have:=hx i e; omega⟩)
@[reducible] def itmZ:List Value:=hldZ ++ [.int .i64 0,.int .i64 0,.bool false,.bool false]
theorem b7x (a b c d e f g h i j k:Int) (a1 a2 a3:Option Addr) (n1 n2 n3 c1 c2 c3:Nat) (l m:Int) (x y:Bool):∀ u ∈ ([.int .i64 a,.int .i64 b,.slice a1 n1 c1,.int .i64 c,.int .i64 d,.int .i64 e,.slice a2 n2 c2,.int .i64 f,.int .i64 g,.int .i64 h,.int .i64 i,.int .i64 j,.int .i64 k,.slice a3 n3 c3,.int .i64 l,.int .i64 m,.bool x,.bool y]:List Value),u.oneCell' = true:=by
 intro u hu
 simp only [List.mem_cons,List.not_mem_nil,or_false] at hu
 rcases hu with rfl | rfl | rfl | rfl | rfl | rfl | rfl | rfl | rfl | rfl | rfl | rfl | rfl | rfl | rfl | rfl | rfl | rfl <;> rfl
theorem c6e (T:TypeId) (h:Hld) (a1 a2 a3:Option Addr) (n1 n2 n3 c1 c2 c3:Nat):oM Tryz.prog (Go.Op.build 93 #[(0,(.tmp 0))]) T [b8c h (.slice a1 n1 c1) (.slice a2 n2 c2) (.slice a3 n3 c3)] = a0f (g7n (a3e h) (.slice a1 n1 c1) (.slice a2 n2 c2) (.slice a3 n3 c3)):=by
 funext K w
 kernel_rfl
theorem e4i {T:TypeId} (x:Itm) {a1 a2 a3:Option Addr} {n1 n2 n3 c1 c2 c3:Nat} (k:∀ g W,Bw w W → w.heap.size ≤ g → Holds W g 93 (c8w x (.slice a1 n1 c1) (.slice a2 n2 c2) (.slice a3 n3 c3)) → K (.slice (some ⟨g,0,none⟩) 1 1) W):oM Tryz.prog (.buildSlice 90 1 #[(0,.tmp 0)]) T [g7n x (.slice a1 n1 c1) (.slice a2 n2 c2) (.slice a3 n3 c3)] K w:=by
 rw [a3t]; exact c1i (by kernel_rfl) k
theorem c6f {B:Nat} {D:Nat → Prop} {v:Value} {l:List Itm} {x:Itm} {T:TypeId} {a1 a2 a3:Option Addr} {n1 n2 n3 c1 c2 c3:Nat} {q:Nat} (h:GRow 18 93 c5w B D w v l) (hB:B ≤ w.heap.size) (hq:Holds w q 93 (c8w x (.slice a1 n1 c1) (.slice a2 n2 c2) (.slice a3 n3 c3)))
  (hx:FP D w (fun w=>c5w w (c8w x (.slice a1 n1 c1) (.slice a2 n2 c2) (.slice a3 n3 c3)) x)) (hD:∀ i,D i → i < w.heap.size ∧ v.ownBlock ≠ some i) (hl:l.length < 1000)
  (k:∀ v' w',GRow 18 93 c5w B D w' v' (l ++ [x]) → w.grownBy w' v.ownBlock → (∀ i,v'.ownBlock = some i → v.ownBlock = some i ∨ w.heap.size ≤ i) → K v' w') :
  oM Tryz.prog (.call { callee:=.builtin .append,args:=#[.tmp 0,.tmp 1],argTypes:=#[90,90] }) T [v,.slice (some ⟨q,0,none⟩) 1 1] K w:=
 b4t 90 T ((Tryz.prog.info? 93).getD default) (.agg itmZ.toArray) 184 (by kernel_rfl) (by kernel_rfl) (by kernel_rfl) (by kernel_rfl) (by kernel_rfl) (by kernel_rfl) (by omega) (by omega) h hB (x:=x) (xs:=c8w x (.slice a1 n1 c1) (.slice a2 n2 c2) (.slice a3 n3 c3)) rfl
  (fun j u hj=>by
   obtain ⟨hj1,rfl⟩:=gS hj
   rw [Nat.zero_add]
   exact hq.cell j hj1) (b7x _ _ _ _ _ _ _ _ _ _ _ _ _ _ _ _ _ _ _ _ _ _ _ _) hx hD (by omega) (fun v' w' a b c _=>k v' w' a b c)
end
end Go.Proofs
namespace Go.Proofs
open Go Go.Sh Go.RowKit FdSpec TkSpec CodeSpec PuSpec DkSpec JnSpec
section
variable {K:VK} {w w' w0 W W':World} {L:List (Addr × Value)} {rb b:Nat} {s:Stp} {lims:List Lim} {p:Ph} {items:List Itm}
theorem e4j (w:World):(sizeOf 90).run Tryz.prog w = .ok 1 w:=by kernel_rfl
theorem _root_.Go.Sh.Holds.other' {w w':World} {g:Nat} {o:Option Nat} {T:TypeId} {vs:List Value} (h:Holds w g T vs) (hg:w.grownBy w' o) (hne:o ≠ some g):Holds w' g T vs:=(hg.block g h.lt (by first | exact hne | exact fun e=>hne e.symm)).trans h
theorem g7p (h:StR s lims w p items) (hmu:∀ i,Mu p i → i < w.heap.size) (hl:Cd.LaidE w) (text:a0h) (ht:text.length < 2 ^ 40) (k0:g1s s lims items text = none → ∀ w',Bw w w' → K (.bool false) w')
  (k1:∀ items',g1s s lims items text = some items' → ∀ w' iv',StR s lims w' { p with iv:=iv' } items' → PuIt p w { p with iv:=iv' } w' → K (.bool true) w'):a0a Tryz.prog 186 #[.pointer (some ⟨p.pb,0,none⟩),.string ⟨text.toArray⟩] K w:=by
 apply d7b
 unfold f5e
 refine c6a text ht hl (fun w1 av yv lv h1 hF=>?_)
 unfold g1s at k0 k1
 generalize (a2d text).2 = ok at *
 generalize (a2d text).1 = x at *
 obtain ⟨a1,n1,c1,a2,n2,c2,a3,n3,c3,rfl,rfl,rfl⟩:=a1k hF.here
 refine b2c ?_
 refine a0m b0e (fun g5 w5 h5 hg5 hH5=>?_)
 refine a0i a8j rfl rfl (a5s _ _ _ _ _ _ _ _ _ _ _ _ _ _ _ _ _ _ _ _) hH5 rfl (fun w6 hg6 hH6=>?_)
 have hs1:=h1.size
 have hs5:=h5.size
 have hs6:=hg6.size
 have hb6:Bw w w6:=(h1.on h5).grown hg6 (by omega) (fun i e=>by cases e; omega)
 have hF6:Fresh w w6 (fun W=>HldR W x (.slice a1 n1 c1) (.slice a2 n2 c2) (.slice a3 n3 c3)):=((FP.next hF h5 (fun i hi=>hi.2)).fr (Fr.of_by hg6) (fun i hi=>⟨by omega,fun e=>by omega⟩)).mono (fun i hi=>⟨hi.1,by omega⟩)
 have hst:=(h.next hb6).next (.drawn (B:=w6.heap.size))
 have hb7:=hb6.on (.drawn (B:=w6.heap.size))
 have hF7:=hF6.next (.drawn (B:=w6.heap.size))
 have hH7:=hH6.next (.drawn (B:=w6.heap.size))
 refine ⟨Nx { w6 with drawn:=w6.drawn + 1 },bR,rfl,?_⟩
 generalize ({ w6 with drawn:=w6.drawn + 1 }:World) = W7 at hst hb7 hF7 hH7 ⊢
 clear hb6 hF6 hH6 hF hH5
 obtain ⟨ivad,ivc,hiv⟩:=hst.items.isSlice
 obtain ⟨lvad,lvc,hlv⟩:=hst.lim.isSlice
 obtain ⟨bvad,bvc,hbv⟩:=hst.set.ints.isSlice
 have P7:=hst.pur
 unfold puC at P7
 rw [hiv,hlv,hbv] at P7
 have skip:(∀ w',Bw w w' → K (.bool false) w') → ∀ w',Nx W7 w' → K (.bool false) w':=fun k w' h=>k w' (hb7.on h)
 cases ok with
 | false=>
  have k0:=skip (k0 rfl)
  refine Xc (fun W0 hW0=>An2 ((P7.next hW0).are) ((hH7.next hW0).are)) ?_
  refine ⟨Nx,?_⟩
  refine Xd0 ?_
  rintro w8 h8 _ rfl _ rfl _ rfl _ rfl _ rfl _ rfl _ rfl
  refine Xa0 ?_
  exact k0 _ h8
 | true=>
 by_cases h4:400 ≤ items.length
 ·have h4Z:(400:Int) ≤ items.length:=by omega
  have k0:=skip (k0 (by rw [decide_eq_true h4]; rfl))
  refine Xf (fun W0 hW0=>An2 ((P7.next hW0).are) ((hH7.next hW0).are)) @h4Z ?_
  refine ⟨Nx,?_⟩
  refine Xd0 ?_
  rintro w8 h8 _ rfl _ rfl _ rfl _ rfl _ rfl _ rfl _ rfl
  refine Xa0 ?_
  exact k0 _ h8
 have h4Z:¬ (400:Int) ≤ items.length:=by omega
 have hSet:=hst.set
 rw [hbv] at hSet
 have hLim:=hst.lim
 rw [hlv] at hLim
 repeat (any_goals (first
 | (with_reducible first|refine pX ?_|((refine b5d ?_); refine a4w fun _=>?_)|refine zC ?_)
 | ((with_reducible refine b4u ?_); first|(with_reducible first|refine vB ?_|refine a4g ?_)|(with_reducible refine a3h ⟨_,rfl⟩ (fun W0 hW0=>by (refine oG (fun X Y=>?_)); simp [go_sem,(P7.next hW0).are,(hH7.next hW0).are,h4Z]; (first | exact Y _ _ ⟨rfl,rfl⟩ | exact ⟨by omega,Y _ _ ⟨rfl,rfl⟩⟩)) ?_))))
 dsimp only
 refine ⟨Nx,?_⟩
 apply a2l
 ·intro w9 h9
  refine Xa0 ?_
  exact c2j s lims x (hSet.next h9) (hLim.next (a1o a7x) h9) ((hF7.next h9).here) (fun w2 h2=>⟨h9.on h2,h2,rfl⟩)
 cases hv:PuSpec.validM s lims x with
 | false=>
  have k0:=skip (k0 (by rw [hv]; simp))
  refine Xd0 ?_
  rintro w8 h8 _ rfl _ rfl _ rfl _ rfl _ rfl _ rfl _ rfl
  refine Xa0 ?_
  exact k0 _ h8
 | true=>
  refine Xd (fun w9 h9=>(hH7.next h9).are) ?_
  rintro w8 h8 _ rfl _ rfl _ rfl _ rfl _ rfl _ rfl _ rfl
  refine Xa0 ?_
  refine f8k (hst.next h8) x.t (fun w9 h9=>?_)
  have h89:=h8.on h9
  cases hq:c0r items x.t with
  | true=>
   have k0:=skip (k0 (by rw [hv,hq]; simp))
   refine Xa0 ?_
   exact k0 _ h89
  | false=>
   have k1:=k1 _ (by rw [hv,hq,decide_eq_false h4]; rfl)
   refine Xa0 ?_
   have h8d:=h89.on (.drawn (B:=w9.heap.size))
   refine ⟨fun sg W=>sg ≤ 2 → Nx { w9 with drawn:=w9.drawn + 1 } W,fun _=>bR,?_⟩
   generalize ({ w9 with drawn:=w9.drawn + 1 }:World) = W10 at h8d ⊢
   have P10:=P7.next h8d
   have hH10:=hH7.next h8d
   repeat (first | (with_reducible refine pX ?_) | (with_reducible refine a4g ?_) | (with_reducible refine a3b rfl ?_) | (with_reducible refine a2i rfl ?_) | (refine a3h ⟨_,rfl⟩ (fun W0 hW0=>by (obtain ⟨s0,hs0,hC⟩:=hW0); (have hsk:s0 ≤ 2:=by omega); (refine oG (fun X Y=>?_)); simp [go_sem,(P10.next (hC hsk)).are,(hH10.next (hC hsk)).are]; (first | exact Y _ _ ⟨rfl,rfl⟩ | exact ⟨by omega,Y _ _ ⟨rfl,rfl⟩⟩)) ?_))
   rw [c6e]
   show _ ∧ _
   refine ⟨fun _=>bR,?_⟩
   refine e4i (a3e x) (fun q w11 h11 hQ1 hQ=>⟨fun _=>h11,?_⟩)
   have h711:=h8d.on h11
   have hst11:=hst.next h711
   have hmu11:∀ i,Mu p i → i < w11.heap.size:=fun i hi=>by have:=hmu i hi; have:=hb7.size; have:=h711.size; omega
   rw [← hiv]
   refine c6f (D:=Im p w11) hst11.itm (Nat.zero_le _) hQ ?_ (fun i hi=>⟨hi.1,fun e=>hi.2.1 (.inr (.inr (.inr (.inr e))))⟩) (by omega) (fun v' w12 hG hg hv'=>⟨fun h=>by omega,?_⟩)
   ·exact (d1l hmu h.xl (hF7.next h711)).imp (fun W hW=>⟨_,_,_,rfl,hW,d3n,d3n⟩)
   refine a5q ?_
   refine ⟨fun h=>by omega,?_⟩
   refine a5q ?_
   refine ⟨fun h=>by omega,?_⟩
   obtain ⟨va,vc,hva⟩:=hG.isSlice
   have hP12:Holds w12 p.pb 130 (puC s p):=hst11.pur.other' hg (fun e=>(hst11.si _ e).2.2.2 rfl)
   refine a2j (i:=6) e4j (by rw [hva]; rfl) (by rw [hva]; rfl) hP12 (by simp) (fun w13 hg13 hH13=>⟨fun h=>by omega,?_⟩)
   obtain ⟨r1,r2⟩:=hst11.grew hmu11 hG hg hv' hg13 hH13 (by omega)
   exact k1 _ _ r1 ((PuIt.below (hb7.on h711)).trans r2)
end
end Go.Proofs
namespace Go.Proofs
open Go Go.Sh Go.RowKit FdSpec TkSpec CodeSpec PuSpec DkSpec JnSpec
section
variable {K:VK} {w w' w0 W W':World} {L:List (Addr × Value)} {rb b:Nat} {s:Stp} {lims:List Lim} {p:Ph} {items:List Itm}
theorem c2m (n:Nat) (h:n < 100):I64 (n:Int):=by unfold I64; omega
theorem StR.put1 (h:StR s lims w p items) (hmu:∀ i,Mu p i → i < w.heap.size) {i g c off:Nat} {x y:Itm} {u:Value} {T T':TypeId} (hx:items[i]? = some x) (hg:p.iv = .slice (some ⟨g,0,none⟩) items.length c) (hoff:off < 18) (hT:∀ w,(sizeOf T).run Tryz.prog w = .ok 1 w)
  (hu:u.cells = #[u]) (h1:u.oneCell' = true) (hV:∀ av yv lv,(c8w x av yv lv).set off u = c8w y av yv lv) (hh:y.held = x.held) (hI:I64 y.status ∧ I64 y.dare) (k:∀ W,StR s lims W p (items.set i y) → PuIt p w p W → K undef W) :
  oM Tryz.prog (.store T (.tmp 0) (.tmp 1)) T' [.pointer (some ⟨g,i * 18 + off,none⟩),u] K w:=by
 have hG:=h.itm
 rw [hg] at hG
 have hgo:p.iv.ownBlock = some g:=by rw [hg]; rfl
 refine GRow.put (off:=off) (m:=1) (xs:=[u]) (y:=y) hG hx (by omega) hT hu rfl (fun v hv=>by rw [List.mem_singleton] at hv; subst hv; exact h1) (fun j hj=>⟨hj.1,fun e=>hj.2.1 (.inr (.inr (.inr (.inr (by rw [e]; exact hgo)))))⟩) (fun cs hcl _ hf=>hf.imp (fun W=>?_)) (fun W hgr hG2=>?_)
 ·rintro ⟨av,yv,lv,rfl,h2,h3⟩
  refine ⟨av,yv,lv,?_,by rw [hh]; exact h2,hI⟩
  rw [← hV av yv lv,List.set_eq_take_append_cons_drop,if_pos (by exact hoff)]
  rfl
 ·have hf:Fr (fun i=>i = p.pb ∨ p.iv.ownBlock = some i) w W:=(Fr.of_by hgr).mono (fun j _ hj=>.inr (by rw [hj]; exact hgo))
  have t:PuIt p w p W:=⟨hf,fun j hj=>.inl hj,rfl⟩
  refine k W ⟨?_,?_,c9a h.rd t.st,by rw [List.length_set]; exact h.cnt,h.sp,h.si,fun i hi=>lL (h.xl i hi) hf.size⟩ t
  ·exact h.pur.other hgr (fun e=>(h.si g hgo).2.2.2 e.symm)
  ·rw [hg]
   exact hG2.mono (Im.mono hf.size (fun j hj=>.inl hj) rfl)
theorem StR.at (h:StR s lims w p items) {i:Nat} {x:Itm} (hx:items[i]? = some x):∃ g c av yv lv,p.iv = .slice (some ⟨g,0,none⟩) items.length c ∧ g < w.heap.size ∧ HldR w x.held av yv lv ∧ I64 x.status ∧ I64 x.dare ∧ ∀ (j:Nat) (u:Value),(c8w x av yv lv)[j]? = some u → w.cell? ⟨g,i * 18 + j,none⟩ = some u:=by
 obtain ⟨g,c,cs,h1,h2,_,_,h4,h5⟩:=h.itm.elem hx
 obtain ⟨av,yv,lv,rfl,h6,h7,h8⟩:=h5.here
 exact ⟨g,c,av,yv,lv,h1,h2,h6,h7,h8,h4⟩
def b5s (s:Stp) (kind dare:Int) (x:Itm):Option Itm:=if decide (x.status = 0) && decide (1 ≤ dare) && decide (dare < s.g.Q) then some { x with status:=1,dare:=dare,lent:=decide (kind = 3) } else none
theorem d3t (h:StR s lims w p items) (hmu:∀ i,Mu p i → i < w.heap.size) {i g c:Nat} {x:Itm} (hx:items[i]? = some x) (hgv:p.iv = .slice (some ⟨g,0,none⟩) items.length c) (kind dare:Int) (hd:I64 dare) (k0:b5s s kind dare x = none → K (.bool false) w)
  (k1:∀ y,b5s s kind dare x = some y → ∀ w',StR s lims w' p (items.set i y) → PuIt p w p w' → K (.bool true) w'):a0a Tryz.prog 187 #[.pointer (some ⟨p.pb,0,none⟩),.pointer (some ⟨g,i * 18,none⟩),.int .i64 kind,.int .i64 dare] K w:=by
 apply d7c
 unfold f5f
 obtain ⟨g',c',av,yv,lv,hg',hgl,hH,hI,hJ,hc⟩:=h.at hx
 rw [hgv] at hg'
 cases hg'
 have c14:=hc 14 _ rfl
 have P:=h.pur.are
 unfold b5s at k0 k1
 repeat (any_goals (first
 | (with_reducible first|refine a0v ?_|((refine a9c ?_); first|refine zD ?_|((refine a6c ?_); first|refine zI ?_|refine zJ ?_|refine zK (fun hg=>?_) fun hg=>?_)|((refine c4p ?_); first|refine zO ?_|refine zP ?_|refine zQ (fun hg=>?_) fun hg=>?_))|((refine a2x ?_); first|refine yB ?_|refine yD ?_|refine yE ?_|refine yF ?_|refine yG ?_)|((refine a1n ?_); first|refine yL ?_|refine yP (fun hg=>?_) fun hg=>?_))
 | ((with_reducible refine oG fun X Y=>?_); simp [go_sem,c14,P]; apply Y; clear Y X)))
 ·exact k0 (by rw [decide_eq_false (by omega:¬ 1 ≤ dare)]; simp)
 ·exact k0 (by rw [decide_eq_false (by omega:¬ dare < s.g.Q)]; simp)
 rotate_left
 ·exact k0 (by rw [decide_eq_false hg]; simp)
 have k1:=k1 _ (by rw [decide_eq_true (by omega:x.status = 0),decide_eq_true (by omega:1 ≤ dare),decide_eq_true (by omega:dare < s.g.Q)]; rfl)
 have len1:∀ y,(items.set i y).length = items.length:=fun y=>List.length_set
 have set1:∀ y,(items.set i y)[i]? = some y:=fun y=>List.getElem?_set_self (gS hx).1
 refine h.put1 hmu (y:={ x with status:=1 }) hx hgv (by omega) a4y rfl rfl (fun _ _ _=>rfl) rfl ⟨c2m 1 (by omega),hJ⟩ (fun w2 h2 t2=>?_)
 have hmu2:∀ i,Mu p i → i < w2.heap.size:=fun i hi=>lL (hmu i hi) t2.fr.size
 refine Xa0 ?_
 refine h2.put1 hmu2 (y:={ x with status:=1,dare:=dare }) (set1 _) (by rw [len1]; exact hgv) (by omega) a4y rfl rfl (fun _ _ _=>rfl) rfl ⟨c2m 1 (by omega),hd⟩ (fun w3 h3 t3=>?_)
 have hmu3:∀ i,Mu p i → i < w3.heap.size:=fun i hi=>lL (hmu2 i hi) t3.fr.size
 refine Xa0 ?_
 rw [List.set_set] at h3
 refine h3.put1 hmu3 (y:={ x with status:=1,dare:=dare,lent:=decide (kind = 3) }) (set1 _) (by rw [len1]; exact hgv) (by omega) b7v rfl rfl (fun _ _ _=>rfl) rfl ⟨c2m 1 (by omega),hd⟩ (fun w4 h4 t4=>?_)
 rw [List.set_set] at h4
 refine Xa0 ?_
 exact k1 _ h4 ((t2.trans t3).trans t4)
theorem f2p (h:StR s lims w p items) (hmu:∀ i,Mu p i → i < w.heap.size) {i g c:Nat} {x:Itm} (hx:items[i]? = some x) (hgv:p.iv = .slice (some ⟨g,0,none⟩) items.length c) (kind z:Int) (k0:e0z kind x = none → K (.bool false) w)
  (k1:∀ y,e0z kind x = some y → ∀ w',StR s lims w' p (items.set i y) → PuIt p w p w' → K (.bool true) w'):a0a Tryz.prog 188 #[.pointer (some ⟨p.pb,0,none⟩),.pointer (some ⟨g,i * 18,none⟩),.int .i64 kind,.int .i64 z] K w:=by
 apply d7d
 unfold f5g
 obtain ⟨g',c',av,yv,lv,hg',hgl,hH,hI,hJ,hc⟩:=h.at hx
 rw [hgv] at hg'
 cases hg'
 have c14:=hc 14 _ rfl
 have c16:=hc 16 _ rfl
 have c17:=hc 17 _ rfl
 refine ⟨fun _ W=>K (.bool true) W,?_,fun l u w2 h2=>h2⟩
 unfold e0z at k0 k1
 by_cases h2:kind = 2
 ·by_cases hs:x.status = 1
  ·have k1:=k1 _ (if_pos ⟨h2,hs⟩)
   refine Xa (An3 @c14 @h2 @hs) ?_
   refine h.put1 hmu (y:={ x with status:=2 }) hx hgv (by omega) a4y rfl rfl (fun _ _ _=>rfl) rfl ⟨c2m 2 (by omega),hJ⟩ (fun w2 h2 t2=>?_)
   refine Xa0 ?_
   exact k1 _ h2 t2
  ·have k0:=k0 (by rw [if_neg (fun h=>hs h.2),if_neg (fun h=>by omega)])
   refine Xa (An3 @c14 @h2 @hs) ?_
   exact k0
 ·by_cases h4:kind = 4
  ·cases hl:x.lent with
   | false=>
    have k0:=k0 (by rw [if_neg (fun h=>h2 h.1),if_neg (fun h=>by rw [hl] at h; exact absurd h.2.1 (by simp))])
    rw [hl] at c16
    refine Xa (An3 @c16 @h2 @h4) ?_
    exact k0
   | true=>
    rw [hl] at c16
    cases hb:x.back with
    | true=>
     rw [hb] at c17
     have k0:=k0 (by rw [if_neg (fun h=>h2 h.1),if_neg (fun h=>by rw [hb] at h; exact absurd h.2.2 (by simp))])
     refine Xa (An4 @c16 @c17 @h2 @h4) ?_
     exact k0
    | false=>
     rw [hb] at c17
     have k1:=k1 _ (by rw [if_neg (fun h=>h2 h.1),if_pos ⟨h4,hl,hb⟩])
     refine Xa (An4 @c16 @c17 @h2 @h4) ?_
     refine h.put1 hmu (y:={ x with back:=true }) hx hgv (by omega) b7v rfl rfl (fun _ _ _=>rfl) rfl ⟨hI,hJ⟩ (fun w2 h2 t2=>?_)
     refine Xa0 ?_
     exact k1 _ h2 t2
  ·have k0:=k0 (by rw [if_neg (fun h=>h2 h.1),if_neg (fun h=>h4 h.1)])
   refine Xa (An2 @h2 @h4) ?_
   exact k0
end
end Go.Proofs
namespace Go.Proofs
open Go Go.Sh Go.RowKit FdSpec TkSpec CodeSpec PuSpec DkSpec JnSpec
section
variable {K:VK} {w w' w0 W W':World} {L:List (Addr × Value)} {rb b:Nat} {s:Stp} {lims:List Lim} {p:Ph} {items:List Itm}
theorem c6g {P:Program} {f:FuncId} {fs cs:Array Value} {T:TypeId} {ts:Array TypeId} {x y z:Value} (hb:a8v P f = true) (h:a0a P f (fs ++ #[x,y,z] ++ cs) K w):oM P (.call { callee:=.value (.tmp 0),args:=#[.tmp 1,.tmp 2,.tmp 3],argTypes:=ts }) T [.func (.func f) fs cs,x,y,z] K w:=
 b5n _ hb (by simp [xop,execOp,a1e,evE,resolve,Deferred.ofValue,invoke]) h
theorem g9y:a1a 0 = [48,59]:=by decide +kernel
theorem e4k (r:a0h):Lib.hasPrefix r [48,59] = decide ([48,59] <+: r):=by
 unfold Lib.hasPrefix
 rw [Bool.eq_iff_iff]
 simp [List.isPrefixOf_iff_prefix]
theorem e4l (s:Stp) (k i d:Int) (x:Itm):b2v s [k,i,d] x = if decide (k = 1) || decide (k = 3) then b5s s k d x else none:=rfl
theorem e4m (s:Stp) (k i:Int) (x:Itm):b2v s [k,i] x = if k = 2 ∨ k = 4 then e0z k x else none:=by
 unfold b2v e0z
 by_cases h2:k = 2
 ·subst h2
  by_cases hs:x.status = 1 <;> simp [hs]
 ·by_cases h4:k = 4
  ·subst h4
   cases x.lent <;> cases x.back <;> simp
  ·simp [h2,h4]
theorem g7q {l:List Int} (h:¬ l.length < 2):∃ a b m,l = a :: b :: m:=by
 rcases l with _ | ⟨a,_ | ⟨b,m⟩⟩
 ·exact absurd (by simp) h
 ·exact absurd (by simp) h
 ·exact ⟨a,b,m,rfl⟩
theorem e4n (h:StR s lims w p items) (hmu:∀ i,Mu p i → i < w.heap.size) (hl:Cd.LaidE w) (r:a0h) (hr:r.length < 2 ^ 40) (k0:a4o s lims items r = none → ∀ w',Bw w w' → K (.bool false) w')
  (k1:∀ items',a4o s lims items r = some items' → ∀ w' iv',StR s lims w' { p with iv:=iv' } items' → PuIt p w { p with iv:=iv' } w' → K (.bool true) w'):a0a Tryz.prog 117 #[.pointer (some ⟨p.pb,0,none⟩),.string ⟨r.toArray⟩] K w:=by
 apply d7e
 unfold f5h
 refine Cd.pNum_ok 0 ⟨by omega,by omega⟩ hl.toLaid (fun w1 h1=>?_)
 rw [g9y]
 refine Cd.cutPrefix_ok r [48,59] ?_
 rw [e4k]
 have h01:=h.next h1
 have hmu1:∀ i,Mu p i → i < w1.heap.size:=fun i hi=>lL (hmu i hi) h1.size
 have hl1:=hl.below h1 hl.size
 unfold a4o at k0 k1
 by_cases hp:[48,59] <+: r
 ·have et:Lib.trimPrefix r [48,59] = r.drop 2:=by unfold Lib.trimPrefix; rw [e4k,if_pos (by simpa using hp)]; rfl
  rw [if_pos hp] at k0 k1
  rw [et,decide_eq_true hp]
  refine Xa0 ?_
  refine g7p h01 hmu1 hl1 _ (by rw [List.length_drop]; omega) (fun e w' hb=>?_) (fun items' e w' iv' a b=>?_)
  ·have k0:=k0 e w' (h1.on hb)
   refine Xa0 ?_
   exact k0
  ·have k1:=k1 items' e w' iv' a ((PuIt.below h1).trans b)
   refine Xa0 ?_
   exact k1
 ·rw [if_neg hp] at k0 k1
  rw [decide_eq_false hp]
  refine Xa0 ?_
  refine Cd.open_ok r (fun w2 hr2 h2=>?_)
  have hw8:=hl.size
  have h1s:=h1.size
  refine Cd.itemsNum_ok w1.heap.size ⟨r,false⟩ (hl1.below h2 hl1.size) (by omega) hr Rd.ok_good hr2 (fun v w3 hr3 hg3 ho=>?_)
  have h13:Bw w1 w3:=h2.grown hg3 (by have:=h2.size; omega) (fun i e=>by cases e; exact rL)
  have hw3:=h1.on h13
  have hst:=h.next hw3
  have hin:=a1z (r:=⟨r,false⟩) Rd.ok_good
  have hoI:OwnI w3 w2.heap.size v (a0c ⟨r,false⟩).1:=by
   show w3.ownsRow _ _ 1 v _ (a3a Go.Sh.intC _)
   rw [Go.Sh.flat_int]
   exact ho
  have hn:Ints w3 v (a0c ⟨r,false⟩).1:=hoI.ints (fun x hx=>a1f (hin.1 x hx)) (by have:=hin.2; omega)
  obtain ⟨ivad,ivc,hiv⟩:=hst.items.isSlice
  have P3:=hst.pur
  unfold puC at P3
  rw [hiv] at P3
  generalize (a0c ⟨r,false⟩).2 = rd at *
  generalize hN:(a0c ⟨r,false⟩).1 = N at *
  have hw3d:=hw3.on (.drawn (B:=w3.heap.size))
  have hr3d:=hr3.below (.drawn (B:=w3.heap.size)) hr3.lt
  have P3:=P3.next (.drawn (B:=w3.heap.size))
  have hn:=hn.next (.drawn (B:=w3.heap.size))
  have hoI:=b3o hoI (.drawn (B:=w3.heap.size))
  have hst:=hst.next (.drawn (B:=w3.heap.size))
  refine ⟨Nx { w3 with drawn:=w3.drawn + 1 },bR,?_⟩
  generalize ({ w3 with drawn:=w3.drawn + 1 }:World) = W4 at hr3d P3 hn hoI hst hw3d ⊢
  refine Xa0 ?_
  refine Cd.done_ok _ _ hr3d ⟨bR,?_⟩
  rw [b0y]
  have skip:(∀ w',Bw w w' → K (.bool false) w') → ∀ w',Nx W4 w' → K (.bool false) w':=fun k w' h=>k w' (hw3d.on h)
  obtain ⟨vad,vc,rfl⟩:=hn.isSlice
  cases hd:a7r rd with
  | false=>
   have k0:=skip (k0 (by rw [hd]; rfl))
   refine Xc (fun W0 hW0=>(P3.next hW0).are) ?_
   exact k0 _ (bR)
  | true=>
  by_cases hlen:N.length < 2
  ·have hlenZ:(N.length:Int) < 2:=by omega
   have k0:=skip (k0 (by rw [decide_eq_true hlen]; simp))
   refine Xf (fun W0 hW0=>(P3.next hW0).are) @hlenZ ?_
   exact k0 _ (bR)
  have hlenZ:¬ (N.length:Int) < 2:=by omega
  rw [hd,decide_eq_false hlen] at k0 k1
  obtain ⟨kd,ix,rest,rfl⟩:=g7q hlen
  obtain ⟨gv,cv,hvg,hvl,hvB,hvc⟩:=hoI.cells (by simp)
  cases hvg
  have c0:=hvc 0 _ rfl
  have c1:=hvc 1 _ rfl
  have cc:∀ W0,Nx W4 W0 → W0.cell? ⟨gv,0,none⟩ = some (.int .i64 kd) ∧ W0.cell? ⟨gv,1,none⟩ = some (.int .i64 ix):=fun W0 h=>⟨(h.cell hvl).trans c0,(h.cell hvl).trans c1⟩
  by_cases hix:ix < 0
  ·have k0:=skip (k0 (by simp [hix]))
   refine Xf (fun W0 hW0=>An2 ((P3.next hW0).are) (cc _ hW0)) (An2 @hlenZ @hix) ?_
   exact k0 _ (bR)
  by_cases hil:(items.length:Int) ≤ ix
  ·have k0:=skip (k0 (by simp [hix]; rw [List.getElem?_eq_none (by omega)]))
   refine Xf (fun W0 hW0=>An2 ((P3.next hW0).are) (cc _ hW0)) (An3 @hlenZ @hix @hil) ?_
   exact k0 _ (bR)
  have hn0:((kd :: ix :: rest).length:Int) > 1:=by simp; omega
  refine Xf (fun W0 hW0=>An2 ((P3.next hW0).are) (cc _ hW0)) (An3 @hlenZ @hix @hil) ?_
  obtain ⟨x,hx⟩:∃ x,items[ix.toNat]? = some x:=⟨_,gE (by omega)⟩
  obtain ⟨g,c,yv,zv,wv,hgv,hgl,_⟩:=hst.at hx
  rw [hiv] at hgv
  cases hgv
  have k0:b2v s (kd :: ix :: rest) x = none → ∀ w',Nx W4 w' → K (.bool false) w':=fun e=>skip (k0 (by simp [hix,hx,e]))
  have k1:∀ y,b2v s (kd :: ix :: rest) x = some y → ∀ w',StR s lims w' p (items.set ix.toNat y) → PuIt p w p w' → K (.bool true) w':=fun y e w' a b=>k1 _ (by simp [hix,hx,e]) w' p.iv a b
  by_cases hk:kd = 1 ∨ kd = 3
  ·refine ⟨fun l W=>Nx W4 W ∧ l.getD 1 undef = .func (.func 187) #[.pointer (some ⟨p.pb,0,none⟩)] #[] ∧ l.getD 2 undef = .int .i64 3,?_,?_⟩
   ·refine Xa @c0 ?_
    refine ⟨fun l W=>W = W4 ∧ l.getD 0 undef = .bool true,?_,?_⟩
    ·rcases hk with rfl | rfl
     ·refine Xa0 ?_
      exact ⟨rfl,rfl⟩
     ·refine Xa0 ?_
      exact ⟨rfl,rfl⟩
    ·rintro l u W ⟨rfl,hl0⟩
     rw [hl0]
     refine Xa0 ?_
     exact ⟨bR,rfl,rfl⟩
   ·rintro l u W ⟨hW,f1,f2⟩
    rw [f1,f2]
    have h4W:=hW.on (.drawn (B:=W.heap.size))
    refine ⟨Nx { W with drawn:=W.drawn + 1 },bR,rfl,?_⟩
    generalize ({ W with drawn:=W.drawn + 1 }:World) = W5 at h4W ⊢
    have P5:=P3.next h4W
    have cc5:∀ W0,Nx W5 W0 → W0.cell? ⟨gv,0,none⟩ = some (.int .i64 kd) ∧ W0.cell? ⟨gv,1,none⟩ = some (.int .i64 ix):=fun W0 h=>cc W0 (h4W.on h)
    clear cc
    rcases rest with _ | ⟨d,_ | ⟨e,m⟩⟩
    ·have k0:=k0 (by rw [e4m,if_neg (by omega)])
     refine Xc (fun W0 hW0=>An2 ((P5.next hW0).are) (cc5 _ hW0)) ?_
     refine ⟨Nx,fun W6 h6=>?_⟩
     refine Xa0 ?_
     exact k0 _ (h4W.on h6)
    ·have hvd:=hvc 2 _ rfl
     have hvd5:∀ W0,Nx W5 W0 → W0.cell? ⟨gv,2,none⟩ = some (.int .i64 d):=fun W0 h=>((h4W.on h).cell hvl).trans hvd
     have hdI:I64 d:=hn.rng d (by simp)
     have hixZ:ix < (items.length:Int):=by omega
     have hixN:0 ≤ ix:=by omega
     have hw2:IntKind.i64.wrap 2 = 2:=by decide
     refine Xf (fun W0 hW0=>An3 ((P5.next hW0).are) (cc5 _ hW0) (hvd5 _ hW0)) (An3 @hixZ @hixN @hw2) ?_
     refine ⟨Nx,fun W6 h6=>?_⟩
     refine Xa0 ?_
     refine c6g (by kernel_rfl) ?_
     have hwW6:=hw3d.on (h4W.on h6)
     have k0:=k0
     rw [e4l,if_pos (by simpa using hk)] at k0 k1
     refine d3t (hst.next (h4W.on h6)) (fun i hi=>lL (hmu i hi) hwW6.size) hx hiv kd d hdI (fun e=>?_) (fun y e w' a b=>?_)
     ·have k0:=k0 e _ (h4W.on h6)
      refine Xa0 ?_
      exact k0
     ·have k1:=k1 y e w' a ((PuIt.below hwW6).trans b)
      refine Xa0 ?_
      exact k1
    ·have k0:=k0 rfl
     have hne:¬ ((kd :: ix :: d :: e :: m).length:Int) = 3:=by simp only [List.length_cons]; omega
     refine Xf (fun W0 hW0=>An2 ((P5.next hW0).are) (cc5 _ hW0)) @hne ?_
     refine ⟨Nx,fun W6 h6=>?_⟩
     refine Xa0 ?_
     exact k0 _ (h4W.on h6)
  ·have hk1:¬ kd = 1:=fun e=>hk (.inl e)
   have hk3:¬ kd = 3:=fun e=>hk (.inr e)
   refine ⟨fun l W=>(kd = 2 ∨ kd = 4) ∧ Nx W4 W ∧ l.getD 1 undef = .func (.func 188) #[.pointer (some ⟨p.pb,0,none⟩)] #[] ∧ l.getD 2 undef = .int .i64 2,?_,?_⟩
   ·refine Xa @c0 ?_
    refine ⟨fun l W=>W = W4 ∧ l.getD 0 undef = .bool false,?_,?_⟩
    ·refine Xa (An2 @hk1 @hk3) ?_
     exact ⟨rfl,rfl⟩
    ·rintro l u W ⟨rfl,hl0⟩
     rw [hl0]
     refine Xa0 ?_
     refine ⟨fun l W2=>W2 = W ∧ l.getD 0 undef = .bool (decide (kd = 2 ∨ kd = 4)),?_,?_⟩
     ·by_cases h2:kd = 2
      ·have e:decide (kd = 2 ∨ kd = 4) = true:=decide_eq_true (.inl h2)
       rw [e]
       refine Xa @h2 ?_
       exact ⟨rfl,rfl⟩
      ·by_cases h4:kd = 4
       ·have e:decide (kd = 2 ∨ kd = 4) = true:=decide_eq_true (.inr h4)
        rw [e]
        refine Xa (An2 @h2 @h4) ?_
        exact ⟨rfl,rfl⟩
       ·have e:decide (kd = 2 ∨ kd = 4) = false:=decide_eq_false (by omega)
        rw [e]
        refine Xa (An2 @h2 @h4) ?_
        exact ⟨rfl,rfl⟩
     ·rintro l2 u2 W2 ⟨rfl,hl2⟩
      rw [hl2]
      by_cases hk4:kd = 2 ∨ kd = 4
      ·rw [decide_eq_true hk4]
       refine Xa0 ?_
       exact ⟨hk4,bR,rfl,rfl⟩
      ·rw [decide_eq_false hk4]
       have k0:=k0 (by
        rcases rest with _ | ⟨d,_ | ⟨e,m⟩⟩
        ·rw [e4m,if_neg hk4]
        ·rw [e4l,if_neg (by simpa using hk)]
        ·rfl) _ (bR)
       refine Xa0 ?_
       exact k0
   ·rintro l u W ⟨hk4,hW,f1,f2⟩
    rw [f1,f2]
    have h4W:=hW.on (.drawn (B:=W.heap.size))
    refine ⟨Nx { W with drawn:=W.drawn + 1 },bR,rfl,?_⟩
    generalize ({ W with drawn:=W.drawn + 1 }:World) = W5 at h4W ⊢
    have P5:=P3.next h4W
    have cc5:∀ W0,Nx W5 W0 → W0.cell? ⟨gv,0,none⟩ = some (.int .i64 kd) ∧ W0.cell? ⟨gv,1,none⟩ = some (.int .i64 ix):=fun W0 h=>cc W0 (h4W.on h)
    clear cc
    rcases rest with _ | ⟨d,m⟩
    ·have hixZ:ix < (items.length:Int):=by omega
     have hixN:0 ≤ ix:=by omega
     have hw2:IntKind.i64.wrap 1 = 1:=by decide
     refine Xf (fun W0 hW0=>An2 ((P5.next hW0).are) (cc5 _ hW0)) (An3 @hixZ @hixN @hw2) ?_
     refine ⟨Nx,fun W6 h6=>?_⟩
     refine Xa0 ?_
     refine c6g (by kernel_rfl) ?_
     have hwW6:=hw3d.on (h4W.on h6)
     have k0:=k0
     rw [e4m,if_pos hk4] at k0 k1
     refine f2p (hst.next (h4W.on h6)) (fun i hi=>lL (hmu i hi) hwW6.size) hx hiv kd ix (fun e=>?_) (fun y e w' a b=>?_)
     ·have k0:=k0 e _ (h4W.on h6)
      refine Xa0 ?_
      exact k0
     ·have k1:=k1 y e w' a ((PuIt.below hwW6).trans b)
      refine Xa0 ?_
      exact k1
    ·have k0:=k0 (by
      rcases m with _ | ⟨e,m⟩
      ·rw [e4l,if_neg (by simpa using hk)]
      ·rfl)
     have hne:¬ ((kd :: ix :: d :: m).length:Int) = 2:=by simp only [List.length_cons]; omega
     refine Xf (fun W0 hW0=>An2 ((P5.next hW0).are) (cc5 _ hW0)) @hne ?_
     refine ⟨Nx,fun W6 h6=>?_⟩
     refine Xa0 ?_
     exact k0 _ (h4W.on h6)
end
end Go.Proofs
namespace PuSpec
open FdSpec TkSpec CodeSpec DkSpec JnSpec
variable {s:Stp} {lims:List Lim} {A:Ab} {p:Pst} {all sure:List a0h}
theorem b2s (v:Inv s lims A p all sure):∃ rj,a1q s lims [] p.j.recs = some rj ∧ Match rj p.items ∧ GoodI s lims rj:=by
 obtain ⟨rj,h1,h2⟩:=v.live
 exact ⟨rj,h1,h2,(a6y _ c3x h1).1⟩
def h1q (s:Stp) (lims:List Lim) (sure:List a0h) (B:Ab) (q:Pst):Prop:=∃ all' sure',sure <+: sure' ∧ Inv s lims B q all' sure'
theorem Inv.kept (v:Inv s lims A p all sure):h1q s lims sure A p:=⟨all,sure,List.prefix_refl _,v⟩
theorem d2i {rj items:List Itm} {recs:List a0h} (hr:a1q s lims [] recs = some rj) (hm:Match rj items):∀ (i:Nat) (x:Itm),items[i]? = some x → x.status = 1 ∨ x.status = 2 →
  ∃ rs y,a1q s lims [] recs = some rs ∧ rs[i]? = some y ∧ y.held = x.held ∧ y.dare = x.dare ∧ (y.status = 1 ∨ y.status = 2):=by
 intro i x hx hst
 obtain ⟨r,h1,h2⟩:=hm.get hx
 refine ⟨rj,r,hr,h1,h2.held.symm,?_⟩
 rcases h2.rest with ⟨a,b,_⟩ | ⟨_,a,_⟩
 ·exact ⟨b.symm,by rw [← a]; exact hst⟩
 ·omega
theorem f9q (v:Inv s lims A p all sure) (h:Hld) (w:WHld h) :
  h1q s lims sure (c7q s lims A p h).2.1 (c7q s lims A p h).2.2:=by
 unfold c7q
 by_cases he:a6l s lims p.items h = 0
 ·rw [if_neg (by simp [he])]
  obtain ⟨rj,h1,h2,g⟩:=b2s v
  have hc:validM s lims h = true ∧ c0r p.items h.t = false ∧ p.items.length < 400:=by
   unfold a6l at he
   split at he
   ·cases he
   ·rename_i hv
    split at he
    ·cases he
    ·rename_i hh
     split at he
     ·cases he
     ·rename_i hl
      exact ⟨by simpa using hv,by simpa using hh,by omega⟩
  have hl:h.links.length ≤ 4:=by
   have:=hc.1
   simp only [validM,a7q,Bool.and_eq_true,decide_eq_true_eq] at this
   omega
  have ht:a4o s lims rj (a4s h) = some (rj ++ [a3e h]):=by
   rw [b9m rj h w hl,if_pos]
   exact ⟨hc.1,by rw [h2.has]; exact hc.2.1,by rw [h2.1]; exact hc.2.2⟩
  rcases d2h v h1 ht with ⟨a1,a2,a3,a4,a5⟩ | ⟨a1,all',a2,a3⟩
  ·rw [if_neg (by rw [a1]; simp)]
   refine ⟨all ++ [a4s h],sure,List.prefix_refl _,⟨a3,⟨_,a5⟩,⟨_,by dsimp only; rw [a2]; exact a4,h2.push _⟩,?_⟩⟩
   intro i x hx hst
   dsimp only at hx
   rw [List.getElem?_append] at hx
   split at hx
   ·exact v.spent i x hx hst
   ·have:x = a3e h:=by
     rcases hk:i - p.items.length with _ | k
     ·rw [hk] at hx; simp only [List.getElem?_cons_zero,Option.some.injEq] at hx; exact hx.symm
     ·rw [hk] at hx; simp at hx
    rw [this] at hst
    simp [a3e] at hst
  ·rw [if_pos a1]
   exact ⟨all',sure,List.prefix_refl _,a3⟩
 ·rw [if_pos he]
  exact v.kept
theorem b1k {l:List Itm} {i:Nat} {x:Itm} (h:l[i]? = some x) (f:Itm → Itm):l.modify i f = l.set i (f x):=by
 apply List.ext_getElem?
 intro j
 rw [List.getElem?_modify,List.getElem?_set]
 by_cases hj:i = j
 ·subst hj
  have hl:=(List.getElem?_eq_some_iff.1 h).1
  rw [h,if_pos rfl,if_pos hl]
  simp
 ·rw [if_neg hj]
  cases l[j]? <;> simp [hj]
end PuSpec
namespace FdPoly
end FdPoly
namespace FdPoly
open FdSpec
theorem f8u (n a:Int):n ∣ a % n - a:=by
 have:=Int.emod_add_mul_ediv a n
 exact ⟨-(a / n),by grind⟩
end FdPoly
namespace FdPoly
open FdSpec
end FdPoly
namespace FdPoly
open FdSpec
end FdPoly
namespace GrLaw
open FdSpec FdPoly TkSpec
def Cg (P a b:Int):Prop:=P ∣ a - b
section
variable {P a b c d x y:Int}
theorem Cg.symm (h:Cg P a b):Cg P b a:=by obtain ⟨k,hk⟩:=h; exact ⟨-k,by grind⟩
theorem Cg.trans (h:Cg P a b) (h2:Cg P b c):Cg P a c:=by obtain ⟨k,hk⟩:=h; obtain ⟨m,hm⟩:=h2; exact ⟨k + m,by grind⟩
theorem Cg.mod (P a:Int):Cg P (a % P) a:=f8u P a
theorem Cg.of_emod (h:a % P = b % P):Cg P a b:=(Cg.mod P a).symm.trans (by rw [h]; exact Cg.mod P b)
end
structure Gv (g:Grp):Prop where
 q0:5 ≤ g.Q
 q1:g.Q < 1152921504606846976
 p:g.P = 2 * g.Q + 1
 g0:2 ≤ g.G
 g1:g.G < g.P
 pq:a8r g.Q = true
 gq:pw g.P g.G g.Q.toNat = 1
theorem g8k {g:Grp} (h:a2m g = true):Gv g:=by
 unfold a2m at h
 split at h
 ·cases h
 ·simp only [Bool.and_eq_true,decide_eq_true_eq] at h
  exact ⟨by omega,by omega,by omega,by omega,by omega,h.1.1,h.2⟩
def El (g:Grp) (x:Int):Prop:=Cg g.P (x ^ g.Q.toNat) 1
section
variable {g:Grp} {x y a b:Int}
theorem Gv.okP (h:Gv g):okN g.P:=by have:=h.q0; have:=h.q1; have:=h.p; exact ⟨by omega,by omega⟩
theorem Gv.okQ (h:Gv g):okN g.Q:=by have:=h.q0; have:=h.q1; exact ⟨by omega,by omega⟩
theorem El.of_pw (h:Gv g) (hx:pw g.P x g.Q.toNat = 1):El g x:=by
 refine Cg.of_emod ?_
 have e:x ^ g.Q.toNat % g.P = 1:=hx
 rw [e,Int.emod_eq_of_lt (by omega) (by have:=h.q0; have:=h.p; omega)]
theorem El.of_elem (h:Gv g) (hx:a9d g x = true):El g x ∧ 1 ≤ x ∧ x < g.P:=by
 unfold a9d at hx
 simp only [Bool.and_eq_true,decide_eq_true_eq] at hx
 exact ⟨El.of_pw h hx.2,hx.1.1.1,hx.1.1.2⟩
end
end GrLaw
namespace PrSpec
open FdSpec TkSpec CodeSpec FdPoly
end PrSpec
namespace PrSpec
open FdSpec TkSpec CodeSpec FdPoly GrLaw
end PrSpec
namespace PrSpec
open FdSpec TkSpec CodeSpec FdPoly GrLaw
end PrSpec
namespace PrSpec
open FdSpec TkSpec CodeSpec FdPoly GrLaw
end PrSpec
namespace PrSpec
open FdSpec TkSpec CodeSpec FdPoly GrLaw
end PrSpec
namespace PrSpec
open FdSpec TkSpec CodeSpec FdPoly GrLaw
end PrSpec
namespace PrSpec
open FdSpec TkSpec CodeSpec FdPoly GrLaw
end PrSpec
namespace PrSpec
open FdSpec TkSpec CodeSpec FdPoly GrLaw
end PrSpec
namespace PrSpec
open FdSpec TkSpec CodeSpec FdPoly GrLaw
end PrSpec
namespace PrSpec
open FdSpec TkSpec CodeSpec FdPoly GrLaw
end PrSpec
namespace PrSpec
open FdSpec TkSpec CodeSpec FdPoly GrLaw
end PrSpec
namespace PrSpec
open FdSpec TkSpec CodeSpec FdPoly GrLaw
end PrSpec
namespace PrSpec
open FdSpec TkSpec CodeSpec FdPoly GrLaw
end PrSpec
namespace PrSpec
open FdSpec TkSpec CodeSpec FdPoly GrLaw
end PrSpec
namespace PrSpec
open FdSpec TkSpec CodeSpec FdPoly GrLaw
end PrSpec
namespace PuSpec
open FdSpec TkSpec CodeSpec GrLaw FdPoly PrSpec
theorem e1e {s:Stp} (h:a1u s = true):Gv s.g ∧ (∀ x ∈ s.bases,El s.g x):=by
 simp only [a1u,Bool.and_eq_true,List.all_eq_true] at h
 have g:=g8k h.1.1.1.1
 refine ⟨g,fun x hx=>?_⟩
 have:=h.1.2 x hx
 simp only [a3x,Bool.and_eq_true] at this
 exact (El.of_elem g this.2).1
structure Hv (s:Stp) (h:Hld):Prop where
 vs:a1u s = true
 al:h.attrs.length + 1 = s.bases.length
 yl:h.bl.ys.length = s.bases.length
 ar:∀ n ∈ h.attrs,0 ≤ n ∧ n < s.g.Q
 yr:∀ n ∈ h.bl.ys,0 ≤ n ∧ n < s.g.Q
 s1:1 ≤ h.bl.s ∧ h.bl.s < s.g.Q
 u1:1 ≤ h.bl.u ∧ h.bl.u < s.g.Q
 v1:0 ≤ h.bl.v ∧ h.bl.v < s.g.Q
 hd:1 ≤ h.attrs.headD 0
 fm:a6f s h.t = true
 mq:h.t.mark = a6i s.g (a7f s h.attrs).1 h.bl.s
 fs:h.t.first = (a5t s.g s.bases h.bl.ys).1
theorem c4e (q:Int) (l:List Int):a2t q l = true ↔ ∀ n ∈ l,0 ≤ n ∧ n < q:=by
 simp only [a2t,Bool.not_eq_true',List.any_eq_false,Bool.or_eq_true,decide_eq_true_eq,not_or]
 constructor <;> intro h n hn <;> have:=h n hn <;> omega
theorem g8s {s:Stp} {lims:List Lim} {h:Hld} (v:validM s lims h = true):Hv s h:=by
 simp only [validM,Bool.and_eq_true,decide_eq_true_eq,c4e] at v
 obtain ⟨⟨⟨⟨⟨⟨⟨⟨⟨⟨⟨⟨⟨⟨⟨⟨v1,v2⟩,v3⟩,v4⟩,v5⟩,v6⟩,v7⟩,v8⟩,v9⟩,v10⟩,v11⟩,v12⟩,v13⟩,v14⟩,v15⟩,v16⟩,v17⟩:=v
 have a:=v12 h.bl.s (by simp)
 have b:=v12 h.bl.u (by simp)
 have c:=v12 h.bl.v (by simp)
 exact ⟨v1,by omega,v9,v10,v11,by omega,by omega,c,v8,v15,v16,v17⟩
end PuSpec
namespace PuSpec
open FdSpec TkSpec CodeSpec DkSpec JnSpec
variable {s:Stp} {lims:List Lim} {A:Ab} {p:Pst} {all sure:List a0h}
end PuSpec
namespace JnSpec
open CodeSpec DkSpec
structure Upp (A:Ab):Prop where
 down:A.down = false
 armed:A.armed = 0
 lost:A.lost = 0
variable {all sure:List Bs} {f:Int} {A:Ab} {j:Jn}
theorem Upp.ends (u:Upp A):a4b A = (false,A):=by unfold a4b; rw [if_pos (.inr u.armed)]
theorem Upp.comes (u:Upp A):a1g A = A:=by unfold a1g; rw [u.ends]; simp
theorem Upp.settle (u:Upp A) (s:Bs):Upp (a3v A f s):=⟨u.down,u.armed,u.lost⟩
theorem Upp.add (u:Upp A) (n:Nat) (s:Bs):Upp (b8v A f n s):=by
 unfold b8v
 split
 ·exact u
 ·exact ⟨u.down,u.armed,u.lost⟩
theorem Upp.sync (u:Upp A) (hf:0 ≤ f ∧ f ≤ 15):a3y A f = (0,a3v A f (A.F f).1):=by
 unfold a3y
 rw [u.comes,b1v u.down (by omega),if_neg (by simp),if_neg (by have:=u.lost; omega)]
theorem Upp.write (u:Upp A) (hf:0 ≤ f ∧ f ≤ 15) {n:Nat} {s:Bs} (hb:n + s.length ≤ 16777216):a7n A f n s = (0,b8v A f n s):=by
 unfold a7n
 rw [u.ends]
 simp only [Bool.false_eq_true,if_false]
 unfold wrA
 rw [b1v u.down (by omega),if_neg (by simp),if_neg (by omega),if_neg (by omega)]
 simp
theorem Upp.openJ (u:Upp A) (hf:0 ≤ f ∧ f ≤ 15):∃ B,JnSpec.openJ A f = (some ⟨(readJ (A.F f).1).1,(readJ (A.F f).1).2,false⟩,0,B) ∧ Upp B ∧ (B.F f).1 = (A.F f).1.take (readJ (A.F f).1).2 ∧ ∀ g,g ≠ f → (B.F g) = A.F g:=by
 have u2:Upp (a3v A f (A.F f).1):=u.settle _
 have e1:(a3v A f (A.F f).1).F f = ((A.F f).1,(A.F f).1):=a3d _ _ _
 have e2:∀ g,g ≠ f → (a3v A f (A.F f).1).F g = A.F g:=fun g hg=>by show b1c A.F f _ g = _; simp [b1c,hg]
 have hle:(readJ (A.F f).1).2 ≤ (A.F f).1.length:=by
  have h:=a6a (A.F f).1
  have h1:=congrArg List.length h.2.2.1
  rw [List.length_append,← h.2.1] at h1
  omega
 unfold JnSpec.openJ
 rw [if_neg (by omega),u.sync hf,if_neg (by simp)]
 dsimp only
 rw [d0a u2.down hf,e1]
 generalize a3v A f (A.F f).1 = B at *
 generalize hx:(A.F f).1 = x at *
 unfold d1x
 rw [if_neg (by simp)]
 dsimp only
 by_cases hlt:(readJ x).2 < x.length
 ·rw [if_pos hlt]
  have ht:a5a B f (readJ x).2 = (0,a3v B f (x.take (readJ x).2)):=by
   unfold a5a
   rw [u2.comes,b1v u2.down (by omega),if_neg (by simp),if_neg (by rw [e1]; dsimp only; omega),e1]
   simp
  rw [ht,if_neg (by simp)]
  refine ⟨_,rfl,u2.settle _,?_,fun g hg=>?_⟩
  ·show (b1c B.F f _ f).1 = _
   rw [a3d]
  ·show b1c B.F f _ g = _
   rw [← e2 g hg]
   simp [b1c,hg]
 ·rw [if_neg hlt]
  refine ⟨B,rfl,u2,?_,e2⟩
  rw [e1,List.take_of_length_le (by omega)]
theorem Upp.append (u:Upp A) (hf:0 ≤ f ∧ f ≤ 15) {t:Bs} (hj:j.broken = false) (hx:(A.F f).1.length = j.bytes) (ht:t.length ≤ 20000) (hb:j.bytes + (form t).length ≤ 1048576) :
  ∃ B,a0j A f j t = (0,B,⟨j.recs ++ [t],j.bytes + (form t).length,false⟩) ∧ Upp B ∧ (B.F f).1 = (A.F f).1 ++ form t ∧ ∀ g,g ≠ f → (B.F g) = A.F g:=by
 have hne:form t ≠ []:=List.length_pos_iff.1 (a8c t)
 refine ⟨b8v A f j.bytes (form t),?_,u.add _ _,?_,fun g hg=>?_⟩
 ·unfold a0j
  rw [if_neg (by rw [hj]; simp),if_neg (by omega),if_neg (by omega),u.write hf (by omega),if_neg (by simp)]
 ·unfold b8v
  rw [if_neg hne]
  show (b1c A.F f _ f).1 = _
  rw [a3d,← hx,d0b _ _ hne]
 ·unfold b8v
  rw [if_neg hne]
  show b1c A.F f _ g = _
  simp [b1c,hg]
theorem c7j {l:List Bs} (h:∀ t ∈ l,t.length ≤ 20000):(a2v l).length ≤ l.length * 20064:=by
 induction l with
 | nil=>simp [a2v]
 | cons t l ih=>
  have h1:=ih (fun x hx=>h x (by simp [hx]))
  have h2:=h t (by simp)
  have h3:=b2p (s:=t) (by omega)
  rw [a5z,List.length_append,List.length_cons]
  omega
end JnSpec
namespace JnSpec
open CodeSpec DkSpec
variable {all sure:List Bs} {f:Int} {A:Ab} {j:Jn}
theorem LJ.live (h:LJ f A j all sure) (hb:j.broken = false):Live f A j all sure:=by
 rcases h with h | h
 ·exact h.2
 ·rw [hb] at h; cases h.1
theorem Upp.add_rec (u:Upp A) (h:Live f A j all sure) (hf:0 ≤ f ∧ f ≤ 15) (hj:j.broken = false) {t:Bs} (ht:t.length ≤ 20000) (hb:j.bytes + (form t).length ≤ 1048576) :
  ∃ B,a0j A f j t = (0,B,⟨j.recs ++ [t],j.bytes + (form t).length,false⟩) ∧ Upp B ∧ Live f B ⟨j.recs ++ [t],j.bytes + (form t).length,false⟩ (all ++ [t]) sure:=by
 obtain ⟨B,e,u',_,_⟩:=u.append hf hj (by rw [h.x,h.bytes]) ht hb
 refine ⟨B,e,u',?_⟩
 have hs:=b6c (.inl ⟨hj,h⟩) hf t
 rw [e] at hs
 dsimp only at hs
 rcases hs with ⟨_,_,h3⟩ | ⟨h1,_⟩ | ⟨h1,_⟩
 ·exact h3.live rfl
 ·cases h1
 ·rcases h1 with h1 | h1 | h1 <;> cases h1
theorem Upp.sync_rec (u:Upp A) (h:Live f A j all sure) (hf:0 ≤ f ∧ f ≤ 15) (hj:j.broken = false) :
  ∃ B,a6s A f j = (0,B,j) ∧ Upp B ∧ Live f B j all j.recs:=by
 have hs:=u.sync hf
 have e:a6s A f j = (0,a3v A f (A.F f).1,j):=by
  unfold a6s
  rw [if_neg (by rw [hj]; simp),hs]
  cases j
  simp only at hj
  subst hj
  rfl
 refine ⟨_,e,u.settle _,?_⟩
 have hs:=e0f (.inl ⟨hj,h⟩) hf
 rw [e] at hs
 dsimp only at hs
 rcases hs.2 with ⟨_,h3⟩ | ⟨h1,_⟩
 ·exact h3.live hj
 ·exact absurd rfl h1
theorem Upp.crash (u:Upp A) (keep:List Int):Upp (b2k (a4p A keep)):=by
 unfold b2k a4p
 rw [if_neg (by rw [u.down]; simp)]
 exact ⟨rfl,rfl,u.lost⟩
theorem Upp.again (u:Upp A) (h:GoodJ f A all sure) (hf:0 ≤ f ∧ f ≤ 15) (keep:List Int) :
  ∃ B j',JnSpec.openJ (b2k (a4p A keep)) f = (some j',0,B) ∧ Upp B ∧ Live f B j' j'.recs j'.recs ∧ j'.broken = false ∧ j'.recs <+: all ∧ sure <+: j'.recs:=by
 have u1:=u.crash keep
 have g1:=(h.crash keep).start
 obtain ⟨B,e,uB,_,_⟩:=u1.openJ hf
 refine ⟨B,_,e,uB,?_⟩
 have hs:=(c3k g1 hf).2
 rw [e] at hs
 dsimp only at hs
 rcases hs with ⟨hn,_⟩ | ⟨j',e2,_,hb,h1,h2,h3⟩
 ·cases hn
 ·cases e2
  exact ⟨h3,rfl,h1,h2⟩
theorem Live.bytes_le (h:Live f A j all sure) {n:Nat} (hn:j.recs.length ≤ n):j.bytes ≤ n * 20064:=by
 have h1:=h.good.few
 rw [h.recs] at h1
 have h2:=c7j h1
 have h3:j.recs.length * 20064 ≤ n * 20064:=Nat.mul_le_mul_right _ hn
 rw [h.bytes]; exact Nat.le_trans h2 h3
theorem g5m:Upp c6s:=⟨rfl,rfl,rfl⟩
theorem d1z (u:Upp A) (h:GoodJ f A [] []) (h0:(A.F f).1 = []) (hf:0 ≤ f ∧ f ≤ 15):∃ B,JnSpec.openJ A f = (some ⟨[],0,false⟩,0,B) ∧ Upp B ∧ Live f B ⟨[],0,false⟩ [] []:=by
 obtain ⟨B,e,uB,_,_⟩:=u.openJ hf
 have e0:readJ [] = ([],0):=a7i b0o
 rw [h0,e0] at e
 have hs:=(c3k h hf).2
 rw [e] at hs
 dsimp only at hs
 rcases hs with ⟨hn,_⟩ | ⟨j',e2,_,hb,h1,h2,h3⟩
 ·cases hn
 ·cases e2
  exact ⟨B,e,uB,h3⟩
theorem e9s (hf:0 ≤ f ∧ f ≤ 15):∃ B,JnSpec.openJ c6s f = (some ⟨[],0,false⟩,0,B) ∧ Upp B ∧ Live f B ⟨[],0,false⟩ [] []:=d1z g5m (d1y f) rfl hf
end JnSpec
namespace PuSpec
open FdSpec TkSpec CodeSpec DkSpec JnSpec
variable {s:Stp} {lims:List Lim} {A:Ab} {p:Pst} {all sure:List a0h}
theorem encInt_len {n:Int} (h:InR n):(a0n n).length ≤ 21:=by
 have:=a4k n h
 simp only [a0n,List.length_append,List.length_cons,List.length_nil]; omega
theorem encNum_len {n:Int} (h:InR n):(a1a n).length ≤ 21:=by
 unfold a1a
 split
 ·simp
 ·exact encInt_len h
theorem b5l {α:Type} (f:α → a0h) (m:Nat):∀ l:List α,(∀ x ∈ l,(f x).length ≤ m) → (l.map f).flatten.length ≤ l.length * m
 | [],_=>by simp
 | x :: l,h=>by
  have h1:=h x (by simp)
  have h2:=b5l f m l fun y hy=>h y (by simp [hy])
  simp only [List.map_cons,List.flatten_cons,List.length_append,List.length_cons,Nat.succ_mul]
  omega
theorem a1v {l:List Int} (h:∀ n ∈ l,InR n) (hl:l.length ≤ 1000):(a0d l).length ≤ 22 + l.length * 21:=by
 have h1:=b5l a0n 21 l fun n hn=>encInt_len (h n hn)
 have h2:=a4k (l.length:Int) ⟨by omega,by omega⟩
 simp only [a0d,a2g,List.length_append,List.length_cons,List.length_map,List.length_nil]
 omega
theorem f0b {x:Lnk} (w:WLnk x) (ha:x.spend.answers.length ≤ 7) (ht:x.terms.length ≤ 200):(a5g x).length ≤ 600:=by
 have h1:=a1v w.t.all (by simp [a5m])
 have h2:=encInt_len w.dare
 have h3:=a1v w.ans (by omega)
 have h4:=a4k (x.terms.length:Int) ⟨by omega,by omega⟩
 have e:(a5m x.ticket).length = 6:=rfl
 rw [e] at h1
 simp only [a5g,List.length_append,a0t,List.length_cons,List.length_nil] at *
 omega
theorem d0h {h:Hld} (w:WHld h) (v:validM s lims h = true):(a3m h).length ≤ 4000:=by
 have hv:=g8s v
 have hb:s.bases.length ≤ 7:=by
  have:=hv.vs
  simp only [a1u,Bool.and_eq_true,decide_eq_true_eq] at this
  omega
 have hl:a7q h.links = true:=by
  simp only [validM,Bool.and_eq_true] at v
  exact v.1.1.1.1.1.1.1.1.1.1.1.1.2
 simp only [a7q,Bool.and_eq_true,decide_eq_true_eq,Bool.not_eq_true',List.any_eq_false,Bool.or_eq_true,not_or] at hl
 have h1:=a1v (l:=[h.limit,h.window]) (by simp [w.limit,w.window]) (by simp)
 have h2:=a1v w.attrs (by have:=hv.al; omega)
 have h3:=a1v (l:=[h.bl.s,h.bl.u,h.bl.v]) (by simp [w.s,w.u,w.v]) (by simp)
 have h4:=a1v w.ys (by have:=hv.yl; omega)
 have h5:=a1v w.t.all (by simp [a5m])
 have h6:=encNum_len (n:=(h.links.length:Int)) ⟨by omega,by omega⟩
 have h7:=b5l a5g 600 h.links fun x hx=>f0b (w.links x hx) (by have:=(hl.2 x hx).2; omega) (by have:=(hl.2 x hx).1; omega)
 have ha:=hv.al
 have hy:=hv.yl
 have e:(a5m h.t).length = 6:=rfl
 rw [e] at h5
 simp only [a3m,List.length_append,List.length_cons,List.length_nil] at *
 have h8:h.links.length * 600 ≤ 4 * 600:=Nat.mul_le_mul_right _ hl.1
 omega
theorem b6h {l:List Int} (h:∀ n ∈ l,InR n) (hl:l.length ≤ 3):(a1y l).length ≤ 100:=by
 have:=a1v h (by omega)
 unfold a1y
 omega
end PuSpec
namespace Go.Proofs
open Go Go.Sh Go.RowKit FdSpec TkSpec CodeSpec PuSpec DkSpec JnSpec
section
variable {K:VK} {w w' w0 W W':World} {L:List (Addr × Value)} {rb b:Nat} {s:Stp} {lims:List Lim} {p p':Ph} {items items':List Itm} {A:Ab} {P:Pst}
theorem PuR.mu_lt (h:PuR s lims w0 W p A P):∀ i,Mu p i → i < W.heap.size:=by
 rintro i (hi | hi | hi | hi | hi)
 ·exact h.sys.d.lt (.inl hi)
 ·exact h.sys.d.lt (.inr hi)
 ·exact h.jn.lt hi
 ·rw [hi]; exact h.st.pur.lt
 ·exact (h.st.itm.own hi).1
theorem PuR.mu8 (h:PuR s lims w0 W p A P):∀ i,Mu p i → 8 ≤ i:=fun i hi=>by have:=h.yg i hi; have:=h.low; omega
theorem PuR.it (h:PuR s lims w0 W p A P) (hst:StR s lims W' p' items') (t:PuIt p W p' W'):PuR s lims w0 W' p' A ⟨P.j,items'⟩:=by
 have hp:=h.st.sp
 have hy:=h.yg p.pb (.inr (.inr (.inr (.inl rfl))))
 have hm:=t.st.mu
 have ts:=t.fr.size
 have hz:=h.bl.size
 have hyg:∀ i,Mu p' i → w0.heap.size ≤ i:=fun i hi=>(hm i hi).elim (h.yg i) (fun h=>by omega)
 have hsi:∀ i,i = p.pb ∨ p.iv.ownBlock = some i → ¬ (Own p.b p.h i ∨ Rdb p.h i) ∧ 8 ≤ i:=fun i hi=>by
  rcases hi with rfl | hi
  ·exact ⟨fun e=>e.elim hp.1 hp.2.1,by have:=h.low; omega⟩
  ·have h2:=h.st.si i hi
   exact ⟨fun e=>e.elim h2.1 h2.2.1,h.mu8 i (.inr (.inr (.inr (.inr hi))))⟩
 have s':=h.sys.fresh t.fr hsi
 have j':=h.jn.keep (h':=p.h) t.fr (fun i hi=>by
  rcases hi with rfl | hi
  ·exact hp.2.2
  ·exact (h.st.si i hi).2.2.1) (fun i hi=>hi.elim .inl (fun h=>.inr (.inl h)))
 have bl:Bw w0 W':=h.bl.trans ⟨t.fr.os,t.fr.tape,t.fr.output,t.fr.size,fun i hi=>t.fr.block i (by omega) (fun hx=>by
  rcases hx with hx | hx
  ·omega
  ·have:=h.yg i (.inr (.inr (.inr (.inr hx)))); omega)⟩
 have e:=t.eq
 obtain ⟨b0,h0,q0,u0,pb0,iv0,lv0,bv0,x0⟩:=p'
 cases e
 exact ⟨s',j',hst,hyg,bl,h.low⟩
theorem e4o {f:Int} {j:Jn} (h:(openJ A f).1 = some j):Few j.recs:=by
 unfold openJ d1x at h
 split at h
 ·cases h
 ·split at h
  ·cases h
  ·split at h
   ·cases h
   ·split at h
    ·split at h
     ·cases h
     ·cases h; exact (a6a _).1
    ·cases h; exact (a6a _).1
theorem f2q (c:List Value) (x:Lim) (h:e4a w c x):∃ y:Lim,c = c2i y ∧ id y = x ∧ (I64 y.count ∧ I64 y.length ∧ I64 y.gate):=⟨x,h.1,rfl,h.2⟩
theorem g1j (x:Lim):∀ u ∈ c2i x,u.oneCell' = true:=by
 intro u hu
 simp only [c2i,List.mem_cons,List.not_mem_nil,or_false] at hu
 rcases hu with rfl | rfl | rfl <;> rfl
theorem c9c {v:Value} {l:List Lim} (hr:c5v w v l) (hl:l.length < 1000) (k:∀ v' w',GRow 3 40 e4a w.heap.size (fun _=>False) w' v' l → Bw w w' → K v' w'):a0a Tryz.prog 115 #[v] K w:=by
 apply d7g
 unfold f5j
 obtain ⟨ad,c,rfl⟩:=hr.isSlice
 refine b3i (e:=40) (by kernel_rfl) ?_
 cases ad with
 | none=>
  have:l = []:=by
   obtain ⟨⟨a',c',hv,h⟩,_⟩:=hr
   cases hv
   rcases h with h | ⟨b,o,hb,_⟩
   ·exact h
   ·cases hb
  subst this
  simp only [Option.isNone_none]
  refine Xa0 ?_
  exact k _ _ .nil (bR)
 | some a=>
  simp only [Option.isNone_some]
  obtain ⟨ys,he,hq,hi⟩:=hr.rowR (mk:=c2i) (f:=id) (Q:=fun _ y=>I64 y.count ∧ I64 y.length ∧ I64 y.gate) (fun _=>rfl) (fun c x h=>f2q c x h)
  rw [List.map_id] at he
  subst he
  refine Xa0 ?_
  have hr2:RowR c2i 3 (w.alloc (.cells #[] 40)) _ ys:=hi.keep (by rw [a0z]; omega) (fun i _ hi=>heap_alloc_old _ _ hi)
  refine b5p 27 27 40 ((Tryz.prog.info? 40).getD default) (.agg #[.int .i64 0,.int .i64 0,.int .i64 0]) 3 24 (by kernel_rfl) (by kernel_rfl) (by kernel_rfl) (by kernel_rfl) (by kernel_rfl) (by kernel_rfl) (by omega) (fun _=>rfl) g1j hr2 (World.ownsRow_lit w #[] 0 (Nat.zero_le _) (Nat.zero_le _) rfl) (B:=w.heap.size) (by rw [a0z]; omega) (fun i hi=>by cases hi; exact rL) (by omega) (by omega) ?_
  intro v' w' ho hg hv
  refine k v' w' ?_ ?_
  ·have:=GRow.conv (V:=e4a) (f:=id) (E:=fun _=>False) (c2l (n:=3) (mk:=c2i) (fun _=>rfl) (a8o ho hv)) (fun _ _ _ _ _ _ y hy=>⟨rfl,hq y hy⟩)
   rwa [List.map_id] at this
  ·exact a0y ((Below.refl _ w).alloc (rL) _) hg (rL)
end
end Go.Proofs
namespace Go.Proofs
open Go Go.Sh Go.RowKit FdSpec TkSpec CodeSpec PuSpec DkSpec JnSpec
section
variable {K:VK} {w w' w0 W W':World} {L:List (Addr × Value)} {rb b:Nat} {s:Stp} {lims:List Lim} {p p':Ph} {items items':List Itm} {A:Ab} {P:Pst} {h:Dk}
theorem e4p (f:Int):((openJ A f).2.1 ≠ 0 → (openJ A f).1 = none) ∧ ((openJ A f).2.1 = 0 → (openJ A f).1 ≠ none):=by
 unfold openJ d1x
 split
 ·exact ⟨fun _=>rfl,fun h=>by simp at h⟩
 ·split
  ·rename_i h1
   exact ⟨fun _=>rfl,fun h=>absurd h h1⟩
  ·split
   ·rename_i h2
    exact ⟨fun _=>rfl,fun h=>absurd h h2⟩
   ·split
    ·split
     ·rename_i h3
      exact ⟨fun _=>rfl,fun h=>absurd h h3⟩
     ·exact ⟨fun h=>absurd rfl h,fun _ h=>by cases h⟩
    ·exact ⟨fun h=>absurd rfl h,fun _ h=>by cases h⟩
@[go_sem] theorem g8h (T:TypeId) (b o n c:Nat) (x:Int):oM Tryz.prog (.indexAddr 60 (.tmp 0) (.tmp 1)) T [.slice (some ⟨b,o,none⟩) n c,.int .i64 x] = onM (0 ≤ x ∧ x < n) (.pointer (some ⟨b,o + x.toNat * 1,none⟩)):=
 b7w (K:=fun _ _=>True) (P:=Tryz.prog) (n:=1) 60 T (by kernel_rfl) (fun w=>by kernel_rfl) b o n c x
theorem f2r {α:Type} {l:List α} {i:Nat} {x:α} (h:l[i]? = some x):l.set i x = l:=by
 obtain ⟨hi,rfl⟩:=gS h
 exact List.set_getElem_self hi
theorem f2s (l:Lim) (k:∀ w',Bw w w' → K (.bool (!c2p l)) w'):a0a Tryz.prog 112 #[e3z l] K w:=by
 apply d7f
 unfold f5i
 refine a1b (cs:=c2i l) rfl (.start w) fun b1 W hk hb1 hbb=>?_
 refine Xa hk.cells ?_
 refine a7g l (fun w2 h2=>?_)
 have k:=k _ (hk.next h2).below
 cases hv:c2p l with
 | false=>
  rw [hv] at k
  refine Xa0 ?_
  exact k
 | true=>
  rw [hv] at k
  refine Xa0 ?_
  exact k
theorem c9d (T:TypeId) (s:Stp) (a1 a2:Option Addr) (n1 n2 c1 c2:Nat):oM Tryz.prog (Go.Op.build 127 #[(0,(.tmp 0)),(1,(.tmp 1))]) T [b0d s (.slice a1 n1 c1),.slice a2 n2 c2] = a0f (.agg #[.int .i64 s.g.P,.int .i64 s.g.Q,.int .i64 s.g.G,.slice a1 n1 c1,.int .i64 s.blind,.slice a2 n2 c2,.slice none 0 0]):=by
 funext K w
 kernel_rfl
theorem c9e (T:TypeId) (s:Stp) (a1 a2:Option Addr) (n1 n2 c1 c2 q:Nat):oM Tryz.prog (Go.Op.build 130 #[(0,(.tmp 0)),(1,(.tmp 1))]) T [.agg #[.int .i64 s.g.P,.int .i64 s.g.Q,.int .i64 s.g.G,.slice a1 n1 c1,.int .i64 s.blind,.slice a2 n2 c2,.slice none 0 0],jnP q] = a0f (.agg #[.int .i64 s.g.P,.int .i64 s.g.Q,.int .i64 s.g.G,.slice a1 n1 c1,.int .i64 s.blind,.slice a2 n2 c2,.slice none 0 0,jnP q]):=by
 funext K w
 kernel_rfl
def g1k (w0 w':World) (b:Nat) (h':Dk) (s:Stp) (lims:List Lim) (A':Ab) (w:World) (r:Value):Option Pst → Prop
 | none=>r = .pointer none
 | some P=>∃ p:Ph,p.b = b ∧ p.h = h' ∧ r = .pointer (some ⟨p.pb,0,none⟩) ∧ PuR s lims w0 w' p A' P ∧ ∀ i,Mu p i → Own b h' i ∨ Rdb h' i ∨ w.heap.size ≤ i
set_option maxHeartbeats 4000000 in
theorem e4q (hw0:8 ≤ w0.heap.size) (hbl:Bw w0 w) (sy:Sys w b A h) (hy:∀ i,Own b h i ∨ Rdb h i → w0.heap.size ≤ i) {v lv:Value} {D:Nat → Prop} (hD:∀ i,D i → i < w.heap.size ∧ ¬ Own b h i) (hsl:FP D w (fun W=>SetR W s v ∧ c5v W lv lims))
  (k:∀ w' h' r,Sys w' b (b1y s lims A).2.2 h' → Step w b h w' h' → g1k w0 w' b h' s lims (b1y s lims A).2.2 w r (b1y s lims A).1 → K (.tuple #[r,.int .i64 (b1y s lims A).2.1]) w'):a0a Tryz.prog 38 #[dkP b,b0d s v,lv] K w:=by
 apply e7c
 unfold g3i
 obtain ⟨hs,hl⟩:=hsl.here
 obtain ⟨ad,c,rfl⟩:=hs.ints.isSlice
 obtain ⟨lad,lc,rfl⟩:=hl.isSlice
 have bad:(a1u s = false ∨ c7u lims = false) → ∀ w',Bw w w' → K (.tuple #[.pointer none,.int .i64 1]) w':=fun hb w' hw=>by
  have e:b1y s lims A = (none,1,A):=by
   unfold b1y
   rcases hb with hb | hb
   ·rw [hb]; rfl
   ·rw [hb]; simp
  rw [e] at k
  exact k w' h _ (sy.below hw) (Step.below hw) rfl
 refine a4f (cs:=a9w s (.slice ad s.bases.length c)) rfl (fun b1 w1 h1 hb1 hB=>?_)
 refine Xa hB.are ?_
 refine a7e s (hs.next h1) (fun w2 h2=>?_)
 have h02:=h1.on h2
 cases hv:a1u s with
 | false=>
  have bad:=bad (.inl hv) _ h02
  refine Xa0 ?_
  exact bad
 | true=>
 have limB:c7u lims = (decide (1 ≤ lims.length) && decide (lims.length ≤ 16) && !(lims.any fun l=>!c2p l)):=rfl
 by_cases h0:lims = []
 ·have bad:=bad (.inr (by rw [limB,h0]; rfl)) _ h02
  refine Xa @h0 ?_
  exact bad
 have h0l:0 < lims.length:=List.length_pos_iff.2 h0
 by_cases h16:16 < lims.length
 ·have h16Z:(16:Int) < lims.length:=by omega
  have bad:=bad (.inr (by rw [limB,decide_eq_false (by omega:¬ lims.length ≤ 16)]; simp)) _ h02
  refine Xa (An2 @h0 @h16Z) ?_
  exact bad
 have h16Z:¬ (16:Int) < lims.length:=by omega
 refine Xa (An2 @h0 @h16Z) ?_
 refine b8p (fun l=>!c2p l) (hl.next (a1o a7x) h02) ?_ (fun w3 h3=>?_)
 ·rintro w' x cs K' T hb hx ⟨rfl,_⟩ h'
  refine a3q (by kernel_rfl) ?_
  exact f2s x h'
 have h03:=h02.on h3
 cases ha:lims.any fun l=>!c2p l with
 | true=>
  have bad:=bad (.inr (by rw [limB,ha]; simp)) _ h03
  refine Xa0 ?_
  exact bad
 | false=>
 have hlm:c7u lims = true:=by rw [limB,ha,decide_eq_true (by omega:1 ≤ lims.length),decide_eq_true (by omega:lims.length ≤ 16)]; rfl
 have eP:b1y s lims A = (match openJ A 0 with
  | (none,e,B)=>(none,e,B)
  | (some j,_,B)=>match c7v s lims j.recs with
   | none=>(none,2,B)
   | some l=>(some ⟨j,l⟩,0,B)):=by unfold b1y; rw [hv,hlm]; rfl
 clear bad
 refine Xa0 ?_
 refine e9c (sy.below h03) 0 (fun w4 h' r sy4 t4 ho4=>?_)
 have hw4:Step w b h w4 h':=(Step.below h03).trans t4
 have hB3:Holds w3 b1 26 (a9w s (.slice ad s.bases.length c)):=(hB.next h2).next h3
 have hb1':¬ Own b h b1:=fun e=>by have:=sy.d.lt (.inl e); omega
 have hB4:=(t4.fr.block b1 hB3.lt hb1').trans hB3
 have hJ:=e4p (A:=A) 0
 have hF:=fun j=>e4o (A:=A) (f:=0) (j:=j)
 generalize openJ A 0 = oj at *
 obtain ⟨oj1,oj2,oj3⟩:=oj
 by_cases he:oj2 = 0
 ·subst he
  cases oj1 with
  | none=>exact absurd rfl (hJ.2 rfl)
  | some j=>
  obtain ⟨q,u,rfl,jn4,hjo⟩:=ho4
  have hb14:b1 < w4.heap.size:=lL hB3.lt t4.fr.size
  have hsl4:=hsl.fr hw4.fr (fun i hi=>hD i hi)
  obtain ⟨hs4,hl4⟩:=hsl4.here
  have few:=hF j rfl
  rw [eP] at k
  simp only at k
  have hB4':Holds w4 b1 26 (a9w s (.slice ad s.bases.length c)):=hB4
  have c4:=hB4'.are
  refine Xa @c4 ?_
  have hbl7:s.bases.length ≤ 7:=(a8z hv).2
  refine b3j hs4.ints (by omega) (fun bv w5 ho5 h5 hb5=>?_)
  obtain ⟨bad5,bc5,rfl⟩:∃ ad c,bv = .slice ad s.bases.length c:=a2a ho5
  have hB5:=hB4'.next h5
  have c5:=hB5.are
  refine Xa @c5 ?_
  refine a2j (i:=3) a9x rfl rfl hB5 (by simp) (fun w6 hg6 hB6=>?_)
  simp only [List.set_cons_succ,List.set_cons_zero] at hB6
  have hs5:=h5.size
  have hs6:=hg6.size
  have f6:Fr (fun i=>i = b1) w4 w6:=(Fr.of_below h5).trans (Fr.of_by hg6) (fun i hi=>.inl hi)
  have hB6:=hB6.next (.drawn (B:=w6.heap.size))
  have f7:Fr (fun i=>i = b1) w4 { w6 with drawn:=w6.drawn + 1 }:=f6.trans (Fr.of_below (S:=fun _=>False) .drawn) (fun i hi=>hi.elim)
  have pb6:=(OwnI.ints (B:=0) ho5 hs.ints.rng hs.ints.len).fp.fr (Fr.of_by hg6) (fun i hi=>⟨hi.2,fun e=>by have:=hb5 i (b1b ho5 hi.1); omega⟩)
  have pb7:=pb6.next (.drawn (B:=w6.heap.size)) (fun i hi=>by have:=hi.2; omega)
  refine ⟨Nx { w6 with drawn:=w6.drawn + 1 },bR,rfl,?_⟩
  have hW7s:w6.heap.size ≤ ({ w6 with drawn:=w6.drawn + 1 }:World).heap.size:=rL
  generalize ({ w6 with drawn:=w6.drawn + 1 }:World) = W7 at hB6 f7 pb7 hW7s ⊢
  refine Xc (fun W0 hW0=>(hB6.next hW0).are) ?_
  have hsl7:=hsl4.fr f7 (fun i hi=>⟨by have:=hD i hi; have:=h03.size; have:=t4.fr.size; omega,fun e=>by have:=hD i hi; omega⟩)
  refine ⟨Nx,?_⟩
  refine b0h (fun v w'=>GRow 3 40 e4a W7.heap.size (fun _=>False) w' v lims) (fun v w w1 hS h=>h.next hS (fun _ h=>h.elim)) ?_ ?_
  ·intro w8 h8
   exact c9c ((hsl7.here.2).next (a1o a7x) h8) (by omega) (fun v' w9 hG h9=>⟨h8.on h9,h9,hG.base h8.size⟩)
  refine b0h (fun v w'=>∃ lv',v = .agg #[.int .i64 s.g.P,.int .i64 s.g.Q,.int .i64 s.g.G,.slice bad5 s.bases.length bc5,.int .i64 s.blind,lv',.slice none 0 0] ∧ GRow 3 40 e4a W7.heap.size (fun _=>False) w' lv' lims) (fun v w w1 hS ⟨lv',e,h⟩=>⟨lv',e,h.next hS (fun _ h=>h.elim)⟩) ?_ ?_
  ·intro w8 h8 v1 hG
   obtain ⟨la,lc',rfl⟩:=hG.isSlice
   rw [c9d]
   exact ⟨h8,bR,_,rfl,hG⟩
  rintro w8 h8 _ - _ ⟨lv',rfl,hG⟩
  obtain ⟨la,lc',rfl⟩:=hG.isSlice
  rw [c9e]
  show oM _ _ _ _ _ _
  refine a4f (cs:=[.int .i64 s.g.P,.int .i64 s.g.Q,.int .i64 s.g.G,.slice bad5 s.bases.length bc5,.int .i64 s.blind,.slice la lims.length lc',.slice none 0 0,jnP q]) rfl (fun pb w9 h9 hpb hP=>?_)
  have hs7:=f7.size
  have hs8:=h8.size
  have hs9:=h9.size
  have hb1w3:=hB3.lt
  have hs03:=h03.size
  have hs34:=t4.fr.size
  have f9:Fr (fun i=>i = b1) w4 w9:=(f7.trans (Fr.of_below (S:=fun _=>False) h8) (fun i hi=>hi.elim)).trans (Fr.of_below (S:=fun _=>False) h9) (fun i hi=>hi.elim)
  have sy9:=sy4.fresh f9 (fun i hi=>by
   subst hi
   refine ⟨fun e=>?_,by have:=hbl.size; omega⟩
   rcases e with e | e
   ·rcases t4.own _ e with e | e
    ·have:=sy.d.lt (.inl e); omega
    ·omega
   ·rcases t4.rd _ e with e | e
    ·have:=sy.d.lt (.inr e); omega
    ·omega)
  have jn9:=jn4.keep (h':=h') f9 (fun i hi hj=>by subst hi; have:=hjo _ hj; omega) (fun i hi=>hi.elim .inl (fun h=>.inr (.inl h)))
  have hP8:=(hsl7.here.1.db).next h8
  have q1:=pb7.next (h8.on h9) (fun i hi=>by have:=hi.2; omega)
  have q2:=(GRow.fp (by omega) hG (by omega)).next h9 (fun i hi=>hi.elim (fun h=>h.elim) (fun h=>(hG.own h).1))
  have q3:=e4d (hP8.next h9)
  have hlow:=hbl.size
  have hyo:∀ i,Own b h' i ∨ Rdb h' i → w0.heap.size ≤ i:=fun i hi=>by
   rcases hi with e | e
   ·rcases t4.own _ e with e | e
    ·exact hy i (.inl e)
    ·omega
   ·rcases t4.rd _ e with e | e
    ·exact hy i (.inr e)
    ·omega
  generalize hp:(⟨b,h',q,u,pb,.slice none 0 0,.slice la lims.length lc',.slice bad5 s.bases.length bc5,fun _=>False⟩:Ph) = p
  have hMu:∀ i,Mu p i → Own b h' i ∨ Rdb h' i ∨ JO q u i ∨ i = pb:=fun i hi=>by
   subst hp
   rcases hi with hi | hi | hi | hi | hi
   ·exact .inl hi
   ·exact .inr (.inl hi)
   ·exact .inr (.inr (.inl hi))
   ·exact .inr (.inr (.inr hi))
   ·cases hi
  have notMu:∀ i,i < w8.heap.size → (i < 8 ∨ w4.heap.size ≤ i) → ¬ Mu p i:=fun i h1 h2 hm=>by
   rcases hMu i hm with e | e | e | e
   ·have:=sy4.d.lt (.inl e); have:=hyo i (.inl e); omega
   ·have:=sy4.d.lt (.inr e); have:=hyo i (.inr e); omega
   ·have:=jn4.lt e; have:=hjo i e; omega
   ·omega
  have hPu:PuR s lims w0 w9 p oj3 ⟨j,[]⟩:=by
   have hst:StR s lims w9 p []:=by
    have hxF:∀ i,¬ p.x i:=by subst hp; exact fun _ h=>h
    refine ⟨by subst hp; exact hP,by subst hp; exact .nil,?_,by simp,?_,?_,fun i hi=>absurd hi (hxF i)⟩
    ·have:=((q1.and q3).and q2).imp (q:=fun W=>SetR W s p.bv ∧ c5v W p.lv lims) (fun W hW=>by subst hp; exact ⟨⟨hs.grp,hW.1.1,hs.blind,hW.1.2⟩,hW.2⟩)
     refine this.mono (fun i hi=>?_)
     rcases hi with (hi | hi) | hi | hi
     ·have:=hb5 i (b1b ho5 hi.1); have:=hi.2; exact ⟨by omega,notMu i (by omega) (.inr (by omega)),hxF i⟩
     ·exact ⟨by omega,notMu i (by omega) (.inl hi),hxF i⟩
     ·exact hi.elim
     ·have:=hG.own hi; exact ⟨by omega,notMu i (by omega) (.inr (by omega)),hxF i⟩
    ·subst hp
     exact ⟨fun e=>by have:pb < _:=sy4.d.lt (.inl e); omega,fun e=>by have:pb < _:=sy4.d.lt (.inr e); omega,fun e=>by have:pb < _:=jn4.lt e; omega⟩
    ·subst hp
     intro i hi
     cases hi
   refine ⟨by subst hp; exact sy9,by subst hp; exact jn9,hst,fun i hi=>?_,?_,hw0⟩
   ·rcases hMu i hi with e | e | e | e
    ·exact hyo i (.inl e)
    ·exact hyo i (.inr e)
    ·have:=hjo i e; omega
    ·omega
   ·exact hbl.trans ⟨f9.os.trans hw4.fr.os,f9.tape.trans hw4.fr.tape,f9.output.trans hw4.fr.output,by omega,fun i hi=>(f9.block i (by omega) (by omega)).trans (hw4.fr.block i (by omega) (fun e=>by have:=hy i (.inl e); omega))⟩
  have e1:p.q = q ∧ p.pb = pb ∧ p.b = b ∧ p.h = h' ∧ p.iv = .slice none 0 0 ∧ p.u = u:=by subst hp; exact ⟨rfl,rfl,rfl,rfl,rfl,rfl⟩
  obtain ⟨e1q,e1p,e1b,e1h,e1i,e1u⟩:=e1
  have hpl:=hP.lt
  have hjl:j.recs.length ≤ 16777216:=by have:=jn9.len; omega
  clear hp hG q1 q2 q3 hP hP8
  subst e1p
  refine g5g jn9 (fun rv w10 hor h10=>?_)
  obtain ⟨rad,rc,rfl⟩:∃ ad c,rv = .slice ad j.recs.length c:=by
   obtain ⟨ad,c,e⟩:=a2a hor
   exact ⟨ad,c,e⟩
  have hrI:∀ i,(Value.slice rad j.recs.length rc).ownBlock = some i → w9.heap.size ≤ i ∧ i < w10.heap.size:=fun i hi=>by have:=a0x hor hi; omega
  have hPu:=hPu.next h10
  have hfin:∀ W p',PuIt p w10 p' W → Step w b h W h':=fun W p' t=>by
   refine ⟨((hw4.fr.trans f9 (fun i hi=>.inr (by omega))).trans (Fr.of_below (S:=fun _=>False) h10) (fun i hi=>hi.elim)).trans t.fr (fun i hi=>?_),hw4.own,hw4.rd⟩
   rcases hi with hi | hi
   ·exact .inr (by omega)
   ·rw [e1i] at hi; cases hi
  refine Xa0 ?_
  refine ⟨fun vs W=>∃ (u0:Value) (i:Nat) (iv:Value) (items:List Itm),vs = [u0,.pointer none,.int .i64 0,.int .i64 (i:Int)] ∧ i ≤ j.recs.length ∧ PuR s lims w0 W { p with iv:=iv } oj3 ⟨j,items⟩ ∧ PuIt p w10 { p with iv:=iv } W ∧ a1q s lims items (j.recs.drop i) = a1q s lims [] j.recs,
   (fun vs _=>match vs with | [_,_,_,.int _ i]=>j.recs.length - i.toNat | _=>0),⟨_,0,p.iv,[],rfl,by omega,hPu,PuIt.refl _ _,rfl⟩,?_⟩
  rintro _ _ w11 ⟨u0,i,iv,items,rfl,hi,hPi,hti,hre⟩
  have hs11:=hti.fr.size
  by_cases hin:i = j.recs.length
  ·subst hin
   rw [List.drop_length] at hre
   have hop:c7v s lims j.recs = some (items.map a7z):=by unfold c7v; rw [← hre]; rfl
   rw [hop] at k
   have c6:=hPi.st.pur.cell 6 (by simp)
   simp only [List.getElem_cons_zero,List.getElem_cons_succ] at c6
   obtain ⟨iad,ic,hiv⟩:=hPi.st.items.isSlice
   simp only at hiv
   subst hiv
   refine Xa @c6 ?_
   refine ⟨fun vs W=>∃ (u0:Value) (m:Nat),vs = [u0,.int .i64 (m:Int)] ∧ m ≤ items.length ∧ PuR s lims w0 W { p with iv:=.slice iad items.length ic } oj3 ⟨j,(items.take m).map a7z ++ items.drop m⟩ ∧ PuIt p w10 { p with iv:=.slice iad items.length ic } W,
    (fun vs _=>match vs with | [_,.int _ m]=>items.length - m.toNat | _=>0),⟨_,0,rfl,by omega,hPi,hti⟩,?_⟩
   rintro _ _ w12 ⟨u1,m,rfl,hm,hPm,htm⟩
   have hcnt:items.length ≤ 400:=hPi.st.cnt
   have hs10:=h10.size
   by_cases hmn:m = items.length
   ·subst hmn
    rw [List.take_length,List.drop_length,List.append_nil] at hPm
    refine Xa0 ?_
    refine k w12 h' _ (by have:=hPm.sys; simp only [e1b,e1h] at this; exact this) (hfin _ _ htm) ⟨{ p with iv:=.slice iad items.length ic },e1b,e1h,rfl,hPm,fun i hi=>?_⟩
    rcases hi with hi | hi | hi | hi | hi
    ·simp only [e1b,e1h] at hi; exact .inl hi
    ·simp only [e1h] at hi; exact .inr (.inl hi)
    ·simp only [e1q,e1u] at hi; have:=hjo i hi; exact .inr (.inr (by omega))
    ·exact .inr (.inr (by have:i = p.pb:=hi; omega))
    ·rcases htm.iv i hi with e | e
     ·rw [e1i] at e; cases e
     ·exact .inr (.inr (by omega))
   ·have hml:m < items.length:=by omega
    have hmZ:(m:Int) < items.length:=by omega
    have hLl:((items.take m).map a7z ++ items.drop m).length = items.length:=by simp; omega
    have hx:((items.take m).map a7z ++ items.drop m)[m]? = some items[m]:=by
     rw [List.getElem?_append_right (by simp; omega)]
     simp only [List.length_map,List.length_take,List.getElem?_drop]
     rw [show m + (m - min m items.length) = m by omega]
     exact gE hml
    have hnext:(items.take (m + 1)).map a7z ++ items.drop (m + 1) = ((items.take m).map a7z ++ items.drop m).set m (a7z items[m]):=by
     rw [List.take_succ_eq_append_getElem hml,List.map_append,List.set_append_right _ _ (by simp; omega)]
     simp only [List.length_map,List.length_take]
     rw [show m - min m items.length = 0 by omega]
     have:items.drop m = items[m] :: items.drop (m + 1):=List.drop_eq_getElem_cons hml
     rw [this]
     simp only [List.map_cons,List.map_nil,List.append_assoc,List.cons_append,List.nil_append,List.set_cons_zero]
    obtain ⟨g,gc,av,yv,zv,hgv,hgl,hH,hI,hJ2,hc⟩:=hPm.st.at hx
    have hgv0:=hgv
    simp only [hLl] at hgv
    cases hgv
    have c14:=hc 14 _ rfl
    have c6:=hPm.st.pur.cell 6 (by simp)
    simp only [List.getElem_cons_zero,List.getElem_cons_succ] at c6
    refine Xa @hmZ ?_
    refine ⟨fun l W=>l.getD 0 undef = .int .i64 (m:Int) ∧ PuR s lims w0 W { p with iv:=.slice (some ⟨g,0,none⟩) items.length ic } oj3 ⟨j,(items.take (m + 1)).map a7z ++ items.drop (m + 1)⟩ ∧ PuIt p w10 { p with iv:=.slice (some ⟨g,0,none⟩) items.length ic } W,?_,?_⟩
    ·by_cases hst1:items[m].status = 1
     ·refine Xa (An4 @c6 @hmZ @c14 @hst1) ?_
      refine hPm.st.put1 hPm.mu_lt (y:=a7z items[m]) hx hgv0 (by omega) a4y rfl rfl (fun _ _ _=>by unfold a7z; rw [if_pos hst1]; rfl) (by unfold a7z; rw [if_pos hst1]) (by unfold a7z; rw [if_pos hst1]; exact ⟨c2m 3 (by omega),hJ2⟩) (fun w13 h13 t13=>?_)
      refine Xa0 ?_
      rw [hnext]
      exact ⟨rfl,hPm.it h13 t13,htm.trans t13⟩
     ·refine Xa (An4 @c6 @hmZ @c14 @hst1) ?_
      rw [hnext]
      have:a7z items[m] = items[m]:=by unfold a7z; rw [if_neg hst1]
      rw [this,f2r hx]
      exact ⟨rfl,hPm,htm⟩
    ·rintro l u W ⟨hl0,hP',ht'⟩
     rw [hl0]
     refine Xa0 ?_
     exact ⟨⟨_,m + 1,rfl,by omega,hP',ht'⟩,by show items.length - (((m + 1:Nat):Int)).toNat < items.length - ((m:Nat):Int).toNat; omega⟩
  ·have hil:i < j.recs.length:=by omega
   have hiZ:(i:Int) < j.recs.length:=by omega
   have hor11:=a1j hor (fun i hi=>hti.fr.block i (hrI i hi).2 (fun e=>by
    rcases e with e | e
    ·have:=hrI i hi; omega
    ·rw [e1i] at e; cases e))
   obtain ⟨ad',c',hv',hcase⟩:=Cd.RowOf.of_owns (mk:=Cd.strV) hor11
   cases hv'
   rcases hcase with hnil | ⟨b3,o3,rfl,hb3,hc3⟩
   ·rw [hnil] at hil; exact absurd hil (by simp)
   have hc:=hc3 i hil
   unfold Cd.strV at hc
   have hrl:=few _ (List.getElem_mem hil)
   rw [List.drop_eq_getElem_cons hil] at hre
   refine Xa (An2 @hiZ @hc) ?_
   refine e4n hPi.st hPi.mu_lt hPi.sys.l j.recs[i] (by omega) (fun e w' hb=>?_) (fun items' e w' iv' a b2=>?_)
   ·have hop:c7v s lims j.recs = none:=by
     unfold c7v
     rw [← hre,a1q,e]
     rfl
    rw [hop] at k
    have hPn:=hPi.next hb
    have hsy:=hPn.sys
    simp only [e1b,e1h] at hsy
    have k:=k w' h' _ hsy (hfin _ _ (hti.trans (PuIt.below hb))) rfl
    refine Xa0 ?_
    exact k
   ·have hPn:=hPi.it a b2
    rw [a1q,e] at hre
    refine Xa0 ?_
    exact ⟨⟨_,i + 1,iv',items',rfl,by omega,hPn,hti.trans b2,hre⟩,by show j.recs.length - (((i + 1:Nat):Int)).toNat < j.recs.length - ((i:Nat):Int).toNat; omega⟩
 ·have hn:=hJ.1 he
  simp only at hn
  subst hn
  simp only [d9r] at ho4
  subst ho4
  rw [eP] at k
  have k:=k w4 h' _ sy4 hw4 rfl
  refine Xa @he ?_
  exact k
end
end Go.Proofs
namespace Go.Proofs
open Go Go.Sh Go.RowKit FdSpec TkSpec CodeSpec PuSpec DkSpec JnSpec
section
variable {K:VK} {w w' w0 W W':World} {L:List (Addr × Value)} {rb b:Nat} {s:Stp} {lims:List Lim} {p p':Ph} {items items':List Itm} {A:Ab} {P:Pst} {h:Dk}
theorem c9f {x:Hld} (h:PuSpec.validM s lims x = true):x.attrs.length < 1099511627776 ∧ x.bl.ys.length < 1099511627776 ∧ x.links.length < 1000 ∧ ∀ y ∈ x.links,y.spend.answers.length < 1099511627776:=by
 rw [c6b] at h
 simp only [bA,dE] at h
 obtain ⟨⟨⟨⟨⟨⟨⟨⟨⟨⟨⟨⟨⟨⟨⟨⟨hv,-⟩,-⟩,-⟩,hl⟩,ha⟩,-⟩,-⟩,hy⟩,-⟩,-⟩,-⟩,-⟩,-⟩,-⟩,-⟩,-⟩:=h
 have:=(a8z hv).2
 unfold a7q at hl
 simp only [bA,dE,Bool.not_eq_true',List.any_eq_false,Bool.or_eq_true,not_or] at hl
 exact ⟨by omega,by omega,by omega,fun y hy=>by have:=(hl.2 y hy).2; omega⟩
set_option maxHeartbeats 4000000 in
theorem g1l (hP:PuR s lims w0 w p A P) (x:Hld) {av yv kv:Value} {D:Nat → Prop} (hD:∀ i,D i → i < w.heap.size ∧ ¬ Mu p i) (hx:FP D w (fun W=>HldR W x av yv kv))
  (k:∀ w' p',PuR s lims w0 w' p' (c7q s lims A P x).2.1 (c7q s lims A P x).2.2 → PuSt p w p' w' → (p'.pb = p.pb ∧ p'.b = p.b) → K (.int .i64 (c7q s lims A P x).1) w'):a0a Tryz.prog 40 #[.pointer (some ⟨p.pb,0,none⟩),b8c x av yv kv] K w:=by
 apply e7d
 unfold g3j
 obtain ⟨a1,n1,c1,a2,n2,c2,a3,n3,c3,rfl,rfl,rfl⟩:=a1k hx.here
 refine a4f (cs:=b2f x (.slice a1 n1 c1) (.slice a2 n2 c2) (.slice a3 n3 c3)) rfl (fun b1 w1 h1 hb1 hB=>?_)
 have bad:a6l s lims P.items x ≠ 0 → ∀ w',Bw w w' → K (.int .i64 (a6l s lims P.items x)) w':=fun e w' hb=>by
  unfold c7q at k
  rw [if_pos e] at k
  exact k w' p (hP.next hb) (PuSt.below hb) ⟨rfl,rfl⟩
 have eE:a6l s lims P.items x = if !PuSpec.validM s lims x then 1 else if c0r P.items x.t then 5 else if 400 ≤ P.items.length then 6 else 0:=rfl
 rw [eE] at bad
 have hP1:=hP.next h1
 have hw1d:=h1.on (.drawn (B:=w1.heap.size))
 have hPd:=hP1.next (.drawn (B:=w1.heap.size))
 have hBd:=hB.next (.drawn (B:=w1.heap.size))
 refine ⟨Nx { w1 with drawn:=w1.drawn + 1 },bR,rfl,?_⟩
 generalize ({ w1 with drawn:=w1.drawn + 1 }:World) = W2 at hw1d hPd hBd ⊢
 obtain ⟨ivad,ivc,hiv⟩:=hPd.st.items.isSlice
 obtain ⟨lvad,lvc,hlv⟩:=hPd.st.lim.isSlice
 obtain ⟨bvad,bvc,hbv⟩:=hPd.st.set.ints.isSlice
 have C2:=hPd.st.pur
 unfold puC at C2
 rw [hiv,hlv,hbv] at C2
 refine Xc (fun W0 hW0=>An2 ((C2.next hW0).are) ((hBd.next hW0).are)) ?_
 refine ⟨Nx,fun W3 h3=>?_⟩
 have hw3:=hw1d.on h3
 have hP3:=hPd.next h3
 have hB3:=hBd.next h3
 have hx3:=hx.next hw3 (fun i hi=>(hD i hi).1)
 have hS3:=hP3.st.set
 rw [hbv] at hS3
 have hL3:=hP3.st.lim
 rw [hlv] at hL3
 refine c2j s lims x hS3 hL3 hx3.here (fun w4 h4=>?_)
 have hw4:=hw3.on h4
 have hP4:=hP3.next h4
 have hB4:=hB3.next h4
 cases hv:PuSpec.validM s lims x with
 | false=>
  rw [hv] at bad
  have bad:=bad (by simp) _ hw4
  refine Xa0 ?_
  exact bad
 | true=>
 rw [hv] at bad
 refine Xa0 ?_
 have hw5:=hw4.on (.drawn (B:=w4.heap.size))
 have hP5:=hP4.next (.drawn (B:=w4.heap.size))
 have hB5:=hB4.next (.drawn (B:=w4.heap.size))
 refine ⟨Nx { w4 with drawn:=w4.drawn + 1 },bR,rfl,?_⟩
 generalize ({ w4 with drawn:=w4.drawn + 1 }:World) = W5 at hw5 hP5 hB5 ⊢
 refine Xc (fun W0 hW0=>(hB5.next hW0).are) ?_
 refine ⟨Nx,fun W6 h6=>?_⟩
 have hw6:=hw5.on h6
 have hP6:=hP5.next h6
 have hB6:=hB5.next h6
 refine f8k hP6.st x.t (fun w7 h7=>?_)
 have hw7:=hw6.on h7
 have hP7:=hP6.next h7
 have hB7:=hB6.next h7
 cases hh:c0r P.items x.t with
 | true=>
  rw [hh] at bad
  have bad:=bad (by simp) _ hw7
  refine Xa0 ?_
  exact bad
 | false=>
 rw [hh] at bad
 have c6:=hP7.st.pur.cell 6 (by simp)
 simp only [List.getElem_cons_zero,List.getElem_cons_succ] at c6
 rw [hiv] at c6
 by_cases h4:400 ≤ P.items.length
 ·have h4Z:(400:Int) ≤ P.items.length:=by omega
  rw [if_neg (by simp),if_neg (by simp),if_pos h4] at bad
  have bad:=bad (by omega) _ hw7
  refine Xa (An2 @c6 @h4Z) ?_
  exact bad
 have h4Z:¬ (400:Int) ≤ P.items.length:=by omega
 have eE:a6l s lims P.items x = 0:=by rw [eE,hv,hh,if_neg (by simp),if_neg (by simp),if_neg h4]
 clear bad
 refine Xa (An2 @c6 @h4Z) ?_
 unfold c7q at k
 rw [if_neg (by rw [eE]; simp)] at k
 have hw8:=hw7.on (.drawn (B:=w7.heap.size))
 have hP8:=hP7.next (.drawn (B:=w7.heap.size))
 have hB8:=hB7.next (.drawn (B:=w7.heap.size))
 refine ⟨Nx { w7 with drawn:=w7.drawn + 1 },bR,rfl,?_⟩
 generalize ({ w7 with drawn:=w7.drawn + 1 }:World) = W8 at hw8 hP8 hB8 ⊢
 have C8:=hP8.st.pur
 refine Xc (fun W0 hW0=>An2 ((C8.next hW0).are) ((hB8.next hW0).are)) ?_
 have hx8:=hx.next hw8 (fun i hi=>(hD i hi).1)
 have hlen:=d0h hx8.here.wf hv
 have hrl:(a4s x).length ≤ 4002:=by unfold a4s; rw [List.length_append,g9y]; simp; omega
 refine ⟨Nx,?_⟩
 apply a2l
 ·intro w9 h9
  exact Cd.pNum_ok 0 ⟨by omega,by omega⟩ (hP8.next h9).sys.l.toLaid (fun w10 h10=>⟨h9.on h10,h10,rfl⟩)
 apply a2l
 ·intro w9 h9
  exact c0j x (hx8.next h9 (fun i hi=>by have:=(hD i hi).1; have:=hw8.size; omega)).here (by omega) (hP8.next h9).sys.l (fun w10 h10=>⟨h9.on h10,h10,rfl⟩)
 apply a2l
 ·rintro w9 h9 _ rfl _ rfl
  exact a4j _ _ (by rw [g9y]; simp; omega) ⟨h9,bR,rfl⟩
 rintro w9 h9 _ - _ - _ rfl
 have hw9:=hw8.on h9
 have hP9:=hP8.next h9
 have hB9:=hB8.next h9
 have hx9:=hx8.next h9 (fun i hi=>by have:=(hD i hi).1; have:=hw8.size; omega)
 refine c3e hP9.sys hP9.jn ⟨by omega,by omega⟩ (a4s x) (by omega) (fun w10 h10 v10 s10 j10 t10=>?_)
 obtain ⟨hPa,ta⟩:=hP9.jour s10 j10 t10
 by_cases he:(a0j A 0 P.j (a4s x)).1 = 0
 ·rw [if_neg (by rw [he]; simp)] at k
  rw [he]
  refine Xa0 ?_
  have hb1n:¬ Mu p b1:=fun e=>by have:=hP.mu_lt b1 e; omega
  have hB10:Holds w10 b1 34 _:=(ta.fr.block b1 hB9.lt hb1n).trans hB9
  have hx10:=hx9.fr ta.fr (fun i hi=>⟨by have:=(hD i hi).1; have:=hw9.size; omega,(hD i hi).2⟩)
  have hPd:=hPa.next (.drawn (B:=w10.heap.size))
  have hBd:=hB10.next (.drawn (B:=w10.heap.size))
  have hxd:=hx10.next (.drawn (B:=w10.heap.size)) (fun i hi=>by have:=(hD i hi).1; have:=hw9.size; have:=ta.fr.size; omega)
  have td:=ta.trans (PuSt.below (.drawn (B:=w10.heap.size)))
  refine ⟨fun sg W=>sg ≤ 3 → Nx { w10 with drawn:=w10.drawn + 1 } W,fun _=>bR,?_⟩
  generalize ({ w10 with drawn:=w10.drawn + 1 }:World) = W11 at hPd hBd hxd td ⊢
  have C11:=hPd.st.pur
  have c6:=C11.cell 6 (by simp)
  simp only [List.getElem_cons_zero,List.getElem_cons_succ] at c6
  rw [hiv] at c6
  have c6k:∀ W0,Nx W11 W0 → W0.cell? ⟨p.pb,6,none⟩ = some (.slice ivad P.items.length ivc):=fun W0 h=>(h.cell C11.lt).trans c6
  obtain ⟨z1,z2,z3,z4⟩:=c9f hv
  repeat (first | (with_reducible refine pX ?_) | (with_reducible refine a4g ?_) | (with_reducible refine a3b rfl ?_) | (with_reducible refine a2i rfl ?_) | (refine a3h ⟨_,rfl⟩ (fun W0 hW0=>by (obtain ⟨s0,hs0,hC⟩:=hW0); (have hsk:s0 ≤ 3:=by omega); (refine oG (fun X Y=>?_)); simp [go_sem,c6k _ (hC hsk),(hBd.next (hC hsk)).are]; (first | exact Y _ _ ⟨rfl,rfl⟩ | exact ⟨by omega,Y _ _ ⟨rfl,rfl⟩⟩)) ?_))
  refine d1k x hxd.here z1 z2 z3 z4 (fun w12 av' yv' kv' h12 hF=>⟨fun _=>h12,?_⟩)
  obtain ⟨a1',n1',c1',a2',n2',c2',a3',n3',c3',rfl,rfl,rfl⟩:=a1k hF.here
  rw [c6e]
  show _ ∧ _
  refine ⟨fun _=>h12,?_⟩
  refine e4i (a3e x) (fun q w13 h13 hQ1 hQ=>⟨fun _=>h12.on h13,?_⟩)
  have hw13:=h12.on h13
  have hPi:=hPd.next hw13
  rw [← hiv]
  refine c6f (D:=Im _ w13) hPi.st.itm (Nat.zero_le _) hQ ?_ (fun i hi=>⟨hi.1,fun e=>hi.2.1 (.inr (.inr (.inr (.inr e))))⟩) (by show P.items.length < 1000; omega) (fun v' w14 hG hg hv'=>⟨fun h=>by omega,?_⟩)
  ·exact (d1l hPd.mu_lt hPd.st.xl (hF.next h13)).imp (fun W hW=>⟨_,_,_,rfl,hW,d3n,d3n⟩)
  refine a5q ?_
  refine ⟨fun h=>by omega,?_⟩
  refine a5q ?_
  refine ⟨fun h=>by omega,?_⟩
  refine a5q ?_
  refine ⟨fun h=>by omega,?_⟩
  obtain ⟨va,vc,hva⟩:=hG.isSlice
  have hP14:=hPi.st.pur.other' hg (fun e=>(hPi.st.si _ e).2.2.2 rfl)
  refine a2j (i:=6) e4j (by rw [hva]; rfl) (by rw [hva]; rfl) hP14 (by simp) (fun w15 hg15 hH15=>⟨fun h=>by omega,?_⟩)
  obtain ⟨r1,r2⟩:=hPi.st.grew hPi.mu_lt hG hg hv' hg15 hH15 (by show P.items.length + 1 ≤ 400; omega)
  exact k w15 _ (hPi.it r1 r2) (((PuSt.below hw9).trans td).trans ((PuSt.below hw13).trans r2.st)) ⟨rfl,rfl⟩
 ·rw [if_pos he] at k
  have k:=k w10 _ hPa ((PuSt.below hw9).trans ta) ⟨rfl,rfl⟩
  refine Xa @he ?_
  exact k
end
end Go.Proofs
namespace Go.Proofs
open Go Go.Sh Go.RowKit FdSpec TkSpec CodeSpec PuSpec DkSpec JnSpec
section
variable {K:VK} {w w' w0 W W':World} {L:List (Addr × Value)} {rb b:Nat} {s:Stp} {lims:List Lim} {p p':Ph} {items items':List Itm} {A:Ab} {P:Pst} {h:Dk}
theorem e4r (hP:StR s lims w p items) (x:Itm) {av yv kv:Value} (hx:HldR w x.held av yv kv) {limit:Int} (now:Int) (h0:0 ≤ limit) (h1:limit < lims.length) (k:∀ w',Bw w w' → K (.bool (a8t lims limit now x)) w') :
  a0a Tryz.prog 125 #[.pointer (some ⟨p.pb,0,none⟩),g7n x av yv kv,.int .i64 limit,.int .i64 now] K w:=by
 apply d7h
 unfold f5k
 obtain ⟨a1,n1,c1,a2,n2,c2,a3,n3,c3,rfl,rfl,rfl⟩:=a1k hx
 refine a4f (cs:=c8w x (.slice a1 n1 c1) (.slice a2 n2 c2) (.slice a3 n3 c3)) rfl (fun b1 w1 hb1 hbb hB=>?_)
 have hw:=hb1.on (.drawn (B:=w1.heap.size))
 have hBd:=hB.next (.drawn (B:=w1.heap.size))
 have hPd:=hP.next hw
 refine ⟨Nx { w1 with drawn:=w1.drawn + 1 },bR,rfl,?_⟩
 generalize ({ w1 with drawn:=w1.drawn + 1 }:World) = W2 at hw hBd hPd ⊢
 have eF:a8t lims limit now x = (decide (x.status = 0) && decide (x.held.limit = limit) && decide (x.held.window = a9i (lims.getD limit.toNat ⟨0,0,0⟩) now)):=rfl
 have k2:∀ w' r,a8t lims limit now x = r → Nx W2 w' → K (.bool r) w':=fun w' r e hn=>by rw [← e]; exact k w' (hw.on hn)
 rw [eF] at k2
 clear k eF
 obtain ⟨lvad,lvc,hlv⟩:=hPd.lim.isSlice
 have C:=hPd.pur
 unfold puC at C
 have hL:=hPd.lim
 rw [hlv] at C hL
 have hli:limit.toNat < lims.length:=by omega
 obtain ⟨lb,lo,rfl,hlb,cs,hcl,hcc,hV⟩:=hL.at hli
 obtain ⟨rfl,hI⟩:=hV
 have eD:lims.getD limit.toNat ⟨0,0,0⟩ = lims[limit.toNat]:=by rw [List.getD_eq_getElem?_getD,gE hli]; rfl
 rw [eD] at k2
 generalize lims[limit.toNat] = lm at *
 have g0:∀ W0,Nx W2 W0 → W0.cell? ⟨lb,lo + limit.toNat * 3,none⟩ = some (.int .i64 lm.count):=fun W0 h=>(h.cell hlb).trans (hcc 0 _ rfl)
 have g1:∀ W0,Nx W2 W0 → W0.cell? ⟨lb,lo + limit.toNat * 3 + 1,none⟩ = some (.int .i64 lm.length):=fun W0 h=>(h.cell hlb).trans (hcc 1 _ rfl)
 have g2:∀ W0,Nx W2 W0 → W0.cell? ⟨lb,lo + limit.toNat * 3 + 2,none⟩ = some (.int .i64 lm.gate):=fun W0 h=>(h.cell hlb).trans (hcc 2 _ rfl)
 by_cases hs:x.status = 0
 ·by_cases hl:x.held.limit = limit
  ·repeat (any_goals (first
   | (with_reducible first|refine pX ?_|((refine b5d ?_); refine a4w fun _=>?_)|refine zA ?_)
   | ((with_reducible refine b4u ?_); first|(with_reducible first|refine vA ?_|refine a4g ?_)|(with_reducible refine a3h ⟨_,rfl⟩ (fun W0 hW0=>by (refine oG (fun X Y=>?_)); simp [go_sem,(C.next hW0).are,(hBd.next hW0).are,hs,hl,h0,h1,g0 _ hW0,g1 _ hW0,g2 _ hW0]; (first | exact Y _ _ ⟨rfl,rfl⟩ | exact ⟨by omega,Y _ _ ⟨rfl,rfl⟩⟩)) ?_))))
   dsimp only
   refine ⟨Nx,?_⟩
   apply a2l
   ·intro w9 h9
    refine Xa0 ?_
    exact b3m lm now (fun w2 h2=>⟨h9.on h2,h2,rfl⟩)
   rintro w8 h8 _ rfl
   by_cases hw:x.held.window = a9i lm now
   ·have k:=k2 _ true (by rw [decide_eq_true hs,decide_eq_true hl,decide_eq_true hw]; rfl) h8
    refine Xa @hw ?_
    exact k
   ·have k:=k2 _ false (by rw [decide_eq_false hw]; simp) h8
    refine Xa @hw ?_
    exact k
  ·refine Xf (fun W0 hW0=>An2 ((C.next hW0).are) ((hBd.next hW0).are)) (An2 @hs @hl) ?_
   refine ⟨Nx,?_⟩
   refine Xd0 ?_
   rintro w8 h8 _ rfl
   refine Xa0 ?_
   exact k2 _ _ (by rw [decide_eq_false hl]; simp) h8
 ·refine Xf (fun W0 hW0=>An2 ((C.next hW0).are) ((hBd.next hW0).are)) @hs ?_
  refine ⟨Nx,?_⟩
  refine Xd0 ?_
  rintro w8 h8 _ rfl
  refine Xa0 ?_
  exact k2 _ _ (by rw [decide_eq_false hs]; simp) h8
theorem cell_lt {a:Addr} {v:Value} (h:w.cell? a = some v):a.block < w.heap.size:=(a8h (L:=[(a,v)]) ⟨h,trivial⟩) _ (List.mem_singleton.2 rfl)
theorem d3u (hP:StR s lims w p items) (x:Itm) {av yv kv:Value} (hx:HldR w x.held av yv kv) {limit:Int} (now:Int) (h0:0 ≤ limit) (h1:limit < lims.length) {b1 b2 b3:Nat} (c1:w.cell? ⟨b1,0,none⟩ = some (.pointer (some ⟨p.pb,0,none⟩))) (c2:w.cell? ⟨b2,0,none⟩ = some (.int .i64 limit)) (c3:w.cell? ⟨b3,0,none⟩ = some (.int .i64 now))
  (k:∀ w',Bw w w' → K (.bool (a8t lims limit now x)) w'):a0a Tryz.prog 196 #[g7n x av yv kv,.pointer (some ⟨b1,0,none⟩),.pointer (some ⟨b2,0,none⟩),.pointer (some ⟨b3,0,none⟩)] K w:=by
 apply d7i
 unfold f5l
 obtain ⟨a1,n1,d1,a2,n2,d2,a3,n3,d3,rfl,rfl,rfl⟩:=a1k hx
 refine a4f (cs:=c8w x (.slice a1 n1 d1) (.slice a2 n2 d2) (.slice a3 n3 d3)) rfl (fun b4 W hb1 hbb hB=>?_)
 have e1:=(hb1.cell (cell_lt c1)).trans c1
 have e2:=(hb1.cell (cell_lt c2)).trans c2
 have e3:=(hb1.cell (cell_lt c3)).trans c3
 refine Xb1 @e1 ?_
 refine a2k hB c0h (by kernel_rfl) (by kernel_rfl) ?_
 refine Xa (An2 @e2 @e3) ?_
 refine e4r (hP.next hb1) x (hx.next hb1) now h0 h1 (fun w2 h2=>?_)
 refine Xa0 ?_
 exact k _ (hb1.on h2)
@[go_sem] theorem f8l {P:Program} {K:VK} {w:World} (fn:Fn) (T:TypeId) (x y z:Value):oM P (.makeFunc fn #[] #[.tmp 0,.tmp 1,.tmp 2]) T [x,y,z] K w = K (.func fn #[] #[x,y,z]) w:=a3g (by simp [xop,execOp,a1e,evE,Instr.makeFunc])
theorem e4s (hP:StR s lims w p P.items) (limit now:Int) (k:∀ w',Bw w w' → K (.tuple #[.int .i64 (a1w lims P.items limit now).1,.int .i64 (a1w lims P.items limit now).2]) w') :
  a0a Tryz.prog 121 #[.pointer (some ⟨p.pb,0,none⟩),.int .i64 limit,.int .i64 now] K w:=by
 apply d7j
 unfold f5m
 have bad:(limit < 0 ∨ (lims.length:Int) ≤ limit ∨ a4l now = false) → ∀ w',Bw w w' → K (.tuple #[.int .i64 0,.int .i64 1]) w':=fun e w' hb=>by
  have:a1w lims P.items limit now = (0,1):=by
   unfold a1w
   rw [if_pos (by rcases e with e | e | e <;> simp [e])]
  rw [this] at k
  exact k w' hb
 refine a4f (cs:=[.pointer (some ⟨p.pb,0,none⟩)]) rfl (fun b1 w1 h1 hb1 hB1=>?_)
 refine a4f (cs:=[.int .i64 limit]) rfl (fun b2 w2 h2 hb2 hB2=>?_)
 refine a4f (cs:=[.int .i64 now]) rfl (fun b3 w3 h3 hb3 hB3=>?_)
 have hw:=((h1.on h2).on h3).on (.drawn (B:=w3.heap.size))
 have hB1:=((hB1.next h2).next h3).next (.drawn (B:=w3.heap.size))
 have hB2:=(hB2.next h3).next (.drawn (B:=w3.heap.size))
 have hB3:=hB3.next (.drawn (B:=w3.heap.size))
 refine ⟨Nx { w3 with drawn:=w3.drawn + 1 },bR,rfl,?_⟩
 generalize ({ w3 with drawn:=w3.drawn + 1 }:World) = W4 at hw hB1 hB2 hB3 ⊢
 have hPd:=hP.next hw
 obtain ⟨lvad,lvc,hlv⟩:=hPd.lim.isSlice
 obtain ⟨ivad,ivc,hiv⟩:=hPd.items.isSlice
 have C:=hPd.pur
 unfold puC at C
 rw [hlv,hiv] at C
 have f5:∀ W0,Nx W4 W0 → W0.cell? ⟨p.pb,5,none⟩ = some (.slice lvad lims.length lvc):=fun W0 h=>(h.cell C.lt).trans (C.cell 5 (by simp))
 have f6:∀ W0,Nx W4 W0 → W0.cell? ⟨p.pb,6,none⟩ = some (.slice ivad P.items.length ivc):=fun W0 h=>(h.cell C.lt).trans (C.cell 6 (by simp))
 have g1:∀ W0,Nx W4 W0 → W0.cell? ⟨b1,0,none⟩ = some (.pointer (some ⟨p.pb,0,none⟩)):=fun W0 h=>(h.cell hB1.lt).trans (hB1.cell 0 (by simp))
 have g2:∀ W0,Nx W4 W0 → W0.cell? ⟨b2,0,none⟩ = some (.int .i64 limit):=fun W0 h=>(h.cell hB2.lt).trans (hB2.cell 0 (by simp))
 have g3:∀ W0,Nx W4 W0 → W0.cell? ⟨b3,0,none⟩ = some (.int .i64 now):=fun W0 h=>(h.cell hB3.lt).trans (hB3.cell 0 (by simp))
 have bad:(limit < 0 ∨ (lims.length:Int) ≤ limit ∨ a4l now = false) → ∀ w',Nx W4 w' → K (.tuple #[.int .i64 0,.int .i64 1]) w':=fun e w' hn=>bad e w' (hw.on hn)
 by_cases hl0:limit < 0
 ·have bad:=bad (.inl hl0)
  refine Xf (fun W0 hW0=>An4 (f5 _ hW0) (g1 _ hW0) (g2 _ hW0) (g3 _ hW0)) @hl0 ?_
  refine ⟨Nx,fun w5 h5=>?_⟩
  refine Xa0 ?_
  exact bad _ h5
 by_cases hl1:(lims.length:Int) ≤ limit
 ·have bad:=bad (.inr (.inl hl1))
  refine Xf (fun W0 hW0=>An4 (f5 _ hW0) (g1 _ hW0) (g2 _ hW0) (g3 _ hW0)) (An2 @hl0 @hl1) ?_
  refine ⟨Nx,fun w5 h5=>?_⟩
  refine Xa0 ?_
  exact bad _ h5
 refine Xf (fun W0 hW0=>An4 (f5 _ hW0) (g1 _ hW0) (g2 _ hW0) (g3 _ hW0)) (An2 @hl0 @hl1) ?_
 refine ⟨Nx,fun w5 h5=>?_⟩
 refine Xa0 ?_
 refine a6q now ?_
 cases ht:a4l now with
 | false=>
  have bad:=bad (.inr (.inr ht)) _ h5
  refine Xa0 ?_
  exact bad
 | true=>
 have k2:∀ w' r,a1w lims P.items limit now = r → Nx W4 w' → K (.tuple #[.int .i64 r.1,.int .i64 r.2]) w':=fun w' r e hn=>by rw [← e]; exact k w' (hw.on hn)
 have eC:a1w lims P.items limit now = (match P.items.findIdx? (a8t lims limit now) with
  | none=>(0,15)
  | some i=>(i,0)):=by
  unfold a1w
  rw [if_neg (by simp [hl0,hl1,ht])]
  rfl
 rw [eC] at k2
 clear k bad eC
 refine Xa (An2 (f6 _ h5) (g1 _ h5)) ?_
 have hP5:=hPd.next h5
 have hit:=hP5.items
 rw [hiv] at hit
 refine b7t (a8t lims limit now) hit ?_ (fun w6 h6=>?_)
 ·rintro w' x cs K' T hb hx ⟨av,yv,lv,rfl,hh,_⟩ h'
  refine a3q (by kernel_rfl) ?_
  exact d3u (hP5.next hb) x hh now (by omega) (by omega) (g1 _ (h5.on hb)) (g2 _ (h5.on hb)) (g3 _ (h5.on hb)) h'
 ·cases hf:P.items.findIdx? (a8t lims limit now) with
  | none=>
   have k:=k2 _ (0,15) (by rw [hf]) (h5.on h6)
   show oM _ _ _ [.int .i64 (-1),_] _ _
   refine Xa0 ?_
   exact k
  | some i=>
   have k:=k2 _ (i,0) (by rw [hf]) (h5.on h6)
   have hi:¬ (i:Int) < 0:=by omega
   show oM _ _ _ [.int .i64 (i:Int),_] _ _
   refine Xa @hi ?_
   exact k
end
end Go.Proofs
