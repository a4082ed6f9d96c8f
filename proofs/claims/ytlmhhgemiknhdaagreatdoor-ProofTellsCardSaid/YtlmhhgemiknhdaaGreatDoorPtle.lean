/- Parts of the proof of the seat's statements (PrPrv, HPv, CtW, CtX, CtY, CtZ, PvA, PvB, PvC, PvD, PvE, HLt, HLw, GrS, GrT, PrExt, LwA, LwB, SmFacts, SmQ, LwC, PrFew, GrU, LwD, RK4, HRa, RfA, RfB, RfC, RfD, HRb, HRp, RpA, RpB, PrIff): lemmas about the given translation and plain laws. No condition of their own. -/
import Derived.Test.YtlmhhgemiknhdaaGreatDoorPtld
import Derived.Test.YtlmhhgemiknhdaaGreatDoorProg
set_option linter.all false
set_option maxRecDepth 100000
namespace Go.Proofs
open FdSpec TkSpec CodeSpec PrSpec
theorem b1x {q:Int}:∀ {b:List Bool} {d:List Int} {n:List (List Int)} {ks:List Knw} {k:Nat} {x:Bool} {y:Int} {z:List Int} {u:Knw},b[k]? = some x → d[k]? = some y → n[k]? = some z → ks[k]? = some u →
  (a3j q b d n ks)[k]? = some (if x then a2l q z y u.values else z)
 | b :: bs,d :: ds,n :: ns,k :: ks,0,x,y,z,u,h1,h2,h3,h4=>by
  simp at h1 h2 h3 h4
  subst h1 h2 h3 h4
  rfl
 | b :: bs,d :: ds,n :: ns,k :: ks,i + 1,x,y,z,u,h1,h2,h3,h4=>b1x (b:=bs) (d:=ds) (n:=ns) (ks:=ks) (k:=i) (by simpa using h1) (by simpa using h2) (by simpa using h3) (by simpa using h4)
 | [],_,_,_,_,_,_,_,_,h,_,_,_=>by simp at h
 | _ :: _,[],_,_,_,_,_,_,_,_,h,_,_=>by simp at h
 | _ :: _,_ :: _,[],_,_,_,_,_,_,_,_,h,_=>by simp at h
 | _ :: _,_ :: _,_ :: _,[],_,_,_,_,_,_,_,_,h=>by simp at h
theorem a4m {q:Int}:∀ {b:List Bool} {d:List Int} {n:List (List Int)} {ks:List Knw},d.length = b.length → n.length = b.length → ks.length = b.length → (a3j q b d n ks).length = b.length
 | [],_,_,_,_,_,_=>by simp [a3j]
 | b :: bs,d :: ds,n :: ns,k :: ks,h1,h2,h3=>by
  have:=a4m (q:=q) (b:=bs) (d:=ds) (n:=ns) (ks:=ks) (by simpa using h1) (by simpa using h2) (by simpa using h3)
  simp [a3j,this]
 | b :: bs,[],_,_,h,_,_=>by simp at h
 | b :: bs,_ :: _,[],_,_,h,_=>by simp at h
 | b :: bs,_ :: _,_ :: _,[],_,_,h=>by simp at h
theorem c3f {q:Int}:∀ {b:List Bool} {d:List Int} {n:List (List Int)} {ks:List Knw} {k:Nat} {x:Bool} {y:Int} {z:List Int} {u:Knw},b[k]? = some x → d[k]? = some y → n[k]? = some z → ks[k]? = some u →
  (b0z q b d n ks)[k]? = some (if x then a2l q z (-y) u.values else z)
 | b :: bs,d :: ds,n :: ns,k :: ks,0,x,y,z,u,h1,h2,h3,h4=>by
  simp at h1 h2 h3 h4
  subst h1 h2 h3 h4
  rfl
 | b :: bs,d :: ds,n :: ns,k :: ks,i + 1,x,y,z,u,h1,h2,h3,h4=>c3f (b:=bs) (d:=ds) (n:=ns) (ks:=ks) (k:=i) (by simpa using h1) (by simpa using h2) (by simpa using h3) (by simpa using h4)
 | [],_,_,_,_,_,_,_,_,h,_,_,_=>by simp at h
 | _ :: _,[],_,_,_,_,_,_,_,_,h,_,_=>by simp at h
 | _ :: _,_ :: _,[],_,_,_,_,_,_,_,_,h,_=>by simp at h
 | _ :: _,_ :: _,_ :: _,[],_,_,_,_,_,_,_,_,h=>by simp at h
theorem a7y {q:Int}:∀ {b:List Bool} {d:List Int} {n:List (List Int)} {ks:List Knw},d.length = b.length → n.length = b.length → ks.length = b.length → (b0z q b d n ks).length = b.length
 | [],_,_,_,_,_,_=>by simp [b0z]
 | b :: bs,d :: ds,n :: ns,k :: ks,h1,h2,h3=>by
  have:=a7y (q:=q) (b:=bs) (d:=ds) (n:=ns) (ks:=ks) (by simpa using h1) (by simpa using h2) (by simpa using h3)
  simp [b0z,this]
 | b :: bs,[],_,_,h,_,_=>by simp at h
 | b :: bs,_ :: _,[],_,_,h,_=>by simp at h
 | b :: bs,_ :: _,_ :: _,[],_,_,h=>by simp at h
theorem b3f:∀ {b:List Bool} {d:List Int} {k:Nat} {x:Bool} {y:Int},b[k]? = some x → d[k]? = some y → (zeroed b d)[k]? = some (if x then 0 else y)
 | b :: bs,d :: ds,0,x,y,h1,h2=>by
  simp at h1 h2
  subst h1 h2
  rfl
 | b :: bs,d :: ds,i + 1,x,y,h1,h2=>b3f (b:=bs) (d:=ds) (k:=i) (by simpa using h1) (by simpa using h2)
 | [],_,_,_,_,h,_=>by simp at h
 | _ :: _,[],_,_,_,_,h=>by simp at h
theorem a7z:∀ {b:List Bool} {d:List Int},d.length = b.length → (zeroed b d).length = b.length
 | [],_,_=>by simp [zeroed]
 | b :: bs,d :: ds,h=>by
  have:=a7z (b:=bs) (d:=ds) (by simpa using h)
  simp [zeroed,this]
 | b :: bs,[],h=>by simp at h
theorem b8g {s:Stp} {r:Int}:∀ {bs:List (List Bool)} {ds:List (List Int)} {ns:List (List (List Int))} {ks:List (List Knw)} {i:Nat} {b:List Bool} {d:List Int} {n:List (List Int)} {k:List Knw},bs[i]? = some b → ds[i]? = some d → ns[i]? = some n → ks[i]? = some k →
  (a1r s r bs ds ns ks).1[i]? = some (a1y s.g.Q b d r) ∧ (a1r s r bs ds ns ks).2[i]? = some (a3j s.g.Q b (a1y s.g.Q b d r) n k)
 | b :: bs,d :: ds,n :: ns,k :: ks,0,x,y,z,u,h1,h2,h3,h4=>by
  simp at h1 h2 h3 h4
  subst h1 h2 h3 h4
  exact ⟨rfl,rfl⟩
 | b :: bs,d :: ds,n :: ns,k :: ks,i + 1,x,y,z,u,h1,h2,h3,h4=>b8g (bs:=bs) (ds:=ds) (ns:=ns) (ks:=ks) (i:=i) (by simpa using h1) (by simpa using h2) (by simpa using h3) (by simpa using h4)
 | [],_,_,_,_,_,_,_,_,h,_,_,_=>by simp at h
 | _ :: _,[],_,_,_,_,_,_,_,_,h,_,_=>by simp at h
 | _ :: _,_ :: _,[],_,_,_,_,_,_,_,_,h,_=>by simp at h
 | _ :: _,_ :: _,_ :: _,[],_,_,_,_,_,_,_,_,h=>by simp at h
theorem b4r {s:Stp} {r:Int}:∀ {bs:List (List Bool)} {ds:List (List Int)} {ns:List (List (List Int))} {ks:List (List Knw)},ds.length = bs.length → ns.length = bs.length → ks.length = bs.length →
  (a1r s r bs ds ns ks).1.length = bs.length ∧ (a1r s r bs ds ns ks).2.length = bs.length
 | [],_,_,_,_,_,_=>by simp [a1r]
 | b :: bs,d :: ds,n :: ns,k :: ks,h1,h2,h3=>by
  have:=b4r (s:=s) (r:=r) (bs:=bs) (ds:=ds) (ns:=ns) (ks:=ks) (by simpa using h1) (by simpa using h2) (by simpa using h3)
  simp [a1r,this]
 | b :: bs,[],_,_,h,_,_=>by simp at h
 | b :: bs,_ :: _,[],_,_,h,_=>by simp at h
 | b :: bs,_ :: _,_ :: _,[],_,_,h=>by simp at h
theorem b1y {s:Stp}:∀ {bs:List (List Bool)} {ds:List (List Int)} {ns:List (List (List Int))} {ks:List (List Knw)} {i:Nat} {b:List Bool} {d:List Int} {n:List (List Int)} {k:List Knw},bs[i]? = some b → ds[i]? = some d → ns[i]? = some n → ks[i]? = some k →
  (a1f s bs ds ns ks).1[i]? = some (zeroed b d) ∧ (a1f s bs ds ns ks).2[i]? = some (b0z s.g.Q b d n k)
 | b :: bs,d :: ds,n :: ns,k :: ks,0,x,y,z,u,h1,h2,h3,h4=>by
  simp at h1 h2 h3 h4
  subst h1 h2 h3 h4
  exact ⟨rfl,rfl⟩
 | b :: bs,d :: ds,n :: ns,k :: ks,i + 1,x,y,z,u,h1,h2,h3,h4=>b1y (bs:=bs) (ds:=ds) (ns:=ns) (ks:=ks) (i:=i) (by simpa using h1) (by simpa using h2) (by simpa using h3) (by simpa using h4)
 | [],_,_,_,_,_,_,_,_,h,_,_,_=>by simp at h
 | _ :: _,[],_,_,_,_,_,_,_,_,h,_,_=>by simp at h
 | _ :: _,_ :: _,[],_,_,_,_,_,_,_,_,h,_=>by simp at h
 | _ :: _,_ :: _,_ :: _,[],_,_,_,_,_,_,_,_,h=>by simp at h
theorem a9t {s:Stp}:∀ {bs:List (List Bool)} {ds:List (List Int)} {ns:List (List (List Int))} {ks:List (List Knw)},ds.length = bs.length → ns.length = bs.length → ks.length = bs.length →
  (a1f s bs ds ns ks).1.length = bs.length ∧ (a1f s bs ds ns ks).2.length = bs.length
 | [],_,_,_,_,_,_=>by simp [a1f]
 | b :: bs,d :: ds,n :: ns,k :: ks,h1,h2,h3=>by
  have:=a9t (s:=s) (bs:=bs) (ds:=ds) (ns:=ns) (ks:=ks) (by simpa using h1) (by simpa using h2) (by simpa using h3)
  simp [a1f,this]
 | b :: bs,[],_,_,h,_,_=>by simp at h
 | b :: bs,_ :: _,[],_,_,h,_=>by simp at h
 | b :: bs,_ :: _,_ :: _,[],_,_,h=>by simp at h
theorem a4n {s:Stp}:∀ {goal:List Cls} {know:List (List Knw)} {i:Nat} {c:Cls} {k:List Knw},goal[i]? = some c → know[i]? = some k → (a0h s goal know).1[i]? = some (a0e s c.need c.claims k).1
 | c :: cs,k :: ks,0,c',k',h1,h2=>by
  simp at h1 h2
  subst h1 h2
  rfl
 | c :: cs,k :: ks,i + 1,c',k',h1,h2=>a4n (goal:=cs) (know:=ks) (i:=i) (by simpa using h1) (by simpa using h2)
 | [],_,_,_,_,h,_=>by simp at h
 | _ :: _,[],_,_,_,_,h=>by simp at h
theorem a4k {s:Stp}:∀ {goal:List Cls} {know:List (List Knw)},know.length = goal.length → (a0h s goal know).1.length = goal.length
 | [],_,_=>by simp [a0h]
 | c :: cs,k :: ks,h=>by
  have:=a4k (s:=s) (goal:=cs) (know:=ks) (by simpa using h)
  simp [a0h,this]
 | c :: cs,[],h=>by simp at h
theorem c3g:∀ {b:List Bool} {d:List Int} {k:Nat} {x:Bool} {y:Int},b2a b d = true → b[k]? = some x → d[k]? = some y → x = true → y = 0
 | b :: bs,d :: ds,0,x,y,h,h1,h2,hx=>by
  simp at h1 h2
  subst h1 h2
  unfold b2a at h
  simp only [hx,Bool.not_true,Bool.false_or,Bool.and_eq_true,decide_eq_true_eq] at h
  exact h.1
 | b :: bs,d :: ds,i + 1,x,y,h,h1,h2,hx=>by
  unfold b2a at h
  rw [Bool.and_eq_true] at h
  exact c3g (b:=bs) (d:=ds) (k:=i) h.2 (by simpa using h1) (by simpa using h2) hx
 | [],_,_,_,_,_,h,_,_=>by simp at h
 | _ :: _,[],_,_,_,_,_,h,_=>by simp at h
theorem c3h:∀ {b:List Bool} {d:List Int},(∀ (k:Nat) (x:Bool) (y:Int),b[k]? = some x → d[k]? = some y → x = true → y = 0) → b2a b d = true
 | [],_,_=>by simp [b2a]
 | _ :: _,[],_=>by simp [b2a]
 | b :: bs,d :: ds,h=>by
  have h1:=h 0 b d rfl rfl
  have h2:=c3h (b:=bs) (d:=ds) (fun k x y a c=>h (k + 1) x y (by simpa using a) (by simpa using c))
  cases b <;> simp_all [b2a]
theorem c3i:∀ {bs:List (List Bool)} {ds:List (List Int)} {i:Nat} {b:List Bool} {d:List Int},a9g bs ds = true → bs[i]? = some b → ds[i]? = some d → b2a b d = true
 | b :: bs,d :: ds,0,x,y,h,h1,h2=>by
  simp at h1 h2
  subst h1 h2
  unfold a9g at h
  rw [Bool.and_eq_true] at h
  exact h.1
 | b :: bs,d :: ds,i + 1,x,y,h,h1,h2=>by
  unfold a9g at h
  rw [Bool.and_eq_true] at h
  exact c3i (bs:=bs) (ds:=ds) (i:=i) h.2 (by simpa using h1) (by simpa using h2)
 | [],_,_,_,_,_,h,_=>by simp at h
 | _ :: _,[],_,_,_,_,_,h=>by simp at h
theorem c3j:∀ {bs:List (List Bool)} {ds:List (List Int)},(∀ (i:Nat) (b:List Bool) (d:List Int),bs[i]? = some b → ds[i]? = some d → b2a b d = true) → a9g bs ds = true
 | [],_,_=>by simp [a9g]
 | _ :: _,[],_=>by simp [a9g]
 | b :: bs,d :: ds,h=>by
  unfold a9g
  rw [h 0 b d rfl rfl,c3j (bs:=bs) (ds:=ds) (fun i b' d' a c=>h (i + 1) b' d' (by simpa using a) (by simpa using c))]
  rfl
end Go.Proofs
namespace Go.Proofs
open Go Go.Sh Tryz
variable {a0 a1 a2 a3 a4:Value} {K:VK} {w:World}
def c0k (kn_39 kr_40:WK) (l_37:List Value) (v10 v11 v12 v9:Value) (w:World):Prop:=
 kH (fun C_43 w=>(((true:Bool) = true) ∧ (jL 120 v12 C_43 fun v58=>
 jF 127 0 (l_37.getD 0 undef) C_43 fun v59=>
 jL 3 v59 C_43 fun v60=>
 jI 120 v58 v60 C_43 fun v61=>
 jL 61 v61 C_43 fun v62=>
 jF 127 1 (l_37.getD 0 undef) C_43 fun v63=>
 jL 3 v63 C_43 fun v64=>
 jI 61 v62 v64 C_43 fun v65=>
 jL 4 v65 C_43 fun v66=>
 a0c v66 C_43 fun v67=>
 jT v67 (jF 32 1 v9) C_43 fun v68=>
 jT v67 (jL 30 v68) C_43 fun v69=>
 jT v67 (jF 127 0 (l_37.getD 0 undef)) C_43 fun v70=>
 jT v67 (jL 3 v70) C_43 fun v71=>
 jT v67 (jI 30 v69 v71) C_43 fun v72=>
 jT v67 (jL 24 v72) C_43 fun v73=>
 jT v67 (jF 127 1 (l_37.getD 0 undef)) C_43 fun v74=>
 jT v67 (jL 3 v74) C_43 fun v75=>
 jT v67 (jI 24 v73 v75) C_43 fun v76=>
 jT v67 (jL 3 v76) C_43 fun v77=>
 jT v67 (jC .neq 3 0 4 v77) C_43 fun v78=>
 jP v67 v78 (.bool false) C_43 fun v79=>
 ∃ S_66:World → WK,∀ w,C_43 w → (kO v79 (oM prog (.build 34 #[]) 34 [] fun v80=>
 kS 34 v10 v80 fun _=>
 kS 39 v11 (.int .i64 3) fun _=>
 kr_40)
 kn_39 w)))) w
def b7k (M_102:List Value → World → Prop) (a3:Value) (l_100 l_79:List Value) (v109 v116 v5:Value) (w:World):Prop:=
 kH (fun C_119 w=>(((true:Bool) = true) ∧ (a0c v109 C_119 fun v136=>
 a0c (l_100.getD 2 undef) C_119 fun v137=>
 jF 26 0 v5 C_119 fun v138=>
 jF 23 1 v138 C_119 fun v139=>
 jL 3 v139 C_119 fun v140=>
 a0c v109 C_119 fun v141=>
 a0c (l_100.getD 2 undef) C_119 fun v142=>
 jI 30 v141 v142 C_119 fun v143=>
 jL 24 v143 C_119 fun v144=>
 a0c v116 C_119 fun v145=>
 a0c a3 C_119 fun v146=>
 a0c (l_79.getD 5 undef) C_119 fun v147=>
 jI 28 v146 v147 C_119 fun v148=>
 jL 114 v148 C_119 fun v149=>
 a0c (l_100.getD 2 undef) C_119 fun v150=>
 jI 114 v149 v150 C_119 fun v151=>
 jF 113 1 v151 C_119 fun v152=>
 jL 24 v152 C_119 fun v153=>
 ∃ S_138:World → WK,xR S_138 fun R_139=>
 (∀ w,C_119 w → (a0a prog 97 #[v140,v144,v145,v153] (xK C_119 S_138 R_139 w) w)) ∧
 (∀ w,C_119 w → ∀ v154,R_139 v154 w → (
 kI 30 v136 v137 (fun v155=>
 kS 24 v155 v154 fun _=>
 M_102 [(l_100.getD 2 undef),v116]) w))))) w
def c0l (a3:Value) (l_100 l_79:List Value) (v106 v109 v12 v5 v9:Value) (M_102:List Value → World → Prop) (w:World):Prop:=
 kI 24 v106 (l_100.getD 2 undef) (fun v115=>
 kL 3 v115 fun v116=>
 kF 32 0 v9 fun v119=>
 kL 29 v119 fun v120=>
 kI 29 v120 (l_79.getD 5 undef) fun v122=>
 kL 30 v122 fun v123=>
 kI 30 v123 (l_100.getD 2 undef) fun v125=>
 kL 24 v125 fun v126=>
 a0a prog 96 #[v126] fun v127=>
 kI 30 v109 (l_100.getD 2 undef) fun v128=>
 kS 24 v128 v127 fun _=>
 kL 120 v12 fun v129=>
 kI 120 v129 (l_79.getD 5 undef) fun v131=>
 kL 61 v131 fun v132=>
 kI 61 v132 (l_100.getD 2 undef) fun v134=>
 kL 4 v134 fun v135 w=>
 a0v v135
 (b7k M_102 a3 l_100 l_79 v109 v116 v5 w)
 (M_102 [(l_100.getD 2 undef),v116] w)) w
def a8o (J_77:List Value → World → Prop) (l_100 l_79:List Value) (m_78:List Value → World → Nat) (v106 v109 v16:Value) (w0_l_79 w:World):Prop:=
 kH (fun C_143 w=>(((true:Bool) = true) ∧ (jF 34 0 v16 C_143 fun v157=>
 jL 30 v157 C_143 fun v158=>
 a0c v106 C_143 fun v159=>
 jF 34 1 v16 C_143 fun v162=>
 jL 29 v162 C_143 fun v163=>
 a0c v109 C_143 fun v164=>
 ∃ S_150:World → WK,xR S_150 fun R_151=>
 (∀ w,C_143 w → (oM prog (.buildSlice 30 1 #[(0,(.tmp 0))]) 30 [v159] (xK C_143 S_150 R_151 w) w)) ∧
 (xR S_150 fun R_152=>
 (∀ w,C_143 w → ∀ v160,R_151 v160 w → (oM prog (.call (Go.Call.mk (.builtin .append) #[(.tmp 0),(.tmp 1)] #[30,30])) 30 [v158,v160] (xK C_143 S_150 R_152 w) w)) ∧
 (xR S_150 fun R_154=>
 (∀ w,C_143 w → (oM prog (.buildSlice 29 1 #[(0,(.tmp 0))]) 29 [v164] (xK C_143 S_150 R_154 w) w)) ∧
 (xR S_150 fun R_155=>
 (∀ w,C_143 w → ∀ v165,R_154 v165 w → (oM prog (.call (Go.Call.mk (.builtin .append) #[(.tmp 0),(.tmp 1)] #[29,29])) 29 [v163,v165] (xK C_143 S_150 R_155 w) w)) ∧
 (xR S_150 fun R_157=>
 (∀ w,C_143 w → (kF 34 0 v16 (xK C_143 S_150 R_157 w) w)) ∧
 (∀ w,C_143 w → ∀ v160,R_151 v160 w → ∀ v161,R_152 v161 w → ∀ v165,R_154 v165 w → ∀ v166,R_155 v166 w → ∀ v167,R_157 v167 w → (
 kS 30 v167 v161 (fun _=>
 kF 34 1 v16 fun v168=>
 kS 29 v168 v166 fun _=>
 kB .add 3 3 (l_79.getD 5 undef) (.int .i64 1) fun v169=>
 kJ J_77 m_78 l_79 w0_l_79 [(l_79.getD 5 undef),v106,v109,(l_100.getD 0 undef),(l_100.getD 1 undef),v169]) w))))))))) w
def b4j (J_77 J_98:List Value → World → Prop) (a3:Value) (l_100 l_79:List Value) (m_78 m_99:List Value → World → Nat) (v106 v109 v111 v12 v16 v5 v9:Value) (w0_l_79 w0_l_100:World):Prop:=
 (fun w=>(
 kB .lss 3 0 (l_100.getD 2 undef) v111 (fun v113 w=>
 a0v v113
 (a5z (fun M_102=>(c0l a3 l_100 l_79 v106 v109 v12 v5 v9 M_102 w))
 fun l_103 u_l_103 w=>(kB .add 3 3 (l_100.getD 2 undef) (.int .i64 1) (fun v156=>
 kJ J_98 m_99 l_100 w0_l_100 [(l_103.getD 0 undef),(l_103.getD 1 undef),v156]) w))
 (a8o J_77 l_100 l_79 m_78 v106 v109 v16 w0_l_79 w)) w)) w0_l_100
def c0m (J_77:List Value → World → Prop) (a3:Value) (l_79:List Value) (m_78:List Value → World → Nat) (v12 v16 v5 v88 v9:Value) (w0_l_79 w:World):Prop:=
 kH (fun C_81 w=>(((true:Bool) = true) ∧ (jL 26 v5 C_81 fun v95=>
 jL 120 v12 C_81 fun v96=>
 a0c (l_79.getD 5 undef) C_81 fun v97=>
 jI 120 v96 v97 C_81 fun v98=>
 jL 61 v98 C_81 fun v99=>
 jF 32 1 v9 C_81 fun v100=>
 jL 30 v100 C_81 fun v101=>
 a0c (l_79.getD 5 undef) C_81 fun v102=>
 jI 30 v101 v102 C_81 fun v103=>
 jL 24 v103 C_81 fun v104=>
 a0c v88 C_81 fun v105=>
 ∃ S_93:World → WK,∀ w,C_81 w → (
 a0a prog 95 #[v95,v99,v104,v105] (fun v106=>
 kN 24 v106 fun v108=>
 oM prog (.makeSlice 30 (.tmp 0) (.tmp 1)) 30 [v108,v108] fun v109=>
 kN 24 v106 fun v111=>
 kQ [(l_79.getD 3 undef),(l_79.getD 4 undef),(.int .i64 0)] fun J_98 m_99 l_100 u_l_100 w0_l_100=>b4j J_77 J_98 a3 l_100 l_79 m_78 m_99 v106 v109 v111 v12 v16 v5 v9 w0_l_79 w0_l_100) w)))) w
def b4k (D_41:Nat) (J_77:List Value → World → Prop) (K:VK) (a3:Value) (l_79:List Value) (m_78:List Value → World → Nat) (v10 v11 v12 v16 v5 v88 v91 v9:Value) (w0_l_79:World):Prop:=
 (fun w=>(
 kB .lss 3 0 (l_79.getD 5 undef) v91 (fun v93 w=>
 a0v v93
 (c0m J_77 a3 l_79 m_78 v12 v16 v5 v88 v9 w0_l_79 w)
 (kL 34 v16 (fun v170=>
 kS 34 v10 v170 fun _=>
 kS 39 v11 (.int .i64 0) fun _ w=>
 w.heap[D_41]? = some (.deferred (some [])) ∧ ∃ r_166,(do loadVar 34 (← asAddr v10):Sem Value).run prog (w.putObj D_41 (.deferred none)) = .ok r_166 (w.putObj D_41 (.deferred none)) ∧ ∃ r_167,(do loadVar 39 (← asAddr v11):Sem Value).run prog (w.putObj D_41 (.deferred none)) = .ok r_167 (w.putObj D_41 (.deferred none)) ∧ K (.tuple #[r_166,r_167]) (w.putObj D_41 (.deferred none))) w)) w)) w0_l_79
def f0p (a0 a1 a2 a3 a4:Value) (K:VK) (w:World):Prop:=
 oM prog (.box 26 (.tmp 0)) 0 [a0] (fun v5=>
 oM prog (.box 32 (.tmp 0)) 0 [a4] fun v9=>
 kA 34 fun v10=>
 kA 39 fun v11=>
 kL 26 v5 fun v22=>
 a0a prog 23 #[v22,a1] fun v24=>
 kU v24 fun v25 w=>
 gF v25 (kL 26 v5) (fun v27 w=>
 gF v25 (a0j a1) (fun v28 w=>
 gF v25 (a0j a3) (fun v29 w=>
 gF v25 (a0a prog 90 #[v27,v28,v29]) (fun v30 w=>
 gF v25 (kU v30) (fun v31=>
 kP v25 (.bool true) v31 fun v32 w=>
 gF v32 (kL 26 v5) (fun v34 w=>
 gF v32 (a0j a1) (fun v35 w=>
 gF v32 (kF 32 1 v9) (fun v36 w=>
 gF v32 (kL 30 v36) (fun v37 w=>
 gF v32 (kF 32 0 v9) (fun v38 w=>
 gF v32 (kL 29 v38) (fun v39 w=>
 gF v32 (a0a prog 91 #[v34,v35,v37,v39]) (fun v40 w=>
 gF v32 (kU v40) (fun v41=>
 kP v32 (.bool true) v41 fun v42=>
 kO v42 (oM prog (.build 34 #[]) 34 [] fun v43=>
 kS 34 v10 v43 fun _=>
 kS 39 v11 (.int .i64 1) fun _ w=>
 ∃ r_24,(do loadVar 34 (← asAddr v10):Sem Value).run prog w = .ok r_24 w ∧ ∃ r_25,(do loadVar 39 (← asAddr v11):Sem Value).run prog w = .ok r_25 w ∧ K (.tuple #[r_24,r_25]) w)
 (kL 26 v5 fun v45=>
 a0a prog 92 #[v45,a1,a3] fun v48=>
 kE 0 120 v48 fun v49=>
 kE 1 4 v48 fun v50=>
 kA 120 fun v12=>
 kS 120 v12 v49 fun _=>
 kU v50 fun v52=>
 kO v52 (oM prog (.build 34 #[]) 34 [] fun v53=>
 kS 34 v10 v53 fun _=>
 kS 39 v11 (.int .i64 13) fun _ w=>
 ∃ r_33,(do loadVar 34 (← asAddr v10):Sem Value).run prog w = .ok r_33 w ∧ ∃ r_34,(do loadVar 39 (← asAddr v11):Sem Value).run prog w = .ok r_34 w ∧ K (.tuple #[r_33,r_34]) w)
 (a0a prog 93 #[a1] fun v55 w=>
 rangeM prog v55 2 w
 (fun vs_36 k_38 w=>(kA 127 (fun v14=>
 kS 127 v14 (vs_36.getD 0 undef) fun _=>
 k_38 [v14]) w))
 (fun vs_36 l_37 u_l_37 kn_39 kr_40 w=>(c0k kn_39 kr_40 l_37 v10 v11 v12 v9 w))
 (fun D_41 w=>(kL 26 v5 (fun v81=>
 kF 32 1 v9 fun v84=>
 kL 30 v84 fun v85=>
 kF 32 0 v9 fun v86=>
 kL 29 v86 fun v87=>
 a0a prog 94 #[v81,a1,a2,v85,v87] fun v88=>
 oM prog (.build 34 #[]) 34 [] fun v89=>
 kA 34 fun v16=>
 kS 34 v16 v89 fun _=>
 kN 27 a1 fun v91=>
 kQ [undef,undef,undef,undef,undef,(.int .i64 0)] fun J_77 m_78 l_79 u_l_79 w0_l_79=>b4k D_41 J_77 K a3 l_79 m_78 v10 v11 v12 v16 v5 v88 v91 v9 w0_l_79) w))
 fun D_41 w=>(w.heap[D_41]? = some (.deferred (some [])) ∧ ∃ r_168,(do loadVar 34 (← asAddr v10):Sem Value).run prog (w.putObj D_41 (.deferred none)) = .ok r_168 (w.putObj D_41 (.deferred none)) ∧ ∃ r_169,(do loadVar 39 (← asAddr v11):Sem Value).run prog (w.putObj D_41 (.deferred none)) = .ok r_169 (w.putObj D_41 (.deferred none)) ∧ K (.tuple #[r_168,r_169]) (w.putObj D_41 (.deferred none)))))) w) w) w) w) w) w) w) w) w) w) w) w) w) w
theorem d6i (h:f0p a0 a1 a2 a3 a4 K w):a0a prog 18 #[a0,a1,a2,a3,a4] K w:=
 cF (mz [(8,fz 22 0 0),(15,fz 11 0 2),(22,fz 18 1 2),(24,.free [0,1,2,5,6,7] [3,4,8,9,10] [11,12,13])]) func18 h
def c0n (M_48:List Value → World → Prop) (a4:Value) (l_28 l_39:List Value) (v55 v5 v70:Value) (w:World):Prop:=
 kH (fun C_54 w=>(((true:Bool) = true) ∧ (jF 26 0 v5 C_54 fun v78=>
 jF 23 1 v78 C_54 fun v79=>
 jL 3 v79 C_54 fun v80=>
 a0c v70 C_54 fun v81=>
 a0c v55 C_54 fun v82=>
 a0c (l_39.getD 3 undef) C_54 fun v83=>
 jI 24 v82 v83 C_54 fun v84=>
 jL 3 v84 C_54 fun v85=>
 oH prog (.unOp .neg 3 (.tmp 0)) 3 [v85] C_54 fun v86=>
 a0c a4 C_54 fun v87=>
 a0c (l_28.getD 5 undef) C_54 fun v88=>
 jI 28 v87 v88 C_54 fun v89=>
 jL 114 v89 C_54 fun v90=>
 a0c (l_39.getD 3 undef) C_54 fun v91=>
 jI 114 v90 v91 C_54 fun v92=>
 jF 113 1 v92 C_54 fun v93=>
 jL 24 v93 C_54 fun v94=>
 ∃ S_72:World → WK,∀ w,C_54 w → (
 a0a prog 97 #[v80,v81,v86,v94] (fun v95=>
 kI 24 v55 (l_39.getD 3 undef) fun v98=>
 kS 3 v98 (.int .i64 0) fun _=>
 M_48 [v95]) w)))) w
def c5v (a4:Value) (l_28 l_39:List Value) (v39 v55 v5 v70:Value) (M_48:List Value → World → Prop) (w:World):Prop:=
 kI 120 v39 (l_28.getD 5 undef) (fun v73=>
 kL 61 v73 fun v74=>
 kI 61 v74 (l_39.getD 3 undef) fun v76=>
 kL 4 v76 fun v77 w=>
 a0v v77
 (c0n M_48 a4 l_28 l_39 v55 v5 v70 w)
 (M_48 [v70] w)) w
def c0o (J_37:List Value → World → Prop) (l_39:List Value) (m_38:List Value → World → Nat) (w0_l_39:World) (l_49:List Value) (w:World):Prop:=
 oM prog (.buildSlice 30 1 #[(0,(.tmp 0))]) 30 [(l_49.getD 0 undef)] (fun v101=>
 oM prog (.call (Go.Call.mk (.builtin .append) #[(.tmp 0),(.tmp 1)] #[30,30])) 30 [(l_39.getD 2 undef),v101] fun v102=>
 kB .add 3 3 (l_39.getD 3 undef) (.int .i64 1) fun v103=>
 kJ J_37 m_38 l_39 w0_l_39 [(l_39.getD 3 undef),(l_49.getD 0 undef),v102,v103]) w
def b0p (J_26:List Value → World → Prop) (l_28 l_39:List Value) (m_27:List Value → World → Nat) (v14 v55:Value) (w0_l_28 w:World):Prop:=
 kH (fun C_78 w=>(((true:Bool) = true) ∧ (jF 32 1 v14 C_78 fun v104=>
 jL 30 v104 C_78 fun v105=>
 a0c v55 C_78 fun v106=>
 jF 32 0 v14 C_78 fun v109=>
 jL 29 v109 C_78 fun v110=>
 a0c (l_39.getD 2 undef) C_78 fun v111=>
 ∃ S_85:World → WK,xR S_85 fun R_86=>
 (∀ w,C_78 w → (oM prog (.buildSlice 30 1 #[(0,(.tmp 0))]) 30 [v106] (xK C_78 S_85 R_86 w) w)) ∧
 (xR S_85 fun R_87=>
 (∀ w,C_78 w → ∀ v107,R_86 v107 w → (oM prog (.call (Go.Call.mk (.builtin .append) #[(.tmp 0),(.tmp 1)] #[30,30])) 30 [v105,v107] (xK C_78 S_85 R_87 w) w)) ∧
 (xR S_85 fun R_89=>
 (∀ w,C_78 w → (oM prog (.buildSlice 29 1 #[(0,(.tmp 0))]) 29 [v111] (xK C_78 S_85 R_89 w) w)) ∧
 (xR S_85 fun R_90=>
 (∀ w,C_78 w → ∀ v112,R_89 v112 w → (oM prog (.call (Go.Call.mk (.builtin .append) #[(.tmp 0),(.tmp 1)] #[29,29])) 29 [v110,v112] (xK C_78 S_85 R_90 w) w)) ∧
 (xR S_85 fun R_92=>
 (∀ w,C_78 w → (kF 32 1 v14 (xK C_78 S_85 R_92 w) w)) ∧
 (∀ w,C_78 w → ∀ v107,R_86 v107 w → ∀ v108,R_87 v108 w → ∀ v112,R_89 v112 w → ∀ v113,R_90 v113 w → ∀ v114,R_92 v114 w → (
 kS 30 v114 v108 (fun _=>
 kF 32 0 v14 fun v115=>
 kS 29 v115 v113 fun _=>
 kB .add 3 3 (l_28.getD 5 undef) (.int .i64 1) fun v116=>
 kJ J_26 m_27 l_28 w0_l_28 [(l_28.getD 5 undef),v55,(l_39.getD 2 undef),(l_39.getD 0 undef),(l_39.getD 1 undef),v116]) w))))))))) w
def b4l (J_26 J_37:List Value → World → Prop) (a4:Value) (l_28 l_39:List Value) (m_27 m_38:List Value → World → Nat) (v14 v39 v55 v58 v5 v8:Value) (w0_l_28 w0_l_39:World):Prop:=
 (fun w=>(
 kB .lss 3 0 (l_39.getD 3 undef) v58 (fun v60 w=>
 a0v v60
 (kF 34 1 v8 (fun v62=>
 kL 29 v62 fun v63=>
 kI 29 v63 (l_28.getD 5 undef) fun v65=>
 kL 30 v65 fun v66=>
 kI 30 v66 (l_39.getD 3 undef) fun v68=>
 kL 24 v68 fun v69=>
 a0a prog 96 #[v69] fun v70 w=>
 a5z (fun M_48=>(c5v a4 l_28 l_39 v39 v55 v5 v70 M_48 w))
 fun l_49 u_l_49 w=>(c0o J_37 l_39 m_38 w0_l_39 l_49 w)) w)
 (b0p J_26 l_28 l_39 m_27 v14 v55 w0_l_28 w)) w)) w0_l_39
def b4m (J_26:List Value → World → Prop) (K:VK) (a4:Value) (l_28:List Value) (m_27:List Value → World → Nat) (v10 v14 v39 v46 v5 v8:Value) (w0_l_28:World):Prop:=
 (fun w=>(
 kB .lss 3 0 (l_28.getD 5 undef) v46 (fun v48=>
 kO v48 (kF 34 0 v8 fun v50=>
 kL 30 v50 fun v51=>
 kI 30 v51 (l_28.getD 5 undef) fun v53=>
 kL 24 v53 fun v54=>
 a0a prog 96 #[v54] fun v55=>
 oM prog (.buildSlice 30 0 #[]) 30 [] fun v56=>
 kN 24 v55 fun v58=>
 kQ [(l_28.getD 3 undef),(l_28.getD 4 undef),v56,(.int .i64 0)] fun J_37 m_38 l_39 u_l_39 w0_l_39=>b4l J_26 J_37 a4 l_28 l_39 m_27 m_38 v14 v39 v55 v58 v5 v8 w0_l_28 w0_l_39)
 (kL 32 v14 fun v117=>
 kS 32 v10 v117 fun _ w=>
 ∃ r_101,(do loadVar 32 (← asAddr v10):Sem Value).run prog w = .ok r_101 w ∧ K (.tuple #[r_101,(.bool true)]) w)) w)) w0_l_28
def f0q (a0 a1 a2 a3 a4:Value) (K:VK) (w:World):Prop:=
 oM prog (.box 26 (.tmp 0)) 0 [a0] (fun v5=>
 oM prog (.box 34 (.tmp 0)) 0 [a3] fun v8=>
 kA 32 fun v10=>
 kL 26 v5 fun v20=>
 kL 34 v8 fun v23=>
 a0a prog 30 #[v20,a1,a2,v23] fun v24=>
 kU v24 fun v25 w=>
 gF v25 (kL 26 v5) (fun v27 w=>
 gF v25 (a0j a1) (fun v28 w=>
 gF v25 (a0j a4) (fun v29 w=>
 gF v25 (a0a prog 90 #[v27,v28,v29]) (fun v30 w=>
 gF v25 (kU v30) (fun v31=>
 kP v25 (.bool true) v31 fun v32=>
 kO v32 (oM prog (.build 32 #[]) 32 [] fun v33=>
 kS 32 v10 v33 fun _ w=>
 ∃ r_15,(do loadVar 32 (← asAddr v10):Sem Value).run prog w = .ok r_15 w ∧ K (.tuple #[r_15,(.bool false)]) w)
 (kL 26 v5 fun v35=>
 a0a prog 92 #[v35,a1,a4] fun v38=>
 kE 0 120 v38 fun v39=>
 kE 1 4 v38 fun v40=>
 kU v40 fun v42=>
 kO v42 (oM prog (.build 32 #[]) 32 [] fun v43=>
 kS 32 v10 v43 fun _ w=>
 ∃ r_22,(do loadVar 32 (← asAddr v10):Sem Value).run prog w = .ok r_22 w ∧ K (.tuple #[r_22,(.bool false)]) w)
 (oM prog (.build 32 #[]) 32 [] fun v44=>
 kA 32 fun v14=>
 kS 32 v14 v44 fun _=>
 kN 27 a1 fun v46=>
 kQ [undef,undef,undef,undef,undef,(.int .i64 0)] fun J_26 m_27 l_28 u_l_28 w0_l_28=>b4m J_26 K a4 l_28 m_27 v10 v14 v39 v46 v5 v8 w0_l_28))) w) w) w) w) w) w
theorem d6j (h:f0q a0 a1 a2 a3 a4 K w):a0a prog 27 #[a0,a1,a2,a3,a4] K w:=
 cZ (mz [(16,fz 17 0 2),(20,.free [0,1,2,5,6,7] [3,4,8,9,10] [11,12,13])]) func27 h
end Go.Proofs
namespace Go.Proofs
open Go Go.Sh Go.RowKit FdSpec TkSpec CodeSpec PrSpec FdPoly
section
variable {K:VK} {w w' w0 W W':World} {L:List (Addr × Value)} {g n B:Nat} {row:Option Nat}
abbrev b0i (w:World) (v:Value) (l:List (List Bool)):Prop:=SRow 1 (c4b 1 (c8y b1e)) w v l
theorem a6y:b9f (c8y b1e):=b7e a3m
theorem OutB.rows {rows:List (List Bool)} (h:OutB w B g rows) (hl:rows.length ≤ 9223372036854775807) (hr:∀ r ∈ rows,r.length ≤ 9223372036854775807):b0i w (.slice (some ⟨g,0,none⟩) rows.length rows.length) rows:=by
 obtain ⟨vs,h1,h2,h3,_,_⟩:=h.ex
 refine ⟨⟨_,_,rfl,.inr ⟨g,0,rfl,h2.lt,fun i hi=>?_⟩⟩,hl⟩
 have hiv:i < vs.length:=by omega
 have ev:vs[i]? = some vs[i]:=gE hiv
 have er:rows[i]? = some rows[i]:=gE hi
 refine ⟨[vs[i]],rfl,fun j u hj=>?_,_,rfl,GRow.srow (by decide) (h3 i _ _ ev er) (hr _ (List.getElem_mem hi))⟩
 obtain ⟨h4,rfl⟩:=gS hj
 have hj0:j = 0:=by simpa using h4
 subst hj0
 have:=h2.cell i hiv
 simpa using this
def Yng (B g:Nat) (w:World):Nat → Prop:=fun i=>B ≤ i ∧ i < w.heap.size ∧ i ≠ g
theorem Yng.mono (hs:w.heap.size ≤ w'.heap.size):∀ i,Yng B g w i → Yng B g w' i:=fun i h=>⟨h.1,lL h.2.1 hs,h.2.2⟩
structure OutI (B g:Nat) (w:World) (rows:L2):Prop where
 ex:∃ vs:List Value,vs.length = rows.length ∧ Holds w g 24 vs ∧ FP (Yng B g w) w (fun w=>∀ (i:Nat) (v:Value) (r:List Int),vs[i]? = some v → rows[i]? = some r → Ints w v r)
 base:B ≤ g
theorem OutI.lt {rows:L2} (h:OutI B g w rows):g < w.heap.size:=by
 obtain ⟨vs,_,h2,_⟩:=h.ex
 exact h2.lt
theorem OutI.next {rows:L2} (h:OutI B g w rows) (hb:Bw w w'):OutI B g w' rows:=by
 obtain ⟨vs,h1,h2,h3⟩:=h.ex
 exact ⟨⟨vs,h1,h2.next hb,(h3.next hb (fun i hi=>hi.2.1)).mono (Yng.mono hb.size)⟩,h.base⟩
theorem OutI.get {rows:L2} {i:Nat} {r:List Int} (h:OutI B g w rows) (hi:rows[i]? = some r):∃ ad c,w.cell? ⟨g,i,none⟩ = some (.slice ad r.length c) ∧ Ints w (.slice ad r.length c) r:=by
 obtain ⟨vs,h1,h2,h3⟩:=h.ex
 have hlt:i < vs.length:=by have:=(gS hi).1; omega
 have ev:vs[i]? = some vs[i]:=gE hlt
 have hI:=h3.here i _ r ev hi
 obtain ⟨ad,c,e⟩:=hI.isSlice
 exact ⟨ad,c,by rw [h2.cell i hlt,e],by rw [← e]; exact hI⟩
theorem OutI.set {rows:L2} {i m c:Nat} {ad:Option Addr} {r:List Int} {T':TypeId} (h:OutI B g w rows) (hi:i < rows.length) (hv:FP (Yng B g w) w (fun w=>Ints w (.slice ad m c) r))
  (k:∀ w1,w.grownBy w1 (some g) → OutI B g w1 (rows.set i r) → K undef w1):oM Tryz.prog (.store 24 (.tmp 0) (.tmp 1)) T' [.pointer (some ⟨g,i,none⟩),.slice ad m c] K w:=by
 obtain ⟨vs,h1,h2,h3⟩:=h.ex
 refine a3q a6e rfl rfl h2 (by omega) (fun w1 hg hh=>k w1 hg ⟨⟨vs.set i (.slice ad m c),by simpa using h1,hh,?_⟩,h.base⟩)
 have hoff:∀ j,Yng B g w j → j < w.heap.size ∧ some g ≠ some j:=fun j hj=>⟨hj.2.1,fun e=>hj.2.2 (oI e).symm⟩
 refine (((h3.by hg hoff).both (hv.by hg hoff)).imp ?_).mono (Yng.mono hg.size)
 rintro w2 ⟨a,b⟩ j v r' hj hr'
 rw [List.getElem?_set] at hj hr'
 by_cases hij:i = j
 ·subst hij
  rw [if_pos rfl,if_pos (by omega)] at hj
  rw [if_pos rfl,if_pos hi] at hr'
  cases hj; cases hr'
  exact b
 ·rw [if_neg hij] at hj hr'
  exact a j v r' hj hr'
theorem OutI.fp {rows:L2} (h:OutI B g w rows) (hl:rows.length ≤ 9223372036854775807):FP (fun i=>B ≤ i ∧ i < w.heap.size) w (fun w=>a0s w (.slice (some ⟨g,0,none⟩) rows.length rows.length) rows):=by
 obtain ⟨vs,h1,h2,h3⟩:=h.ex
 have hg:=h2.lt
 refine ((h3.mono (fun i hi=>⟨hi.1,hi.2.1⟩)).both (h2.fp.mono (fun i hi=>by subst hi; exact ⟨h.base,hg⟩))).imp ?_
 rintro w2 ⟨a,b⟩
 refine ⟨⟨_,_,rfl,.inr ⟨g,0,rfl,b.lt,fun i hi=>?_⟩⟩,hl⟩
 have hiv:i < vs.length:=by omega
 refine ⟨[vs[i]],rfl,fun j u hj=>?_,_,rfl,a i _ _ (gE hiv) (gE hi)⟩
 obtain ⟨h4,rfl⟩:=gS hj
 have hj0:j = 0:=by simpa using h4
 subst hj0
 have:=b.cell i hiv
 simpa using this
theorem e8x {B':Nat} {v:Value} {l:List Int} (h:OwnI w B' v l) (hr:∀ x ∈ l,I64 x) (hl:l.length ≤ 9223372036854775807) (hB:B ≤ B') (hg:g < B'):FP (Yng B g w) w (fun w=>Ints w v l):=
 (h.ints hr hl).fp.mono (fun i hi=>by have:=(a0d h (a7m h hi.1)).2.1; exact ⟨by omega,hi.2,by omega⟩)
theorem d1s {T:TypeId} {n:Nat} (hn:n ≤ 65536) (k:∀ g W,Bw w W → w.heap.size ≤ g → OutI w.heap.size g W (List.replicate n []) → K (.slice (some ⟨g,0,none⟩) n n) W):oM Tryz.prog (.makeSlice 30 (.tmp 0) (.tmp 1)) T [.int .i64 n,.int .i64 n] K w:=by
 obtain ⟨w',hr,ho,hg⟩:=run_makeSlice_full (P:=Tryz.prog) (w:=w) w.heap.size 30 24 ((Tryz.prog.info? 24).getD default) (.slice none 0 0) 1 (by kernel_rfl) (by kernel_rfl) (by kernel_rfl) (by kernel_rfl) .i64 .i64 n (by omega) (by
  have:((Tryz.prog.info? 24).getD default).bytes = 24:=by kernel_rfl
  rw [this]; omega) (by simp only [maxLen]; omega) (rL)
 rw [a7j,hr]
 have hb:Bw w w':=⟨hg.os,hg.tape,hg.output,hg.size,fun k hk=>hg.block k hk (by simp)⟩
 have hcells:(madeCells (Value.slice none 0 0).cells (n * 1)).toList = List.replicate n (.slice none 0 0):=by
  rw [Nat.mul_one]
  apply List.ext_getElem?
  intro i
  unfold madeCells
  simp [Value.cells,List.getElem?_replicate,Array.getElem?_ofFn]
  try (split <;> simp_all [Nat.mod_one])
 refine k _ _ hb (rL) ?_
 rcases ho.2 with ⟨h1,h2⟩ | ⟨g,cap,cur,h1,hb2,hg2,hc,hm,hs,ht⟩
 ·cases h1
 ·cases h1
  rw [hcells,Nat.mul_one] at ht
  have e:cur.toList = List.replicate n (.slice none 0 0):=by
   rw [← ht,List.take_of_length_le (by simp; omega)]
  refine ⟨⟨List.replicate n (.slice none 0 0),by simp,?_,?_⟩,hb2⟩
  ·unfold Holds
   rw [hg2,← e]
  ·refine FP.pure (p:=∀ (i:Nat) (v:Value) (r:List Int),(List.replicate n (Value.slice none 0 0))[i]? = some v → (List.replicate n ([]:List Int))[i]? = some r → v = .slice none 0 0 ∧ r = []) ?_ |>.imp ?_
   ·intro i v r hv hr'
    rw [List.getElem?_replicate] at hv hr'
    by_cases hi:i < n
    ·rw [if_pos hi] at hv hr'
     exact ⟨(oI hv).symm,(oI hr').symm⟩
    ·rw [if_neg hi] at hv; cases hv
   ·intro w2 h i v r hv hr'
    obtain ⟨rfl,rfl⟩:=h i v r hv hr'
    exact Ints.nil _
structure OutQ (B b:Nat) (T:TypeId) (f:Value → Value → List Value) (w:World) (dl:L2) (al:L3):Prop where
 ex:∃ (dv av:Value) (D:Nat → Prop),Holds w b T (f dv av) ∧ b0x B D w dv dl ∧ d2a B D w av al ∧ Off D w dv ∧ Off D w av ∧ apart dv av ∧ (∀ j,D j → B ≤ j)
 lt:b < B
section
variable {b:Nat} {T:TypeId} {f:Value → Value → List Value} {dl:L2} {al:L3}
theorem OutQ.start (hlt:b < B) (h:Holds w b T (f (.slice none 0 0) (.slice none 0 0))):OutQ B b T f w [] []:=
 ⟨⟨_,_,fun _=>False,h,.nil,.nil,fun i h=>h.elim,fun i h=>h.elim,(fun i h=>by cases h),fun i h=>h.elim⟩,hlt⟩
end
theorem _root_.Go.Sh.Holds.fr {S:Nat → Prop} {T:TypeId} {vs:List Value} (h:Holds w g T vs) (hf:Fr S w w') (hn:¬ S g):Holds w' g T vs:=(hf.block g h.lt hn).trans h
theorem c4y {T:TypeId} {vs:List Value} (h:Holds W g T vs) (hf:Fr (c4q B W) W W'):Holds W' g T vs:=h.fr hf (b6w h rfl)
end
section
variable {K:VK} {w w' w0 W W':World} {L:List (Addr × Value)} {g n B:Nat} {row:Option Nat}
theorem e8y:Tryz.prog.underlying 34 = some ((Tryz.prog.underlying 34).getD default):=by kernel_rfl
theorem e8z:Tryz.prog.underlying 32 = some ((Tryz.prog.underlying 32).getD default):=by kernel_rfl
theorem c7n {a b:Value} (hh:Holds W g 34 [a,b]) (k:K (.agg #[a,b]) W):∃ r,(do loadVar 34 (← asAddr (ptr g 0)):Sem Value).run Tryz.prog W = .ok r W ∧ K r W:=
 b2g hh e8y (by kernel_rfl) (by kernel_rfl) k
theorem c2s {a b:Value} (hh:Holds W g 32 [a,b]) (k:K (.agg #[a,b]) W):∃ r,(do loadVar 32 (← asAddr (ptr g 0)):Sem Value).run Tryz.prog W = .ok r W ∧ K r W:=
 b2g hh e8z (by kernel_rfl) (by kernel_rfl) k
theorem e9a {a b:Value} {T T0:TypeId} (hh:Holds W g T0 [a,b]) (k:K (.agg #[a,b]) W):oM Tryz.prog (.load 34 (.tmp 0)) T [ptr g 0] K W:=
 a8z hh e8y (by kernel_rfl) (by kernel_rfl) k
theorem e9b {a b:Value} {T T0:TypeId} (hh:Holds W g T0 [a,b]) (k:K (.agg #[a,b]) W):oM Tryz.prog (.load 32 (.tmp 0)) T [ptr g 0] K W:=
 a8z hh e8z (by kernel_rfl) (by kernel_rfl) k
theorem f8g (w:World):(Instr.alloc 39 true (.tuple #[])).run Tryz.prog w = .ok (.pointer (some ⟨w.heap.size,0,none⟩)) (w.alloc (.cells [.int .i64 0].toArray 39)):=by kernel_rfl
theorem f8h (w:World):(sizeOf 39).run Tryz.prog w = .ok 1 w:=by kernel_rfl
theorem f4q (e:Int):∀ u ∈ ([.int .i64 e]:List Value),u.oneCell' = true:=by
 intro u hu
 simp only [List.mem_cons,List.not_mem_nil,or_false] at hu
 rcases hu with rfl; rfl
theorem f4r {e:Int} (hh:Holds W g 39 [.int .i64 e]) (k:K (.int .i64 e) W):∃ r,(do loadVar 39 (← asAddr (ptr g 0)):Sem Value).run Tryz.prog W = .ok r W ∧ K r W:=by
 refine ⟨.int .i64 e,?_,k⟩
 have hc:=hh.cell 0 (by simp)
 show (Instr.loadAt 39 (ptr g 0)).run Tryz.prog W = _
 simp [go_sem,hc]
structure Res2 (W:World) (r1 r2:Nat) (a b:Value) (e:Int):Prop where
 p:Holds W r1 34 [a,b]
 e:Holds W r2 39 [.int .i64 e]
 ne:r1 ≠ r2
theorem Res2.next {r1 r2:Nat} {a b:Value} {e:Int} (h:Res2 W r1 r2 a b e) (hb:Bw W W'):Res2 W' r1 r2 a b e:=⟨h.p.next hb,h.e.next hb,h.ne⟩
theorem Res2.own {r1 r2:Nat} {a b:Value} {e:Int} (h:Res2 W r1 r2 a b e) (hf:Fr (c4q B W) W W'):Res2 W' r1 r2 a b e:=⟨c4y h.p hf,c4y h.e hf,h.ne⟩
theorem Res2.ret {r1 r2:Nat} {a b:Value} {e:Int} (h:Res2 W r1 r2 a b e) (k:K (.tuple #[.agg #[a,b],.int .i64 e]) W) :
  ∃ r,(do loadVar 34 (← asAddr (ptr r1 0)):Sem Value).run Tryz.prog W = .ok r W ∧ ∃ r',(do loadVar 39 (← asAddr (ptr r2 0)):Sem Value).run Tryz.prog W = .ok r' W ∧ K (.tuple #[r,r']) W:=
 c7n (K:=fun r W=>∃ r',(do loadVar 39 (← asAddr (ptr r2 0)):Sem Value).run Tryz.prog W = .ok r' W ∧ K (.tuple #[r,r']) W) h.p (f4r (K:=fun r' W=>K (.tuple #[.agg #[a,b],r']) W) h.e k)
theorem Res2.set {r1 r2:Nat} {a b:Value} {ad ad2:Option Addr} {n c n2 c2:Nat} {e e':Int} {T T':TypeId} {Q:WK} (h:Res2 W r1 r2 a b e)
  (k:∀ W',Fr (fun j=>j = r1 ∨ j = r2) W W' → Res2 W' r1 r2 (.slice ad n c) (.slice ad2 n2 c2) e' → Q W') :
  oM Tryz.prog (.store 34 (.tmp 0) (.tmp 1)) T [ptr r1 0,.agg #[.slice ad n c,.slice ad2 n2 c2]] (fun _ w=>oM Tryz.prog (.store 39 (.tmp 0) (.tmp 1)) T' [ptr r2 0,.int .i64 e'] (fun _ w=>Q w) w) W:=by
 refine a0x c0g (xs:=a5n (.slice ad n c) (.slice ad2 n2 c2)) rfl rfl (a5f ad ad2 n c n2 c2) h.p rfl (fun W1 hg1 hh1=>?_)
 refine a0x f8h (xs:=[.int .i64 e']) rfl rfl (f4q e') (h.e.other hg1 (fun e=>h.ne e.symm)) rfl (fun W2 hg2 hh2=>?_)
 exact k W2 (((Fr.of_by hg1).mono (fun i _ e=>.inl e)).trans (Fr.of_by hg2) (fun i e=>.inl (.inr e))) ⟨hh1.other hg2 h.ne,hh2,h.ne⟩
end
section
variable {K:VK} {w w' w0 W W' We:World} {L:List (Addr × Value)} {g n B b i:Nat} {row:Option Nat}
theorem OutQ.duo {T:TypeId} {f:Value → Value → List Value} {dl:L2} {al:L3} {x:List Int} {y:L2} {xad yad:Option Addr} {nx cx ny cy:Nat} (hQ:OutQ B b T f We dl al) (hb:Bw We W) (hB:B ≤ We.heap.size)
  (hx:FP (fun j=>We.heap.size ≤ j ∧ j < W.heap.size) W (fun w=>Ints w (.slice xad nx cx) x)) (hy:FP (fun j=>We.heap.size ≤ j ∧ j < W.heap.size) W (fun w=>a0s w (.slice yad ny cy) y)) (hdl:dl.length < 1099511627776) (hal:al.length < 1099511627776) :
  ∃ (dad aad:Option Addr) (dc ac:Nat) (D:Nat → Prop),Holds W b T (f (.slice dad dl.length dc) (.slice aad al.length ac)) ∧ DuoI B D W (.slice dad dl.length dc) (.slice aad al.length ac) (.slice xad nx cx) (.slice yad ny cy) dl al x y ∧
   (∀ j,D j → B ≤ j) ∧ (∀ j,(Value.slice dad dl.length dc).ownBlock = some j → B ≤ j) ∧ (∀ j,(Value.slice aad al.length ac).ownBlock = some j → B ≤ j):=by
 obtain ⟨dv,av,D,h1,h2,h3,h4,h5,h6,h7⟩:=hQ.ex
 obtain ⟨dad,dc,rfl⟩:=h2.isSlice
 obtain ⟨aad,ac,rfl⟩:=h3.isSlice
 have hs:=hb.size
 refine ⟨dad,aad,dc,ac,fun j=>D j ∨ (We.heap.size ≤ j ∧ j < W.heap.size),h1.next hb,⟨(h2.next hb (fun i hi=>(h4 i hi).1)).mono (fun i hi=>.inl hi),(h3.next hb (fun i hi=>(h4 i hi).1)).mono (fun i hi=>.inl hi),?_,?_,h6,Nat.le_trans hB hs,hx.mono (fun i hi=>.inr hi),hy.mono (fun i hi=>.inr hi),hdl,hal⟩,?_,fun j hj=>(h2.own hj).2,fun j hj=>(h3.own hj).2⟩
 ·rintro j (hj | hj)
  ·exact ⟨lL (h4 j hj).1 hs,(h4 j hj).2⟩
  ·exact ⟨hj.2,fun e=>by have:=(h2.own e).1; omega⟩
 ·rintro j (hj | hj)
  ·exact ⟨lL (h5 j hj).1 hs,(h5 j hj).2⟩
  ·exact ⟨hj.2,fun e=>by have:=(h3.own e).1; omega⟩
 ·rintro j (hj | hj)
  ·exact h7 j hj
  ·omega
theorem d1t {J:List Value → World → Prop} {m:List Value → World → Nat} {wl:World} {l100:List Value} {u0 u1 u2 u3 u4:Value} {dl:L2} {al:L3} {x:List Int} {y:L2} {xad yad:Option Addr} {nx cx ny cy:Nat}
  (hQ:OutQ B b 34 a5n We dl al) (hb:Bw We W) (hB:B ≤ We.heap.size) (hi:i < 100000)
  (hx:FP (fun j=>We.heap.size ≤ j ∧ j < W.heap.size) W (fun w=>Ints w (.slice xad nx cx) x)) (hy:FP (fun j=>We.heap.size ≤ j ∧ j < W.heap.size) W (fun w=>a0s w (.slice yad ny cy) y)) (hdl:dl.length < 1099511627776) (hal:al.length < 1099511627776)
  (k:∀ W' vs,Fr (fun j=>j = b ∨ B ≤ j) W W' → W.heap.size ≤ W'.heap.size → OutQ B b 34 a5n W' (dl ++ [x]) (al ++ [y]) → (∃ a0 a1 a2 a3 a4,vs = [a0,a1,a2,a3,a4,.int .i64 ((i + 1:Nat):Int)]) → J vs W' ∧ m vs W' < m [u0,u1,u2,u3,u4,.int .i64 (i:Int)] wl) :
  a8o J l100 [u0,u1,u2,u3,u4,.int .i64 (i:Int)] m (.slice xad nx cx) (.slice yad ny cy) (ptr b 0) wl W:=by
 unfold a8o
 have hbl:=hQ.lt
 have hwi:IntKind.i64.wrap ((i:Int) + 1) = ((i + 1:Nat):Int):=by rw [a0o _ (by omega) (by omega)]; rfl
 have hodr:Below W.heap.size W { W with drawn:=W.drawn + 1 }:=.drawn
 have hfd:Fr (fun j=>j = b ∨ B ≤ j) W { W with drawn:=W.drawn + 1 }:=Fr.of_below' hodr
 have hsz:W.heap.size = ({ W with drawn:=W.drawn + 1 }:World).heap.size:=rfl
 obtain ⟨dad,aad,dc,ac,D,hH,hduo,hDB,hdB,haB⟩:=hQ.duo (hb.on hodr) hB ((hx.next hodr (fun i hi=>hi.2))) ((hy.next hodr (fun i hi=>hi.2))) hdl hal
 generalize hW9:({ W with drawn:=W.drawn + 1 }:World) = W9 at *
 have hcell:∀ w',Fr (fun i=>(Value.slice dad dl.length dc).ownBlock = some i ∨ (Value.slice aad al.length ac).ownBlock = some i) W9 w' → Holds w' b 34 [.slice dad dl.length dc,.slice aad al.length ac]:=fun w' h=>hH.fr h (fun e=>by
  rcases e with e | e
  ·have:=hdB _ e; omega
  ·have:=haB _ e; omega)
 have hcellC:∀ w',c5q B D W9 (.slice dad dl.length dc) (.slice aad al.length ac) dl al w' → Holds w' b 34 [.slice dad dl.length dc,.slice aad al.length ac]:=fun w' h=>hcell w' h.1
 refine ⟨c5q B D W9 (.slice dad dl.length dc) (.slice aad al.length ac) dl al,by rw [hW9]; exact ⟨Fr.refl _ _,hduo.a,hduo.b⟩,rfl,?_⟩
 repeat (any_goals (first
 | (with_reducible refine pX ?_)
 | ((with_reducible refine e1q ?_); (with_reducible refine b5h ⟨_,rfl⟩ (fun W0 hW0=>by (refine oG (fun X Y=>?_)); simp [go_sem,(hcellC _ hW0).are]; (first | exact Y _ _ ⟨rfl,rfl⟩ | exact ⟨by omega,Y _ _ ⟨rfl,rfl⟩⟩)) ?_))))
 refine d0a hduo (i1:=0) (fun K' w h=>?_) (fun w v u hfr hA hB' hap'=>?_)
 ·refine Xa0 ?_
  exact h
 have hh10:=hcell w hfr
 obtain ⟨vad',vc',rfl⟩:=hA.1.isSlice
 obtain ⟨uad',uc',rfl⟩:=hB'.1.isSlice
 refine a3q (i:=0) a6e rfl rfl hh10 (by simp) (fun w11 hg11 hh11=>?_)
 refine a9i ?_
 refine a3q (i:=1) a6e rfl rfl hh11 (by simp) (fun w12 hg12 hh12=>?_)
 refine Xa0 ?_
 have hg13:=c5o hg11 hg12
 have hDb:∀ i,D i → i < w.heap.size ∧ ¬ i = b:=fun i hi=>⟨(hA.2.1 i hi).1,fun e=>by have:=hDB i hi; omega⟩
 refine k w12 _ ((hfd.trans hfr (fun i e=>.inl (.inr (e.elim (hdB i) (haB i))))).by hg13 (fun i e=>.inl (.inl (oI e).symm))) (by have:=hfr.size; have:=hg13.size; omega) ⟨⟨_,_,D,hh12,hA.1.keep (Fr.of_by hg13) hDb (fun i hi e=>by have:=(hA.1.own hi).2; omega),hB'.1.keep (Fr.of_by hg13) hDb (fun i hi e=>by have:=(hB'.1.own hi).2; omega),hA.2.1.next hg13.size,hB'.2.1.next hg13.size,hap',hDB⟩,hbl⟩ ⟨_,_,_,_,_,rfl⟩
end
section
variable {K:VK} {w w' w0 W W' We W2:World} {L:List (Addr × Value)} {g n B b i:Nat} {row:Option Nat}
theorem b2r (q f:Int) (a b:List Int):∀ x ∈ a2l q a f b,I64 x:=by
 intro x hx
 unfold a2l at hx
 obtain ⟨p,_,rfl⟩:=List.mem_map.1 hx
 exact a7d _ _ _
theorem c4z (q f:Int) (a b:List Int):(a2l q a f b).length ≤ a.length:=by
 unfold a2l; rw [List.length_map,List.length_zip]; omega
def d3e (ans:L2) (n k:Nat):L2:=ans.take k ++ List.replicate (n - k) []
theorem e3j {ans:L2} {k:Nat} (h:ans.length = n) (hk:k ≤ n):(d3e ans n k).length = n:=by
 unfold d3e; rw [List.length_append,List.length_take,List.length_replicate]; omega
theorem c9n {ans:L2} {k:Nat} {x:List Int} (h:ans.length = n) (hx:ans[k]? = some x):(d3e ans n k).set k x = d3e ans n (k + 1):=by
 have hk:=(gS hx).1
 unfold d3e
 rw [List.set_append,if_neg (by rw [List.length_take]; omega),List.length_take,Nat.min_eq_left (by omega),Nat.sub_self,show n - k = n - (k + 1) + 1 by omega,List.replicate_succ,List.set_cons_zero,List.take_add_one,hx,List.append_assoc]
 rfl
theorem d3t {ans:L2} (h:ans.length = n):d3e ans n n = ans:=by
 unfold d3e; rw [List.take_of_length_le (by omega),Nat.sub_self]; simp
def PiJ (ans:L2) (n g:Nat) (W2:World) (vs:List Value) (W:World):Prop:=Bw W2 W ∧ ∃ (u0 u1:Value) (k:Nat),vs = [u0,u1,.int .i64 (k:Int)] ∧ k ≤ n ∧ OutI W2.heap.size g W (d3e ans n k)
def g6d (n:Nat) (vs:List Value) (_:World):Nat:=match vs with | [_,_,.int _ k]=>n - k.toNat | _=>0
structure AnsC (q:Int) (ans:L2) (n:Nat) (Bs:List Bool) (D:List Int) (N:L2) (Ks:List Knw):Prop where
 eq:ans = a3j q Bs D N Ks
 lb:Bs.length = n
 ld:D.length = n
 ln:N.length = n
 lk:Ks.length = n
 max:n ≤ 16
 fit:∀ (k:Nat) (u:Knw) (z:List Int),Bs[k]? = some true → Ks[k]? = some u → N[k]? = some z → u.values.length = z.length
 len:∀ (k:Nat) (z:List Int),N[k]? = some z → z.length < 1000
theorem d1u (s:Stp) {J:List Value → World → Prop} {m:List Value → World → Nat} {wl:World} {l100:List Value} {u0 u1 u2 u3 u4:Value} {ad nad kad xad:Option Addr} {c nc kc xc b1 b2 b12 gb mb:Nat} {dv:Value} {ns:L3} {know:List (List Knw)} {rows:List (List Bool)}
  {ans N:L2} {D:List Int} {Bs:List Bool} {Ks:List Knw}
  (hk:Kn w (cellsOf (cellsOf (cellsOf [] b1 0 (a2r s (.slice ad s.bases.length c))) b2 0 (a5n (.slice nad ns.length nc) dv)) b12 0 [.slice (some ⟨gb,0,none⟩) mb mb]) W2)
  (hn:a2j w (.slice nad ns.length nc) ns) (hkn:a5v w (.slice kad know.length kc) know) (hbr:b0i W2 (.slice (some ⟨gb,0,none⟩) mb mb) rows) (hmb:rows.length = mb)
  (hx:Ints W2 (.slice xad n xc) D) (hA:AnsC s.g.Q ans n Bs D N Ks) (en:ns[i]? = some N) (ek:know[i]? = some Ks) (eb:rows[i]? = some Bs) (hg:W2.heap.size ≤ g) (hJ:PiJ ans n g W2 l100 W)
  (hend:∀ l W,Bw W2 W → OutI W2.heap.size g W ans → a8o J l [u0,u1,u2,u3,u4,.int .i64 (i:Int)] m (.slice xad n xc) (.slice (some ⟨g,0,none⟩) n n) (ptr b 0) wl W) :
  b4j J (PiJ ans n g W2) (.slice kad know.length kc) l100 [u0,u1,u2,u3,u4,.int .i64 (i:Int)] m (g6d n) (.slice xad n xc) (.slice (some ⟨g,0,none⟩) n n) (.int .i64 n) (ptr b12 0) (ptr b 0) (ptr b1 0) (ptr b2 0) wl W:=by
 obtain ⟨hb2,v0,v1,k,rfl,hkn',hO⟩:=hJ
 have hmax:=hA.max
 have hal:ans.length = n:=by rw [hA.eq]; rw [a4m (by rw [hA.ld,hA.lb]) (by rw [hA.ln,hA.lb]) (by rw [hA.lk,hA.lb]),hA.lb]
 unfold b4j
 by_cases hkn2:k = n
 ·subst hkn2
  refine Xa0 ?_
  rw [d3t hal] at hO
  exact hend _ _ hb2 hO
 have hkl:k < n:=by omega
 have hki:(k:Int) < n:=by omega
 have hkB0:k < Bs.length:=by have:=hA.lb; omega
 have hkD0:k < D.length:=by have:=hA.ld; omega
 have hkN0:k < N.length:=by have:=hA.ln; omega
 have hkK0:k < Ks.length:=by have:=hA.lk; omega
 have ebk:Bs[k]? = some Bs[k]:=gE hkB0
 have edk:D[k]? = some D[k]:=gE hkD0
 have enk:N[k]? = some N[k]:=gE hkN0
 have ekk:Ks[k]? = some Ks[k]:=gE hkK0
 have hans:=b1x (q:=s.g.Q) ebk edk enk ekk
 rw [← hA.eq] at hans
 have hin:=(gS en).1
 have hik:=(gS ek).1
 have hib:=(gS eb).1
 have hiN:(i:Int) < ns.length:=by omega
 have hiK:(i:Int) < know.length:=by omega
 have hiB:(i:Int) < mb:=by omega
 have e1:ns[i] = N:=(gS en).2
 have e2:know[i] = Ks:=(gS ek).2
 have e3:rows[i] = Bs:=(gS eb).2
 obtain ⟨bx,ox,rfl,hltx,cellx,_,_⟩:=hx.at (i:=k) (by have:=hA.ld; omega)
 obtain ⟨bn,on,rfl,hltn,csn,_,hcelln,vn,rfl,hrown⟩:=hn.at (i:=i) hin
 obtain ⟨bk,ok,rfl,hltk,csk,_,hcellk,vk,rfl,hrowk⟩:=hkn.at (i:=i) hik
 obtain ⟨bb,ob,ebb,hltb,csb,_,hcellb,vb,rfl,hrowb⟩:=hbr.at (i:=i) hib
 cases ebb
 rw [e1] at hrown
 rw [e2] at hrowk
 rw [e3] at hrowb
 obtain ⟨nad2,nc2,rfl⟩:=hrown.isSlice
 obtain ⟨kad2,kc2,rfl⟩:=hrowk.isSlice
 obtain ⟨bad2,bc2,rfl⟩:=hrowb.isSlice
 have cn:=hcelln 0 _ rfl
 have ck:=hcellk 0 _ rfl
 have cb:=hcellb 0 _ rfl
 have hNl:=hA.ln
 have hKl:=hA.lk
 have hBl:=hA.lb
 obtain ⟨bl,ol,rfl,hltl,csl,_,hcelll,vl,rfl,hrowl⟩:=hrown.at (i:=k) (by omega)
 obtain ⟨bu,ou,rfl,hltu,csu,_,hcellu,vu,rfl,hvu⟩:=hrowk.at (i:=k) (by omega)
 obtain ⟨bt,ot,rfl,hltt,cst,_,hcellt,vt,rfl,hvt⟩:=hrowb.at (i:=k) (by omega)
 have cl:=hcelll 0 _ rfl
 have cu:=hcellu 1 _ rfl
 have ct:=hcellt 0 _ rfl
 simp only [Nat.add_zero,Nat.mul_one,Nat.zero_add] at cn ck cb cl cu ct
 unfold b7j at hvt
 subst hvt
 have hfit:Bs[k] = true → (Ks[k]).values.length = (N[k]).length:=fun e=>hA.fit k _ _ (by rw [ebk,e]) ekk enk
 have hzl:=hA.len k _ enk
 have hzr:=hrowl.rng
 have hkB:(k:Int) < Bs.length:=by omega
 have hkN:(k:Int) < N.length:=by omega
 have hkK:(k:Int) < Ks.length:=by omega
 generalize Bs[k] = bv at *
 generalize D[k] = d at *
 generalize N[k] = z at *
 generalize Ks[k] = u at *
 have hkW:=hk.next hb2
 have hal2:(d3e ans n k).length = n:=e3j hal hkn'
 refine Xa0 ?_
 refine ⟨fun l W=>l = [.int .i64 (k:Int),.int .i64 d] ∧ Bw W2 W ∧ OutI W2.heap.size g W (d3e ans n (k + 1)),?_,?_⟩
 ·unfold c0l
  obtain ⟨lad,lc,hlv⟩:=hrowl.isSlice
  refine Xa (An7 (cellx _ hb2) hkW.cells ((hkW.below.cell hltn).trans cn) ((hkW.below.cell hltl).trans cl) @hiN @hkN @hki) ?_
  refine b6n (hrowl.next hkW.below) (by omega) (fun v3 w3 ho3 h3 hb3=>?_)
  have ho:OwnI w3 W.heap.size v3 z:=a2b ho3 hb3
  obtain ⟨zad,zc,rfl⟩:=a2m ho
  have hO3:=hO.next h3
  have hb3':=hb2.on h3
  have hk3:=hkW.next h3
  refine Xa @hki ?_
  refine hO3.set (i:=k) (by omega) (e8x ho hzr (by omega) hb2.size hO.lt) (fun w4 hg4 hO4=>?_)
  have hb4:Bw W2 w4:=hb3'.grown hg4 hb3'.size (fun j hj=>by cases hj; exact hg)
  have hk4:=hk.next hb4
  cases bv with
  | false=>
   refine Xa (An5 hk4.cells ((hb4.cell hltb).trans cb) ((hb4.cell hltt).trans ct) @hiB @hkB) ?_
   have hans:ans[k]? = some z:=hans
   rw [c9n hal hans] at hO4
   exact ⟨rfl,hb4,hO4⟩
  | true=>
   refine Xa (An5 hk4.cells ((hb4.cell hltb).trans cb) ((hb4.cell hltt).trans ct) @hiB @hkB) ?_
   have hfit:=hfit rfl
   unfold b7k
   have hrow4:((d3e ans n k).set k z)[k]? = some z:=by rw [List.getElem?_set_self (by omega)]
   have hb9:Below w4.heap.size w4 { w4 with drawn:=w4.drawn + 1 }:=.drawn
   have hk9:=hk4.next hb9
   have hO9:=hO4.next hb9
   have hbb9:=hb4.on hb9
   refine ⟨Nx { w4 with drawn:=w4.drawn + 1 },bR,rfl,?_⟩
   generalize ({ w4 with drawn:=w4.drawn + 1 }:World) = W9 at hk9 hO9 hbb9 ⊢
   obtain ⟨rad,rc,hrc,hri⟩:=hO9.get hrow4
   obtain ⟨uad,uc,rfl⟩:=hvu.isSlice
   refine Xf (fun W0 hW0=>An4 ((hk9.next hW0).cells) ((hW0.cell hO9.lt).trans hrc) (((hk9.next hW0).below.cell hltk).trans ck) (((hk9.next hW0).below.cell hltu).trans cu)) (An3 @hiK @hkK @hki) ?_
   refine ⟨Nx,?_⟩
   refine a3i (fun v w'=>OwnI w' W9.heap.size v (a2l s.g.Q z d u.values)) (fun v w w1 hS h=>h.keep hS) ?_ ?_
   ·intro w1 h1
    exact c9m s.g.Q d z u.values (hri.next h1) (hvu.next (hk9.next h1).below) hfit (by omega) (fun v w2 h2 ho=>⟨h1.on h2,h2,a2b ho (fun j hj=>by have:=(a0d ho hj).2.1; have:=h1.size; omega)⟩)
   rintro w10 h10 v10 ho10
   obtain ⟨sad,sc,rfl⟩:=a2m ho10
   refine Xa @hki ?_
   refine (hO9.next h10).set (i:=k) (by rw [List.length_set]; omega) (e8x ho10 (b2r _ _ _ _) (by have:=c4z s.g.Q d z u.values; omega) hbb9.size hO9.lt) (fun w11 hg11 hO11=>?_)
   refine Xa0 ?_
   have hans:ans[k]? = some (a2l s.g.Q z d u.values):=hans
   rw [List.set_set,c9n hal hans] at hO11
   exact ⟨rfl,(hbb9.on h10).grown hg11 (hbb9.on h10).size (fun j hj=>by cases hj; exact hg),hO11⟩
 ·rintro _ _ W5 ⟨rfl,hb5,hO5⟩
  refine Xa0 ?_
  exact ⟨⟨hb5,_,_,k + 1,rfl,by omega,hO5⟩,by show n - (((k + 1:Nat):Int)).toNat < n - ((k:Nat):Int).toNat; omega⟩
end
section
variable {K:VK} {w w' w0 W W' We W1 W2:World} {L:List (Addr × Value)} {g n B b i:Nat} {row:Option Nat}
theorem b4v {s:Stp}:∀ {cs:List Clm} {ks:List Knw} {need:Int} {k:Nat} {u:Knw},(a0e s need cs ks).1[k]? = some true → ks[k]? = some u → u.has = true
 | [],_,_,_,_,h,_=>by simp [a0e] at h
 | c :: cs,[],_,_,_,h,_=>by simp [a0e] at h
 | c :: cs,x :: ks,need,0,u,h,hu=>by
  simp at hu
  subst hu
  unfold a0e at h
  split at h
  ·rename_i h1
   simp only [bA] at h1
   exact h1.1.2
  ·simp at h
 | c :: cs,x :: ks,need,k + 1,u,h,hu=>by
  unfold a0e at h
  have hu:ks[k]? = some u:=by simpa using hu
  split at h
  ·exact b4v (cs:=cs) (by simpa using h) hu
  ·exact b4v (cs:=cs) (by simpa using h) hu
theorem c3o {s:Stp} {goal:List Cls} {know:List (List Knw)} {ds:L2} {ns:L3} (hgm:a1p s goal = true) (hft:a3a s goal know = true) (hsm:a0u s goal ds ns = true) {c:Cls} {Ks:List Knw} {d:List Int} {N:L2}
  (eg:goal[i]? = some c) (ek:know[i]? = some Ks) (ed:ds[i]? = some d) (en:ns[i]? = some N) (D:List Int) (hD:D.length = c.claims.length) :
  AnsC s.g.Q (a3j s.g.Q (a0e s c.need c.claims Ks).1 D N Ks) c.claims.length (a0e s c.need c.claims Ks).1 D N Ks ∧ d.length = c.claims.length:=by
 have hgc:a0z s c = true ∧ c.claims.all (a1q s) = true:=by
  unfold a1p at hgm
  simp only [bA] at hgm
  have hm:=List.mem_of_getElem? eg
  exact ⟨List.all_eq_true.1 hgm.1.2 _ hm,List.all_eq_true.1 hgm.2 _ hm⟩
 unfold a3a at hft
 simp only [bA,dE] at hft
 unfold a0u at hsm
 simp only [bA,dE] at hsm
 have hf:=a5o hft.2 eg ek
 have hs:=a3d hsm.2 eg ed en
 have hs1:=hs.1
 simp only [a2z,a0g,bA,dE] at hs1
 have h16:=hgc.1
 simp only [a0z,bA,dE] at h16
 have hvars:∀ (k:Nat) (z:List Int) (x:Clm),N[k]? = some z → c.claims[k]? = some x → (z.length:Int) = x.vars ∧ x.vars ≤ 120:=fun k z x h1 h2=>by
  have h3:=a8a hs.2 h2 h1
  simp only [a0g,bA,dE] at h3
  have h4:=List.all_eq_true.1 hgc.2 x (List.mem_of_getElem? h2)
  simp only [a1q,bA,dE] at h4
  exact ⟨h3.1,h4.1.1.1.2⟩
 refine ⟨⟨rfl,a3y s c.claims Ks c.need hf.1,hD,hs1.2,hf.1,by omega,fun k u z h1 h2 h3=>?_,fun k z h=>?_⟩,by omega⟩
 ·have hlt:=(gS h3).1
  have ex:c.claims[k]? = some c.claims[k]:=gE (by omega)
  have h4:=b6m hf.2 ex h2
  have h5:=b4v h1 h2
  simp only [c8e,h5,Bool.not_true,Bool.false_or,a0g,bA,dE] at h4
  have h6:=(hvars k z _ h3 ex).1
  omega
 ·have hlt:=(gS h).1
  have ex:c.claims[k]? = some c.claims[k]:=gE (by omega)
  have h6:=hvars k z _ h ex
  omega
def PoJ (P:L2 × L3) (B b:Nat) (W1:World) (n:Nat) (vs:List Value) (W:World):Prop:=Bw W1 W ∧ B ≤ W.heap.size ∧ ∃ (u0 u1 u2 u3 u4:Value) (i:Nat),vs = [u0,u1,u2,u3,u4,.int .i64 (i:Int)] ∧ i ≤ n ∧ OutQ B b 34 a5n W (P.1.take i) (P.2.take i)
def g3n (n:Nat) (vs:List Value) (_:World):Nat:=match vs with | [_,_,_,_,_,.int _ i]=>n - i.toNat | _=>0
theorem a6g {S:Nat → Prop} (h:Bw w0 W) (hf:Fr S W W') (hS:∀ j,S j → w0.heap.size ≤ j):Bw w0 W':=
 ⟨hf.os.trans h.os,hf.tape.trans h.tape,hf.output.trans h.output,Nat.le_trans h.size hf.size,fun j hj=>(hf.block j (lL hj h.size) (fun e=>by have:=hS j e; omega)).trans (h.block j hj)⟩
set_option maxHeartbeats 2000000 in
theorem d2k (s:Stp) {ad nad dad kad:Option Addr} {c nc dc kc b1 b2 b12 gb r1 r2 Dd:Nat} {ns:L3} {ds:L2} {goal:List Cls} {know:List (List Knw)} {r:Int} {l79:List Value} {pa pb:Value} {e0:Int}
  (hs:SetR w s (.slice ad s.bases.length c))
  (hk:Kn w (cellsOf (cellsOf (cellsOf [] b1 0 (a2r s (.slice ad s.bases.length c))) b2 0 (a5n (.slice nad ns.length nc) (.slice dad ds.length dc))) b12 0 [.slice (some ⟨gb,0,none⟩) goal.length goal.length]) W1)
  (hR:Res2 W1 r1 r2 pa pb e0) (hr1:w.heap.size ≤ r1) (hr2:w.heap.size ≤ r2) (hDd:W1.heap[Dd]? = some (.deferred (some []))) (hwD:w.heap.size ≤ Dd)
  (hn:a2j w (.slice nad ns.length nc) ns) (hd:a0s w (.slice dad ds.length dc) ds) (hkn:a5v w (.slice kad know.length kc) know) (hbr:b0i W1 (.slice (some ⟨gb,0,none⟩) goal.length goal.length) (a0h s goal know).1)
  (hgm:a1p s goal = true) (hft:a3a s goal know = true) (hsm:a0u s goal ds ns = true) (hrI:I64 r) (hb1:W1.heap.size ≤ b) (hbB:b < B)
  (hJ:PoJ (a1r s r (a0h s goal know).1 ds ns know) B b W1 goal.length l79 W)
  (k:∀ w' pv av,Bw w w' → a0s w' pv (a1r s r (a0h s goal know).1 ds ns know).1 → a2j w' av (a1r s r (a0h s goal know).1 ds ns know).2 → K (.tuple #[b5m pv av,.int .i64 0]) w') :
  b4k Dd (PoJ (a1r s r (a0h s goal know).1 ds ns know) B b W1 goal.length) K (.slice kad know.length kc) l79 (g3n goal.length) (ptr r1 0) (ptr r2 0) (ptr b12 0) (ptr b 0) (ptr b1 0) (.int .i64 r) (.int .i64 goal.length) (ptr b2 0) W:=by
 obtain ⟨hb,hBW,u0,u1,u2,u3,u4,i,rfl,hi,hQ⟩:=hJ
 have hgm':=hgm
 unfold a1p at hgm'
 simp only [bA,dE] at hgm'
 have hft':=hft
 unfold a3a at hft'
 simp only [bA,dE] at hft'
 have hsm':=hsm
 unfold a0u at hsm'
 simp only [bA,dE] at hsm'
 have hcl:=a4k (s:=s) hft'.1
 have hpl:=b4r (s:=s) (r:=r) (bs:=(a0h s goal know).1) (ds:=ds) (ns:=ns) (ks:=know) (by omega) (by omega) (by omega)
 have hkW:=hk.next hb
 unfold b4k
 by_cases hin:i = goal.length
 ·subst hin
  rw [List.take_of_length_le (by omega),List.take_of_length_le (by omega)] at hQ
  generalize a1r s r (a0h s goal know).1 ds ns know = P at *
  obtain ⟨dv,av,D,h1,h2,h3,h4,h5,h6,h7⟩:=hQ.ex
  have h2':=h2
  have h3':=h3
  obtain ⟨xad,xc,rfl⟩:=h2.isSlice
  obtain ⟨yad,yc,rfl⟩:=h3.isSlice
  refine b5k ?_
  refine e9a h1 ?_
  refine (hR.next hb).set (e':=0) (fun W3 hf3 hR3=>?_)
  have hs1:=hR.p.lt
  have hs2:=hR.e.lt
  have hdlt:=(Array.getElem?_eq_some_iff.1 hDd).1
  have hD3:W3.heap[Dd]? = some (.deferred (some [])):=by
   rw [hf3.block Dd (lL hdlt hb.size) ?_,hb.block Dd hdlt]
   ·exact hDd
   ·rintro (rfl | rfl)
    ·have:=hR.p; unfold Holds at this; rw [hDd] at this; cases this
    ·have:=hR.e; unfold Holds at this; rw [hDd] at this; cases this
  have hf4:=a9m (B:=w.heap.size) (.deferred none) hwD hD3 rfl
  refine ⟨hD3,(hR3.own hf4).ret (K:=K) ?_⟩
  have hS4:∀ j,B ≤ j → ¬ (j = r1 ∨ j = r2):=by rintro j hj (rfl | rfl) <;> omega
  have hf5:Fr (fun j=>j = Dd) W3 (W3.putObj Dd (.deferred none)):=Fr.of_by (grownBy_putObj' W3 Dd _)
  have hsz:=hf3.size
  have g2:=(h2'.keep hf3 (fun j hj=>⟨(h4 j hj).1,hS4 j (h7 j hj)⟩) (fun j hj=>hS4 j (h2'.own hj).2)).keep hf5 (fun j hj=>⟨by have:=(h4 j hj).1; omega,fun e=>by have:=h7 j hj; omega⟩) (fun j hj e=>by have:=(h2'.own hj).2; omega)
  have g3:=(h3'.keep hf3 (fun j hj=>⟨(h5 j hj).1,hS4 j (h7 j hj)⟩) (fun j hj=>hS4 j (h3'.own hj).2)).keep hf5 (fun j hj=>⟨by have:=(h5 j hj).1; omega,fun e=>by have:=h7 j hj; omega⟩) (fun j hj e=>by have:=(h3'.own hj).2; omega)
  exact k _ _ _ (a6g (a6g hkW.below hf3 (by rintro j (rfl | rfl) <;> assumption)) hf5 (by rintro j rfl; exact hwD)) (g2.srow (by decide) (by omega)) (g3.srow (by decide) (by omega))
 have eg:goal[i]? = some goal[i]:=gE (by omega)
 have ek:know[i]? = some know[i]:=gE (by omega)
 have ed:ds[i]? = some ds[i]:=gE (by omega)
 have en:ns[i]? = some ns[i]:=gE (by omega)
 have eb:=a4n (s:=s) eg ek
 have hP:=b8g (s:=s) (r:=r) eb ed en ek
 have hlF:(a1y s.g.Q (a0e s goal[i].need goal[i].claims know[i]).1 ds[i] r).length = (a0e s goal[i].need goal[i].claims know[i]).1.length:=by simp [a1y]
 have hcln:=a3y s goal[i].claims know[i] goal[i].need (a5o hft'.2 eg ek).1
 obtain ⟨hA,hdl⟩:=c3o hgm hft hsm eg ek ed en (a1y s.g.Q (a0e s goal[i].need goal[i].claims know[i]).1 ds[i] r) (by rw [hlF,hcln])
 obtain ⟨bb,ob,ebb,hltb,csb,_,hcellb,vb,rfl,hrowb⟩:=hbr.at (i:=i) (by omega)
 cases ebb
 obtain ⟨bd,od,rfl,hltd,csd,_,hcelld,vd,rfl,hrowd⟩:=hd.at (i:=i) (by omega)
 have e3:(a0h s goal know).1[i]'(by omega) = (a0e s goal[i].need goal[i].claims know[i]).1:=(gS eb).2
 rw [e3] at hrowb
 generalize hBs:(a0e s goal[i].need goal[i].claims know[i]).1 = Bs at *
 generalize hFs:a1y s.g.Q Bs ds[i] r = F at *
 generalize ds[i] = d at *
 generalize ns[i] = N at *
 generalize know[i] = Ks at *
 generalize goal[i] = cl at *
 have hFI:∀ x ∈ F,I64 x:=by rw [← hFs]; exact c2r _ _ _ _
 have hmax:=hA.max
 have hFl:=hA.ld
 obtain ⟨bad2,bc2,rfl⟩:=hrowb.isSlice
 obtain ⟨dad2,dc2,rfl⟩:=hrowd.isSlice
 have cb:=hcellb 0 _ rfl
 have cd:=hcelld 0 _ rfl
 simp only [Nat.add_zero,Nat.mul_one,Nat.zero_add] at cb cd
 have hiB:(i:Int) < goal.length:=by omega
 have hiD:(i:Int) < ds.length:=by omega
 refine Xa0 ?_
 unfold c0m
 have hb9:Below W.heap.size W { W with drawn:=W.drawn + 1 }:=.drawn
 have hk9:=hkW.next hb9
 have hbb9:=hb.on hb9
 refine ⟨Nx { W with drawn:=W.drawn + 1 },bR,rfl,?_⟩
 have hsz9:({ W with drawn:=W.drawn + 1 }:World).heap.size = W.heap.size:=rfl
 generalize ({ W with drawn:=W.drawn + 1 }:World) = W9 at hk9 hb9 hbb9 hsz9 ⊢
 refine Xf (fun W0 hW0=>An3 ((hk9.next hW0).cells) (((hbb9.on hW0).cell hltb).trans cb) (((hk9.next hW0).below.cell hltd).trans cd)) (An2 @hiB @hiD) ?_
 refine ⟨Nx,fun w10 h10=>?_⟩
 have hk10:=hk9.next h10
 have hb10:=hbb9.on h10
 refine d3r s Bs d r (hs.next hk10.below) (hrowb.next (a0b a3m) hb10) (hrowd.next hk10.below) hrI (by have:=hA.lb; omega) (by have:=hA.lb; omega) (fun v11 W2 h11 ho11=>?_)
 rw [hFs] at ho11
 obtain ⟨xad,xc,rfl⟩:=a2m ho11
 have hk2:=hk10.next h11
 have hb2:=hb10.on h11
 have hW2:Bw W W2:=(hb9.on h10).on h11
 have hx2:Ints W2 (.slice xad F.length xc) F:=ho11.ints hFI (by omega)
 refine a9i ?_
 rw [hFl] at hx2 ho11 ⊢
 refine d1s (by omega) (fun gg W3 h3 hgg hO=>?_)
 refine Xa0 ?_
 refine ⟨PiJ (a3j s.g.Q Bs F N Ks) cl.claims.length gg W2,g6d cl.claims.length,⟨h3,_,_,0,rfl,by omega,by unfold d3e; simpa using hO⟩,?_⟩
 intro l100 u100 W4 hJ4
 refine d1u s hk2 hn hkn (hbr.next (a0b a6y) hb2) hcl hx2 hA en ek eb hgg hJ4 (fun l W5 hb5 hO5=>?_)
 have hlA:(a3j s.g.Q Bs F N Ks).length = cl.claims.length:=by
  rw [a4m (by rw [hA.ld,hA.lb]) (by rw [hA.ln,hA.lb]) (by rw [hA.lk,hA.lb]),hA.lb]
 have hO5f:=hO5.fp (by omega)
 rw [hlA] at hO5f
 refine d1t (x:=F) (y:=a3j s.g.Q Bs F N Ks) hQ (hW2.on hb5) hBW (by omega) ?_ (hO5f.mono (fun j hj=>⟨by have:=hW2.size; omega,hj.2⟩)) ?_ ?_ (fun W6 vs hf6 hs6 hQ6 hvs=>?_)
 ·have ho:=ho11.keep hb5
  have:=(ho.ints hFI (by omega)).fp
  refine FP.mono (this) (fun j hj=>⟨?_,hj.2⟩)
  have:=(a0d ho (a7m ho hj.1)).2.1
  have:=h10.size
  omega
 ·rw [List.length_take]; omega
 ·rw [List.length_take]; omega
 ·obtain ⟨a0,a1,a2,a3,a4,rfl⟩:=hvs
  rw [a2i hP.1,a2i hP.2] at hQ6
  refine ⟨⟨a6g ((hb.on hW2).on hb5) hf6 (by rintro j (rfl | h) <;> omega),by have:=hf6.size; have:=hb5.size; have:=hW2.size; omega,_,_,_,_,_,i + 1,rfl,by omega,hQ6⟩,by show goal.length - (((i + 1:Nat):Int)).toNat < goal.length - ((i:Nat):Int).toNat; omega⟩
def g8h {goal:List Cls} (x:Itm goal w) (l:List Value) (W:World):Prop:=∃ p,l = [.pointer (some ⟨p,0,none⟩)] ∧ a0n W (cellsOf [] p 0 [.int .i64 x.i,.int .i64 x.k])
theorem g0v (w:World):(Instr.alloc 120 true (.tuple #[])).run Tryz.prog w = .ok (.pointer (some ⟨w.heap.size,0,none⟩)) (w.alloc (.cells [.slice none 0 0].toArray 120)):=by kernel_rfl
theorem g0w (w:World):(sizeOf 120).run Tryz.prog w = .ok 1 w:=by kernel_rfl
theorem b8h {s:Stp} {goal:List Cls} {know:List (List Knw)} {gb:Nat} (hgm:a1p s goal = true) (hft:a3a s goal know = true) (hO5:OutB W B gb (a0h s goal know).1):b0i W (.slice (some ⟨gb,0,none⟩) goal.length goal.length) (a0h s goal know).1:=by
 have hft':=hft
 unfold a3a at hft'
 simp only [bA,dE] at hft'
 have hgm':=hgm
 unfold a1p at hgm'
 simp only [bA,dE] at hgm'
 have hcl:=a4k (s:=s) hft'.1
 have:=hO5.rows (by omega) (fun r hr=>by
  obtain ⟨j,hj⟩:=List.getElem?_of_mem hr
  have hjl:=(gS hj).1
  have e1:goal[j]? = some goal[j]:=gE (by omega)
  have e2:know[j]? = some know[j]:=gE (by omega)
  have e3:=a4n (s:=s) e1 e2
  rw [hj] at e3
  rw [oI e3,a3y s _ _ _ (a5o hft'.2 e1 e2).1]
  have:=List.all_eq_true.1 hgm'.1.2 _ (List.getElem_mem (by omega:j < goal.length))
  simp only [a0z,bA,dE] at this
  omega)
 rwa [hcl] at this
theorem d9h {r1 r2:Nat} {a b:Value} {e:Int} (hR:Res2 W r1 r2 a b e) (hf:Fr (fun j=>j = r1 ∨ j = r2) W W'):KeepsFrom B W W':=⟨hf.size,fun k o _ hk ho=>by
 rw [hf.block k (Array.getElem?_eq_some_iff.1 hk).1 (fun e=>by
  rcases e with rfl | rfl
  ·have:=hR.p; unfold Holds at this; rw [hk] at this; cases this; cases ho
  ·have:=hR.e; unfold Holds at this; rw [hk] at this; cases this; cases ho)]
 exact hk⟩
set_option maxHeartbeats 4000000 in
theorem c3p (s:Stp) (goal:List Cls) (ctx:a5e) (know:List (List Knw)) (ns:L3) (ds:L2) {sv gv kv nv dv:Value} (hs:SetR w s sv) (hg:a4f w gv goal) (hk0:a5v w kv know) (hn:a2j w nv ns) (hd:a0s w dv ds) (hl:Cd.Laid w)
  (hN:(a6r goal).length ≤ 1000000) (hctx:ctx.length ≤ 1000000)
  (k:∀ w' pv av,Bw w w' → a0s w' pv (a1m s goal ctx know ns ds).1.1 → a2j w' av (a1m s goal ctx know ns ds).1.2 → K (.tuple #[b5m pv av,.int .i64 (a1m s goal ctx know ns ds).2]) w'):a0a Tryz.prog 18 #[a6b s sv,gv,.string ⟨ctx.toArray⟩,kv,b5m nv dv] K w:=by
 apply d6i
 unfold f0p
 have hs':=hs
 have hg':=hg
 have hd':=hd
 have hn':=hn
 have hk0':=hk0
 obtain ⟨ad,c,rfl⟩:=hs.ints.isSlice
 obtain ⟨gad,gc,rfl⟩:=hg.isSlice
 obtain ⟨dad,dc,rfl⟩:=hd.isSlice
 obtain ⟨nad,nc,rfl⟩:=hn.isSlice
 obtain ⟨kad,kc,rfl⟩:=hk0.isSlice
 have hlg:=hg.len
 refine a0l (cs:=a2r s (.slice ad s.bases.length c)) rfl (.start w) fun b1 W hk hb1 hbb=>?_
 refine a0l (cs:=a5n (.slice nad ns.length nc) (.slice dad ds.length dc)) rfl hk fun b2 W hk hb2 hbb2=>?_
 refine a1d c5r (fun r1 W3 h3 hr1 hh1=>?_)
 have hk:=hk.next h3
 refine a1d f8g (fun r2 W4 h4 hr2 hh2=>?_)
 have hr1w:w.heap.size ≤ r1:=by have:=hb1.size; have:=hb2.size; omega
 have hr2w:w.heap.size ≤ r2:=by have:=hb1.size; have:=hb2.size; have:=h3.size; omega
 have hk:=hk.next h4
 have hR:Res2 W4 r1 r2 (.slice none 0 0) (.slice none 0 0) 0:=⟨hh1.next h4,hh2,by have:=hh1.lt; omega⟩
 clear hb1 hb2 hbb hbb2 h3 h4 hr1 hr2 hh1 hh2
 have no:∀ (e:Int) (W:World) {T1 T2:TypeId},a1m s goal ctx know ns ds = (([],[]),e) → Bw w W → Res2 W r1 r2 (.slice none 0 0) (.slice none 0 0) 0 →
   oM Tryz.prog (.store 34 (.tmp 0) (.tmp 1)) T1 [ptr r1 0,.agg #[.slice none 0 0,.slice none 0 0]] (fun _ w=>oM Tryz.prog (.store 39 (.tmp 0) (.tmp 1)) T2 [ptr r2 0,.int .i64 e] (fun _ w=>
    ∃ r,(do loadVar 34 (← asAddr (ptr r1 0)):Sem Value).run Tryz.prog w = .ok r w ∧ ∃ r',(do loadVar 39 (← asAddr (ptr r2 0)):Sem Value).run Tryz.prog w = .ok r' w ∧ K (.tuple #[r,r']) w) w) W:=by
  intro e W T1 T2 he hb hR
  refine hR.set (fun W' hf hR'=>hR'.ret (K:=K) ?_)
  have:=k W' _ _ (a6g hb hf (by rintro j (rfl | rfl) <;> assumption)) (by rw [he]; exact SRow.nil) (by rw [he]; exact SRow.nil)
  rwa [he] at this
 refine Xa hk.cells ?_
 refine a9o s (hs'.next hk.below) (hg'.next (a0b a0i) hk.below) (fun w2 h2=>?_)
 have hk:=hk.next h2
 have hR:=hR.next h2
 cases hgm:a1p s goal with
 | false=>
  refine Xa0 ?_
  exact no 1 _ (by simp [a1m,hgm]) hk.below hR
 | true=>
 refine Xa hk.cells ?_
 refine d3n s (hs'.next hk.below) (hg'.next (a0b a0i) hk.below) (hk0'.next (a0b a0w) hk.below) (fun w3 h3=>?_)
 have hk:=hk.next h3
 have hR:=hR.next h3
 cases hft:a3a s goal know with
 | false=>
  refine Xa0 ?_
  exact no 1 _ (by simp [a1m,hft]) hk.below hR
 | true=>
 refine Xa hk.cells ?_
 refine c4r s (hs'.next hk.below) (hg'.next (a0b a0i) hk.below) (hd'.next (a0b a0k) hk.below) (hn'.next (a0b a0f) hk.below) (fun w4 h4=>?_)
 have hk:=hk.next h4
 have hR:=hR.next h4
 cases hsm:a0u s goal ds ns with
 | false=>
  refine Xa0 ?_
  exact no 1 _ (by simp [a1m,hsm]) hk.below hR
 | true=>
 refine Xa hk.cells ?_
 refine c4x s (hs'.next hk.below) (hg'.next (a0b a0i) hk.below) (hk0'.next (a0b a0w) hk.below) hgm hft (fun gb B w5 h5 hB5 hO5=>?_)
 have hk:=hk.next h5
 have hR:=hR.next h5
 have hft':=hft
 unfold a3a at hft'
 simp only [bA,dE] at hft'
 have hsm':=hsm
 unfold a0u at hsm'
 simp only [bA,dE] at hsm'
 have hgm':=hgm
 unfold a1p at hgm'
 simp only [bA,dE] at hgm'
 have hcl:=a4k (s:=s) hft'.1
 have hbr:=b8h hgm hft hO5
 clear hO5
 refine b5k ?_
 refine a5r g0v rfl g0w rfl rfl (b7f (some ⟨gb,0,none⟩) goal.length goal.length) hk (fun b12 w6 hk h6 hb12=>?_)
 have hR:=hR.next h6
 have hbr:=hbr.next (a0b a6y) h6
 cases hch:(a0h s goal know).2 with
 | false=>
  refine Xa0 ?_
  exact no 13 _ (by simp [a1m,hgm,hft,hsm,hch]) hk.below hR
 | true=>
 refine Xa0 ?_
 refine a9n (hg'.next (a0b a0i) hk.below) (fun cb W2 hb2 hcb hlt hcell=>?_)
 have hk2:=hk.next hb2
 have hR2:=hR.next hb2
 have hw6:w.heap.size ≤ W2.heap.size:=hk2.below.size
 refine a5t (w:=w) hg' hk2.below hlt hcell
  (fun pre W=>Kn w (cellsOf (cellsOf (cellsOf [] b1 0 (a2r s (.slice ad s.bases.length c))) b2 0 (a5n (.slice nad ns.length nc) (.slice dad ds.length dc))) b12 0 [.slice (some ⟨gb,0,none⟩) goal.length goal.length]) W ∧ Bw w6 W ∧ Res2 W r1 r2 (.slice none 0 0) (.slice none 0 0) 0 ∧
   ∀ x ∈ pre,∀ b d,(a0h s goal know).1[x.i]? = some b → ds[x.i]? = some d → ∀ bb dd,b[x.k]? = some bb → d[x.k]? = some dd → bb = true → dd = 0)
  (fun pre W=>Bw w W ∧ Res2 W r1 r2 (.slice none 0 0) (.slice none 0 0) 3 ∧ a9g (a0h s goal know).1 ds = false)
  g8h
  (fun pre W W' h hf=>⟨e8w h.1 hw6 hf,a1z h.2.1 hb2.size hf,h.2.2.1.own hf,h.2.2.2⟩)
  (fun pre W W' h hf=>⟨a1z h.1 hw6 hf,h.2.1.own hf,h.2.2⟩)
  (fun x l W W' h hf=>by obtain ⟨p,e,h⟩:=h; exact ⟨p,e,a7v h hf⟩)
  ⟨hk2,hb2,hR2,fun x hx=>by cases hx⟩ ?_ ?_ ?_ ?_
 ·rintro pre x W ⟨hkp,hbp,hRp,hp⟩
  try dsimp only
  rw [g3g]
  refine b2p _ _ (.start W) (fun p W1 hk1 hb1 hgp=>?_)
  exact ⟨a0y hb1,hb1.mono hkp.below.size,⟨hkp.next hb1,hbp.on hb1,hRp.next hb1,hp⟩,p,rfl,hk1.cells⟩
 ·rintro pre x l u W ⟨hkp,hbp,hRp,hp⟩ ⟨p,rfl,hm⟩ hlen
  have hxi:=(gS x.hi).1
  have hxk:=(gS x.hk).1
  have ek:know[x.i]? = some know[x.i]:=gE (by omega)
  have ed:ds[x.i]? = some ds[x.i]:=gE (by omega)
  have en:ns[x.i]? = some ns[x.i]:=gE (by omega)
  have eb:=a4n (s:=s) x.hi ek
  have hbl:=a3y s _ _ (x.cl).need (a5o hft'.2 x.hi ek).1
  have hsh:=(a3d hsm'.2 x.hi ed en).1
  simp only [a2z,a0g,bA,dE] at hsh
  obtain ⟨bb,ob,ebb,hltb,csb,_,hcellb,vb,rfl,hrowb⟩:=hbr.at (i:=x.i) (by omega)
  cases ebb
  obtain ⟨bd,od,rfl,hltd,csd,_,hcelld,vd,rfl,hrowd⟩:=hd'.at (i:=x.i) (by omega)
  have e3:(a0h s goal know).1[x.i]'(by omega) = (a0e s x.cl.need x.cl.claims know[x.i]).1:=(gS eb).2
  rw [e3] at hrowb
  generalize (a0e s x.cl.need x.cl.claims know[x.i]).1 = Bs at *
  generalize ds[x.i] = dd at *
  have hkB:x.k < Bs.length:=by omega
  have hkD:x.k < dd.length:=by omega
  obtain ⟨bad2,bc2,rfl⟩:=hrowb.isSlice
  obtain ⟨dad2,dc2,rfl⟩:=hrowd.isSlice
  have cb:=hcellb 0 _ rfl
  have cd:=hcelld 0 _ rfl
  have ebk:Bs[x.k]? = some Bs[x.k]:=gE hkB
  have edk:dd[x.k]? = some dd[x.k]:=gE hkD
  obtain ⟨bt,ot,rfl,hltt,cst,_,hcellt,vt,rfl,hvt⟩:=hrowb.at (i:=x.k) hkB
  obtain ⟨be,oe,rfl,hlte,celle,_,_⟩:=hrowd.at (i:=x.k) hkD
  have ct:=hcellt 0 _ rfl
  unfold b7j at hvt
  subst hvt
  simp only [Nat.add_zero,Nat.mul_one,Nat.zero_add] at cb cd ct
  generalize Bs[x.k] = bv at *
  generalize dd[x.k] = dv at *
  have hiB:(x.i:Int) < goal.length:=by omega
  have hiD:(x.i:Int) < ds.length:=by omega
  have hkB:(x.k:Int) < Bs.length:=by omega
  have hkD:(x.k:Int) < dd.length:=by omega
  unfold c0k
  have hk9:=hkp.drew
  have hb9:Below W.heap.size W { W with drawn:=W.drawn + 1 }:=.drawn
  have hm:=a0q hm (fun a ha=>hb9.cell ha)
  have hbp9:=hbp.on hb9
  have hRp9:=hRp.next hb9
  refine ⟨Nx { W with drawn:=W.drawn + 1 },bR,rfl,?_⟩
  generalize ({ W with drawn:=W.drawn + 1 }:World) = W9 at hk9 hb9 hm hbp9 hRp9 ⊢
  have fin:∀ w7,Nx W9 w7 → (bv = true → dv = 0) → KeepsFrom W2.heap.size W w7 ∧ Below w.heap.size W w7 → KeepsFrom W2.heap.size W w7 ∧ Below w.heap.size W w7 ∧ Kn w (cellsOf (cellsOf (cellsOf [] b1 0 (a2r s (.slice ad s.bases.length c))) b2 0 (a5n (.slice nad ns.length nc) (.slice (some ⟨bd,od,none⟩) ds.length dc))) b12 0 [.slice (some ⟨gb,0,none⟩) goal.length goal.length]) w7 ∧ Bw w6 w7 ∧ Res2 w7 r1 r2 (.slice none 0 0) (.slice none 0 0) 0 ∧
   ∀ y ∈ pre ++ [x],∀ b d,(a0h s goal know).1[y.i]? = some b → ds[y.i]? = some d → ∀ bb dd,b[y.k]? = some bb → d[y.k]? = some dd → bb = true → dd = 0:=by
   intro w7 h7 hz h0
   refine ⟨h0.1,h0.2,hk9.next h7,hbp9.on h7,hRp9.next h7,fun y hy=>?_⟩
   rcases List.mem_append.1 hy with hy | hy
   ·exact hp y hy
   ·rw [List.mem_singleton.1 hy]
    intro b d h1 h2 bb' dd' h3 h4 h5
    rw [eb] at h1
    rw [ed] at h2
    cases h1; cases h2
    rw [ebk] at h3
    rw [edk] at h4
    cases h3; cases h4
    exact hz h5
  cases bv with
  | false=>
   refine Xf (fun W0 hW0=>An6 ((hk9.next hW0).cells) (a0q hm (fun a ha=>hW0.cell ha)) (((hbp9.on hW0).cell hltb).trans cb) (((hbp9.on hW0).cell hltt).trans ct) (((hk9.next hW0).below.cell hltd).trans cd) (celle _ (hk9.next hW0).below)) (An4 @hiB @hiD @hkB @hkD) ?_
   refine ⟨Nx,fun w7 h7=>?_⟩
   refine Xa0 ?_
   exact fin w7 h7 (fun e=>by cases e) ⟨a0y (hb9.on h7),(hb9.on h7).mono hkp.below.size⟩
  | true=>
   by_cases hz:dv = 0
   ·refine Xf (fun W0 hW0=>An6 ((hk9.next hW0).cells) (a0q hm (fun a ha=>hW0.cell ha)) (((hbp9.on hW0).cell hltb).trans cb) (((hbp9.on hW0).cell hltt).trans ct) (((hk9.next hW0).below.cell hltd).trans cd) (celle _ (hk9.next hW0).below)) (An4 @hiB @hiD @hkB @hkD) ?_
    refine ⟨Nx,fun w7 h7=>?_⟩
    refine Xa0 ?_
    exact fin w7 h7 (fun _=>hz) ⟨a0y (hb9.on h7),(hb9.on h7).mono hkp.below.size⟩
   ·refine Xf (fun W0 hW0=>An6 ((hk9.next hW0).cells) (a0q hm (fun a ha=>hW0.cell ha)) (((hbp9.on hW0).cell hltb).trans cb) (((hbp9.on hW0).cell hltt).trans ct) (((hk9.next hW0).below.cell hltd).trans cd) (celle _ (hk9.next hW0).below)) (An4 @hiB @hiD @hkB @hkD) ?_
    refine ⟨Nx,fun w7 h7=>?_⟩
    refine Xa0 ?_
    refine (hRp9.next h7).set (e':=3) (fun W8 hf8 hR8=>?_)
    refine ⟨(a0y (hb9.on h7)).trans (d9h (hRp9.next h7) hf8),a6g (hk9.next h7).below hf8 (by rintro j (rfl | rfl) <;> assumption),hR8,?_⟩
    rw [Bool.eq_false_iff]
    intro hzl
    exact hz (c3g (c3i hzl eb ed) ebk edk rfl)
 ·rintro D xs W hD hxs ⟨hk3,hb3,hR3,hp⟩ hh
  have hz:a9g (a0h s goal know).1 ds = true:=c3j (fun i b d h1 h2=>c3h (fun k' bb dd h3 h4 h5=>by
   have hil:=(gS h1).1
   have e1:goal[i]? = some goal[i]:=gE (by omega)
   have e2:know[i]? = some know[i]:=gE (by omega)
   have e3:=a4n (s:=s) e1 e2
   rw [h1] at e3
   cases e3
   have hkl:=(gS h3).1
   rw [a3y s _ _ _ (a5o hft'.2 e1 e2).1] at hkl
   have e4:goal[i].claims[k']? = some goal[i].claims[k']:=gE hkl
   have hm:=b0h e1 e4
   rw [← hxs,List.mem_map] at hm
   obtain ⟨y,hy,hye⟩:=hm
   simp only [Itm.at,Prod.mk.injEq] at hye
   obtain ⟨rfl,rfl,_⟩:=hye
   exact hp y hy _ _ h1 h2 _ _ h3 h4 h5))
  refine Xa hk3.cells ?_
  refine d3m s goal ctx ds ns (hs'.next hk3.below) (hg'.next (a0b a0i) hk3.below) (hd'.next (a0b a0k) hk3.below) (hn'.next (a0b a0f) hk3.below) (hl.below hk3.below hl.size) hgm hsm hN hctx (fun w4 h4=>?_)
  have hk4:=hk3.next h4
  have hR4:=hR3.next h4
  have hb4:=hb3.on h4
  have hh4:w4.heap[D]? = some (.deferred (some [])):=(h4.block D (Array.getElem?_eq_some_iff.1 hh).1).trans hh
  refine a9i ?_
  refine a1d c5r (fun b16 w7 h7 hb16 hh7=>?_)
  refine a0x c0g (xs:=a5n (.slice none 0 0) (.slice none 0 0)) rfl rfl (a5f none none 0 0 0 0) hh7 rfl (fun w8 hg8 hh8=>?_)
  have h48:Bw w4 w8:=a0m h7 hg8 hb16
  have hrI:=b6f s goal ctx ds ns
  have hpr:a1m s goal ctx know ns ds = (a1r s (a8s s goal ctx ds ns) (a0h s goal know).1 ds ns know,0):=by simp [a1m,hgm,hft,hsm,hch,hz]
  rw [hpr] at k
  generalize a8s s goal ctx ds ns = r at *
  refine a9i ?_
  refine ⟨PoJ (a1r s r (a0h s goal know).1 ds ns know) w8.heap.size b16 w4 goal.length,g3n goal.length,⟨h48,rL,_,_,_,_,_,0,rfl,by omega,.start hh8.lt (by simpa using hh8)⟩,?_⟩
  intro l79 u79 W9 hJ
  exact d2k s hs' hk4 hR4 hr1w hr2w hh4 (Nat.le_trans hw6 hD) hn' hd' hk0' (hbr.next (a0b a6y) hb4) hgm hft hsm hrI hb16 hh8.lt hJ k
 ·rintro D pre W hD hpre ⟨hb3,hR3,hz⟩ hh
  have hf:=a9m (B:=W2.heap.size) (.deferred none) hD hh rfl
  refine ⟨hh,(hR3.own hf).ret (K:=K) ?_⟩
  have e:a1m s goal ctx know ns ds = (([],[]),3):=by simp [a1m,hgm,hft,hsm,hch,hz]
  have:=k _ (.slice none 0 0) (.slice none 0 0) (a1z hb3 hw6 hf) (by rw [e]; exact SRow.nil) (by rw [e]; exact SRow.nil)
  rwa [e] at this
theorem g8i {T:TypeId} (k:∀ ad c W,Bw w W → b0x w.heap.size (fun _=>False) W (.slice ad 0 c) [] → K (.slice ad 0 c) W):oM Tryz.prog (.buildSlice 30 0 #[]) T [] K w:=by
 rw [a5s]
 have e:(Instr.buildSlice 30 0 #[]).run Tryz.prog w = .ok (.slice (some ⟨w.heap.size,0,none⟩) 0 0) (w.alloc (.cells #[] 24)):=by kernel_rfl
 rw [e]
 refine k _ _ _ ((Below.refl _ w).alloc (rL) _) ⟨[],⟨rfl,.inr ⟨_,0,#[],rfl,rL,heap_alloc_new w _,rL,by decide,rfl,rfl⟩⟩,fun _ _ _ _ _ _=>⟨rfl,fun _ _ _ h=>by simp at h⟩⟩
structure ExI (B:Nat) (dv nv:Value) (D:Nat → Prop) (W:World) (dr:List Int) (nl:L2):Prop where
 d:OwnI W B dv dr
 n:b0x B D W nv nl
 od:Off D W dv
 on:Off D W nv
 ap:apart dv nv
 low:∀ j,D j → B ≤ j
section
variable {dv nv:Value} {D E:Nat → Prop} {dr:List Int} {nl:L2}
theorem ExI.next (h:ExI B dv nv D W dr nl) (hb:Bw W W'):ExI B dv nv D W' dr nl:=
 ⟨h.d.keep hb,h.n.next hb (fun j hj=>(h.on j hj).1),h.od.next hb.size,h.on.next hb.size,h.ap,h.low⟩
theorem ExI.setd {ad:Option Addr} {c k:Nat} {x:Int} {T:TypeId} {b o:Nat} (h:ExI B (.slice ad dr.length c) nv D W dr nl) (hk:k < dr.length) (had:ad = some ⟨b,o,none⟩)
  (kk:∀ W',W.grownBy W' (some b) → B ≤ b → b < W.heap.size → ¬ D b → ExI B (.slice ad dr.length c) nv D W' (dr.set k x) nl → K undef W') :
  oM Tryz.prog (.store 3 (.tmp 0) (.tmp 1)) T [.pointer (some ⟨b,o + k,none⟩),.int .i64 x] K W:=by
 have hne:dr ≠ []:=by intro e; rw [e] at hk; simp at hk
 obtain ⟨g,e,hR⟩:=RowP.of h.d hne
 rw [had] at e
 cases e
 have hgl:=hR.lt
 rw [Nat.zero_add]
 have hDg:¬ D b:=fun hj=>(h.od b hj).2 (by rw [had]; rfl)
 refine hR.set hk (fun W2 hg2 hR2=>kk W2 hg2 hR.base hgl hDg ?_)
 have ho:=hR2.owns
 rw [List.length_set] at ho
 subst had
 exact ⟨ho,h.n.keep (Fr.of_by hg2) (fun j hj=>⟨(h.on j hj).1,fun e=>hDg (by rw [← e]; exact hj)⟩) (fun j hj e=>h.ap b rfl (by rw [← e]; exact hj)),h.od.next hg2.size,h.on.next hg2.size,h.ap,h.low⟩
theorem ExI.push {T:TypeId} {gb gc m c:Nat} {ad:Option Addr} {x:List Int} (h:ExI B dv nv D W dr nl) (hB:B ≤ W.heap.size) (hh:Holds W gb 24 [.slice ad m c]) (hx:FP E W (fun w=>Ints w (.slice ad m c) x)) (hE:∀ i,E i → B ≤ i ∧ i < W.heap.size ∧ dv.ownBlock ≠ some i ∧ nv.ownBlock ≠ some i) (hl:nl.length < 1099511627776)
  (k:∀ v W',W.grownBy W' nv.ownBlock → (∀ j,nv.ownBlock = some j → B ≤ j) → ExI B dv v (fun i=>D i ∨ E i) W' dr (nl ++ [x]) → K v W'):oM Tryz.prog (.call { callee:=.builtin .append,args:=#[.tmp 0,.tmp 1],argTypes:=#[30,30] }) T [nv,.slice (some ⟨gb,0,none⟩) 1 gc] K W:=by
 have hD':Off (fun i=>D i ∨ E i) W nv:=fun i hi=>hi.elim (h.on i) (fun hi=>⟨(hE i hi).2.1,(hE i hi).2.2.2⟩)
 have hD2:Off (fun i=>D i ∨ E i) W dv:=fun i hi=>hi.elim (h.od i) (fun hi=>⟨(hE i hi).2.1,(hE i hi).2.2.1⟩)
 refine b1p (h.n.mono fun i hi=>.inl hi) hB hh (hx.mono fun i hi=>.inr hi) hD' hl (fun v w' hg hb hv ho=>k v w' hb (fun j hj=>(h.n.own hj).2) ⟨a3r h.d (fun i hi=>hb.block i (a0d h.d hi).1 (fun e=>h.ap i hi (by first | exact e | exact e.symm))),hg,hD2.next hb.size,ho,?_,?_⟩)
 ·intro i e1 e2
  rcases hv i e2 with h1 | h1
  ·exact h.ap i e1 h1
  ·have:=(a0d h.d e1).1; omega
 ·rintro i (hi | hi)
  ·exact h.low i hi
  ·exact (hE i hi).1
end
theorem c6j {J:List Value → World → Prop} {m:List Value → World → Nat} {wl:World} {u0 u1 u2 u3 u4 v0 v1 v3:Value} {dl:L2} {al:L3} {x:List Int} {y:L2} {xad yad:Option Addr} {nx cx ny cy:Nat}
  (hQ:OutQ B b 32 (fun d a=>a5n a d) We dl al) (hb:Bw We W) (hB:B ≤ We.heap.size) (hi:i < 100000)
  (hx:FP (fun j=>We.heap.size ≤ j ∧ j < W.heap.size) W (fun w=>Ints w (.slice xad nx cx) x)) (hy:FP (fun j=>We.heap.size ≤ j ∧ j < W.heap.size) W (fun w=>a0s w (.slice yad ny cy) y)) (hdl:dl.length < 1099511627776) (hal:al.length < 1099511627776)
  (k:∀ W' vs,Fr (fun j=>j = b ∨ B ≤ j) W W' → W.heap.size ≤ W'.heap.size → OutQ B b 32 (fun d a=>a5n a d) W' (dl ++ [x]) (al ++ [y]) → (∃ a0 a1 a2 a3 a4,vs = [a0,a1,a2,a3,a4,.int .i64 ((i + 1:Nat):Int)]) → J vs W' ∧ m vs W' < m [u0,u1,u2,u3,u4,.int .i64 (i:Int)] wl) :
  b0p J [u0,u1,u2,u3,u4,.int .i64 (i:Int)] [v0,v1,.slice yad ny cy,v3] m (ptr b 0) (.slice xad nx cx) wl W:=by
 unfold b0p
 have hbl:=hQ.lt
 have hwi:IntKind.i64.wrap ((i:Int) + 1) = ((i + 1:Nat):Int):=by rw [a0o _ (by omega) (by omega)]; rfl
 have hodr:Below W.heap.size W { W with drawn:=W.drawn + 1 }:=.drawn
 have hfd:Fr (fun j=>j = b ∨ B ≤ j) W { W with drawn:=W.drawn + 1 }:=Fr.of_below' hodr
 have hsz:W.heap.size = ({ W with drawn:=W.drawn + 1 }:World).heap.size:=rfl
 obtain ⟨dad,aad,dc,ac,D,hH,hduo,hDB,hdB,haB⟩:=hQ.duo (hb.on hodr) hB ((hx.next hodr (fun i hi=>hi.2))) ((hy.next hodr (fun i hi=>hi.2))) hdl hal
 generalize hW9:({ W with drawn:=W.drawn + 1 }:World) = W9 at *
 have hcell:∀ w',Fr (fun i=>(Value.slice dad dl.length dc).ownBlock = some i ∨ (Value.slice aad al.length ac).ownBlock = some i) W9 w' → Holds w' b 32 [.slice aad al.length ac,.slice dad dl.length dc]:=fun w' h=>hH.fr h (fun e=>by
  rcases e with e | e
  ·have:=hdB _ e; omega
  ·have:=haB _ e; omega)
 have hcellC:∀ w',c5q B D W9 (.slice dad dl.length dc) (.slice aad al.length ac) dl al w' → Holds w' b 32 [.slice aad al.length ac,.slice dad dl.length dc]:=fun w' h=>hcell w' h.1
 refine ⟨c5q B D W9 (.slice dad dl.length dc) (.slice aad al.length ac) dl al,by rw [hW9]; exact ⟨Fr.refl _ _,hduo.a,hduo.b⟩,rfl,?_⟩
 repeat (any_goals (first
 | (with_reducible refine pX ?_)
 | ((with_reducible refine e1q ?_); (with_reducible refine b5h ⟨_,rfl⟩ (fun W0 hW0=>by (refine oG (fun X Y=>?_)); simp [go_sem,(hcellC _ hW0).are]; (first | exact Y _ _ ⟨rfl,rfl⟩ | exact ⟨by omega,Y _ _ ⟨rfl,rfl⟩⟩)) ?_))))
 refine d0a hduo (i1:=1) (fun K' w h=>?_) (fun w v u hfr hA hB' hap'=>?_)
 ·refine Xa0 ?_
  exact h
 have hh10:=hcell w hfr
 obtain ⟨vad',vc',rfl⟩:=hA.1.isSlice
 obtain ⟨uad',uc',rfl⟩:=hB'.1.isSlice
 refine a3q (i:=1) a6e rfl rfl hh10 (by simp) (fun w11 hg11 hh11=>?_)
 refine a9i ?_
 refine a3q (i:=0) a6e rfl rfl hh11 (by simp) (fun w12 hg12 hh12=>?_)
 refine Xa0 ?_
 have hg13:=c5o hg11 hg12
 have hDb:∀ i,D i → i < w.heap.size ∧ ¬ i = b:=fun i hi=>⟨(hA.2.1 i hi).1,fun e=>by have:=hDB i hi; omega⟩
 refine k w12 _ ((hfd.trans hfr (fun i e=>.inl (.inr (e.elim (hdB i) (haB i))))).by hg13 (fun i e=>.inl (.inl (oI e).symm))) (by have:=hfr.size; have:=hg13.size; omega) ⟨⟨_,_,D,hh12,hA.1.keep (Fr.of_by hg13) hDb (fun i hi e=>by have:=(hA.1.own hi).2; omega),hB'.1.keep (Fr.of_by hg13) hDb (fun i hi e=>by have:=(hB'.1.own hi).2; omega),hA.2.1.next hg13.size,hB'.2.1.next hg13.size,hap',hDB⟩,hbl⟩ ⟨_,_,_,_,_,rfl⟩
end
section
variable {K:VK} {w w' w0 W W' We W1 W2:World} {L:List (Addr × Value)} {g n B b i:Nat} {row:Option Nat}
theorem d9i {T l:List Int} {i:Nat} {x:Int} (h:T.length = l.length) (hl:l[i]? = some x) (hx:T[i]? = some x):b7b T l (i + 1) = b7b T l i:=by
 have hi:=(gS hl).1
 rw [← c2q h hi hx]
 apply List.ext_getElem?
 intro j
 rw [List.getElem?_set]
 by_cases hij:i = j
 ·subst hij
  rw [if_pos rfl,if_pos (by rw [b6b h (by omega)]; exact hi),c7m h hi,hl]
 ·rw [if_neg hij]
def ExJ (Z d:List Int) (bk:L2) (n:Nat) (dv:Value) (W2:World) (vs:List Value) (W:World):Prop:=Bw W2 W ∧ ∃ (u0 u1 nv:Value) (k:Nat) (D:Nat → Prop),vs = [u0,u1,nv,.int .i64 (k:Int)] ∧ k ≤ n ∧ ExI W2.heap.size dv nv D W (b7b Z d k) (bk.take k)
def g6m (n:Nat) (vs:List Value) (_:World):Nat:=match vs with | [_,_,_,.int _ k]=>n - k.toNat | _=>0
theorem c6k (s:Stp) {J:List Value → World → Prop} {m:List Value → World → Nat} {wl:World} {l39:List Value} {u0 u1 u2 u3 u4:Value} {ad nad kad xad:Option Addr} {c nc kc xc b1 b2 gb mb:Nat} {dv:Value} {ns:L3} {know:List (List Knw)} {rows:List (List Bool)}
  {ans bk N:L2} {d:List Int} {Bs:List Bool} {Ks:List Knw}
  (hk:Kn w (cellsOf (cellsOf [] b1 0 (a2r s (.slice ad s.bases.length c))) b2 0 (a5n dv (.slice nad ns.length nc))) W2)
  (hn:a2j w (.slice nad ns.length nc) ns) (hkn:a5v w (.slice kad know.length kc) know) (hbr:b0i W2 (.slice (some ⟨gb,0,none⟩) mb mb) rows) (hmb:rows.length = mb)
  (hA:AnsC s.g.Q ans n Bs d N Ks) (hbk:bk = b0z s.g.Q Bs d N Ks) (hdr:∀ y ∈ d,0 ≤ y ∧ y < 9223372036854775808) (en:ns[i]? = some N) (ek:know[i]? = some Ks) (eb:rows[i]? = some Bs)
  (hJ:ExJ (zeroed Bs d) d bk n (.slice xad n xc) W2 l39 W)
  (hend:∀ v0 v1 nv v3 W D,Bw W2 W → ExI W2.heap.size (.slice xad n xc) nv D W (zeroed Bs d) bk → b0p J [u0,u1,u2,u3,u4,.int .i64 (i:Int)] [v0,v1,nv,v3] m (ptr b 0) (.slice xad n xc) wl W) :
  b4l J (ExJ (zeroed Bs d) d bk n (.slice xad n xc) W2) (.slice kad know.length kc) [u0,u1,u2,u3,u4,.int .i64 (i:Int)] l39 m (g6m n) (ptr b 0) (.slice (some ⟨gb,0,none⟩) mb mb) (.slice xad n xc) (.int .i64 n) (ptr b1 0) (ptr b2 0) wl W:=by
 obtain ⟨hb2,v0,v1,nv,k,D,rfl,hkn',hE⟩:=hJ
 have hmax:=hA.max
 have hbl:bk.length = n:=by rw [hbk,a7y (by rw [hA.ld,hA.lb]) (by rw [hA.ln,hA.lb]) (by rw [hA.lk,hA.lb]),hA.lb]
 have hzl:(zeroed Bs d).length = d.length:=by rw [a7z (by rw [hA.ld,hA.lb]),hA.lb,hA.ld]
 have hdl:=hA.ld
 unfold b4l
 by_cases hkn2:k = n
 ·subst hkn2
  refine Xa0 ?_
  rw [List.take_of_length_le (by omega)] at hE
  unfold b7b at hE
  rw [List.take_of_length_le (by omega),List.drop_of_length_le (by omega),List.append_nil] at hE
  exact hend _ _ _ _ _ _ hb2 hE
 have hkl:k < n:=by omega
 have hki:(k:Int) < n:=by omega
 have hkB0:k < Bs.length:=by have:=hA.lb; omega
 have hkD0:k < d.length:=by have:=hA.ld; omega
 have hkN0:k < N.length:=by have:=hA.ln; omega
 have hkK0:k < Ks.length:=by have:=hA.lk; omega
 have ebk:Bs[k]? = some Bs[k]:=gE hkB0
 have edk:d[k]? = some d[k]:=gE hkD0
 have enk:N[k]? = some N[k]:=gE hkN0
 have ekk:Ks[k]? = some Ks[k]:=gE hkK0
 have hans:=c3f (q:=s.g.Q) ebk edk enk ekk
 rw [← hbk] at hans
 have hzer:=b3f ebk edk
 have hdk:=hdr _ (List.getElem_mem hkD0)
 have hin:=(gS en).1
 have hik:=(gS ek).1
 have hib:=(gS eb).1
 have hiN:(i:Int) < ns.length:=by omega
 have hiK:(i:Int) < know.length:=by omega
 have hiB:(i:Int) < mb:=by omega
 have e1:ns[i] = N:=(gS en).2
 have e2:know[i] = Ks:=(gS ek).2
 have e3:rows[i] = Bs:=(gS eb).2
 obtain ⟨bn,on,rfl,hltn,csn,_,hcelln,vn,rfl,hrown⟩:=hn.at (i:=i) hin
 obtain ⟨bk',ok,rfl,hltk,csk,_,hcellk,vk,rfl,hrowk⟩:=hkn.at (i:=i) hik
 obtain ⟨bb,ob,ebb,hltb,csb,_,hcellb,vb,rfl,hrowb⟩:=hbr.at (i:=i) hib
 cases ebb
 rw [e1] at hrown
 rw [e2] at hrowk
 rw [e3] at hrowb
 obtain ⟨nad2,nc2,rfl⟩:=hrown.isSlice
 obtain ⟨kad2,kc2,rfl⟩:=hrowk.isSlice
 obtain ⟨bad2,bc2,rfl⟩:=hrowb.isSlice
 have cn:=hcelln 0 _ rfl
 have ck:=hcellk 0 _ rfl
 have cb:=hcellb 0 _ rfl
 have hNl:=hA.ln
 have hKl:=hA.lk
 have hBl:=hA.lb
 obtain ⟨bl,ol,rfl,hltl,csl,_,hcelll,vl,rfl,hrowl⟩:=hrown.at (i:=k) (by omega)
 obtain ⟨bu,ou,rfl,hltu,csu,_,hcellu,vu,rfl,hvu⟩:=hrowk.at (i:=k) (by omega)
 obtain ⟨bt,ot,rfl,hltt,cst,_,hcellt,vt,rfl,hvt⟩:=hrowb.at (i:=k) (by omega)
 have cl:=hcelll 0 _ rfl
 have cu:=hcellu 1 _ rfl
 have ct:=hcellt 0 _ rfl
 simp only [Nat.add_zero,Nat.mul_one,Nat.zero_add] at cn ck cb cl cu ct
 unfold b7j at hvt
 subst hvt
 have hfit:Bs[k] = true → (Ks[k]).values.length = (N[k]).length:=fun e=>hA.fit k _ _ (by rw [ebk,e]) ekk enk
 have hzl2:=hA.len k _ enk
 have hzr:=hrowl.rng
 have hkB:(k:Int) < Bs.length:=by omega
 have hkN:(k:Int) < N.length:=by omega
 have hkK:(k:Int) < Ks.length:=by omega
 have hrl:=b6b (i:=k) hzl (by omega)
 have hra:=c7m (i:=k) hzl (by omega)
 rw [edk] at hra
 generalize Bs[k] = bv at *
 generalize d[k] = dk at *
 generalize N[k] = z at *
 generalize Ks[k] = u at *
 have hkW:=hk.next hb2
 obtain ⟨lad,lc,hlv⟩:=hrowl.isSlice
 refine Xa (An6 hkW.cells ((hkW.below.cell hltn).trans cn) ((hkW.below.cell hltl).trans cl) @hiN @hkN @hki) ?_
 refine b6n (hrowl.next hkW.below) (by omega) (fun v3 w3 ho3 h3 hb3=>?_)
 have ho:OwnI w3 W.heap.size v3 z:=a2b ho3 hb3
 obtain ⟨zad,zc,rfl⟩:=a2m ho
 have hE3:=hE.next h3
 have hb3':=hb2.on h3
 have hk3:=hkW.next h3
 refine Xa0 ?_
 have hdown:∀ j,(Value.slice xad n xc).ownBlock = some j → W2.heap.size ≤ j ∧ j < W.heap.size:=fun j hj=>⟨(a0d hE.d hj).2.1,(a0d hE.d hj).1⟩
 have hnown:∀ j,nv.ownBlock = some j → W2.heap.size ≤ j ∧ j < W.heap.size:=fun j hj=>⟨(hE.n.own hj).2,(hE.n.own hj).1⟩
 refine ⟨fun l W'=>Bw W2 W' ∧ W.heap.size ≤ W'.heap.size ∧ ∃ (lad:Option Addr) (lm lc:Nat) (x:List Int),l = [.slice lad lm lc] ∧ bk[k]? = some x ∧ FP (fun j=>W.heap.size ≤ j ∧ j < W'.heap.size) W' (fun w=>Ints w (.slice lad lm lc) x) ∧ ExI W2.heap.size (.slice xad n xc) nv D W' (b7b (zeroed Bs d) d (k + 1)) (bk.take k),?_,?_⟩
 ·unfold c5v
  cases bv with
  | false=>
   refine Xa (An5 hk3.cells ((hb3'.cell hltb).trans cb) ((hb3'.cell hltt).trans ct) @hiB @hkB) ?_
   have hans:bk[k]? = some z:=hans
   have hzer:(zeroed Bs d)[k]? = some dk:=hzer
   rw [d9i hzl edk hzer]
   exact ⟨hb3',h3.size,_,_,_,_,rfl,hans,((ho.ints hzr (by omega)).fp).mono (fun j hj=>⟨(a0d ho (a7m ho hj.1)).2.1,hj.2⟩),hE3⟩
  | true=>
   refine Xa (An5 hk3.cells ((hb3'.cell hltb).trans cb) ((hb3'.cell hltt).trans ct) @hiB @hkB) ?_
   have hfit:=hfit rfl
   have hans:bk[k]? = some (a2l s.g.Q z (-dk) u.values):=hans
   have hzer:(zeroed Bs d)[k]? = some 0:=hzer
   unfold c0n
   have hb9:Below w3.heap.size w3 { w3 with drawn:=w3.drawn + 1 }:=.drawn
   have hk9:=hk3.next hb9
   have hE9:=hE3.next hb9
   have hbb9:=hb3'.on hb9
   have ho9:=ho.keep hb9
   have h39:=h3.on hb9
   refine ⟨Nx { w3 with drawn:=w3.drawn + 1 },bR,rfl,?_⟩
   generalize ({ w3 with drawn:=w3.drawn + 1 }:World) = W9 at hk9 hE9 hbb9 ho9 h39 ⊢
   obtain ⟨uad,uc,rfl⟩:=hvu.isSlice
   have hne:b7b (zeroed Bs d) d k ≠ []:=by intro e; rw [e] at hrl; simp at hrl; omega
   have hE9':ExI W2.heap.size (.slice xad (b7b (zeroed Bs d) d k).length xc) nv D W9 (b7b (zeroed Bs d) d k) (bk.take k):=by rw [hrl,hdl]; exact hE9
   obtain ⟨gx,rfl,hRx⟩:=RowP.of hE9'.d hne
   have hcx:=hRx.cell hra
   have hwn:IntKind.i64.wrap (-dk) = -dk:=a0o _ (by omega) (by omega)
   refine Xf (fun W0 hW0=>An4 ((hk9.next hW0).cells) ((hW0.cell hRx.lt).trans hcx) (((hk9.next hW0).below.cell hltk).trans ck) (((hk9.next hW0).below.cell hltu).trans cu)) (An4 @hiK @hkK @hki @hwn) ?_
   refine ⟨Nx,fun w10 h10=>?_⟩
   have hE10:=hE9'.next h10
   have hI10:=((ho9.keep h10).ints hzr (by omega))
   refine c9m s.g.Q (-dk) z u.values hI10 (hvu.next (hk9.next h10).below) hfit (by omega) (fun v11 w11 h11 ho11=>?_)
   obtain ⟨sad,sc,rfl⟩:=a2m ho11
   have hb11:=(hbb9.on h10).on h11
   refine Xa @hki ?_
   have hs10:=h10.size
   have hs11:=h11.size
   have hs39:=h39.size
   have hset:=(hE10.next h11).setd (T:=0) (x:=0) (k:=k) (b:=gx) (o:=0) (K:=fun _ W'=>Bw W2 W' ∧ W.heap.size ≤ W'.heap.size ∧ ∃ (lad:Option Addr) (lm lc:Nat) (x:List Int),[Value.slice sad (a2l s.g.Q z (-dk) u.values).length sc] = [.slice lad lm lc] ∧ bk[k]? = some x ∧ FP (fun j=>W.heap.size ≤ j ∧ j < W'.heap.size) W' (fun w=>Ints w (.slice lad lm lc) x) ∧ ExI W2.heap.size (.slice (some ⟨gx,0,none⟩) n xc) nv D W' (b7b (zeroed Bs d) d (k + 1)) (bk.take k)) (by omega) rfl (fun W12 hg12 hgB hgl hgD hE12=>?_)
   ·rw [Nat.zero_add] at hset
    exact hset
   ·rw [c2q hzl (by omega) hzer,hrl,hdl] at hE12
    have hgW:=(hdown gx rfl).2
    refine ⟨hb11.grown hg12 hb11.size (fun j hj=>by cases hj; exact hgB),by have:=hg12.size; omega,_,_,_,_,rfl,hans,?_,hE12⟩
    have hf:=((ho11.ints (b2r _ _ _ _) (by have:=c4z s.g.Q (-dk) z u.values; omega)).fp).mono (E:=fun j=>W.heap.size ≤ j ∧ j < w11.heap.size) (fun j hj=>⟨by have:=(a0d ho11 (a7m ho11 hj.1)).2.1; omega,hj.2⟩)
    exact (hf.by hg12 (fun j hj=>⟨hj.2,fun e=>by have:=oI e; omega⟩)).mono (fun j hj=>⟨hj.1,lL hj.2 hg12.size⟩)
 ·rintro _ _ W5 ⟨hb5,hs5,lad,lm,lc,x,rfl,hx,hf5,hE5⟩
  unfold c0o
  refine g2y ?_
  refine a8n _ _ _ (fun gl W6 h6 hgl hh6=>?_)
  have hE6:=hE5.next h6
  have hs6:=h6.size
  refine hE6.push (E:=fun j=>W.heap.size ≤ j ∧ j < W5.heap.size) (by have:=hb5.size; omega) hh6 (hf5.next h6 (fun j hj=>hj.2)) (fun j hj=>⟨by have:=hb2.size; omega,by omega,fun e=>by have:=(hdown j e).2; omega,fun e=>by have:=(hnown j e).2; omega⟩) (by rw [List.length_take]; omega) (fun nv7 W7 hg7 hnb hE7=>?_)
  rw [a2i hx] at hE7
  refine Xa0 ?_
  exact ⟨⟨(hb5.on h6).grown hg7 (hb5.on h6).size (fun j hj=>hnb j hj),_,_,_,k + 1,_,rfl,by omega,hE7⟩,by show n - (((k + 1:Nat):Int)).toNat < n - ((k:Nat):Int).toNat; omega⟩
theorem c6l (w:World):(Instr.alloc 32 true (.tuple #[])).run Tryz.prog w = .ok (.pointer (some ⟨w.heap.size,0,none⟩)) (w.alloc (.cells [.slice none 0 0,.slice none 0 0].toArray 32)):=by kernel_rfl
theorem b8i (w:World):(sizeOf 32).run Tryz.prog w = .ok 2 w:=by kernel_rfl
def EoJ (P:L2 × L3) (B b:Nat) (W1:World) (n:Nat) (vs:List Value) (W:World):Prop:=Bw W1 W ∧ B ≤ W.heap.size ∧ ∃ (u0 u1 u2 u3 u4:Value) (i:Nat),vs = [u0,u1,u2,u3,u4,.int .i64 (i:Int)] ∧ i ≤ n ∧ OutQ B b 32 (fun d a=>a5n a d) W (P.1.take i) (P.2.take i)
set_option maxHeartbeats 2000000 in
theorem c6m (s:Stp) {ad nad dad kad:Option Addr} {c nc dc kc b1 b2 gb r1:Nat} {ns:L3} {ds:L2} {goal:List Cls} {know:List (List Knw)} {l28:List Value} {pa pb:Value}
  (hs:SetR w s (.slice ad s.bases.length c))
  (hk:Kn w (cellsOf (cellsOf [] b1 0 (a2r s (.slice ad s.bases.length c))) b2 0 (a5n (.slice dad ds.length dc) (.slice nad ns.length nc))) W1)
  (hR:Holds W1 r1 32 [pa,pb]) (hr1:w.heap.size ≤ r1)
  (hn:a2j w (.slice nad ns.length nc) ns) (hd:a0s w (.slice dad ds.length dc) ds) (hkn:a5v w (.slice kad know.length kc) know) (hbr:b0i W1 (.slice (some ⟨gb,0,none⟩) goal.length goal.length) (a0h s goal know).1)
  (hgm:a1p s goal = true) (hft:a3a s goal know = true) (hsm:a0u s goal ds ns = true) (hb1:W1.heap.size ≤ b) (hbB:b < B)
  (hJ:EoJ (a1f s (a0h s goal know).1 ds ns know) B b W1 goal.length l28 W)
  (k:∀ w' nv dv,Bw w w' → a2j w' nv (a1f s (a0h s goal know).1 ds ns know).2 → a0s w' dv (a1f s (a0h s goal know).1 ds ns know).1 → K (.tuple #[b5m nv dv,.bool true]) w') :
  b4m (EoJ (a1f s (a0h s goal know).1 ds ns know) B b W1 goal.length) K (.slice kad know.length kc) l28 (g3n goal.length) (ptr r1 0) (ptr b 0) (.slice (some ⟨gb,0,none⟩) goal.length goal.length) (.int .i64 goal.length) (ptr b1 0) (ptr b2 0) W:=by
 obtain ⟨hb,hBW,u0,u1,u2,u3,u4,i,rfl,hi,hQ⟩:=hJ
 have hgm':=hgm
 unfold a1p at hgm'
 simp only [bA,dE] at hgm'
 have hft':=hft
 unfold a3a at hft'
 simp only [bA,dE] at hft'
 have hsm':=hsm
 unfold a0u at hsm'
 simp only [bA,dE] at hsm'
 have hcl:=a4k (s:=s) hft'.1
 have hpl:=a9t (s:=s) (bs:=(a0h s goal know).1) (ds:=ds) (ns:=ns) (ks:=know) (by omega) (by omega) (by omega)
 have hkW:=hk.next hb
 unfold b4m
 by_cases hin:i = goal.length
 ·subst hin
  rw [List.take_of_length_le (by omega),List.take_of_length_le (by omega)] at hQ
  generalize a1f s (a0h s goal know).1 ds ns know = P at *
  obtain ⟨dv,av,D,h1,h2,h3,h4,h5,h6,h7⟩:=hQ.ex
  have h2':=h2
  have h3':=h3
  obtain ⟨xad,xc,rfl⟩:=h2.isSlice
  obtain ⟨yad,yc,rfl⟩:=h3.isSlice
  refine b5k ?_
  refine e9b h1 ?_
  have hR2:=hR.next hb
  refine a0x b8i (xs:=a5n (.slice yad P.2.length yc) (.slice xad P.1.length xc)) rfl rfl (a5f _ _ _ _ _ _) hR2 rfl (fun W3 hg3 hh3=>?_)
  refine c2s (K:=fun r W=>K (.tuple #[r,.bool true]) W) hh3 ?_
  have hs1:=hR.lt
  have hf3:Fr (fun j=>j = r1) W W3:=Fr.of_by hg3
  have hsz:=hf3.size
  have g2:=h2'.keep hf3 (fun j hj=>⟨(h4 j hj).1,fun e=>by have:=h7 j hj; omega⟩) (fun j hj e=>by have:=(h2'.own hj).2; omega)
  have g3:=h3'.keep hf3 (fun j hj=>⟨(h5 j hj).1,fun e=>by have:=h7 j hj; omega⟩) (fun j hj e=>by have:=(h3'.own hj).2; omega)
  exact k _ _ _ (a6g hkW.below hf3 (by rintro j rfl; exact hr1)) (g3.srow (by decide) (by omega)) (g2.srow (by decide) (by omega))
 have eg:goal[i]? = some goal[i]:=gE (by omega)
 have ek:know[i]? = some know[i]:=gE (by omega)
 have ed:ds[i]? = some ds[i]:=gE (by omega)
 have en:ns[i]? = some ns[i]:=gE (by omega)
 have eb:=a4n (s:=s) eg ek
 have hP:=b1y (s:=s) eb ed en ek
 have hdl0:=(a3d hsm'.2 eg ed en).1
 simp only [a2z,bA,dE] at hdl0
 have hdl1:=hdl0.1
 simp only [a0g,bA,dE,Bool.not_eq_true',List.any_eq_false,a1l,Bool.not_eq_true,Bool.not_eq_false',Bool.not_not] at hdl1
 have hokQ:=(c3l hgm'.1.1.1.1).okQ
 have hdr:∀ y ∈ ds[i],0 ≤ y ∧ y < 9223372036854775808:=fun y hy=>by
  have:=hdl1.2 y hy
  unfold okN at hokQ
  simp at this
  omega
 have hcf:a0z s goal[i] = true:=List.all_eq_true.1 hgm'.1.2 _ (List.getElem_mem _)
 simp only [a0z,bA,dE] at hcf
 obtain ⟨hA,hdl⟩:=c3o hgm hft hsm eg ek ed en ds[i] (by omega)
 obtain ⟨bd,od,rfl,hltd,csd,_,hcelld,vd,rfl,hrowd⟩:=hd.at (i:=i) (by omega)
 generalize hBs:(a0e s goal[i].need goal[i].claims know[i]).1 = Bs at *
 generalize ds[i] = d at *
 generalize ns[i] = N at *
 generalize know[i] = Ks at *
 generalize goal[i] = cl at *
 have hmax:=hA.max
 obtain ⟨dad2,dc2,rfl⟩:=hrowd.isSlice
 have cd:=hcelld 0 _ rfl
 simp only [Nat.add_zero,Nat.mul_one,Nat.zero_add] at cd
 have hiB:(i:Int) < goal.length:=by omega
 have hiD:(i:Int) < ds.length:=by omega
 refine Xa (An3 hkW.cells ((hkW.below.cell hltd).trans cd) @hiD) ?_
 refine b6n (hrowd.next hkW.below) (by omega) (fun v3 W3 ho3 h3 hb3=>?_)
 have ho:OwnI W3 W.heap.size v3 d:=a2b ho3 hb3
 obtain ⟨xad,xc,rfl⟩:=a2m ho
 refine g8i (fun lad lc W4 h4 hL4=>?_)
 have ho4:=ho.keep h4
 have h34:=h3.on h4
 have hE0:ExI W.heap.size (.slice xad d.length xc) (.slice lad 0 lc) (fun _=>False) W4 (b7b (zeroed Bs d) d 0) ((b0z s.g.Q Bs d N Ks).take 0):=by
  obtain ⟨cs,a1,a2⟩:=hL4.ex
  refine ⟨by simpa [b7b] using ho4,⟨cs,a2b a1 (fun j hj=>by have:=(a0d a1 hj).2.1; have:=h3.size; omega),a2⟩,fun j h=>h.elim,fun j h=>h.elim,fun j e1 e2=>?_,fun j h=>h.elim⟩
  ·have:=(a0d ho e1).1
   have:=(hL4.own e2).2
   omega
 refine Xa0 ?_
 have hkb:=hk.next hb
 refine ⟨ExJ (zeroed Bs d) d (b0z s.g.Q Bs d N Ks) cl.claims.length (.slice xad d.length xc) W,g6m cl.claims.length,⟨h34,_,_,_,0,_,rfl,by omega,hE0⟩,?_⟩
 intro l39 u39 W5 hJ5
 rw [hdl] at hJ5 ⊢
 have hlA:(b0z s.g.Q Bs d N Ks).length = cl.claims.length:=by
  rw [a7y (by rw [hA.ld,hA.lb]) (by rw [hA.ln,hA.lb]) (by rw [hA.lk,hA.lb]),hA.lb]
 refine c6k s hkb hn hkn (hbr.next (a0b a6y) hb) hcl hA rfl hdr en ek eb hJ5 (fun v0 v1 nv v3 W6 D6 hb6 hE6=>?_)
 obtain ⟨nad6,nc6,hnv⟩:=hE6.n.isSlice
 subst hnv
 rw [hlA]
 have hzl:(zeroed Bs d).length = cl.claims.length:=by rw [a7z (by rw [hA.ld,hA.lb]),hA.lb]
 have hzI:∀ x ∈ zeroed Bs d,I64 x:=by
  intro x hx
  obtain ⟨j,hj⟩:=List.getElem?_of_mem hx
  have hjl:=(gS hj).1
  have h1:Bs[j]? = some (Bs[j]'(by have:=hA.lb; omega)):=gE _
  have h2:d[j]? = some (d[j]'(by omega)):=gE _
  rw [b3f h1 h2] at hj
  have h3:=hdr _ (List.getElem_mem (by omega:j < d.length))
  cases Bs[j]'(by have:=hA.lb; omega) <;> simp at hj <;> subst hj <;> unfold I64 <;> omega
 have hf6:=(hE6.n.fp (by decide) (by omega)).mono (E:=fun j=>W.heap.size ≤ j ∧ j < W6.heap.size) (fun j hj=>hj.elim (fun h=>⟨hE6.low j h,(hE6.on j h).1⟩) (fun h=>⟨(hE6.n.own h).2,(hE6.n.own h).1⟩))
 rw [hlA] at hf6
 refine c6j (x:=zeroed Bs d) (y:=b0z s.g.Q Bs d N Ks) hQ hb6 hBW (by omega) ?_ hf6 ?_ ?_ (fun W7 vs hf7 hs7 hQ7 hvs=>?_)
 ·exact ((hE6.d.ints hzI (by omega)).fp).mono (fun j hj=>⟨(a0d hE6.d (a7m hE6.d hj.1)).2.1,hj.2⟩)
 ·rw [List.length_take]; omega
 ·rw [List.length_take]; omega
 ·obtain ⟨a0,a1,a2,a3,a4,rfl⟩:=hvs
  rw [a2i hP.1,a2i hP.2] at hQ7
  refine ⟨⟨a6g (hb.on hb6) hf7 (by rintro j (rfl | h) <;> omega),by have:=hf7.size; have:=hb6.size; omega,_,_,_,_,_,i + 1,rfl,by omega,hQ7⟩,by show goal.length - (((i + 1:Nat):Int)).toNat < goal.length - ((i:Nat):Int).toNat; omega⟩
set_option maxHeartbeats 4000000 in
theorem c1u (s:Stp) (goal:List Cls) (ctx:a5e) (know:List (List Knw)) (ns:L3) (ds:L2) {sv gv kv nv dv:Value} (hs:SetR w s sv) (hg:a4f w gv goal) (hk0:a5v w kv know) (hn:a2j w nv ns) (hd:a0s w dv ds) (hl:Cd.Laid w)
  (hN:(a6r goal).length ≤ 1000000) (hctx:ctx.length ≤ 1000000)
  (k:∀ w' nv' dv',Bw w w' → a2j w' nv' (PrSpec.explainM s goal ctx ds ns know).1.2 → a0s w' dv' (PrSpec.explainM s goal ctx ds ns know).1.1 → K (.tuple #[b5m nv' dv',.bool (PrSpec.explainM s goal ctx ds ns know).2]) w'):a0a Tryz.prog 27 #[a6b s sv,gv,.string ⟨ctx.toArray⟩,b5m dv nv,kv] K w:=by
 apply d6j
 unfold f0q
 have hs':=hs
 have hg':=hg
 have hd':=hd
 have hn':=hn
 have hk0':=hk0
 obtain ⟨ad,c,rfl⟩:=hs.ints.isSlice
 obtain ⟨gad,gc,rfl⟩:=hg.isSlice
 obtain ⟨dad,dc,rfl⟩:=hd.isSlice
 obtain ⟨nad,nc,rfl⟩:=hn.isSlice
 obtain ⟨kad,kc,rfl⟩:=hk0.isSlice
 have hlg:=hg.len
 refine a0l (cs:=a2r s (.slice ad s.bases.length c)) rfl (.start w) fun b1 W hk hb1 hbb=>?_
 refine a0l (cs:=a5n (.slice dad ds.length dc) (.slice nad ns.length nc)) rfl hk fun b2 W hk hb2 hbb2=>?_
 refine a1d c6l (fun r1 W3 h3 hr1 hR=>?_)
 have hr1w:w.heap.size ≤ r1:=by have:=hb1.size; have:=hb2.size; omega
 have hk:=hk.next h3
 clear hb1 hb2 hbb hbb2 h3 hr1
 have no:∀ (W:World) {T1:TypeId},PrSpec.explainM s goal ctx ds ns know = (([],[]),false) → Bw w W → Holds W r1 32 [.slice none 0 0,.slice none 0 0] →
   oM Tryz.prog (.store 32 (.tmp 0) (.tmp 1)) T1 [ptr r1 0,.agg #[.slice none 0 0,.slice none 0 0]] (fun _ w=>
    ∃ r,(do loadVar 32 (← asAddr (ptr r1 0)):Sem Value).run Tryz.prog w = .ok r w ∧ K (.tuple #[r,.bool false]) w) W:=by
  intro W T1 he hb hR
  refine a0x b8i (xs:=a5n (.slice none 0 0) (.slice none 0 0)) rfl rfl (a5f _ _ _ _ _ _) hR rfl (fun W' hg hh=>c2s (K:=fun r W=>K (.tuple #[r,.bool false]) W) hh ?_)
  have:=k W' (.slice none 0 0) (.slice none 0 0) (a0m hb hg hr1w) (by rw [he]; exact SRow.nil) (by rw [he]; exact SRow.nil)
  rwa [he] at this
 refine Xa hk.cells ?_
 refine b7c s goal ctx ds ns (hs'.next hk.below) (hg'.next (a0b a0i) hk.below) (hd'.next (a0b a0k) hk.below) (hn'.next (a0b a0f) hk.below) (hl.below hk.below hl.size) hN hctx (fun w2 h2=>?_)
 have hk:=hk.next h2
 have hR:=hR.next h2
 cases hvm:a2u s goal ctx ds ns with
 | false=>
  refine Xa0 ?_
  exact no _ (by simp [PrSpec.explainM,hvm]) hk.below hR
 | true=>
 refine Xa hk.cells ?_
 refine d3n s (hs'.next hk.below) (hg'.next (a0b a0i) hk.below) (hk0'.next (a0b a0w) hk.below) (fun w3 h3=>?_)
 have hk:=hk.next h3
 have hR:=hR.next h3
 cases hft:a3a s goal know with
 | false=>
  refine Xa0 ?_
  exact no _ (by simp [PrSpec.explainM,hft]) hk.below hR
 | true=>
 refine Xa hk.cells ?_
 have hvm':=hvm
 unfold a2u at hvm'
 rw [bA,bA] at hvm'
 have hgm:=hvm'.1.1
 have hsm:=hvm'.1.2
 refine c4x s (hs'.next hk.below) (hg'.next (a0b a0i) hk.below) (hk0'.next (a0b a0w) hk.below) hgm hft (fun gb B w5 h5 hB5 hO5=>?_)
 have hk:=hk.next h5
 have hR:=hR.next h5
 have hbr:=b8h hgm hft hO5
 cases hch:(a0h s goal know).2 with
 | false=>
  refine Xa0 ?_
  exact no _ (by simp [PrSpec.explainM,hch]) hk.below hR
 | true=>
 refine g5v ?_
 refine a1d c6l (fun b16 w7 h7 hb16 hh7=>?_)
 refine a0x b8i (xs:=a5n (.slice none 0 0) (.slice none 0 0)) rfl rfl (a5f none none 0 0 0 0) hh7 rfl (fun w8 hg8 hh8=>?_)
 have h48:Bw w5 w8:=a0m h7 hg8 hb16
 have hpr:PrSpec.explainM s goal ctx ds ns know = (a1f s (a0h s goal know).1 ds ns know,true):=by simp [PrSpec.explainM,hvm,hft,hch]
 rw [hpr] at k
 refine a9i ?_
 refine ⟨EoJ (a1f s (a0h s goal know).1 ds ns know) w8.heap.size b16 w5 goal.length,g3n goal.length,⟨h48,rL,_,_,_,_,_,0,rfl,by omega,.start hh8.lt (by simpa using hh8)⟩,?_⟩
 intro l28 u28 W9 hJ
 exact c6m s hs' hk hR hr1w hn' hd' hk0' hbr hgm hft hsm hb16 hh8.lt hJ k
end
end Go.Proofs
namespace Go.Proofs
open Go Go.Sh Tryz
variable {a0 a1 a2 a3:Value} {K:VK} {w:World}
def f9m (a0 a1:Value) (K:VK) (w:World):Prop:=
 oM prog (.box 26 (.tmp 0)) 0 [a0] (fun v2=>
 kA 69 fun v4=>
 kF 26 0 v2 fun v6=>
 kF 23 2 v6 fun v7=>
 kL 3 v7 fun v8=>
 oM prog (.build 146 #[(0,(.tmp 0)),(1,(.tmp 1))]) 146 [(.int .i64 0),v8] fun v9=>
 kF 26 2 v2 fun v10=>
 kL 3 v10 fun v11=>
 oM prog (.build 146 #[(0,(.tmp 0)),(1,(.tmp 1))]) 146 [(.int .i64 1),v11] fun v12=>
 oM prog (.buildSlice 142 2 #[(0,(.tmp 0)),(1,(.tmp 1))]) 142 [v9,v12] fun v13=>
 oM prog (.build 144 #[(0,(.tmp 0)),(1,(.tmp 1))]) 144 [a1,v13] fun v14=>
 oM prog (.buildSlice 67 1 #[(0,(.tmp 0))]) 67 [v14] fun v15=>
 oM prog (.build 69 #[(0,(.tmp 0)),(1,(.tmp 1))]) 69 [(.int .i64 2),v15] fun v16=>
 kS 69 v4 v16 fun _=>
 kR 69 v4 K) w
theorem e4q (h:f9m a0 a1 K w):a0a prog 87 #[a0,a1] K w:=
 cZ (fun _=>0) func87 h
def f9n (a0 a1:Value) (K:VK) (w:World):Prop:=
 oM prog (.box 32 (.tmp 0)) 0 [a0] (fun v2=>
 oM prog (.box 32 (.tmp 0)) 0 [a1] fun v3=>
 kF 32 1 v2 fun v5=>
 kL 30 v5 fun v6=>
 kF 32 1 v3 fun v7=>
 kL 30 v7 fun v8=>
 a0a prog 105 #[v6,v8] fun v9 w=>
 gT v9 (kF 32 0 v2) (fun v11 w=>
 gT v9 (kL 29 v11) (fun v12 w=>
 gT v9 (kF 32 0 v3) (fun v13 w=>
 gT v9 (kL 29 v13) (fun v14 w=>
 gT v9 (a0a prog 106 #[v12,v14]) (fun v15=>
 kP v9 v15 (.bool false) fun v16=>
 K v16) w) w) w) w) w) w
theorem e4r (h:f9n a0 a1 K w):a0a prog 29 #[a0,a1] K w:=
 cZ (fun _=>0) func29 h
def f9o (a0:Value) (K:VK) (w:World):Prop:=
 kQ [(.bool false),undef,(.int .i64 0)] (fun J_1 m_2 l_3 u_l_3 w0_l_3=>(fun w=>(
 kN 28 a0 (fun v7=>
 kB .lss 3 4 (l_3.getD 2 undef) v7 fun v8 w=>
 gT v8 (a0j (l_3.getD 2 undef)) (fun v10 w=>
 gT v8 (kB .lss 3 4 v10 (.int .i64 7)) (fun v11=>
 kP v8 v11 (.bool false) fun v12=>
 kO v12 (kI 28 a0 (l_3.getD 2 undef) fun v17=>
 kL 114 v17 fun v18=>
 kN 114 v18 fun v19=>
 kB .gtr 3 4 v19 (.int .i64 6) fun v20=>
 kO v20 (K (.bool false))
 (kQ [(l_3.getD 0 undef),(.int .i64 0)] fun J_13 m_14 l_15 u_l_15 w0_l_15=>(fun w=>(
 kI 28 a0 (l_3.getD 2 undef) (fun v24=>
 kL 114 v24 fun v25=>
 kN 114 v25 fun v26=>
 kB .lss 3 4 (l_15.getD 1 undef) v26 fun v27=>
 kO v27 (kI 28 a0 (l_3.getD 2 undef) fun v32=>
 kL 114 v32 fun v33=>
 kI 114 v33 (l_15.getD 1 undef) fun v35=>
 kF 113 1 v35 fun v36=>
 kL 24 v36 fun v37=>
 kN 24 v37 fun v38=>
 kB .gtr 3 4 v38 (.int .i64 8) fun v39=>
 kO v39 (K (.bool false))
 (kB .add 3 3 (l_15.getD 1 undef) (.int .i64 1) fun v29=>
 kJ J_13 m_14 l_15 w0_l_15 [(l_15.getD 0 undef),v29]))
 (kB .add 3 3 (l_3.getD 2 undef) (.int .i64 1) fun v14=>
 kJ J_1 m_2 l_3 w0_l_3 [(l_15.getD 0 undef),(l_15.getD 1 undef),v14])) w)) w0_l_15))
 (kN 28 a0 fun v41=>
 kB .leq 3 4 v41 (.int .i64 6) fun v42=>
 K v42)) w) w) w)) w0_l_3) w
theorem e4s (h:f9o a0 K w):a0a prog 36 #[a0] K w:=
 cZ (fun _=>0) func36 h
def f9p (a0:Value) (K:VK) (w:World):Prop:=
 oM prog (.box 32 (.tmp 0)) 0 [a0] (fun v1=>
 kF 32 0 v1 fun v3=>
 kL 29 v3 fun v4=>
 a0a prog 88 #[v4] fun v5 w=>
 gT v5 (kF 32 1 v1) (fun v7 w=>
 gT v5 (kL 30 v7) (fun v8 w=>
 gT v5 (a0a prog 89 #[v8]) (fun v9=>
 kP v5 v9 (.bool false) fun v10=>
 K v10) w) w) w) w
theorem e4t (h:f9p a0 K w):a0a prog 16 #[a0] K w:=
 cZ (fun _=>0) func16 h
def f9q (a0 a1 a2 a3:Value) (K:VK) (w:World):Prop:=
 oM prog (.box 26 (.tmp 0)) 0 [a0] (fun v4=>
 kL 26 v4 fun v9=>
 a0a prog 50 #[v9,a1] fun v11 w=>
 gT v11 (a0j a2) (fun v13 w=>
 gT v11 (kN 9 v13) (fun v14 w=>
 gT v11 (kB .leq 3 4 v14 (.int .i64 100)) (fun v15=>
 kP v11 v15 (.bool false) fun v16 w=>
 gT v16 (a0j a3) (fun v18 w=>
 gT v16 (a0a prog 36 #[v18]) (fun v19=>
 kP v16 v19 (.bool false) fun v20=>
 K v20) w) w) w) w) w) w
theorem e4u (h:f9q a0 a1 a2 a3 K w):a0a prog 15 #[a0,a1,a2,a3] K w:=
 cZ (fun _=>0) func15 h
def f9r (K:VK) (w:World):Prop:=
 a0a prog 86 #[] (fun v16=>
 kA 26 fun v1=>
 kS 26 v1 v16 fun _=>
 kL 26 v1 fun v17=>
 a0a prog 87 #[v17,(.int .i64 16)] fun v18=>
 kA 69 fun v2=>
 kS 69 v2 v18 fun _=>
 kL 26 v1 fun v19=>
 a0a prog 21 #[v19] fun v20=>
 kU v20 fun v21 w=>
 gF v21 (kL 26 v1) (fun v23 w=>
 gF v21 (a0a prog 44 #[v23,(.int .i64 3),(.int .i64 2)]) (fun v24 w=>
 gF v21 (kC .neq 3 16 4 v24) (fun v25=>
 kP v21 (.bool true) v25 fun v26 w=>
 gF v26 (kL 26 v1) (fun v28 w=>
 gF v26 (a0a prog 44 #[v28,(.int .i64 14),(.int .i64 (-9))]) (fun v29 w=>
 gF v26 (kC .neq 3 16 4 v29) (fun v30=>
 kP v26 (.bool true) v30 fun v31 w=>
 gF v31 (kL 26 v1) (fun v33 w=>
 gF v31 (kL 69 v2) (fun v34 w=>
 gF v31 (oM prog (.buildSlice 24 2 #[(0,(.tmp 0)),(1,(.tmp 1))]) 24 [(.int .i64 3),(.int .i64 2)]) (fun v35 w=>
 gF v31 (a0a prog 41 #[v33,v34,v35]) (fun v36 w=>
 gF v31 (kU v36) (fun v37=>
 kP v31 (.bool true) v37 fun v38 w=>
 gF v38 (kL 26 v1) (fun v40 w=>
 gF v38 (kL 69 v2) (fun v41 w=>
 gF v38 (oM prog (.buildSlice 24 2 #[(0,(.tmp 0)),(1,(.tmp 1))]) 24 [(.int .i64 2),(.int .i64 0)]) (fun v42 w=>
 gF v38 (a0a prog 41 #[v40,v41,v42]) (fun v43 w=>
 gF v38 (kU v43) (fun v44=>
 kP v38 (.bool true) v44 fun v45 w=>
 gF v45 (kL 26 v1) (fun v47 w=>
 gF v45 (kL 69 v2) (fun v48 w=>
 gF v45 (oM prog (.buildSlice 24 2 #[(0,(.tmp 0)),(1,(.tmp 1))]) 24 [(.int .i64 2),(.int .i64 1)]) (fun v49 w=>
 gF v45 (a0a prog 41 #[v47,v48,v49]) (fun v50=>
 kP v45 (.bool true) v50 fun v51=>
 kO v51 (K (.bool false))
 (kL 26 v1 fun v52=>
 kL 69 v2 fun v53=>
 oM prog (.buildSlice 24 2 #[(0,(.tmp 0)),(1,(.tmp 1))]) 24 [(.int .i64 4),(.int .i64 2)] fun v54=>
 a0a prog 63 #[v52,v53,(.int .i64 1),v54] fun v55=>
 kL 26 v1 fun v57=>
 kL 69 v2 fun v58=>
 oM prog (.buildSlice 24 2 #[(0,(.tmp 0)),(1,(.tmp 1))]) 24 [(.int .i64 4),(.int .i64 2)] fun v59=>
 oM prog (.buildSlice 24 2 #[(0,(.tmp 0)),(1,(.tmp 1))]) 24 [(.int .i64 10),(.int .i64 6)] fun v60=>
 a0a prog 65 #[v57,v58,(.int .i64 1),v59,(.int .i64 3),v60] fun v61=>
 kE 0 24 v61 fun v62=>
 kE 1 4 v61 fun v63=>
 oM prog (.buildSlice 24 1 #[(0,(.tmp 0))]) 24 [(.int .i64 4)] fun v65=>
 a0a prog 62 #[v55,v65] fun v66=>
 kU v66 fun v67 w=>
 gF v67 (a0j v63) (fun v69 w=>
 gF v67 (kU v69) (fun v70=>
 kP v67 (.bool true) v70 fun v71 w=>
 gF v71 (a0j v62) (fun v73 w=>
 gF v71 (oM prog (.buildSlice 24 2 #[(0,(.tmp 0)),(1,(.tmp 1))]) 24 [(.int .i64 3),(.int .i64 2)]) (fun v74 w=>
 gF v71 (a0a prog 62 #[v73,v74]) (fun v75 w=>
 gF v71 (kU v75) (fun v76=>
 kP v71 (.bool true) v76 fun v77=>
 kO v77 (K (.bool false))
 (kH fun C_56 w=>(((true:Bool) = true) ∧ (jL 69 v2 C_56 fun v78=>
 jL 26 v1 C_56 fun v79=>
 ∃ S_59:World → WK,xR S_59 fun R_60=>
 (∀ w,C_56 w → (a0a prog 87 #[v79,(.int .i64 3)] (xK C_56 S_59 R_60 w) w)) ∧
 (∀ w,C_56 w → ∀ v80,R_60 v80 w → (
 oM prog (.buildSlice 63 2 #[(0,(.tmp 0)),(1,(.tmp 1))]) 63 [v78,v80] (fun v81=>
 oM prog (.build 65 #[(0,(.tmp 0)),(1,(.tmp 1))]) 65 [(.int .i64 1),v81] fun v82=>
 oM prog (.buildSlice 27 1 #[(0,(.tmp 0))]) 27 [v82] fun v83=>
 oM prog (.buildSlice 24 2 #[(0,(.tmp 0)),(1,(.tmp 1))]) 24 [(.int .i64 3),(.int .i64 2)] fun v84=>
 oM prog (.build 113 #[(0,(.tmp 0)),(1,(.tmp 1))]) 113 [(.bool true),v84] fun v85=>
 oM prog (.build 113 #[]) 113 [] fun v86=>
 oM prog (.buildSlice 114 2 #[(0,(.tmp 0)),(1,(.tmp 1))]) 114 [v85,v86] fun v87=>
 oM prog (.buildSlice 28 1 #[(0,(.tmp 0))]) 28 [v87] fun v88=>
 oM prog (.buildSlice 24 2 #[(0,(.tmp 0)),(1,(.tmp 1))]) 24 [(.int .i64 5),(.int .i64 6)] fun v89=>
 oM prog (.buildSlice 24 2 #[(0,(.tmp 0)),(1,(.tmp 1))]) 24 [(.int .i64 7),(.int .i64 8)] fun v90=>
 oM prog (.buildSlice 30 2 #[(0,(.tmp 0)),(1,(.tmp 1))]) 30 [v89,v90] fun v91=>
 oM prog (.buildSlice 29 1 #[(0,(.tmp 0))]) 29 [v91] fun v92=>
 oM prog (.buildSlice 24 2 #[(0,(.tmp 0)),(1,(.tmp 1))]) 24 [(.int .i64 0),(.int .i64 9)] fun v93=>
 oM prog (.buildSlice 30 1 #[(0,(.tmp 0))]) 30 [v93] fun v94=>
 oM prog (.build 32 #[(0,(.tmp 0)),(1,(.tmp 1))]) 32 [v92,v94] fun v95=>
 kA 32 fun v8=>
 kS 32 v8 v95 fun _=>
 kL 26 v1 fun v97=>
 kL 32 v8 fun v100=>
 a0a prog 18 #[v97,v83,(.string ⟨#[104,101,114,101]⟩),v88,v100] fun v101=>
 kE 0 34 v101 fun v102=>
 kE 1 39 v101 fun v103=>
 kA 34 fun v9=>
 kS 34 v9 v102 fun _=>
 oM prog (.buildSlice 24 2 #[(0,(.tmp 0)),(1,(.tmp 1))]) 24 [(.int .i64 3),(.int .i64 3)] fun v104=>
 oM prog (.build 113 #[(0,(.tmp 0)),(1,(.tmp 1))]) 113 [(.bool true),v104] fun v105=>
 oM prog (.build 113 #[]) 113 [] fun v106=>
 oM prog (.buildSlice 114 2 #[(0,(.tmp 0)),(1,(.tmp 1))]) 114 [v105,v106] fun v107=>
 oM prog (.buildSlice 28 1 #[(0,(.tmp 0))]) 28 [v107] fun v108=>
 kL 26 v1 fun v110=>
 kL 32 v8 fun v113=>
 a0a prog 18 #[v110,v83,(.string ⟨#[104,101,114,101]⟩),v108,v113] fun v114=>
 kE 0 34 v114 fun v115=>
 kE 1 39 v114 fun v116=>
 kA 34 fun v12=>
 kS 34 v12 v115 fun _=>
 kL 26 v1 fun v118=>
 kL 34 v9 fun v120=>
 a0a prog 27 #[v118,v83,(.string ⟨#[104,101,114,101]⟩),v120,v88] fun v122=>
 kE 0 32 v122 fun v123=>
 kE 1 4 v122 fun v124=>
 kA 32 fun v14=>
 kS 32 v14 v123 fun _=>
 kC .eql 39 0 4 v103 fun v126 w=>
 gT v126 (a0j v116) (fun v128 w=>
 gT v126 (kC .eql 39 13 4 v128) (fun v129=>
 kP v126 v129 (.bool false) fun v130 w=>
 gT v130 (kL 26 v1) (fun v132 w=>
 gT v130 (a0j v83) (fun v133 w=>
 gT v130 (kL 34 v9) (fun v134 w=>
 gT v130 (a0a prog 30 #[v132,v133,(.string ⟨#[104,101,114,101]⟩),v134]) (fun v135=>
 kP v130 v135 (.bool false) fun v136 w=>
 gT v136 (a0j v124) (fun v138=>
 kP v136 v138 (.bool false) fun v139 w=>
 gT v139 (kL 32 v8) (fun v141 w=>
 gT v139 (kL 32 v14) (fun v142 w=>
 gT v139 (a0a prog 29 #[v141,v142]) (fun v143=>
 kP v139 v143 (.bool false) fun v144=>
 K v144) w) w) w) w) w) w) w) w) w) w) w)))))) w) w) w) w) w) w)) w) w) w) w) w) w) w) w) w) w) w) w) w) w) w) w) w) w) w) w) w
theorem e4v (h:f9r K w):a0a prog 14 #[] K w:=
 cZ (fun _=>(fz 2 1 4)) func14 h
variable {a0 a1 a2 a3 a4 a5:Value} {K:VK} {w:World}
def c0j (J_36:List Value → World → Prop) (a3 a5:Value) (l_38:List Value) (m_37:List Value → World → Nat) (v47 v55:Value) (w0_l_38 w:World):Prop:=
 kH (fun C_40 w=>(((true:Bool) = true) ∧ (a0c (l_38.getD 1 undef) C_40 fun v63=>
 a0c v47 C_40 fun v64=>
 a0c v47 C_40 fun v65=>
 a0c a3 C_40 fun v66=>
 a0c (l_38.getD 2 undef) C_40 fun v67=>
 jI 24 v66 v67 C_40 fun v68=>
 jL 3 v68 C_40 fun v69=>
 a0c a5 C_40 fun v70=>
 a0c (l_38.getD 2 undef) C_40 fun v71=>
 jI 24 v70 v71 C_40 fun v72=>
 jL 3 v72 C_40 fun v73=>
 a0c v55 C_40 fun v75=>
 ∃ S_53:World → WK,xR S_53 fun R_54=>
 (∀ w,C_40 w → (a0a prog 48 #[v65,v69,v73] (xK C_40 S_53 R_54 w) w)) ∧
 (xR S_53 fun R_55=>
 (∀ w,C_40 w → ∀ v74,R_54 v74 w → (a0a prog 43 #[v64,v74,v75] (xK C_40 S_53 R_55 w) w)) ∧
 (xR S_53 fun R_57=>
 (∀ w,C_40 w → ∀ v76,R_55 v76 w → (oM prog (.buildSlice 24 1 #[(0,(.tmp 0))]) 24 [v76] (xK C_40 S_53 R_57 w) w)) ∧
 (∀ w,C_40 w → ∀ v74,R_54 v74 w → ∀ v76,R_55 v76 w → ∀ v77,R_57 v77 w → (
 oM prog (.call (Go.Call.mk (.builtin .append) #[(.tmp 0),(.tmp 1)] #[24,24])) 24 [v63,v77] (fun v78=>
 kB .add 3 3 (l_38.getD 2 undef) (.int .i64 1) fun v79=>
 kJ J_36 m_37 l_38 w0_l_38 [(l_38.getD 2 undef),v78,v79]) w))))))) w
def c5u (K:VK) (a2 a3 a4 a5 v6 v7:Value) (w:World):Prop:=
 kH (fun C_3 w=>(((true:Bool) = true) ∧ (jL 26 v6 C_3 fun v21=>
 jL 69 v7 C_3 fun v22=>
 a0c a2 C_3 fun v23=>
 a0c a3 C_3 fun v24=>
 jL 26 v6 C_3 fun v26=>
 jL 69 v7 C_3 fun v27=>
 a0c a4 C_3 fun v28=>
 a0c a5 C_3 fun v29=>
 ∃ S_12:World → WK,xR S_12 fun R_13=>
 (∀ w,C_3 w → (a0a prog 63 #[v21,v22,v23,v24] (xK C_3 S_12 R_13 w) w)) ∧
 (∀ w,C_3 w → ∀ v25,R_13 v25 w → (
 a0a prog 63 #[v26,v27,v28,v29] (fun v30=>
 kN 24 v25 fun v32=>
 kC .eql 3 0 4 v32 fun v33 w=>
 gF v33 (a0j v25) (fun v35 w=>
 gF v33 (a0j v30) (fun v36 w=>
 gF v33 (a0a prog 117 #[v35,v36]) (fun v37 w=>
 gF v33 (kU v37) (fun v38=>
 kP v33 (.bool true) v38 fun v39 w=>
 gF v39 (a0j a2) (fun v41 w=>
 gF v39 (a0j a4) (fun v42 w=>
 gF v39 (kB .eql 3 4 v41 v42) (fun v43=>
 kP v39 (.bool true) v43 fun v44=>
 kO v44 (K (.tuple #[(.slice none 0 0),(.bool false)]))
 (kF 26 0 v6 fun v45=>
 kF 23 1 v45 fun v46=>
 kL 3 v46 fun v47=>
 a0a prog 48 #[v47,a2,a4] fun v53=>
 a0a prog 143 #[v47,v53] fun v54=>
 kE 0 3 v54 fun v55=>
 kE 1 4 v54 fun v56=>
 oM prog (.buildSlice 24 0 #[]) 24 [] fun v57=>
 kN 24 a3 fun v59=>
 kQ [undef,v57,(.int .i64 0)] fun J_36 m_37 l_38 u_l_38 w0_l_38=>(fun w=>(
 kB .lss 3 0 (l_38.getD 2 undef) v59 (fun v61 w=>
 a0v v61
 (c0j J_36 a3 a5 l_38 m_37 v47 v55 w0_l_38 w)
 (K (.tuple #[(l_38.getD 1 undef),(.bool true)]) w)) w)) w0_l_38)) w) w) w) w) w) w) w) w))))) w
def f0i (a0 a1 a2 a3 a4 a5:Value) (K:VK) (w:World):Prop:=
 oM prog (.box 26 (.tmp 0)) 0 [a0] (fun v6=>
 oM prog (.box 69 (.tmp 0)) 0 [a1] fun v7 w=>
 c5u K a2 a3 a4 a5 v6 v7 w) w
theorem d5v (h:f0i a0 a1 a2 a3 a4 a5 K w):a0a prog 65 #[a0,a1,a2,a3,a4,a5] K w:=
 cZ (mz [(1,.free [0,1,2,3,5,6,7,8] [4] [9,10,11]),(10,.free [0,1,2,3,4,5,6,7,8,9,10,12] [11,13,14] [15,16])]) func65 h
end Go.Proofs
namespace Go.Proofs
open Go Go.Sh Go.RowKit FdSpec TkSpec CodeSpec PrSpec
section
variable {K:VK} {w w' w0 W:World} {L:List (Addr × Value)}
def f8v (c:Clm):Prop:=c.eqs.length ≤ 4 ∧ ∀ e ∈ c.eqs,e.terms.length ≤ 6
def FcJ (l:List Eqn) (w0:World) (L:List (Addr × Value)) (vs:List Value) (w':World):Prop:=Kn w0 L w' ∧ ∃ (u:Value) (i:Nat),vs = [u,.int .i64 (i:Int)] ∧ i ≤ l.length ∧ i ≤ 5 ∧ ∀ (j:Nat) (y:Eqn),j < i → l[j]? = some y → y.terms.length ≤ 6
theorem c8a (c:Clm) {v:Value} (hc:ClmR w c v) (k:∀ w' q,Bw w w' → (q = true → f8v c) → K (.bool q) w'):a0a Tryz.prog 54 #[d1j c v] K w:=by
 apply e4j
 unfold f9f
 have hc':=hc
 obtain ⟨ad,cc,rfl⟩:=hc.eqs.isSlice
 have hll:=hc'.eqs.len
 refine a0l (cs:=c9j c (.slice ad c.eqs.length cc)) rfl (.start w) fun b1 W hk hb1 hbb=>?_
 clear hb1 hbb
 refine ⟨FcJ c.eqs w _,(fun vs _=>match vs with | [_,.int _ i]=>c.eqs.length - i.toNat | _=>0),⟨hk,_,0,rfl,by omega,by omega,fun j y h=>by omega⟩,?_⟩
 rintro _ _ w1 ⟨hk,u,i,rfl,hi,hi7,hy⟩
 by_cases hin:¬ (i:Int) < c.eqs.length
 ·by_cases h6:(c.eqs.length:Int) ≤ 4
  ·have hfew:f8v c:=⟨by omega,fun y hm=>by
    obtain ⟨j,hj,rfl⟩:=List.getElem_of_mem hm
    exact hy j _ (by omega) (gE hj)⟩
   by_cases h1:c.vars ≤ 6
   ·refine Xa (An4 hk.cells @hin @h6 @h1) ?_
    exact k _ _ hk.below (fun _=>hfew)
   by_cases h2:(120:Int) < c.vars
   ·by_cases h3:c.vars ≤ 130
    ·refine Xa (An6 hk.cells @hin @h6 @h1 @h2 @h3) ?_
     exact k _ _ hk.below (fun _=>hfew)
    ·refine Xa (An6 hk.cells @hin @h6 @h1 @h2 @h3) ?_
     exact k _ _ hk.below (fun _=>hfew)
   ·refine Xa (An5 hk.cells @hin @h6 @h1 @h2) ?_
    exact k _ _ hk.below (fun _=>hfew)
  ·refine Xa (An3 hk.cells @hin @h6) ?_
   exact k _ _ hk.below (fun h=>by cases h)
 have hin:(i:Int) < c.eqs.length:=by omega
 by_cases h7:¬ (i:Int) < 5
 ·have h6:¬ (c.eqs.length:Int) ≤ 4:=by omega
  refine Xa (An4 hk.cells @hin @h7 @h6) ?_
  exact k w1 _ hk.below (fun h=>by cases h)
 have h7:(i:Int) < 5:=by omega
 obtain ⟨b5,o5,rfl,hb5,v5,c5,c6,i5,_⟩:=hc'.eqs.at (i:=i) (by omega)
 have e5:c.eqs[i]? = some c.eqs[i]:=gE (by omega)
 generalize c.eqs[i] = d at *
 obtain ⟨ad5,cp5,rfl⟩:=i5.isSlice
 by_cases h8:(6:Int) < d.terms.length
 ·refine Xa (An5 hk.cells @hin @h7 ((hk.below.cell hb5).trans c6) @h8) ?_
  exact k w1 _ hk.below (fun h=>by cases h)
 refine Xa (An5 hk.cells @hin @h7 ((hk.below.cell hb5).trans c6) @h8) ?_
 refine ⟨⟨hk,_,i + 1,rfl,by omega,by omega,fun j y hj e=>?_⟩,by show c.eqs.length - (((i + 1:Nat):Int)).toNat < c.eqs.length - ((i:Nat):Int).toNat; omega⟩
 by_cases h:j = i
 ·subst h; rw [e5] at e; cases e; omega
 ·exact hy j y (by omega) e
def g4m (l:List Cls):Prop:=l.length ≤ 5 ∧ ∀ c ∈ l,c.claims.length ≤ 5 ∧ ∀ m ∈ c.claims,f8v m
def FgJ (l:List Cls) (w0:World) (L:List (Addr × Value)) (vs:List Value) (w':World):Prop:=Kn w0 L w' ∧ ∃ (u u2:Value) (i:Nat),vs = [u,u2,.int .i64 (i:Int)] ∧ i ≤ l.length ∧ i ≤ 6 ∧ ∀ (j:Nat) (c:Cls),j < i → l[j]? = some c → c.claims.length ≤ 5 ∧ ∀ m ∈ c.claims,f8v m
def FhJ (l:List Clm) (w0:World) (L:List (Addr × Value)) (vs:List Value) (w':World):Prop:=Kn w0 L w' ∧ ∃ (u:Value) (i:Nat),vs = [u,.int .i64 (i:Int)] ∧ i ≤ l.length ∧ ∀ (j:Nat) (y:Clm),j < i → l[j]? = some y → f8v y
theorem f8w (s:Stp) (goal:List Cls) {v gv:Value} (hs:SetR w s v) (hg:a4f w gv goal) (k:∀ w' q,Bw w w' → (q = true → g4m goal ∧ s.bases.length ≤ 9) → K (.bool q) w'):a0a Tryz.prog 50 #[a6b s v,gv] K w:=by
 apply e4k
 unfold f9g
 have hs':=hs
 obtain ⟨ad,ca,rfl⟩:=hs.ints.isSlice
 have hg':=hg
 obtain ⟨gad,gc,rfl⟩:=hg.isSlice
 have hll:=hg'.len
 refine a0l (cs:=a2r s (.slice ad s.bases.length ca)) rfl (.start w) fun b1 W hk hb1 hbb=>?_
 clear hb1 hbb
 refine ⟨FgJ goal w _,(fun vs _=>match vs with | [_,_,.int _ i]=>goal.length - i.toNat | _=>0),⟨hk,_,_,0,rfl,by omega,by omega,fun j y h=>by omega⟩,?_⟩
 rintro _ _ w1 ⟨hk,u,u2,i,rfl,hi,hi7,hy⟩
 by_cases hin:¬ (i:Int) < goal.length
 ·by_cases h6:(goal.length:Int) ≤ 5
  ·have hfew:g4m goal:=⟨by omega,fun y hm=>by
    obtain ⟨j,hj,rfl⟩:=List.getElem_of_mem hm
    exact hy j _ (by omega) (gE hj)⟩
   refine Xa (An3 hk.cells @hin @h6) ?_
   refine c7y s (hs'.next hk.below) (fun w2 h2=>?_)
   have hk:=hk.next h2
   generalize hq:decide ((s.bases.length:Int) ≤ 9) = q
   refine Xa0 ?_
   refine k _ _ hk.below (fun e=>⟨hfew,?_⟩)
   subst e
   have:=of_decide_eq_true hq
   omega
  ·refine Xa (An3 hk.cells @hin @h6) ?_
   exact k _ _ hk.below (fun h=>by cases h)
 have hin:(i:Int) < goal.length:=by omega
 by_cases h7:¬ (i:Int) < 6
 ·have h6:¬ (goal.length:Int) ≤ 5:=by omega
  refine Xa (An4 hk.cells @hin @h7 @h6) ?_
  exact k w1 _ hk.below (fun h=>by cases h)
 have h7:(i:Int) < 6:=by omega
 obtain ⟨b5,o5,rfl,hb5,_,_,hcell,v5,rfl,_,i5⟩:=hg'.at (i:=i) (by omega)
 have c1:=hcell 1 _ rfl
 have e5:goal[i]? = some goal[i]:=gE (by omega)
 generalize goal[i] = d at *
 obtain ⟨ad5,cp5,rfl⟩:=i5.isSlice
 have hdl:=i5.len
 have C1:=(hk.below.cell hb5).trans c1
 by_cases h8:(5:Int) < d.claims.length
 ·refine Xa (An5 hk.cells @hin @h7 @C1 @h8) ?_
  exact k w1 _ hk.below (fun h=>by cases h)
 refine Xa (An5 hk.cells @hin @h7 @C1 @h8) ?_
 refine ⟨FhJ d.claims w _,(fun vs _=>match vs with | [_,.int _ i]=>d.claims.length - i.toNat | _=>0),⟨hk,_,0,rfl,by omega,fun j y h=>by omega⟩,?_⟩
 rintro _ _ w2 ⟨hk,u3,j,rfl,hj,hyj⟩
 have C1:=(hk.below.cell hb5).trans c1
 by_cases hjn:¬ (j:Int) < d.claims.length
 ·refine Xa (An5 hk.cells @hin @h7 @C1 @hjn) ?_
  refine ⟨⟨hk,_,_,i + 1,rfl,by omega,by omega,fun j' z hj' e=>?_⟩,by show goal.length - (((i + 1:Nat):Int)).toNat < goal.length - ((i:Nat):Int).toNat; omega⟩
  by_cases h:j' = i
  ·subst h; rw [e5] at e; cases e
   refine ⟨by omega,fun y hm=>?_⟩
   obtain ⟨j',hj',rfl⟩:=List.getElem_of_mem hm
   exact hyj j' _ (by omega) (gE hj')
  ·exact hy j' z (by omega) e
 have hjn:(j:Int) < d.claims.length:=by omega
 obtain ⟨b6,o6,rfl,hb6,_,_,hcell6,v6,rfl,hm⟩:=i5.at (i:=j) (by omega)
 have m0:=hcell6 0 _ rfl
 have m1:=hcell6 1 _ rfl
 simp only [Nat.add_zero] at m0
 have e6:d.claims[j]? = some d.claims[j]:=gE (by omega)
 generalize d.claims[j] = m at *
 have hm':=hm
 obtain ⟨ad6,cp6,rfl⟩:=hm.eqs.isSlice
 refine Xa (An7 hk.cells @hin @h7 @C1 ((hk.below.cell hb6).trans m0) ((hk.below.cell hb6).trans m1) @hjn) ?_
 refine c8a m (hm'.next hk.below) (fun w3 q h3 hq=>?_)
 have hk:=hk.next h3
 cases q with
 | false=>
  refine Xa0 ?_
  exact k _ _ hk.below (fun h=>by cases h)
 | true=>
 refine Xa0 ?_
 refine ⟨⟨hk,_,j + 1,rfl,by omega,fun j' y' hj' e=>?_⟩,by show d.claims.length - (((j + 1:Nat):Int)).toNat < d.claims.length - ((j:Nat):Int).toNat; omega⟩
 by_cases h:j' = j
 ·subst h; rw [e6] at e; cases e; exact hq rfl
 ·exact hyj j' y' (by omega) e
end
end Go.Proofs
namespace PrSpec
open FdSpec TkSpec CodeSpec FdPoly
def e6b (s:Stp) (a1 a2:List Int) (over:Int):List Int:=(a1.zip a2).map fun p=>a2n s.g.Q (a3g s.g.Q p.1 p.2) over
def a6f (s:Stp) (c:Clm) (d1:Int) (a1:List Int) (d2:Int) (a2:List Int):List Int × Bool:=
 if decide ((b3h s c d1 a1).length = 0) || !decide (b3h s c d1 a1 = b3h s c d2 a2) || decide (d1 = d2) then ([],false) else (e6b s a1 a2 ((b4g s.g.Q (a3g s.g.Q d1 d2)).getD 0),true)
def a1g (s:Stp) (c:Int):Clm:=⟨2,[⟨c,[⟨0,s.g.G⟩,⟨1,s.blind⟩]⟩]⟩
end PrSpec
namespace Go.Proofs
open Go Go.Sh Go.RowKit FdSpec TkSpec CodeSpec PrSpec FdPoly
section
variable {K:VK} {w w' w0 W W' We W1 W2:World} {L:List (Addr × Value)} {g n B b i:Nat} {row:Option Nat}
theorem e5y {T:TypeId} (a b a2 b2:Int) (k:∀ g W,Bw w W → w.heap.size ≤ g → Holds W g 146 [.int .i64 a,.int .i64 b,.int .i64 a2,.int .i64 b2] → K (.slice (some ⟨g,0,none⟩) 2 2) W):oM Tryz.prog (.buildSlice 142 2 #[(0,.tmp 0),(1,.tmp 1)]) T [.agg #[.int .i64 a,.int .i64 b],.agg #[.int .i64 a2,.int .i64 b2]] K w:=by
 rw [a3e]; exact a7s (by kernel_rfl) k
theorem e5z {s:Stp} {t:Int} {g1 g2 c1 c2:Nat} {T1 T2:TypeId} (ht:I64 t) (hG:I64 s.g.G) (hb:I64 s.blind) (h1:Holds w g1 T1 [.int .i64 0,.int .i64 s.g.G,.int .i64 1,.int .i64 s.blind]) (h2:Holds w g2 T2 [.int .i64 t,.slice (some ⟨g1,0,none⟩) 2 c1]):ClmR w (a1g s t) (.slice (some ⟨g2,0,none⟩) 1 c2):=by
 refine ⟨by show I64 2; unfold I64; decide,⟨⟨_,c2,rfl,.inr ⟨g2,0,rfl,h2.lt,fun i hi=>?_⟩⟩,by simp [a1g]⟩⟩
 obtain rfl:i = 0:=by simpa [a1g] using hi
 refine ⟨_,?_,?_,⟨⟨_,c1,rfl,.inr ⟨g1,0,rfl,h1.lt,fun i hi=>?_⟩⟩,by simp [a1g]⟩,ht⟩
 ·rw [a0r h2]; simp [a1g]
 ·rw [a0r h2]; simp [a1g]
 ·match i,hi with
  | 0,_=>
   refine ⟨?_,?_,?_,hG⟩
   ·rw [a0r h1]; simp [a1g]
   ·rw [a0r h1]; simp [a1g]
   ·simp [a1g,I64]
  | 1,_=>
   refine ⟨?_,?_,?_,hb⟩
   ·rw [a0r h1]; simp [a1g]
   ·rw [a0r h1]; simp [a1g]
   ·simp [a1g,I64]
  | i + 2,h=>exact absurd h (by simp [a1g])
theorem c6c (s:Stp) (t:Int) {sv:Value} (hs:SetR w s sv) (ht:I64 t) (k:∀ w' v,Bw w w' → g8d w w' (a1g s t) v → K v w'):a0a Tryz.prog 87 #[a6b s sv,.int .i64 t] K w:=by
 apply e4q
 unfold f9m
 have hs':=hs
 obtain ⟨ad,c,rfl⟩:=hs.ints.isSlice
 refine a0l (cs:=a2r s (.slice ad s.bases.length c)) rfl (.start w) fun b1 W hk hb1 hbb=>?_
 refine a1d e9j (fun g2 w2 h2 hg2 hh=>?_)
 have hk:=hk.next h2
 have hglt:=hh.lt
 have hW:=hb1.size
 have h2s:=h2.size
 refine Xb7 hk.cells ?_
 refine e5y _ _ _ _ (fun g3 w3 h3 hg3 hh3=>?_)
 refine a9i ?_
 refine f5e _ _ _ _ (fun g4 w4 h4 hg4 hh4=>?_)
 refine a9i ?_
 have hh3:=hh3.next h4
 have hh:=(hh.next h3).next h4
 refine a0x e9i (xs:=[.int .i64 2,.slice (some ⟨g4,0,none⟩) 1 1]) rfl rfl (c3a 2 _ 1 1) hh rfl (fun w5 hg5 hh5=>?_)
 have hh3:=hh3.other hg5 (by omega)
 have hh4:=hh4.other hg5 (by have:=h3.size; omega)
 have hb:=(hk.next h3).next h4 |>.below
 have hgg:w.heap.size ≤ g2:=by omega
 refine b2g hh5 f8s (by kernel_rfl) (by kernel_rfl) (k _ _ (a0m hb hg5 hgg) ⟨some ⟨g4,0,none⟩,1,rfl,?_⟩)
 have h3s:=h3.size
 refine ((hh3.fresh (W:=w) (by omega)).both (hh4.fresh (W:=w) (by omega))).imp ?_
 rintro w' ⟨e1,e2⟩
 exact e5z ht hs'.grp.2.2 hs'.blind e1 e2
theorem b5n {dv av dv2 av2:Value} {d d2:L2} {a a2:L3} (hd:a0s w dv d) (ha:a2j w av a) (hd2:a0s w dv2 d2) (ha2:a2j w av2 a2) (k:∀ w',Bw w w' → K (.bool (decide (d = d2) && decide (a = a2))) w'):a0a Tryz.prog 29 #[b5m av dv,b5m av2 dv2] K w:=by
 apply e4r
 unfold f9n
 have hd':=hd
 have ha':=ha
 have hd2':=hd2
 have ha2':=ha2
 obtain ⟨ad1,c1,rfl⟩:=hd.isSlice
 obtain ⟨ad2,c2,rfl⟩:=ha.isSlice
 obtain ⟨ad3,c3,rfl⟩:=hd2.isSlice
 obtain ⟨ad4,c4,rfl⟩:=ha2.isSlice
 refine a0l (cs:=a5n (.slice ad2 a.length c2) (.slice ad1 d.length c1)) rfl (.start w) fun b1 W hk hb1 hbb=>?_
 refine a0l (cs:=a5n (.slice ad4 a2.length c4) (.slice ad3 d2.length c3)) rfl hk fun b2 W2 hk hb2 hbb=>?_
 clear hb1 hb2 hbb
 refine Xa hk.cells ?_
 refine a9r (hd'.next (a0b a0k) hk.below) (hd2'.next (a0b a0k) hk.below) (fun w3 h3=>?_)
 have hk:=hk.next h3
 by_cases hx:d = d2
 ·rw [decide_eq_true hx]
  rw [decide_eq_true hx,bT] at k
  refine Xa hk.cells ?_
  refine b7h (ha'.next (a0b a0f) hk.below) (ha2'.next (a0b a0f) hk.below) (fun w4 h4=>?_)
  have hk:=hk.next h4
  refine Xa0 ?_
  exact k _ hk.below
 ·rw [decide_eq_false hx]
  rw [decide_eq_false hx,bF] at k
  refine Xa0 ?_
  exact k _ hk.below
theorem c8c (s:Stp) (c:Clm) (d:Int) (a:List Int):∀ x ∈ a0p s c d a,I64 x:=by
 intro x hx
 unfold a0p at hx
 obtain ⟨e,_,rfl⟩:=List.mem_map.1 hx
 exact a6o _ _ _
theorem b1v (s:Stp) (c:Clm) (dare:Int) (an:List Int) {sv cv av:Value} (hs:SetR w s sv) (hc:ClmR w c cv) (hd:I64 dare) (ha:Ints w av an)
  (k:∀ v w',Bw w w' → Ints w' v (b3h s c dare an) → K v w'):a0a Tryz.prog 63 #[a6b s sv,d1j c cv,.int .i64 dare,av] K w:=by
 apply e4y
 unfold f9u
 have hs':=hs
 have hc':=hc
 obtain ⟨ad,cc,rfl⟩:=hs.ints.isSlice
 obtain ⟨ead,ec,rfl⟩:=hc.eqs.isSlice
 refine a0l (cs:=a2r s (.slice ad s.bases.length cc)) rfl (.start w) fun b1 W hk hb1 hbb=>?_
 refine a0l (cs:=c9j c (.slice ead c.eqs.length ec)) rfl hk fun b2 W hk hb2 hbb2=>?_
 clear hb1 hb2
 have no:b3h s c dare an = [] → ∀ w',Bw w w' → K (.slice none 0 0) w':=fun e w' h=>by
  have:=k (.slice none 0 0) w' h
  rw [e] at this
  exact this (Ints.nil _)
 refine Xa hk.cells ?_
 refine a4c s (hs'.next hk.below) (fun w2 h2=>?_)
 have hk:=hk.next h2
 cases hv:a1x s with
 | false=>
  refine Xa0 ?_
  exact no (by simp [b3h,hv]) _ hk.below
 | true=>
 refine Xa hk.cells ?_
 refine a8h s c (hs'.next hk.below) (hc'.next hk.below) (fun w2 h2=>?_)
 have hk:=hk.next h2
 cases hcm:a1q s c with
 | false=>
  refine Xa0 ?_
  exact no (by simp [b3h,hcm]) _ hk.below
 | true=>
 refine Xa hk.cells ?_
 refine b6s s dare (hs'.next hk.below) (fun w2 h2=>?_)
 have hk:=hk.next h2
 cases hem:a1l s dare with
 | false=>
  refine Xa0 ?_
  exact no (by simp [b3h,hem]) _ hk.below
 | true=>
 refine Xa hk.cells ?_
 refine a4l s c.vars (hs'.next hk.below) (ha.next hk.below) (fun w2 h2=>?_)
 have hk:=hk.next h2
 cases hes:a0g s an c.vars with
 | false=>
  refine Xa0 ?_
  exact no (by simp [b3h,hes]) _ hk.below
 | true=>
 refine Xa hk.cells ?_
 have e:b3h s c dare an = a0p s c dare an:=by simp [b3h,hv,hcm,hem,hes]
 rw [e] at k
 have hcf:=a7t hcm
 have hlen:(an.length:Int) = c.vars:=by
  simp only [a0g,bA,dE] at hes
  exact hes.1
 have hcm2:=hcm
 simp only [a1q,bA,dE] at hcm2
 refine b1a s c dare an (hs'.next hk.below) (hc'.next hk.below) hd (ha.next hk.below) (by omega) (fun e he=>?_) (fun v w3 h3 ho=>?_)
 ·have:=hcf e he
  exact ⟨this.1,fun t ht=>by have:=this.2 t ht; omega⟩
 ·refine Xa0 ?_
  exact k _ _ (hk.below.on h3) (ho.ints (c8c _ _ _ _) (by simp [a0p]; omega))
theorem g8g {T:TypeId} (k:∀ ad c W,Bw w W → OwnI W w.heap.size (.slice ad 0 c) [] → K (.slice ad 0 c) W):oM Tryz.prog (.buildSlice 24 0 #[]) T [] K w:=by
 rw [a5s]
 have e:(Instr.buildSlice 24 0 #[]).run Tryz.prog w = .ok (.slice (some ⟨w.heap.size,0,none⟩) 0 0) (w.alloc (.cells #[] 3)):=by kernel_rfl
 rw [e]
 exact k _ _ _ ((Below.refl _ w).alloc (rL) _) ⟨rfl,.inr ⟨_,0,#[],rfl,rL,heap_alloc_new w _,rL,by decide,rfl,rfl⟩⟩
theorem d8y {s:Stp} {c:Clm} {d:Int} {a:List Int} (h:¬ (b3h s c d a).length = 0):(a.length:Int) = c.vars ∧ c.vars ≤ 120:=by
 unfold b3h at h
 by_cases hx:(a1x s && a1q s c && a1l s d && a0g s a c.vars) = true
 ·simp only [bA] at hx
  have h1:=hx.2
  have h2:=hx.1.1.2
  simp only [a0g,a1q,bA,dE] at h1 h2
  exact ⟨h1.1,h2.1.1.1.2⟩
 ·rw [if_neg hx] at h
  exact absurd rfl h
def EtJ (T:List Int) (w0:World) (vs:List Value) (W:World):Prop:=Bw w0 W ∧ ∃ (u v:Value) (i:Nat),vs = [u,v,.int .i64 (i:Int)] ∧ i ≤ T.length ∧ OwnI W w0.heap.size v (T.take i)
theorem d2c (s:Stp) (c:Clm) (d1:Int) (a1:List Int) (d2:Int) (a2:List Int) {sv cv av av2:Value} (hs:SetR w s sv) (hc:ClmR w c cv) (hd1:I64 d1) (ha1:Ints w av a1) (hd2:I64 d2) (ha2:Ints w av2 a2)
  (k:∀ v w',Bw w w' → Ints w' v (a6f s c d1 a1 d2 a2).1 → K (.tuple #[v,.bool (a6f s c d1 a1 d2 a2).2]) w'):a0a Tryz.prog 65 #[a6b s sv,d1j c cv,.int .i64 d1,av,.int .i64 d2,av2] K w:=by
 apply d5v
 unfold f0i
 have hs':=hs
 have hc':=hc
 have ha1':=ha1
 have ha2':=ha2
 obtain ⟨ad,cc,rfl⟩:=hs.ints.isSlice
 obtain ⟨ead,ec,rfl⟩:=hc.eqs.isSlice
 obtain ⟨aad,ac,rfl⟩:=ha1.isSlice
 obtain ⟨bad,bc,rfl⟩:=ha2.isSlice
 refine a0l (cs:=a2r s (.slice ad s.bases.length cc)) rfl (.start w) fun b1 W hk hb1 hbb=>?_
 refine a0l (cs:=c9j c (.slice ead c.eqs.length ec)) rfl hk fun b2 W hk hb2 hbb2=>?_
 clear hb1 hb2
 have no:a6f s c d1 a1 d2 a2 = ([],false) → ∀ w',Bw w w' → K (.tuple #[.slice none 0 0,.bool false]) w':=fun e w' h=>by
  have:=k (.slice none 0 0) w' h
  rw [e] at this
  exact this (Ints.nil _)
 unfold c5u
 have hb9:Below W.heap.size W { W with drawn:=W.drawn + 1 }:=.drawn
 have hk9:=hk.next hb9
 refine ⟨Nx { W with drawn:=W.drawn + 1 },bR,rfl,?_⟩
 generalize ({ W with drawn:=W.drawn + 1 }:World) = W9 at hk9 ⊢
 refine Xc (fun W0 hW0=>(hk9.next hW0).cells) ?_
 refine ⟨Nx,?_⟩
 refine a3i (fun v w'=>Ints w' v (b3h s c d1 a1)) (fun v w w1 hS h=>h.next hS) ?_ ?_
 ·intro w1 h1
  exact b1v s c d1 a1 (hs'.next (hk9.next h1).below) (hc'.next (hk9.next h1).below) hd1 (ha1'.next (hk9.next h1).below) (fun v w2 h2 ho=>⟨h1.on h2,h2,ho⟩)
 rintro w10 h10 v10 hi10
 have hk10:=hk9.next h10
 refine b1v s c d2 a2 (hs'.next hk10.below) (hc'.next hk10.below) hd2 (ha2'.next hk10.below) (fun v11 w11 h11 hi11=>?_)
 have hk11:=hk10.next h11
 have hi10:=hi10.next h11
 obtain ⟨xad,xc,rfl⟩:=id hi10.isSlice
 obtain ⟨yad,yc,rfl⟩:=id hi11.isSlice
 by_cases h0:b3h s c d1 a1 = []
 ·refine Xa0 ?_
  exact no (by simp [a6f,h0]) _ hk11.below
 have h0':¬ (b3h s c d1 a1).length = 0:=fun e=>h0 (List.eq_nil_of_length_eq_zero e)
 refine Xa @h0 ?_
 refine d0i hi10 hi11 (fun w12 h12=>?_)
 have hk12:=hk11.next h12
 by_cases heq:b3h s c d1 a1 = b3h s c d2 a2
 ·rw [decide_eq_true heq]
  by_cases hdd:d1 = d2
  ·refine Xa0 ?_
   exact no (by simp [a6f,hdd]) _ hk12.below
  ·refine Xa hk12.cells ?_
   refine c0b _ _ _ ?_
   refine d3z _ _ (fun w13 h13=>?_)
   have hk13:=hk12.next h13
   refine b5k ?_
   refine g8g (fun oad oc w14 h14 ho14=>?_)
   have hk14:=hk13.next h14
   refine a9i ?_
   have hl1:=d8y h0'
   have hl2:=d8y (by rw [← heq]; exact h0')
   have hem:a6f s c d1 a1 d2 a2 = (e6b s a1 a2 ((b4g s.g.Q (a3g s.g.Q d1 d2)).getD 0),true):=by unfold a6f; rw [decide_eq_false h0',decide_eq_true heq,decide_eq_false hdd]; rfl
   rw [hem] at k
   generalize (b4g s.g.Q (a3g s.g.Q d1 d2)).getD 0 = over at *
   have hTl:(e6b s a1 a2 over).length = a1.length:=by unfold e6b; rw [List.length_map,List.length_zip]; omega
   have hTI:∀ x ∈ e6b s a1 a2 over,I64 x:=by
    intro x hx
    unfold e6b at hx
    obtain ⟨p,_,rfl⟩:=List.mem_map.1 hx
    exact c3q _ _ _
   have hTe:∀ i (h1:i < a1.length) (h2:i < a2.length),(e6b s a1 a2 over)[i]? = some (a2n s.g.Q (a3g s.g.Q a1[i] a2[i]) over):=fun i h1 h2=>by
    unfold e6b
    rw [List.getElem?_map,List.getElem?_zip_eq_some (z:=(a1[i],a2[i])) |>.2 ⟨gE h1,gE h2⟩]
    rfl
   generalize e6b s a1 a2 over = T at *
   refine ⟨EtJ T w13,(fun vs _=>match vs with | [_,_,.int _ i]=>a1.length - i.toNat | _=>0),⟨h14,_,_,0,rfl,by omega,ho14⟩,?_⟩
   rintro _ _ w15 ⟨h15,u,v,i,rfl,hi,ho⟩
   have hk15:=hk13.next h15
   by_cases hin:i = a1.length
   ·subst hin
    refine Xa0 ?_
    rw [List.take_of_length_le (by omega)] at ho
    exact k _ _ hk15.below (ho.ints hTI (by have:=ha1'.len; omega))
   have h1:i < a1.length:=by omega
   have h2:i < a2.length:=by omega
   obtain ⟨bx,ox,rfl,hltx,cellx,_,_⟩:=ha1'.at (i:=i) h1
   obtain ⟨by',oy,rfl,hlty,celly,_,_⟩:=ha2'.at (i:=i) h2
   have hTi:=hTe i h1 h2
   generalize a1[i] = x at *
   generalize a2[i] = y at *
   have hi1:(i:Int) < a1.length:=by omega
   have hi2:(i:Int) < a2.length:=by omega
   refine Xa0 ?_
   unfold c0j
   have hb9:Below w15.heap.size w15 { w15 with drawn:=w15.drawn + 1 }:=.drawn
   have hk16:=hk15.next hb9
   have ho:=ho.keep hb9
   have h16:=h15.on hb9
   refine ⟨Nx { w15 with drawn:=w15.drawn + 1 },bR,rfl,?_⟩
   generalize ({ w15 with drawn:=w15.drawn + 1 }:World) = W16 at hk16 ho h16 ⊢
   refine Xf (fun W0 hW0=>An3 ((hk16.next hW0).cells) (cellx _ (hk16.next hW0).below) (celly _ (hk16.next hW0).below)) (An2 @hi1 @hi2) ?_
   refine ⟨Nx,?_⟩
   apply a1i
   ·intro w5 h5
    exact c0b _ _ _ ⟨h5,bR,rfl⟩
   apply a1i
   ·rintro w5 h5 _ rfl
    exact b2s _ _ _ (fun w6 h6=>⟨h5.on h6,h6,rfl⟩)
   refine a3i (fun v w'=>Ints w' v [a2n s.g.Q (a3g s.g.Q x y) over]) (fun v w w1 hS h=>h.next hS) ?_ ?_
   ·rintro w5 h5 _ rfl
    exact mk1 _ (c3q _ _ _) (fun v8 W8 h8 hi8=>⟨h5.on h8,h8,hi8⟩)
   rintro w17 h17 _ rfl _ rfl v18 hi18
   refine a9u (ho.keep h17) (Nat.le_trans h16.size h17.size) hi18 (by simp only [List.length_take]; omega) (fun v9 W9 ho9 h9=>?_)
   refine Xa0 ?_
   refine ⟨⟨(h16.on h17).trans h9,_,_,i + 1,rfl,by omega,?_⟩,by show a1.length - (((i + 1:Nat):Int)).toNat < a1.length - ((i:Nat):Int).toNat; omega⟩
   rw [← a2s hTi]
   exact ho9
 ·rw [decide_eq_false heq]
  refine Xa0 ?_
  exact no (by simp [a6f,heq]) _ hk12.below
end
end Go.Proofs
namespace PrSpec
open FdSpec TkSpec CodeSpec FdPoly
def here:a5e:=[104,101,114,101]
def a3l:List Cls:=[⟨1,[a1g ex 16,a1g ex 3]⟩]
def a5m:List (List Knw):=[[⟨true,[3,2]⟩,⟨false,[]⟩]]
def e2r:List (List Knw):=[[⟨true,[3,3]⟩,⟨false,[]⟩]]
def a4b:List (List (List Int)):=[[[5,6],[7,8]]]
def a1t:List (List Int):=[[0,9]]
theorem b2l:a1x ex = true ∧ c3d ex 3 2 = 16 ∧ c3d ex 14 (-9) = 16 ∧ b3g ex (a1g ex 16) [3,2] = true ∧ b3g ex (a1g ex 16) [2,0] = true ∧ b3g ex (a1g ex 16) [2,1] = false ∧
  b3h ex (a1g ex 16) 1 [4,2] = [4] ∧ a6f ex (a1g ex 16) 1 [4,2] 3 [10,6] = ([3,2],true) ∧ a1p ex a3l = true ∧ a3a ex a3l a5m = true ∧ a3a ex a3l e2r = true ∧ a0u ex a3l a1t a4b = true ∧
  a0h ex a3l a5m = ([[true,false]],true) ∧ (a0h ex a3l e2r).2 = false ∧ a9g [[true,false]] a1t = true:=by
 refine ⟨?_,?_,?_,?_,?_,?_,?_,?_,?_,?_,?_,?_,?_,?_,?_⟩ <;> decide +kernel
theorem c9h:(a1m ex a3l here a5m a4b a1t).2 = 0 ∧ a1m ex a3l here e2r a4b a1t = (([],[]),13):=by
 obtain ⟨_,_,_,_,_,_,_,_,h1,h2,h3,h4,h5,h6,h7⟩:=b2l
 constructor
 ·rw [d2f h1 h2 h4,h5]
  simp [h7]
 ·simp [a1m,h1,h3,h4,h6]
end PrSpec
namespace PrSpec
open FdSpec TkSpec CodeSpec FdPoly
theorem e2s {n:Int} (hn:okN n) (s:a5e):0 ≤ a3t s n ∧ a3t s n < n:=by
 have h0:0 ≤ (0:Int) ∧ (0:Int) < n:=by have:=hn.1; omega
 unfold a3t
 rw [if_pos hn]
 have key:∀ (l:List UInt8) (x:Int),(0 ≤ x ∧ x < n) → 0 ≤ l.foldl (a9d n) x ∧ l.foldl (a9d n) x < n:=by
  intro l
  induction l with
  | nil=>intro x hx; exact hx
  | cons a l ih=>intro x _; exact ih _ (a7w _ _ _ hn)
 exact key _ _ h0
def g3d (r:Int):Bool:=
 decide (a0t ex a3l (a1r ex r [[true,false]] a1t a4b a5m).1 (a1r ex r [[true,false]] a1t a4b a5m).2 = a0t ex a3l a1t a4b) &&
 a0u ex a3l (a1r ex r [[true,false]] a1t a4b a5m).1 (a1r ex r [[true,false]] a1t a4b a5m).2 &&
 d0f ex r a3l (a1r ex r [[true,false]] a1t a4b a5m).1 &&
 decide (a1f ex [[true,false]] (a1r ex r [[true,false]] a1t a4b a5m).1 (a1r ex r [[true,false]] a1t a4b a5m).2 a5m = (a1t,a4b))
theorem e2t:∀ r ∈ List.range 11,g3d (r:Nat) = true:=by decide +kernel
theorem c7d:a2u ex a3l here (a1m ex a3l here a5m a4b a1t).1.1 (a1m ex a3l here a5m a4b a1t).1.2 = true ∧
  explainM ex a3l here (a1m ex a3l here a5m a4b a1t).1.1 (a1m ex a3l here a5m a4b a1t).1.2 a5m = ((a1t,a4b),true):=by
 obtain ⟨_,_,_,_,_,_,_,_,h1,h2,_,h4,h5,_,h7⟩:=b2l
 have e:a1m ex a3l here a5m a4b a1t = (a1r ex (a8s ex a3l here a1t a4b) [[true,false]] a1t a4b a5m,0):=by
  simp [a1m,h1,h2,h4,h5,h7]
 obtain ⟨r0,r1⟩:=e2s (n:=ex.g.Q) (by decide) (a2t (b4u a3l) ++ a2t here ++ a9l (a0t ex a3l a1t a4b))
 have hrr:a8s ex a3l here a1t a4b = a3t (a2t (b4u a3l) ++ a2t here ++ a9l (a0t ex a3l a1t a4b)) ex.g.Q:=rfl
 rw [e,hrr]
 generalize hr:a3t (a2t (b4u a3l) ++ a2t here ++ a9l (a0t ex a3l a1t a4b)) ex.g.Q = r at *
 have r1:r < 11:=r1
 have ht:=e2t r.toNat (List.mem_range.2 (by omega))
 rw [Int.toNat_of_nonneg r0] at ht
 simp only [g3d,Bool.and_eq_true,decide_eq_true_eq] at ht
 obtain ⟨⟨⟨c1,c2⟩,c3⟩,c4⟩:=ht
 have hroot:a8s ex a3l here (a1r ex r [[true,false]] a1t a4b a5m).1 (a1r ex r [[true,false]] a1t a4b a5m).2 = r:=by
  unfold a8s
  rw [c1]
  exact hr
 have hv:a2u ex a3l here (a1r ex r [[true,false]] a1t a4b a5m).1 (a1r ex r [[true,false]] a1t a4b a5m).2 = true:=by
  unfold a2u
  rw [h1,c2,hroot,c3]; rfl
 refine ⟨hv,?_⟩
 unfold explainM
 rw [hv,h2,h5]
 simp [c4]
end PrSpec
namespace Go.Proofs
open Go Go.Sh Go.RowKit FdSpec TkSpec CodeSpec PrSpec FdPoly
section
variable {K:VK} {w w' w0 W W' We W1 W2:World} {L:List (Addr × Value)} {g n B b i:Nat} {row:Option Nat}
theorem d0c {T:TypeId} (a a2:Bool) (ad ad2:Option Addr) (n c n2 c2:Nat) (k:∀ g W,Bw w W → w.heap.size ≤ g → Holds W g 113 ([.bool a,.slice ad n c] ++ [.bool a2,.slice ad2 n2 c2]) → K (.slice (some ⟨g,0,none⟩) 2 2) W):oM Tryz.prog (.buildSlice 114 2 #[(0,.tmp 0),(1,.tmp 1)]) T [.agg #[.bool a,.slice ad n c],.agg #[.bool a2,.slice ad2 n2 c2]] K w:=by
 rw [a3e]; exact a7s (by kernel_rfl) k
theorem d8z {T:TypeId} (ad ad2:Option Addr) (n c n2 c2:Nat) (k:∀ g W,Bw w W → w.heap.size ≤ g → Holds W g 24 ([.slice ad n c] ++ [.slice ad2 n2 c2]) → K (.slice (some ⟨g,0,none⟩) 2 2) W):oM Tryz.prog (.buildSlice 30 2 #[(0,.tmp 0),(1,.tmp 1)]) T [.slice ad n c,.slice ad2 n2 c2] K w:=by
 rw [a3e]; exact a7s (by kernel_rfl) k
theorem b3c {T' T2:TypeId} (ad ad2:Option Addr) (n c n2 c2:Nat) (hk:Kn w0 L w)
  (k:∀ b W,Kn w0 (cellsOf L b 0 (a5n (.slice ad n c) (.slice ad2 n2 c2))) W → Bw w W → w.heap.size ≤ b → K (.pointer (some ⟨b,0,none⟩)) W) :
  oM Tryz.prog (.alloc 32) T' [] (fun v w=>oM Tryz.prog (.store 32 (.tmp 0) (.tmp 1)) T2 [v,b5m (.slice ad n c) (.slice ad2 n2 c2)] (fun _ w=>K v w) w) w:=
 a5r c6l rfl b8i rfl rfl (a5f ad ad2 n c n2 c2) hk k
set_option maxHeartbeats 4000000 in
theorem e6a (hT:DbT w) (hl:Cd.Laid w) (k:∀ w',Bw w w' → K (.bool true) w'):a0a Tryz.prog 14 #[] K w:=by
 apply e4v
 unfold f9r
 obtain ⟨f1,f2,f3,f4,f5,f6,f7,f8,f9,f10,f11,f12,f13,f14,f15⟩:=b2l
 obtain ⟨p1,p2⟩:=c9h
 refine d2b hT (fun w1 v1 h1 hs=>?_)
 have hs':=hs
 obtain ⟨ad,c,rfl⟩:=hs.ints.isSlice
 refine d9k ex ad 2 c (.next (.start w) h1) (fun b1 W1 hk hb1 hg1=>?_)
 have hs1:=hs'.next hb1
 refine Xa hk.cells ?_
 refine c6c ex 16 hs1 a1n (fun w2 cv h2 hcl=>?_)
 obtain ⟨cad,cc,rfl,hcl⟩:=hcl
 have hk:=hk.next h2
 have hs1:=hs1.next h2
 have hclm:=hcl.here
 refine a4u _ _ _ _ hk (fun b2 W3 hk hb3 hg3=>?_)
 have hclm:=hclm.next hb3
 have hs1:=hs1.next hb3
 refine Xa hk.cells ?_
 refine a4c ex hs1 (fun w4 h4=>?_)
 rw [f1]
 have hk:=hk.next h4
 have hclm:=hclm.next h4
 have hs1:=hs1.next h4
 refine Xa hk.cells ?_
 refine c5m ex 3 2 hs1 a1n a1n (fun w5 h5=>?_)
 rw [f2]
 have hk:=hk.next h5
 have hclm:=hclm.next h5
 have hs1:=hs1.next h5
 refine Xa hk.cells ?_
 refine c5m ex 14 (-9) hs1 a1n a1n (fun w5 h5=>?_)
 rw [f3]
 have hk:=hk.next h5
 have hclm:=hclm.next h5
 have hs1:=hs1.next h5
 repeat (any_goals (first
 | ((with_reducible refine mk2 3 2 a1n a1n ?_); intro v9 W9 hb9 hi9)
 | (with_reducible first|refine zC ?_|refine yC ?_)
 | ((with_reducible refine oG fun X Y=>?_); simp [go_sem,hk.cells]; apply Y; clear Y X)))
 have hk:=hk.next hb9
 have hclm:=hclm.next hb9
 have hs1:=hs1.next hb9
 refine c2n ex (a1g ex 16) [3,2] hs1 hclm hi9 (fun w6 h6=>?_)
 rw [f4]
 have hk:=hk.next h6
 have hclm:=hclm.next h6
 have hs1:=hs1.next h6
 repeat (any_goals (first
 | ((with_reducible refine mk2 2 0 a1n a1n ?_); intro v9 W9 hb9 hi9)
 | (with_reducible first|refine zC ?_|refine yC ?_)
 | ((with_reducible refine oG fun X Y=>?_); simp [go_sem,hk.cells]; apply Y; clear Y X)))
 have hk:=hk.next hb9
 have hclm:=hclm.next hb9
 have hs1:=hs1.next hb9
 refine c2n ex (a1g ex 16) [2,0] hs1 hclm hi9 (fun w6 h6=>?_)
 rw [f5]
 have hk:=hk.next h6
 have hclm:=hclm.next h6
 have hs1:=hs1.next h6
 repeat (any_goals (first
 | ((with_reducible refine mk2 2 1 a1n a1n ?_); intro v9 W9 hb9 hi9)
 | (with_reducible first|refine zC ?_|refine yC ?_)
 | ((with_reducible refine oG fun X Y=>?_); simp [go_sem,hk.cells]; apply Y; clear Y X)))
 have hk:=hk.next hb9
 have hclm:=hclm.next hb9
 have hs1:=hs1.next hb9
 refine c2n ex (a1g ex 16) [2,1] hs1 hclm hi9 (fun w6 h6=>?_)
 rw [f6]
 have hk:=hk.next h6
 have hclm:=hclm.next h6
 have hs1:=hs1.next h6
 repeat (any_goals (first
 | ((with_reducible refine mk2 4 2 a1n a1n ?_); intro v9 W9 hb9 hi9)
 | (with_reducible first|refine yC ?_|refine yM ?_)
 | ((with_reducible refine oG fun X Y=>?_); simp [go_sem,hk.cells]; apply Y; clear Y X)))
 have hk:=hk.next hb9
 have hclm:=hclm.next hb9
 have hs1:=hs1.next hb9
 refine b1v ex (a1g ex 16) 1 [4,2] hs1 hclm a1n hi9 (fun lv w7 h7 hlv=>?_)
 rw [f7] at hlv
 have hk:=hk.next h7
 have hclm:=hclm.next h7
 have hs1:=hs1.next h7
 refine Xb2 hk.cells ?_
 refine mk2 4 2 a1n a1n (fun v9 W9 hb9 hi9=>?_)
 have hk:=hk.next hb9
 have hclm:=hclm.next hb9
 have hs1:=hs1.next hb9
 have hlv:=hlv.next hb9
 refine mk2 10 6 a1n a1n (fun v10 W10 hb10 hi10=>?_)
 have hk:=hk.next hb10
 have hclm:=hclm.next hb10
 have hs1:=hs1.next hb10
 have hlv:=hlv.next hb10
 refine d2c ex (a1g ex 16) 1 [4,2] 3 [10,6] hs1 hclm a1n (hi9.next hb10) a1n hi10 (fun ev w11 h11 hev=>?_)
 rw [f8] at hev ⊢
 have hev:Ints w11 ev [3,2]:=hev
 have hk:=hk.next h11
 have hclm:=hclm.next h11
 have hs1:=hs1.next h11
 have hlv:=hlv.next h11
 repeat (any_goals (first
 | ((with_reducible refine mk1 4 a1n ?_); intro v9 W9 hb9 hi9)
 | ((with_reducible refine oG fun X Y=>?_); simp [go_sem,hk.cells]; apply Y; clear Y X)))
 have hk:=hk.next hb9
 have hclm:=hclm.next hb9
 have hs1:=hs1.next hb9
 refine b1q (hlv.next hb9) hi9 (fun w12 h12=>?_)
 rw [decide_eq_true rfl]
 have hev:=(hev.next hb9).next h12
 have hk:=hk.next h12
 have hclm:=hclm.next h12
 have hs1:=hs1.next h12
 repeat (any_goals (first
 | ((with_reducible refine mk2 3 2 a1n a1n ?_); intro v9 W9 hb9 hi9)
 | (with_reducible first|refine a4i ?_|refine zC ?_|refine yC ?_)
 | ((with_reducible refine oG fun X Y=>?_); simp [go_sem,hk.cells]; apply Y; clear Y X)))
 have hk:=hk.next hb9
 have hclm:=hclm.next hb9
 have hs1:=hs1.next hb9
 refine b1q (hev.next hb9) hi9 (fun w13 h13=>?_)
 rw [decide_eq_true rfl]
 have hk:=hk.next h13
 have hclm:=hclm.next h13
 have hs1:=hs1.next h13
 refine Xa0 ?_
 have hodr:Below w13.heap.size w13 { w13 with drawn:=w13.drawn + 1 }:=.drawn
 have hk:=hk.next hodr
 have hclm:=hclm.next hodr
 have hs1:=hs1.next hodr
 refine ⟨Nx { w13 with drawn:=w13.drawn + 1 },bR,rfl,?_⟩
 generalize ({ w13 with drawn:=w13.drawn + 1 }:World) = W at hk hs1 hclm ⊢
 refine Xc (fun W0 hW0=>(hk.next hW0).cells) ?_
 refine ⟨Nx,?_⟩
 refine a3i (fun v w'=>∃ ad c,v = d1j (a1g ex 3) (.slice ad 1 c) ∧ ClmR w' (a1g ex 3) (.slice ad 1 c)) (fun v w w1 hS h=>by obtain ⟨ad,c,e,h⟩:=h; exact ⟨ad,c,e,h.next hS⟩) ?_ ?_
 ·intro w1 h1
  exact c6c ex 3 (hs1.next h1) a1n (fun w2 v h2 hc=>by obtain ⟨ad,c,e,h⟩:=hc; exact ⟨h1.on h2,h2,ad,c,e,h.here⟩)
 rintro w14 h14 _ ⟨cad2,cc2,rfl,hclm2⟩
 have hk:=hk.next h14
 have hclm:=hclm.next h14
 have hs1:=hs1.next h14
 refine e3y _ _ _ _ _ _ _ _ (fun g15 w15 h15 hg15 hh15=>?_)
 have hgl:SRow 2 (c4b 2 f8r) w15 (.slice (some ⟨g15,0,none⟩) 2 2) [a1g ex 16,a1g ex 3]:=b2x hh15 rfl rfl ⟨_,rfl,hclm.next h15⟩ ⟨_,rfl,hclm2.next h15⟩
 have hk:=hk.next h15
 have hs1:=hs1.next h15
 refine a9i ?_
 refine f5f _ _ _ _ (fun g16 w16 h16 hg16 hh16=>?_)
 have hgoal:a4f w16 (.slice (some ⟨g16,0,none⟩) 1 1) a3l:=a9q hh16 rfl ⟨_,rfl,a1n,hgl.next (a0b a7x) h16⟩
 have hk:=hk.next h16
 have hs1:=hs1.next h16
 refine mk2 3 2 a1n a1n (fun v17 w17 h17 hi17=>?_)
 obtain ⟨ad17,c17,rfl⟩:=id hi17.isSlice
 refine b5k ?_
 refine d0c _ _ _ _ _ _ _ _ (fun g18 w18 h18 hg18 hh18=>?_)
 have hkl:d1z w18 (.slice (some ⟨g18,0,none⟩) 2 2) [⟨true,[3,2]⟩,⟨false,[]⟩]:=b2x hh18 rfl rfl ⟨_,rfl,hi17.next h18⟩ ⟨_,rfl,Ints.nil _⟩
 refine c9z _ _ _ (fun g19 w19 h19 hg19 hh19=>?_)
 have hknow:a5v w19 (.slice (some ⟨g19,0,none⟩) 1 1) a5m:=a9q hh19 rfl ⟨_,rfl,hkl.next (a0b a6p) h19⟩
 have hgoal:=((hgoal.next (a0b a0i) h17).next (a0b a0i) h18).next (a0b a0i) h19
 have hk:=((hk.next h17).next h18).next h19
 have hs1:=((hs1.next h17).next h18).next h19
 refine mk2 5 6 a1n a1n (fun v20 w20 h20 hi20=>?_)
 obtain ⟨ad20,c20,rfl⟩:=id hi20.isSlice
 refine mk2 7 8 a1n a1n (fun v21 w21 h21 hi21=>?_)
 obtain ⟨ad21,c21,rfl⟩:=id hi21.isSlice
 refine d8z _ _ _ _ _ _ (fun g22 w22 h22 hg22 hh22=>?_)
 have hnl:a0s w22 (.slice (some ⟨g22,0,none⟩) 2 2) [[5,6],[7,8]]:=b2x hh22 rfl rfl ⟨_,rfl,(hi20.next h21).next h22⟩ ⟨_,rfl,hi21.next h22⟩
 refine b2y _ _ _ (fun g23 w23 h23 hg23 hh23=>?_)
 have hnums:a2j w23 (.slice (some ⟨g23,0,none⟩) 1 1) a4b:=a9q hh23 rfl ⟨_,rfl,hnl.next (a0b a0k) h23⟩
 refine mk2 0 9 a1n a1n (fun v24 w24 h24 hi24=>?_)
 obtain ⟨ad24,c24,rfl⟩:=id hi24.isSlice
 refine a8n _ _ _ (fun g25 w25 h25 hg25 hh25=>?_)
 have hdares:a0s w25 (.slice (some ⟨g25,0,none⟩) 1 1) a1t:=a9q hh25 rfl ⟨_,rfl,hi24.next h25⟩
 have h1925:=((((h20.on h21).on h22).on h23).on h24).on h25
 have hk:=hk.next h1925
 have hs1:=hs1.next h1925
 have hgoal:=hgoal.next (a0b a0i) h1925
 have hknow:=hknow.next (a0b a0w) h1925
 have hnums:=hnums.next (a0b a0f) (h24.on h25)
 refine a9i ?_
 refine b3c _ _ 1 1 1 1 hk (fun b26 w26 hk h26 hg26=>?_)
 have hs1:=hs1.next h26
 have hgoal:=hgoal.next (a0b a0i) h26
 have hknow:=hknow.next (a0b a0w) h26
 have hnums:=hnums.next (a0b a0f) h26
 have hdares:=hdares.next (a0b a0k) h26
 have hlE:Cd.Laid w26:=hl.below hk.below hl.size
 refine Xa hk.cells ?_
 refine c3p ex a3l here a5m a4b a1t hs1 hgoal hknow hnums hdares hlE (by decide) (by decide) (fun w27 pv av h27 hpv hav=>?_)
 have hver:=c7d.1
 have hexp:=c7d.2
 rw [p1]
 obtain ⟨pd,hpd⟩:∃ x,x = (a1m ex a3l here a5m a4b a1t).1.1:=⟨_,rfl⟩
 obtain ⟨pa,hpa⟩:∃ x,x = (a1m ex a3l here a5m a4b a1t).1.2:=⟨_,rfl⟩
 rw [← hpd] at hpv
 rw [← hpa] at hav
 rw [← hpd,← hpa] at hver hexp
 clear hpd hpa
 obtain ⟨pad,pc,rfl⟩:=id hpv.isSlice
 obtain ⟨aad,ac,rfl⟩:=id hav.isSlice
 have hk:=hk.next h27
 have hs1:=hs1.next h27
 have hgoal:=hgoal.next (a0b a0i) h27
 have hknow:=hknow.next (a0b a0w) h27
 have hnums:=hnums.next (a0b a0f) h27
 have hdares:=hdares.next (a0b a0k) h27
 refine b5k ?_
 refine b3a _ _ _ _ _ _ hk (fun b28 w28 hk h28 hg28=>?_)
 have hs1:=hs1.next h28
 have hgoal:=hgoal.next (a0b a0i) h28
 have hknow:=hknow.next (a0b a0w) h28
 have hnums:=hnums.next (a0b a0f) h28
 have hdares:=hdares.next (a0b a0k) h28
 have hpv:=hpv.next (a0b a0k) h28
 have hav:=hav.next (a0b a0f) h28
 refine mk2 3 3 a1n a1n (fun v29 w29 h29 hi29=>?_)
 obtain ⟨ad29,c29,rfl⟩:=id hi29.isSlice
 refine b5k ?_
 refine d0c _ _ _ _ _ _ _ _ (fun g30 w30 h30 hg30 hh30=>?_)
 have hkl:d1z w30 (.slice (some ⟨g30,0,none⟩) 2 2) [⟨true,[3,3]⟩,⟨false,[]⟩]:=b2x hh30 rfl rfl ⟨_,rfl,hi29.next h30⟩ ⟨_,rfl,Ints.nil _⟩
 refine c9z _ _ _ (fun g31 w31 h31 hg31 hh31=>?_)
 have hnone:a5v w31 (.slice (some ⟨g31,0,none⟩) 1 1) e2r:=a9q hh31 rfl ⟨_,rfl,hkl.next (a0b a6p) h31⟩
 have h2831:=(h29.on h30).on h31
 have hk:=hk.next h2831
 have hs1:=hs1.next h2831
 have hgoal:=hgoal.next (a0b a0i) h2831
 have hknow:=hknow.next (a0b a0w) h2831
 have hnums:=hnums.next (a0b a0f) h2831
 have hdares:=hdares.next (a0b a0k) h2831
 have hpv:=hpv.next (a0b a0k) h2831
 have hav:=hav.next (a0b a0f) h2831
 have hlE:Cd.Laid w31:=hl.below hk.below hl.size
 refine Xa hk.cells ?_
 refine c3p ex a3l here e2r a4b a1t hs1 hgoal hnone hnums hdares hlE (by decide) (by decide) (fun w32 pv2 av2 h32 hpv2 hav2=>?_)
 rw [p2] at hpv2 hav2 ⊢
 obtain ⟨pad2,pc2,rfl⟩:=id hpv2.isSlice
 obtain ⟨aad2,ac2,rfl⟩:=id hav2.isSlice
 have hk:=hk.next h32
 refine b5k ?_
 refine b3a _ _ _ _ _ _ hk (fun b33 w33 hk h33 hg33=>?_)
 have h3133:=h32.on h33
 have hs1:=hs1.next h3133
 have hgoal:=hgoal.next (a0b a0i) h3133
 have hknow:=hknow.next (a0b a0w) h3133
 have hnums:=hnums.next (a0b a0f) h3133
 have hdares:=hdares.next (a0b a0k) h3133
 have hpv:=hpv.next (a0b a0k) h3133
 have hav:=hav.next (a0b a0f) h3133
 have hlE:Cd.Laid w33:=hl.below hk.below hl.size
 refine Xa hk.cells ?_
 refine c1u ex a3l here a5m pa pd hs1 hgoal hknow hav hpv hlE (by decide) (by decide) (fun w34 nv dv h34 hnv hdv=>?_)
 rw [hexp] at hnv hdv ⊢
 have hnv:a2j w34 nv a4b:=hnv
 have hdv:a0s w34 dv a1t:=hdv
 obtain ⟨nad,nc,rfl⟩:=id hnv.isSlice
 obtain ⟨dad,dc,rfl⟩:=id hdv.isSlice
 have hk:=hk.next h34
 refine b5k ?_
 refine b3c _ _ _ _ _ _ hk (fun b35 w35 hk h35 hg35=>?_)
 have h3335:=h34.on h35
 have hs1:=hs1.next h3335
 have hgoal:=hgoal.next (a0b a0i) h3335
 have hnums:=hnums.next (a0b a0f) h3335
 have hdares:=hdares.next (a0b a0k) h3335
 have hpv:=hpv.next (a0b a0k) h3335
 have hav:=hav.next (a0b a0f) h3335
 have hnv:=hnv.next (a0b a0f) h35
 have hdv:=hdv.next (a0b a0k) h35
 have hlE:Cd.Laid w35:=hl.below hk.below hl.size
 refine Xa hk.cells ?_
 refine b7c ex a3l here pd pa hs1 hgoal hpv hav hlE (by decide) (by decide) (fun w36 h36=>?_)
 rw [hver]
 have hk:=hk.next h36
 refine Xa hk.cells ?_
 refine b5n (hdares.next (a0b a0k) h36) (hnums.next (a0b a0f) h36) (hdv.next (a0b a0k) h36) (hnv.next (a0b a0f) h36) (fun w37 h37=>?_)
 have hk:=hk.next h37
 rw [decide_eq_true rfl,decide_eq_true rfl]
 refine Xa0 ?_
 exact k _ hk.below
end
end Go.Proofs
namespace PrSpec
open FdSpec TkSpec CodeSpec FdPoly GrLaw
theorem b3d {α:Type} (f:α → List Int) (N:Nat):∀ (l:List α),(∀ x ∈ l,(f x).length ≤ N) → (l.flatMap f).length ≤ N * l.length
 | [],_=>by simp
 | a :: l,h=>by
  have ih:=b3d f N l (fun x hx=>h x (by simp [hx]))
  have:=h a (by simp)
  simp only [List.flatMap_cons,List.length_append,List.length_cons,Nat.mul_add,Nat.mul_one]
  omega
end PrSpec
namespace Go.Proofs
open Go Go.Sh Go.RowKit FdSpec TkSpec CodeSpec PrSpec
section
variable {K:VK} {w w' w0 W:World} {L:List (Addr × Value)}
theorem e4b {l:List Cls} (h:g4m l):(a6r l).length ≤ 1000000:=by
 have h1:∀ c ∈ l,(a9j c).length ≤ 400:=fun c hc=>by
  obtain ⟨h2,h3⟩:=h.2 c hc
  have h4:∀ m ∈ c.claims,(b1z m).length ≤ 70:=fun m hm=>by
   obtain ⟨h5,h6⟩:=h3 m hm
   have h7:∀ e ∈ m.eqs,(b4t e).length ≤ 14:=fun e he=>by
    have:=b3d c3m 2 e.terms (fun t _=>by simp [c3m])
    have:=h6 e he
    simp only [b4t,List.length_cons]
    omega
   have:=b3d b4t 14 m.eqs h7
   simp only [b1z,List.length_cons]
   omega
  have:=b3d b1z 70 c.claims h4
  simp only [a9j,List.length_cons]
  omega
 have:=b3d a9j 400 l h1
 have:=h.1
 simp only [a6r,List.length_cons]
 omega
end
end Go.Proofs
namespace Go.Proofs
open Go Go.Sh Go.RowKit FdSpec TkSpec CodeSpec PrSpec FdPoly
section
variable {K:VK} {w w' w0 W W' We W1 W2:World} {L:List (Addr × Value)} {g n B b i:Nat} {row:Option Nat}
def FkJ (N:Nat) (w0:World) (vs:List Value) (w':World):Prop:=Bw w0 w' ∧ ∃ (u u2:Value) (i:Nat),vs = [u,u2,.int .i64 (i:Int)] ∧ i ≤ N
def FmJ (N:Nat) (w0:World) (vs:List Value) (w':World):Prop:=Bw w0 w' ∧ ∃ (u:Value) (i:Nat),vs = [u,.int .i64 (i:Int)] ∧ i ≤ N
theorem d2d {v:Value} {l:List (List Knw)} (hl:a5v w v l) (k:∀ w' q,Bw w w' → K (.bool q) w'):a0a Tryz.prog 36 #[v] K w:=by
 apply e4s
 unfold f9o
 obtain ⟨ad,c,rfl⟩:=hl.isSlice
 have hll:=hl.len
 refine ⟨FkJ l.length w,(fun vs _=>match vs with | [_,_,.int _ i]=>l.length - i.toNat | _=>0),⟨bR,_,_,0,rfl,by omega⟩,?_⟩
 rintro _ _ w1 ⟨h1,u,u2,i,rfl,hi⟩
 by_cases hin:¬ (i:Int) < l.length
 ·refine Xa @hin ?_
  exact k _ _ h1
 have hin:(i:Int) < l.length:=by omega
 by_cases h7:¬ (i:Int) < 7
 ·refine Xa (An2 @hin @h7) ?_
  exact k _ _ h1
 have h7:(i:Int) < 7:=by omega
 obtain ⟨b5,o5,v5,rfl,hb5,c5,i5⟩:=hl.one (i:=i) (by omega)
 generalize l[i] = d at *
 obtain ⟨ad5,cp5,rfl⟩:=i5.isSlice
 have hld:=i5.len
 by_cases h8:(6:Int) < d.length
 ·refine Xa (An4 @hin @h7 ((h1.cell hb5).trans c5) @h8) ?_
  exact k w1 _ h1
 refine Xa (An4 @hin @h7 ((h1.cell hb5).trans c5) @h8) ?_
 refine ⟨FmJ d.length w,(fun vs _=>match vs with | [_,.int _ i]=>d.length - i.toNat | _=>0),⟨h1,_,0,rfl,by omega⟩,?_⟩
 rintro _ _ w2 ⟨h2,u3,j,rfl,hj⟩
 by_cases hjn:¬ (j:Int) < d.length
 ·refine Xa (An3 @hin ((h2.cell hb5).trans c5) @hjn) ?_
  exact ⟨⟨h2,_,_,i + 1,rfl,by omega⟩,by show l.length - (((i + 1:Nat):Int)).toNat < l.length - ((i:Nat):Int).toNat; omega⟩
 have hjn:(j:Int) < d.length:=by omega
 obtain ⟨b6,o6,rfl,hb6,cs6,_,hcell6,v6,rfl,hv6⟩:=i5.at (i:=j) (by omega)
 have c6:=hcell6 1 _ rfl
 generalize d[j] = kn at *
 obtain ⟨ad6,cp6,rfl⟩:=hv6.isSlice
 by_cases h9:(8:Int) < kn.values.length
 ·refine Xa (An5 @hin ((h2.cell hb5).trans c5) @hjn ((h2.cell hb6).trans c6) @h9) ?_
  exact k _ _ h2
 refine Xa (An5 @hin ((h2.cell hb5).trans c5) @hjn ((h2.cell hb6).trans c6) @h9) ?_
 exact ⟨⟨h2,_,j + 1,rfl,by omega⟩,by show d.length - (((j + 1:Nat):Int)).toNat < d.length - ((j:Nat):Int).toNat; omega⟩
theorem c8d {dv av:Value} {ds:L2} {al:L3} (hd:a0s w dv ds) (ha:a2j w av al) (k:∀ w' q,Bw w w' → (q = true → g4k ds ∧ g4l al) → K (.bool q) w'):a0a Tryz.prog 16 #[b5m av dv] K w:=by
 apply e4t
 unfold f9p
 have hd':=hd
 have ha':=ha
 obtain ⟨ad1,c1,rfl⟩:=hd.isSlice
 obtain ⟨ad2,c2,rfl⟩:=ha.isSlice
 refine a0l (cs:=a5n (.slice ad2 al.length c2) (.slice ad1 ds.length c1)) rfl (.start w) fun b1 W hk hb1 hbb=>?_
 clear hb1 hbb
 refine Xa hk.cells ?_
 refine c0h (ha'.next (a0b a0f) hk.below) (fun w3 q h3 hq=>?_)
 have hk:=hk.next h3
 cases q with
 | false=>
  refine Xa0 ?_
  exact k _ _ hk.below (fun h=>by cases h)
 | true=>
 refine Xa hk.cells ?_
 refine b7i (hd'.next (a0b a0k) hk.below) (fun w4 q h4 hq2=>?_)
 have hk:=hk.next h4
 cases q with
 | false=>
  refine Xa0 ?_
  exact k _ _ hk.below (fun h=>by cases h)
 | true=>
  refine Xa0 ?_
  exact k _ _ hk.below (fun _=>⟨hq2 rfl,hq rfl⟩)
theorem g0u (s:Stp) (goal:List Cls) (ctx:a5e) (know:List (List Knw)) {sv gv kv:Value} (hs:SetR w s sv) (hg:a4f w gv goal) (hk0:a5v w kv know) (hc:ctx.length < 1000000000000000) (k:∀ w' q,Bw w w' → (q = true → (a6r goal).length ≤ 1000000 ∧ ctx.length ≤ 1000000) → K (.bool q) w') :
  a0a Tryz.prog 15 #[a6b s sv,gv,.string ⟨ctx.toArray⟩,kv] K w:=by
 apply e4u
 unfold f9q
 have hs':=hs
 obtain ⟨ad,c,rfl⟩:=hs.ints.isSlice
 refine a0l (cs:=a2r s (.slice ad s.bases.length c)) rfl (.start w) fun b1 W hk hb1 hbb=>?_
 clear hb1 hbb
 refine Xa hk.cells ?_
 refine f8w s goal (hs'.next hk.below) (hg.next (a0b a0i) hk.below) (fun w3 q h3 hq=>?_)
 have hk:=hk.next h3
 cases q with
 | false=>
  refine Xa0 ?_
  exact k _ _ hk.below (fun h=>by cases h)
 | true=>
 by_cases h1:¬ (ctx.length:Int) ≤ 100
 ·refine Xa (An2 hk.cells @h1) ?_
  exact k _ _ hk.below (fun h=>by cases h)
 have h1:(ctx.length:Int) ≤ 100:=by omega
 refine Xa (An2 hk.cells @h1) ?_
 refine d2d (hk0.next (a0b a0w) hk.below) (fun w4 q h4=>?_)
 have hk:=hk.next h4
 cases q with
 | false=>
  refine Xa0 ?_
  exact k _ _ hk.below (fun h=>by cases h)
 | true=>
  refine Xa0 ?_
  exact k _ _ hk.below (fun _=>⟨e4b (hq rfl).1,by omega⟩)
end
end Go.Proofs
namespace Go.Proofs
open Go Go.Sh Go.RowKit Go.Lib CodeSpec TkSpec FdSpec PrSpec Go.ChangeShapes Go.WideShapes Go.ChangeAt Go.Deep
section
variable {H:Type} {enc:TypeId × Value → H} {w:World} {sp:Nat → Bool} {hd:Bool}
theorem e6i {b0:Nat} {v:Value} {d:DataW H} {ps:List MemPlace} (hval:Value.okWide Tryz.prog w .any b0 32 v) (h:DataW.Trod enc Tryz.prog w 0 sp hd 32 v d ps):∃ nv dv al ds,v = b5m nv dv ∧ a2j w nv al ∧ a0s w dv ds:=by
 obtain ⟨cs,rfl,hs⟩:=okWide_struct Tryz.underlying32 hval
 obtain ⟨fuel,hf⟩:=h
 obtain ⟨hcl,hf⟩:=a3n Tryz.underlying32 (by kernel_rfl) (by kernel_rfl) hf
 obtain ⟨v0,y0,m0,c0,f0⟩:=hf 0 _ rfl
 obtain ⟨v1,y1,m1,c1,f1⟩:=hf 1 _ rfl
 obtain ⟨al,ha⟩:=c6n f0
 obtain ⟨ds,hd⟩:=b4w f1
 refine ⟨v0,v1,al,ds,?_,ha,hd⟩
 have h6:cs.toList.length = 2:=hcl
 have c0:cs.toList[0]? = some v0:=c0
 have c1:cs.toList[1]? = some v1:=c1
 have hcs:cs = cs.toList.toArray:=by simp
 rw [hcs]
 clear hs hcs
 generalize cs.toList = l at *
 match l,h6 with
 | [x0,x1],_=>
  simp only [List.getElem?_cons_zero,List.getElem?_cons_succ,Option.some.injEq] at c0 c1
  rw [c0,c1]
theorem d9s {v:Value} {n:Nat} {D:DataW H × List MemPlace} (h:DataW.trod enc Tryz.prog w 0 sp hd n 114 [v] = some D):∃ l,d1z w v l:=
 a7e Tryz.underlying114 (by kernel_rfl) (by decide) (fun cs b p m D hl hc ht=>by
  match cs,hl with
  | [x0,x1],_=>
   obtain ⟨_,hf⟩:=a3n Tryz.underlying113 (by kernel_rfl) (by kernel_rfl) ht
   obtain ⟨v0,y0,m0,c0,f0⟩:=hf 0 _ rfl
   obtain ⟨v1,y1,m1,c1,f1⟩:=hf 1 _ rfl
   obtain ⟨k0,e0,_⟩:=DataW.trod_bool Tryz.underlying4 f0
   obtain ⟨l1,h1⟩:=b8j f1
   simp only [List.cons.injEq,and_true] at e0
   simp only [List.getElem?_cons_zero,List.getElem?_cons_succ,Option.some.injEq] at c0 c1
   subst c0; subst c1; subst e0
   exact ⟨⟨k0,l1⟩,[.bool k0,x1],rfl,hc,x1,rfl,h1⟩) h
theorem d2l {v:Value} {n:Nat} {D:DataW H × List MemPlace} (h:DataW.trod enc Tryz.prog w 0 sp hd n 28 [v] = some D):∃ l,a5v w v l:=
 a7e Tryz.underlying28 (by kernel_rfl) (by decide) (fun cs b p m D hl hc ht=>by
  match cs,hl with
  | [u],_=>
   obtain ⟨l,hl⟩:=d9s ht
   exact ⟨l,[u],rfl,hc,u,rfl,hl⟩) h
theorem d9t {b0:Nat} {v:Value} {d:DataW H} {ps:List MemPlace} (hval:Value.okWide Tryz.prog w .any b0 28 v) (h:DataW.Trod enc Tryz.prog w 0 sp hd 28 v d ps):∃ l,a5v w v l:=by
 obtain ⟨a,n,c,rfl⟩:=okWide_slice Tryz.underlying28 hval
 obtain ⟨fu,hf⟩:=h
 exact d2l hf
end
end Go.Proofs
namespace Go.Proofs
open Go.Sh Tryz
variable {a0 a1 a2:Value} {K:VK} {w:World}
def f0r (a0:Value) (K:VK) (w:World):Prop:=
 kB .geq 3 4 a0 (.int .i64 1) (fun v4 w=>
 gT v4 (a0j a0) (fun v6 w=>
 gT v4 (kB .lss 3 4 v6 (.int .i64 2305843009213693952)) (fun v7=>
 kP v4 v7 (.bool false) fun v8=>
 K v8) w) w) w
theorem d6k (h:f0r a0 K w):a0a prog 167 #[a0] K w:=
 cZ (fun _=>0) func167 h
def f0s (a0 a1:Value) (K:VK) (w:World):Prop:=
 kB .rem 3 3 a1 a0 (fun v8 w=>
 a5z (fun M_2=>(kB .lss 3 4 v8 (.int .i64 0) (fun v10=>
 kO v10 (kB .add 3 3 v8 a0 fun v13=>
 M_2 [v13])
 (M_2 [v8])) w))
 fun l_3 u_l_3 w=>(K (l_3.getD 0 undef) w)) w
theorem d6l (h:f0s a0 a1 K w):a0a prog 168 #[a0,a1] K w:=
 cZ (fun _=>0) func168 h
def f0t (a0 a1 a2:Value) (K:VK) (w:World):Prop:=
 a0a prog 167 #[a0] (fun v8=>
 kU v8 fun v9=>
 kO v9 (K (.int .i64 0))
 (a0a prog 168 #[a0,a1] fun v12=>
 a0a prog 168 #[a0,a2] fun v15=>
 kB .add 3 3 v12 v15 fun v16=>
 kB .rem 3 3 v16 a0 fun v18=>
 K v18)) w
theorem d6m (h:f0t a0 a1 a2 K w):a0a prog 103 #[a0,a1,a2] K w:=
 cZ (fun _=>0) func103 h
def f0u (a0 a1 a2:Value) (K:VK) (w:World):Prop:=
 a0a prog 167 #[a0] (fun v8=>
 kU v8 fun v9=>
 kO v9 (K (.int .i64 0))
 (a0a prog 168 #[a0,a1] fun v12=>
 kB .add 3 3 v12 a0 fun v14=>
 a0a prog 168 #[a0,a2] fun v17=>
 kB .sub 3 3 v14 v17 fun v18=>
 kB .rem 3 3 v18 a0 fun v20=>
 K v20)) w
theorem d6n (h:f0u a0 a1 a2 K w):a0a prog 116 #[a0,a1,a2] K w:=
 cZ (fun _=>0) func116 h
def f0v (a0 a1 a2:Value) (K:VK) (w:World):Prop:=
 a0a prog 167 #[a0] (fun v14=>
 kU v14 fun v15=>
 kO v15 (K (.int .i64 0))
 (a0a prog 168 #[a0,a1] fun v18=>
 a0a prog 168 #[a0,a2] fun v21=>
 kB .leq 3 4 a0 (.int .i64 2147483648) fun v23=>
 kO v23 (kB .mul 3 3 v18 v21 fun v26=>
 kB .rem 3 3 v26 a0 fun v28=>
 K v28)
 (kQ [(.int .i64 0),undef,undef,(.int .i64 60)] fun J_8 m_9 l_10 u_l_10 w0_l_10=>(fun w=>(
 kB .geq 3 4 (l_10.getD 3 undef) (.int .i64 0) (fun v30=>
 kO v30 (kB .mul 3 3 (.int .i64 4) (l_10.getD 0 undef) fun v34=>
 kB .rem 3 3 v34 a0 fun v36=>
 kB .shr 3 3 v21 (l_10.getD 3 undef) fun v39=>
 kB .and 3 3 v39 (.int .i64 3) fun v40=>
 kQ [v36,(.int .i64 0)] fun J_16 m_17 l_18 u_l_18 w0_l_18=>(fun w=>(
 kB .lss 3 4 (l_18.getD 1 undef) v40 (fun v43=>
 kO v43 (kB .add 3 3 (l_18.getD 0 undef) v18 fun v48=>
 kB .rem 3 3 v48 a0 fun v50=>
 kB .add 3 3 (l_18.getD 1 undef) (.int .i64 1) fun v45=>
 kJ J_16 m_17 l_18 w0_l_18 [v50,v45])
 (kB .sub 3 3 (l_10.getD 3 undef) (.int .i64 2) fun v32=>
 kJ J_8 m_9 l_10 w0_l_10 [(l_18.getD 0 undef),v40,(l_18.getD 1 undef),v32])) w)) w0_l_18)
 (K (l_10.getD 0 undef))) w)) w0_l_10))) w
theorem d6o (h:f0v a0 a1 a2 K w):a0a prog 104 #[a0,a1,a2] K w:=
 cZ (fun _=>0) func104 h
def f0w (a0 a1 a2:Value) (K:VK) (w:World):Prop:=
 kB .rem 3 3 (.int .i64 1) a0 (fun v10=>
 a0a prog 168 #[a0,a1] fun v13=>
 kQ [v10,v13,a2] fun J_3 m_4 l_5 u_l_5 w0_l_5=>(fun w=>(
 kB .gtr 3 4 (l_5.getD 2 undef) (.int .i64 0) (fun v15 w=>
 a0v v15
 (a5z (fun M_7=>(kB .rem 3 3 (l_5.getD 2 undef) (.int .i64 2) (fun v17=>
 kC .eql 3 1 4 v17 fun v18=>
 kO v18 (a0a prog 104 #[a0,(l_5.getD 0 undef),(l_5.getD 1 undef)] fun v22=>
 M_7 [v22])
 (M_7 [(l_5.getD 0 undef)])) w))
 fun l_8 u_l_8 w=>(a0a prog 104 #[a0,(l_5.getD 1 undef),(l_5.getD 1 undef)] (fun v26=>
 kB .quo 3 3 (l_5.getD 2 undef) (.int .i64 2) fun v28=>
 kJ J_3 m_4 l_5 w0_l_5 [(l_8.getD 0 undef),v26,v28]) w))
 (K (l_5.getD 0 undef) w)) w)) w0_l_5) w
theorem d6p (h:f0w a0 a1 a2 K w):a0a prog 172 #[a0,a1,a2] K w:=
 cZ (fun _=>0) func172 h
def f0x (a0 a1:Value) (K:VK) (w:World):Prop:=
 a0a prog 167 #[a0] (fun v14=>
 kU v14 fun v15=>
 kO v15 (K (.tuple #[(.int .i64 0),(.bool false)]))
 (a0a prog 168 #[a0,a1] fun v19=>
 kB .rem 3 3 (.int .i64 1) a0 fun v21=>
 kQ [undef,undef,undef,a0,v19,(.int .i64 0),v21] fun J_5 m_6 l_7 u_l_7 w0_l_7=>(fun w=>(
 kC .neq 3 0 4 (l_7.getD 4 undef) (fun v23=>
 kO v23 (kB .quo 3 3 (l_7.getD 3 undef) (l_7.getD 4 undef) fun v26=>
 kB .mul 3 3 v26 (l_7.getD 4 undef) fun v30=>
 kB .sub 3 3 (l_7.getD 3 undef) v30 fun v31=>
 a0a prog 104 #[a0,v26,(l_7.getD 6 undef)] fun v37=>
 a0a prog 116 #[a0,(l_7.getD 5 undef),v37] fun v38=>
 kJ J_5 m_6 l_7 w0_l_7 [v26,v31,v38,(l_7.getD 4 undef),v31,(l_7.getD 6 undef),v38])
 (kC .neq 3 1 4 (l_7.getD 3 undef) fun v44=>
 kO v44 (K (.tuple #[(.int .i64 0),(.bool false)]))
 (kB .rem 3 3 (l_7.getD 5 undef) a0 fun v47=>
 K (.tuple #[v47,(.bool true)])))) w)) w0_l_7)) w
theorem d6q (h:f0x a0 a1 K w):a0a prog 144 #[a0,a1] K w:=
 cZ (fun _=>0) func144 h
def f0y (a0 a1:Value) (K:VK) (w:World):Prop:=
 kB .sub 3 3 a0 (.int .i64 1) (fun v10=>
 kQ [v10,(.int .i64 0)] fun J_2 m_3 l_4 u_l_4 w0_l_4=>(fun w=>(
 kB .rem 3 3 (l_4.getD 0 undef) (.int .i64 2) (fun v12=>
 kC .eql 3 0 4 v12 fun v13=>
 kO v13 (kB .quo 3 3 (l_4.getD 0 undef) (.int .i64 2) fun v15=>
 kB .add 3 3 (l_4.getD 1 undef) (.int .i64 1) fun v17=>
 kJ J_2 m_3 l_4 w0_l_4 [v15,v17])
 (a0a prog 172 #[a0,a1,(l_4.getD 0 undef)] fun v21=>
 kC .eql 3 1 4 v21 fun v23=>
 kO v23 (K (.bool true))
 (kQ [(.bool false),v21,(.int .i64 0)] fun J_11 m_12 l_13 u_l_13 w0_l_13=>(fun w=>(
 kB .lss 3 4 (l_13.getD 2 undef) (l_4.getD 1 undef) (fun v26=>
 kO v26 (kB .sub 3 3 a0 (.int .i64 1) fun v31=>
 kB .eql 3 4 (l_13.getD 1 undef) v31 fun v32=>
 kO v32 (K (.bool true))
 (a0a prog 104 #[a0,(l_13.getD 1 undef),(l_13.getD 1 undef)] fun v36=>
 kB .add 3 3 (l_13.getD 2 undef) (.int .i64 1) fun v28=>
 kJ J_11 m_12 l_13 w0_l_13 [(l_13.getD 0 undef),v36,v28]))
 (K (.bool false))) w)) w0_l_13))) w)) w0_l_4) w
theorem d6r (h:f0y a0 a1 K w):a0a prog 204 #[a0,a1] K w:=
 cZ (fun _=>0) func204 h
def f0z (K:VK) (w:World):Prop:=
 oM prog (.buildSlice 24 12 #[(0,(.tmp 0)),(1,(.tmp 1)),(2,(.tmp 2)),(3,(.tmp 3)),(4,(.tmp 4)),(5,(.tmp 5)),(6,(.tmp 6)),(7,(.tmp 7)),(8,(.tmp 8)),(9,(.tmp 9)),(10,(.tmp 10)),(11,(.tmp 11))]) 24 [(.int .i64 2),(.int .i64 3),(.int .i64 5),(.int .i64 7),(.int .i64 11),(.int .i64 13),(.int .i64 17),(.int .i64 19),(.int .i64 23),(.int .i64 29),(.int .i64 31),(.int .i64 37)] (fun v1=>
 K v1) w
theorem d6s (h:f0z K w):a0a prog 203 #[] K w:=
 cZ (fun _=>0) func203 h
def f1a (a0:Value) (K:VK) (w:World):Prop:=
 kB .lss 3 4 a0 (.int .i64 2) (fun v7 w=>
 gF v7 (a0j a0) (fun v9 w=>
 gF v7 (kB .geq 3 4 v9 (.int .i64 2305843009213693952)) (fun v10=>
 kP v7 (.bool true) v10 fun v11=>
 kO v11 (K (.bool false))
 (a0a prog 203 #[] fun v12=>
 kQ [(.bool false),(.int .i64 0)] fun J_6 m_7 l_8 u_l_8 w0_l_8=>(fun w=>(
 kN 24 v12 (fun v15=>
 kB .lss 3 4 (l_8.getD 1 undef) v15 fun v16=>
 kO v16 (kI 24 v12 (l_8.getD 1 undef) fun v22=>
 kL 3 v22 fun v23=>
 kB .rem 3 3 a0 v23 fun v24=>
 kC .eql 3 0 4 v24 fun v25=>
 kO v25 (kI 24 v12 (l_8.getD 1 undef) fun v29=>
 kL 3 v29 fun v30=>
 kB .eql 3 4 a0 v30 fun v31=>
 K v31)
 (kB .add 3 3 (l_8.getD 1 undef) (.int .i64 1) fun v18=>
 kJ J_6 m_7 l_8 w0_l_8 [(l_8.getD 0 undef),v18]))
 (kQ [(l_8.getD 0 undef),(.int .i64 0)] fun J_19 m_20 l_21 u_l_21 w0_l_21=>(fun w=>(
 kN 24 v12 (fun v34=>
 kB .lss 3 4 (l_21.getD 1 undef) v34 fun v35=>
 kO v35 (kI 24 v12 (l_21.getD 1 undef) fun v41=>
 kL 3 v41 fun v42=>
 a0a prog 204 #[a0,v42] fun v43=>
 kU v43 fun v44=>
 kO v44 (K (.bool false))
 (kB .add 3 3 (l_21.getD 1 undef) (.int .i64 1) fun v37=>
 kJ J_19 m_20 l_21 w0_l_21 [(l_21.getD 0 undef),v37]))
 (K (.bool true))) w)) w0_l_21)) w)) w0_l_8)) w) w) w
theorem d6t (h:f1a a0 K w):a0a prog 171 #[a0] K w:=
 cZ (fun _=>0) func171 h
def f1b (a0:Value) (K:VK) (w:World):Prop:=
 oM prog (.box 23 (.tmp 0)) 0 [a0] (fun v1=>
 kF 23 1 v1 fun v3=>
 kL 3 v3 fun v4=>
 kB .lss 3 4 v4 (.int .i64 5) fun v5 w=>
 gF v5 (kF 23 1 v1) (fun v7 w=>
 gF v5 (kL 3 v7) (fun v8 w=>
 gF v5 (kB .geq 3 4 v8 (.int .i64 1152921504606846976)) (fun v9=>
 kP v5 (.bool true) v9 fun v10 w=>
 gF v10 (kF 23 0 v1) (fun v12 w=>
 gF v10 (kL 3 v12) (fun v13 w=>
 gF v10 (kF 23 1 v1) (fun v14 w=>
 gF v10 (kL 3 v14) (fun v15 w=>
 gF v10 (kB .mul 3 3 (.int .i64 2) v15) (fun v16 w=>
 gF v10 (kB .add 3 3 v16 (.int .i64 1)) (fun v17 w=>
 gF v10 (kB .neq 3 4 v13 v17) (fun v18=>
 kP v10 (.bool true) v18 fun v19 w=>
 gF v19 (kF 23 0 v1) (fun v21 w=>
 gF v19 (kL 3 v21) (fun v22 w=>
 gF v19 (kB .geq 3 4 v22 (.int .i64 2305843009213693952)) (fun v23=>
 kP v19 (.bool true) v23 fun v24 w=>
 gF v24 (kF 23 2 v1) (fun v26 w=>
 gF v24 (kL 3 v26) (fun v27 w=>
 gF v24 (kB .lss 3 4 v27 (.int .i64 2)) (fun v28=>
 kP v24 (.bool true) v28 fun v29 w=>
 gF v29 (kF 23 2 v1) (fun v31 w=>
 gF v29 (kL 3 v31) (fun v32 w=>
 gF v29 (kF 23 0 v1) (fun v33 w=>
 gF v29 (kL 3 v33) (fun v34 w=>
 gF v29 (kB .geq 3 4 v32 v34) (fun v35=>
 kP v29 (.bool true) v35 fun v36=>
 kO v36 (K (.bool false))
 (kF 23 1 v1 fun v37=>
 kL 3 v37 fun v38=>
 a0a prog 171 #[v38] fun v39 w=>
 gT v39 (kF 23 0 v1) (fun v41 w=>
 gT v39 (kL 3 v41) (fun v42 w=>
 gT v39 (a0a prog 171 #[v42]) (fun v43=>
 kP v39 v43 (.bool false) fun v44 w=>
 gT v44 (kF 23 0 v1) (fun v46 w=>
 gT v44 (kL 3 v46) (fun v47 w=>
 gT v44 (kF 23 2 v1) (fun v48 w=>
 gT v44 (kL 3 v48) (fun v49 w=>
 gT v44 (kF 23 1 v1) (fun v50 w=>
 gT v44 (kL 3 v50) (fun v51 w=>
 gT v44 (a0a prog 172 #[v47,v49,v51]) (fun v52 w=>
 gT v44 (kC .eql 3 1 4 v52) (fun v53=>
 kP v44 v53 (.bool false) fun v54=>
 K v54) w) w) w) w) w) w) w) w) w) w) w)) w) w) w) w) w) w) w) w) w) w) w) w) w) w) w) w) w) w) w) w) w) w
theorem d6u (h:f1b a0 K w):a0a prog 110 #[a0] K w:=
 cZ (fun _=>0) func110 h
def f1c (a0 a1:Value) (K:VK) (w:World):Prop:=
 oM prog (.box 23 (.tmp 0)) 0 [a0] (fun v2=>
 kB .geq 3 4 a1 (.int .i64 1) fun v6 w=>
 gT v6 (a0j a1) (fun v8 w=>
 gT v6 (kF 23 0 v2) (fun v9 w=>
 gT v6 (kL 3 v9) (fun v10 w=>
 gT v6 (kB .lss 3 4 v8 v10) (fun v11=>
 kP v6 v11 (.bool false) fun v12 w=>
 gT v12 (kF 23 0 v2) (fun v14 w=>
 gT v12 (kL 3 v14) (fun v15 w=>
 gT v12 (a0j a1) (fun v16 w=>
 gT v12 (kF 23 1 v2) (fun v17 w=>
 gT v12 (kL 3 v17) (fun v18 w=>
 gT v12 (a0a prog 172 #[v15,v16,v18]) (fun v19 w=>
 gT v12 (kC .eql 3 1 4 v19) (fun v20=>
 kP v12 v20 (.bool false) fun v21=>
 K v21) w) w) w) w) w) w) w) w) w) w) w) w
theorem d6v (h:f1c a0 a1 K w):a0a prog 173 #[a0,a1] K w:=
 cZ (fun _=>0) func173 h
def f1d (a0 a1:Value) (K:VK) (w:World):Prop:=
 oM prog (.box 23 (.tmp 0)) 0 [a0] (fun v2=>
 kB .geq 3 4 a1 (.int .i64 1) fun v6 w=>
 gT v6 (a0j a1) (fun v8 w=>
 gT v6 (kF 23 0 v2) (fun v9 w=>
 gT v6 (kL 3 v9) (fun v10 w=>
 gT v6 (kB .lss 3 4 v8 v10) (fun v11=>
 kP v6 v11 (.bool false) fun v12 w=>
 gT v12 (kL 23 v2) (fun v14 w=>
 gT v12 (a0a prog 110 #[v14]) (fun v15=>
 kP v12 v15 (.bool false) fun v16 w=>
 gT v16 (kL 23 v2) (fun v18 w=>
 gT v16 (a0j a1) (fun v19 w=>
 gT v16 (a0a prog 173 #[v18,v19]) (fun v20=>
 kP v16 v20 (.bool false) fun v21=>
 K v21) w) w) w) w) w) w) w) w) w) w
theorem d6w (h:f1d a0 a1 K w):a0a prog 146 #[a0,a1] K w:=
 cZ (fun _=>0) func146 h
def f1e (a0 a1 a2:Value) (K:VK) (w:World):Prop:=
 oM prog (.box 23 (.tmp 0)) 0 [a0] (fun v3=>
 kF 23 0 v3 fun v7=>
 kL 3 v7 fun v8=>
 a0a prog 167 #[v8] fun v9=>
 kU v9 fun v10 w=>
 gF v10 (kF 23 1 v3) (fun v12 w=>
 gF v10 (kL 3 v12) (fun v13 w=>
 gF v10 (a0a prog 167 #[v13]) (fun v14 w=>
 gF v10 (kU v14) (fun v15=>
 kP v10 (.bool true) v15 fun v16=>
 kO v16 (K (.int .i64 0))
 (kH fun C_11 w=>(((true:Bool) = true) ∧ (jF 23 0 v3 C_11 fun v17=>
 jL 3 v17 C_11 fun v18=>
 a0c a1 C_11 fun v19=>
 jF 23 1 v3 C_11 fun v20=>
 jL 3 v20 C_11 fun v21=>
 a0c a2 C_11 fun v22=>
 ∃ S_18:World → WK,xR S_18 fun R_19=>
 (∀ w,C_11 w → (a0a prog 168 #[v21,v22] (xK C_11 S_18 R_19 w) w)) ∧
 (∀ w,C_11 w → ∀ v23,R_19 v23 w → (
 a0a prog 172 #[v18,v19,v23] (fun v24=>
 K v24) w)))))) w) w) w) w) w
theorem d6x (h:f1e a0 a1 a2 K w):a0a prog 137 #[a0,a1,a2] K w:=
 cZ (fun _=>(fz 6 1 2)) func137 h
def f1f (a0 a1 a2:Value) (K:VK) (w:World):Prop:=
 oM prog (.box 23 (.tmp 0)) 0 [a0] (fun v3=>
 kF 23 1 v3 fun v7=>
 kL 3 v7 fun v8=>
 a0a prog 167 #[v8] fun v9=>
 kU v9 fun v10=>
 kO v10 (K (.int .i64 0))
 (kF 23 0 v3 fun v11=>
 kL 3 v11 fun v12=>
 a0a prog 104 #[v12,a1,a2] fun v15=>
 K v15)) w
theorem d6y (h:f1f a0 a1 a2 K w):a0a prog 138 #[a0,a1,a2] K w:=
 cZ (fun _=>0) func138 h
def f1g (a0 a1:Value) (K:VK) (w:World):Prop:=
 oM prog (.box 23 (.tmp 0)) 0 [a0] (fun v2=>
 kC .neq 3 1 4 a1 fun v6 w=>
 gT v6 (kL 23 v2) (fun v8 w=>
 gT v6 (a0j a1) (fun v9 w=>
 gT v6 (a0a prog 173 #[v8,v9]) (fun v10=>
 kP v6 v10 (.bool false) fun v11=>
 K v11) w) w) w) w
theorem d6z (h:f1g a0 a1 K w):a0a prog 111 #[a0,a1] K w:=
 cZ (fun _=>0) func111 h
def g0d (a0:Value) (K:VK) (w:World):Prop:=
 oM prog (.box 26 (.tmp 0)) 0 [a0] (fun v1=>
 kF 26 0 v1 fun v4=>
 kL 23 v4 fun v5=>
 a0a prog 110 #[v5] fun v6=>
 kU v6 fun v7 w=>
 gF v7 (kF 26 1 v1) (fun v9 w=>
 gF v7 (kL 24 v9) (fun v10 w=>
 gF v7 (kN 24 v10) (fun v11 w=>
 gF v7 (kB .lss 3 4 v11 (.int .i64 2)) (fun v12=>
 kP v7 (.bool true) v12 fun v13 w=>
 gF v13 (kF 26 1 v1) (fun v15 w=>
 gF v13 (kL 24 v15) (fun v16 w=>
 gF v13 (kN 24 v16) (fun v17 w=>
 gF v13 (kB .gtr 3 4 v17 (.int .i64 7)) (fun v18=>
 kP v13 (.bool true) v18 fun v19 w=>
 gF v19 (kF 26 0 v1) (fun v21 w=>
 gF v19 (kL 23 v21) (fun v22 w=>
 gF v19 (kF 26 2 v1) (fun v23 w=>
 gF v19 (kL 3 v23) (fun v24 w=>
 gF v19 (a0a prog 111 #[v22,v24]) (fun v25 w=>
 gF v19 (kU v25) (fun v26=>
 kP v19 (.bool true) v26 fun v27=>
 kO v27 (K (.bool false))
 (kQ [(.bool false),(.int .i64 0)] fun J_23 m_24 l_25 u_l_25 w0_l_25=>(fun w=>(
 kF 26 1 v1 (fun v29=>
 kL 24 v29 fun v30=>
 kN 24 v30 fun v31=>
 kB .lss 3 4 (l_25.getD 1 undef) v31 fun v32=>
 kO v32 (kH fun C_30 w=>(((true:Bool) = true) ∧ (jF 26 0 v1 C_30 fun v35=>
 jL 23 v35 C_30 fun v36=>
 jF 26 1 v1 C_30 fun v37=>
 jL 24 v37 C_30 fun v38=>
 a0c (l_25.getD 1 undef) C_30 fun v39=>
 jI 24 v38 v39 C_30 fun v40=>
 jL 3 v40 C_30 fun v41=>
 ∃ S_38:World → WK,∀ w,C_30 w → (
 a0a prog 111 #[v36,v41] (fun v42=>
 kU v42 fun v43=>
 kO v43 (K (.bool false))
 (kB .add 3 3 (l_25.getD 1 undef) (.int .i64 1) fun v34=>
 kJ J_23 m_24 l_25 w0_l_25 [(l_25.getD 0 undef),v34])) w))))
 (K (.bool true))) w)) w0_l_25)) w) w) w) w) w) w) w) w) w) w) w) w) w) w) w
theorem e5h (h:g0d a0 K w):a0a prog 22 #[a0] K w:=
 cZ (fun _=>(fz 7 0 2)) func22 h
def f1h (a0 a1 a2:Value) (K:VK) (w:World):Prop:=
 a0a prog 167 #[a0] (fun v10=>
 kU v10 fun v11=>
 kO v11 (K (.int .i64 0))
 (kB .geq 3 4 a2 (.int .i64 0) fun v13=>
 kO v13 (a0a prog 172 #[a0,a1,a2] fun v17=>
 K v17)
 (a0a prog 144 #[a0,a1] fun v21=>
 kE 0 3 v21 fun v22=>
 kE 1 4 v21 fun v23=>
 kU v23 fun v25=>
 kO v25 (K (.int .i64 0))
 (kB .add 3 3 a2 (.int .i64 1) fun v31=>
 oM prog (.unOp .neg 3 (.tmp 0)) 3 [v31] fun v32=>
 a0a prog 172 #[a0,v22,v32] fun v33=>
 a0a prog 104 #[a0,v22,v33] fun v34=>
 K v34)))) w
theorem d7a (h:f1h a0 a1 a2 K w):a0a prog 188 #[a0,a1,a2] K w:=
 cZ (fun _=>0) func188 h
def f1i (a0 a1 a2:Value) (K:VK) (w:World):Prop:=
 oM prog (.box 23 (.tmp 0)) 0 [a0] (fun v3=>
 kF 23 1 v3 fun v7=>
 kL 3 v7 fun v8=>
 a0a prog 167 #[v8] fun v9=>
 kU v9 fun v10=>
 kO v10 (K (.int .i64 0))
 (kH fun C_6 w=>(((true:Bool) = true) ∧ (jF 23 0 v3 C_6 fun v11=>
 jL 3 v11 C_6 fun v12=>
 a0c a1 C_6 fun v13=>
 jF 23 0 v3 C_6 fun v14=>
 jL 3 v14 C_6 fun v15=>
 a0c a2 C_6 fun v16=>
 ∃ S_13:World → WK,xR S_13 fun R_14=>
 (∀ w,C_6 w → (a0a prog 188 #[v15,v16,(.int .i64 (-1))] (xK C_6 S_13 R_14 w) w)) ∧
 (∀ w,C_6 w → ∀ v17,R_14 v17 w → (
 a0a prog 104 #[v12,v13,v17] (fun v18=>
 K v18) w)))))) w
theorem d7b (h:f1i a0 a1 a2 K w):a0a prog 142 #[a0,a1,a2] K w:=
 cZ (fun _=>(fz 6 1 2)) func142 h
end Go.Proofs
namespace Go.Proofs
open Go Go.Sh Go.RowKit FdSpec
section
variable {K:VK} {w:World}
theorem f5p {P:Program} (t t' T:TypeId) (yk:IntKind) (x y:Int) (h0:0 ≤ y) (h1:y ≤ 64):oM P (.binOp .shr t (.tmp 0) (.tmp 1) t') T [.int .i64 x,.int yk y] = a0j (.int .i64 (x / 2 ^ y.toNat)):=by
 funext K w
 simp [oM,opM,xop,execOp,a1h,evE,binOp]
 rfl
theorem f5q {P:Program} (t t' T:TypeId) (x y:Int):oM P (.binOp .and t (.tmp 0) (.tmp 1) t') T [.int .i64 x,.int .i64 y] = a0j (.int .i64 (bits .and .i64 x y)):=by
 funext K w
 simp [oM,opM,xop,execOp,a1h,evE,binOp,go_sem]
theorem d9x (x:Int) (hx:0 ≤ x ∧ x < 9223372036854775808):bits .and .i64 x 3 = x % 4:=by
 obtain ⟨a,rfl⟩:=Int.eq_ofNat_of_zero_le hx.1
 simp only [bits]
 rw [show (3:Int) = ((3:Nat):Int) from rfl,BitVec.ofInt_natCast,BitVec.ofInt_natCast,BitVec.toNat_and]
 simp only [BitVec.toNat_ofNat]
 rw [show IntKind.i64.bits = 64 from rfl,Nat.mod_eq_of_lt (show a < 2 ^ 64 by omega),Nat.mod_eq_of_lt (show 3 < 2 ^ 64 by decide),show 3 = 2 ^ 2 - 1 from rfl,Nat.and_two_pow_sub_one_eq_mod]
 rw [a0o _ (by omega) (by omega)]
 omega
theorem a4g (n:Int) (h:K (.bool (decide (okN n))) w):a0a Tryz.prog 167 #[.int .i64 n] K w:=by
 apply d6k
 unfold f0r
 have e:decide (okN n) = (decide (1 ≤ n) && decide (n < 2305843009213693952)):=by
  by_cases h1:1 ≤ n <;> by_cases h2:n < 2305843009213693952 <;> simp [okN,h1,h2]
 rw [e] at h
 by_cases h1:1 ≤ n
 ·refine Xa @h1 ?_
  simpa [h1] using h
 ·refine Xa @h1 ?_
  simpa [h1] using h
theorem a2c (n a:Int) (hn:okN n) (h:K (.int .i64 (a % n)) w):a0a Tryz.prog 168 #[.int .i64 n,.int .i64 a] K w:=by
 apply d6l
 unfold f0s
 obtain ⟨h1,h2⟩:=hn
 have e:=c0f n a (by omega)
 have h3:=Int.emod_nonneg a (b:=n) (by omega)
 have h4:=Int.emod_lt_of_pos a (b:=n) (by omega)
 obtain ⟨r,hr⟩:∃ r,r = a.tmod n:=⟨_,rfl⟩
 rw [← hr] at e
 have hjm:∀ (l:List Value) (u:Env) (w':World),(fun l w'=>l = [Value.int .i64 (a % n)] ∧ w' = w) l w' → K (l.getD 0 undef) w':=by
  rintro l u w' ⟨rfl,rfl⟩; exact h
 refine Xa (Eq.symm @hr) ?_
 refine ⟨fun l w'=>l = [Value.int .i64 (a % n)] ∧ w' = w,?_,fun l u w' hl=>hjm l u w' hl⟩
 repeat (any_goals (first
 | (with_reducible ((refine a4z ?_); refine yP (fun hg=>?_) fun hg=>?_))
 | ((with_reducible refine oG fun Kv hK=>?_); simp [go_sem]; (try simp (disch:=omega) only [a0o,a4r,a1v]); apply hK; clear hK Kv)))
 ·rw [if_pos (by assumption)] at e; rw [e]; exact ⟨rfl,rfl⟩
 ·rw [if_neg (by assumption)] at e; rw [e]; exact ⟨rfl,rfl⟩
theorem b8k (n a b:Int) (h:K (.int .i64 (a6i n a b)) w):a0a Tryz.prog 103 #[.int .i64 n,.int .i64 a,.int .i64 b] K w:=by
 apply d6m
 unfold f0t
 refine a4g n ?_
 by_cases hn:okN n
 ·refine Xa0 ?_
  refine a2c n a hn ?_
  refine a2c n b hn ?_
  have a1:=Int.emod_nonneg a (show n ≠ 0 by have:=hn.1; omega)
  have a2:=Int.emod_lt_of_pos a (show 0 < n by have:=hn.1; omega)
  have b1:=Int.emod_nonneg b (show n ≠ 0 by have:=hn.1; omega)
  have b2:=Int.emod_lt_of_pos b (show 0 < n by have:=hn.1; omega)
  obtain ⟨h1,h2⟩:=hn
  have e:(a % n + b % n).tmod n = a6i n a b:=by rw [Int.tmod_eq_emod_of_nonneg (by omega),d4m n a b ⟨h1,h2⟩]
  refine Xa @e ?_
  exact h
 ·unfold a6i at h
  rw [if_neg hn] at h
  refine Xa0 ?_
  exact h
theorem c3r (n a b:Int) (h:K (.int .i64 (a3g n a b)) w):a0a Tryz.prog 116 #[.int .i64 n,.int .i64 a,.int .i64 b] K w:=by
 apply d6n
 unfold f0u
 refine a4g n ?_
 by_cases hn:okN n
 ·refine Xa0 ?_
  refine a2c n a hn ?_
  have a1:=Int.emod_nonneg a (show n ≠ 0 by have:=hn.1; omega)
  have a2:=Int.emod_lt_of_pos a (show 0 < n by have:=hn.1; omega)
  have b1:=Int.emod_nonneg b (show n ≠ 0 by have:=hn.1; omega)
  have b2:=Int.emod_lt_of_pos b (show 0 < n by have:=hn.1; omega)
  have h1:=hn.1
  have h2:=hn.2
  refine Xa0 ?_
  refine a2c n b hn ?_
  have e:(a % n + n - b % n).tmod n = a3g n a b:=by rw [Int.tmod_eq_emod_of_nonneg (by omega),d4n n a b hn]
  refine Xa @e ?_
  exact h
 ·unfold a3g at h
  rw [if_neg hn] at h
  refine Xa0 ?_
  exact h
def MuJ (n x y:Int) (w0:World) (l:List Value) (w':World):Prop:=w' = w0 ∧ ∃ (o:Int) (u v:Value) (j:Nat),l = [.int .i64 o,u,v,.int .i64 (60 - 2 * (j:Int))] ∧ j ≤ 31 ∧ o = x * (y / 2 ^ (62 - 2 * j)) % n
def g6n (l:List Value) (_:World):Nat:=match l with | [_,_,_,.int _ k]=>(k + 2).toNat | _=>0
theorem f5r (a b c:Value) (q:IntKind) (k:Int) (w:World):g6n [a,b,c,.int q k] w = (k + 2).toNat:=rfl
def MiJ (n x o:Int) (d:Int) (w0:World) (l:List Value) (w':World):Prop:=w' = w0 ∧ ∃ (p:Int) (i:Nat),l = [.int .i64 p,.int .i64 (i:Int)] ∧ (i:Int) ≤ d ∧ p = (o + (i:Int) * x) % n
def g6o (d:Int) (l:List Value) (_:World):Nat:=match l with | [_,.int _ k]=>(d - k).toNat | _=>0
theorem f5s (d:Int) (a:Value) (q:IntKind) (k:Int) (w:World):g6o d [a,.int q k] w = (d - k).toNat:=rfl
theorem a4w (n a b:Int) (h:K (.int .i64 (a2n n a b)) w):a0a Tryz.prog 104 #[.int .i64 n,.int .i64 a,.int .i64 b] K w:=by
 apply d6o
 unfold f0v
 refine a4g n ?_
 by_cases hn:okN n
 ·refine Xa0 ?_
  refine a2c n a hn ?_
  refine a2c n b hn ?_
  rw [← d4o n a b hn] at h
  have a1:=Int.emod_nonneg a (show n ≠ 0 by have:=hn.1; omega)
  have a2:=Int.emod_lt_of_pos a (show 0 < n by have:=hn.1; omega)
  have b1:=Int.emod_nonneg b (show n ≠ 0 by have:=hn.1; omega)
  have b2:=Int.emod_lt_of_pos b (show 0 < n by have:=hn.1; omega)
  obtain ⟨h1,h2⟩:=hn
  generalize a % n = x at *
  generalize b % n = y at *
  have hxy:0 ≤ x * y:=Int.mul_nonneg a1 b1
  by_cases hs:n ≤ 2147483648
  ·have hb:x * y ≤ 2147483648 * 2147483648:=Int.mul_le_mul (by omega) (by omega) b1 (by omega)
   have e:(x * y).tmod n = x * y % n:=Int.tmod_eq_emod_of_nonneg hxy
   refine Xa @e ?_
   exact h
  ·refine Xa0 ?_
   refine ⟨MuJ n x y w,g6n,⟨rfl,0,_,_,0,rfl,by omega,?_⟩,?_⟩
   ·rw [show y / 2 ^ (62 - 2 * 0) = 0 by omega]; simp
   rintro _ _ w1 ⟨rfl,o,u,v,j,rfl,hj,ho⟩
   by_cases hj31:j = 31
   ·subst hj31
    have:o = x * y % n:=by rw [ho]; simp
    refine Xa0 ?_
    rw [this]
    exact h
   ·have o1:0 ≤ o:=by rw [ho]; exact Int.emod_nonneg _ (by omega)
    have o2:o < n:=by rw [ho]; exact Int.emod_lt_of_pos _ (by omega)
    have e4:(4 * o).tmod n = 4 * o % n:=Int.tmod_eq_emod_of_nonneg (by omega)
    have sh:=fun t t' T=>f5p (P:=Tryz.prog) t t' T .i64 y (60 - 2 * (j:Int)) (by omega) (by omega)
    have ek:(60 - 2 * (j:Int)).toNat = 60 - 2 * j:=by omega
    rw [ek] at sh
    have ey:y / 2 ^ (60 - 2 * j) = 4 * (y / 2 ^ (62 - 2 * j)) + y / 2 ^ (60 - 2 * j) % 4:=by
     have:y / 2 ^ (62 - 2 * j) = y / 2 ^ (60 - 2 * j) / 4:=by
      rw [show 62 - 2 * j = (60 - 2 * j) + 2 by omega,Int.pow_add]
      exact (Int.ediv_ediv_of_nonneg (Int.le_of_lt (Int.pow_pos (by omega)))).symm
     rw [this]; omega
    have q1:0 ≤ y / 2 ^ (60 - 2 * j):=Int.ediv_nonneg b1 (Int.le_of_lt (Int.pow_pos (by omega)))
    have q2:y / 2 ^ (60 - 2 * j) ≤ y:=Int.ediv_le_self _ b1
    obtain ⟨q,hq⟩:∃ q,q = y / 2 ^ (60 - 2 * j):=⟨_,rfl⟩
    rw [← hq] at sh ey q1 q2
    have eb:=d9x q (by omega)
    refine Xa (An4 @e4 @sh @f5q @eb) ?_
    generalize hd:q % 4 = d at *
    have d1:0 ≤ d:=by omega
    have d2:d < 4:=by omega
    refine ⟨MiJ n x (4 * o) d w1,g6o d,⟨rfl,_,0,rfl,by omega,by simp⟩,?_⟩
    rintro _ _ w2 ⟨rfl,p,i,rfl,hi,hp⟩
    have p1:0 ≤ p:=by rw [hp]; exact Int.emod_nonneg _ (by omega)
    have p2:p < n:=by rw [hp]; exact Int.emod_lt_of_pos _ (by omega)
    by_cases hid:(i:Int) < d
    ·have ep:(p + x).tmod n = (p + x) % n:=Int.tmod_eq_emod_of_nonneg (by omega)
     refine Xa @ep ?_
     refine ⟨⟨rfl,_,i + 1,rfl,by omega,?_⟩,?_⟩
     ·rw [hp,Int.emod_add_emod]; congr 1; rw [Int.natCast_add,Int.add_mul]; omega
     ·simp only [f5s]; omega
    ·have hid2:(i:Int) = d:=by omega
     refine Xa0 ?_
     refine ⟨⟨rfl,_,_,_,j + 1,by rw [show 60 - 2 * (j:Int) - 2 = 60 - 2 * ((j + 1:Nat):Int) by omega]; rfl,by omega,?_⟩,?_⟩
     ·rw [hp,hid2,ho,show 62 - 2 * (j + 1) = 60 - 2 * j by omega]
      rw [← hq,ey]
      generalize y / 2 ^ (62 - 2 * j) = Y
      rw [Int.add_emod,Int.mul_emod,Int.emod_emod_of_dvd _ (Int.dvd_refl n),← Int.mul_emod,← Int.add_emod,Int.mul_add,Int.mul_comm d x]
      congr 2
      rw [← Int.mul_assoc,← Int.mul_assoc,Int.mul_comm 4 x]
     ·simp only [f5r]; omega
 ·unfold a2n at h
  rw [if_neg hn] at h
  refine Xa0 ?_
  exact h
def RpJ (n R:Int) (w0:World) (l:List Value) (w':World):Prop:=w' = w0 ∧ ∃ (o a:Int) (b:Nat),l = [.int .i64 o,.int .i64 a,.int .i64 (b:Int)] ∧ (0 ≤ o ∧ o < n) ∧ (0 ≤ a ∧ a < n) ∧ b < 9223372036854775808 ∧ o * a ^ b % n = R
def g6p (l:List Value) (_:World):Nat:=match l with | [_,_,.int _ k]=>k.toNat | _=>0
theorem f5t (a b:Value) (q:IntKind) (k:Int) (w:World):g6p [a,b,.int q k] w = k.toNat:=rfl
theorem c3s (n a b:Int) (hn:okN n):a2n n a b = a * b % n:=by rw [a2n,if_pos hn]
theorem b8l (n a:Int) (b:Nat) (hn:okN n) (hb:b < 9223372036854775808) (h:K (.int .i64 (pw n a b)) w):a0a Tryz.prog 172 #[.int .i64 n,.int .i64 a,.int .i64 (b:Int)] K w:=by
 apply d6p
 unfold f0w
 have hn1:=hn.1
 have hn2:=hn.2
 have e1:(1:Int).tmod n = 1 % n:=Int.tmod_eq_emod_of_nonneg (by omega)
 refine Xa @e1 ?_
 refine a2c n a hn ?_
 have m1:=Int.emod_nonneg 1 (show n ≠ 0 by omega)
 have m2:=Int.emod_lt_of_pos 1 (show 0 < n by omega)
 have a1:=Int.emod_nonneg a (show n ≠ 0 by omega)
 have a2:=Int.emod_lt_of_pos a (show 0 < n by omega)
 have hR0:1 % n * (a % n) ^ b % n = pw n a b:=by
  rw [Int.mul_emod,Int.emod_emod_of_dvd _ (Int.dvd_refl n),← Int.mul_emod,Int.one_mul]
  exact c7x n a b
 generalize pw n a b = R at h hR0
 refine ⟨RpJ n R w,g6p,⟨rfl,_,_,b,rfl,⟨m1,m2⟩,⟨a1,a2⟩,hb,hR0⟩,?_⟩
 clear m1 m2 a1 a2 hb hR0
 rintro _ _ w1 ⟨rfl,o,c,b,rfl,ho,hc,hb,hR⟩
 by_cases hb0:b = 0
 ·subst hb0
  have:o = R:=by
   rw [← hR]; simp
   exact (Int.emod_eq_of_lt ho.1 ho.2).symm
  refine Xa0 ?_
  rw [this]; exact h
 ·have e2:(b:Int).tmod 2 = ((b % 2:Nat):Int):=by rw [Int.tmod_eq_emod_of_nonneg (by omega)]; omega
  have e3:(b:Int).tdiv 2 = ((b / 2:Nat):Int):=by rw [Int.tdiv_eq_ediv_of_nonneg (by omega)]; omega
  refine Xa0 ?_
  refine ⟨fun l w'=>w' = w1 ∧ ∃ o',l = [.int .i64 o'] ∧ (0 ≤ o' ∧ o' < n) ∧ o' * (c * c % n) ^ (b / 2) % n = R,?_,?_⟩
  ·rcases Nat.mod_two_eq_zero_or_one b with h2 | h2
   ·rw [h2] at e2
    refine Xa @e2 ?_
    exact ⟨rfl,o,rfl,ho,by rw [d4l n c o b h2]; exact hR⟩
   ·rw [h2] at e2
    refine Xa @e2 ?_
    refine a4w n o c ?_
    rw [c3s n o c hn]
    exact ⟨rfl,_,rfl,⟨Int.emod_nonneg _ (by omega),Int.emod_lt_of_pos _ (by omega)⟩,by rw [e9g n c o b h2]; exact hR⟩
  ·rintro _ _ w2 ⟨rfl,o',rfl,ho',hR'⟩
   refine a4w n c c ?_
   rw [c3s n c c hn]
   refine Xa @e3 ?_
   refine ⟨⟨rfl,o',c * c % n,b / 2,by simp,ho',⟨Int.emod_nonneg _ (by omega),Int.emod_lt_of_pos _ (by omega)⟩,by omega,hR'⟩,?_⟩
   simp only [f5t]; omega
end
end Go.Proofs
namespace Go.Proofs
open Go Go.Sh Go.RowKit FdSpec TkSpec
section
variable {K:VK} {w:World}
def RiJ (n:Int) (E:Int × Int) (w:World) (l:List Value) (w':World):Prop:=w' = w ∧ ∃ (v1 v2 v3:Value) (r s x y:Int),l = [v1,v2,v3,.int .i64 r,.int .i64 s,.int .i64 x,.int .i64 y] ∧ (0 ≤ s ∧ s < n) ∧ (0 ≤ r ∧ r ≤ n) ∧ (0 ≤ x ∧ x < 2305843009213693952) ∧ (0 ≤ y ∧ y < 2305843009213693952) ∧ a4d n r s x y = E
def g6q (l:List Value) (_:World):Nat:=match l with | [_,_,_,_,.int _ s,_,_]=>s.toNat | _=>0
theorem f5u (a b c r x y:Value) (k:IntKind) (s:Int) (w:World):g6q [a,b,c,r,.int k s,x,y] w = s.toNat:=rfl
theorem d9y (n a:Int) (k:K (.tuple #[.int .i64 ((b4g n a).getD 0),.bool (b4g n a).isSome]) w):a0a Tryz.prog 144 #[.int .i64 n,.int .i64 a] K w:=by
 apply d6q
 unfold f0x
 refine a4g n ?_
 by_cases hn:okN n
 ·have hn':=hn
  obtain ⟨h1,h2⟩:=hn'
  have ha:=Int.emod_nonneg a (b:=n) (by omega)
  have ha2:=Int.emod_lt_of_pos a (b:=n) (by omega)
  have kk:∀ r x,(r,x) = a4d n n (a % n) 0 1 → K (.tuple #[.int .i64 (if r = 1 then x % n else 0),.bool (decide (r = 1))]) w:=fun r x e=>by
   unfold b4g at k
   rw [if_pos hn,← e] at k
   by_cases hr:r = 1
   ·simpa [hr] using k
   ·simpa [hr] using k
  clear k
  refine Xa0 ?_
  refine a2c n a hn ?_
  have m1:(1:Int).tmod n = 1 % n:=Int.tmod_eq_emod_of_nonneg (by omega)
  have m2:=Int.emod_nonneg 1 (b:=n) (by omega)
  have m3:=Int.emod_lt_of_pos 1 (b:=n) (by omega)
  have hy0:a4d n n (a % n) 0 (1 % n) = a4d n n (a % n) 0 1:=by
   by_cases hn1:n = 1
   ·subst hn1
    rw [show a % 1 = 0 by omega,a8i,a8i]
   ·rw [show (1:Int) % n = 1 from Int.emod_eq_of_lt (by omega) (by omega)]
  generalize a % n = s0 at *
  generalize hE:a4d n n s0 0 1 = E at *
  refine Xa @m1 ?_
  refine ⟨RiJ n E w,g6q,⟨rfl,_,_,_,n,s0,0,1 % n,rfl,⟨ha,ha2⟩,⟨by omega,by omega⟩,⟨by omega,by omega⟩,⟨by omega,by omega⟩,hy0⟩,?_⟩
  clear hE ha ha2 hy0 m1 m2 m3 s0
  rintro _ _ w1 ⟨rfl,v,v2,v3,r,s,x,y,rfl,hs,hr,hx,hy,he⟩
  by_cases h0:s = 0
  ·subst h0
   rw [a8i] at he
   have kk:=kk r x he
   have e1:x.tmod n = x % n:=Int.tmod_eq_emod_of_nonneg hx.1
   by_cases hr1:r = 1
   ·simp only [hr1] at kk
    refine Xa (An2 @hr1 @e1) ?_
    simpa using kk
   ·simp only [hr1] at kk
    refine Xa @hr1 ?_
    simpa using kk
  ·rw [c2z n r s x y (by omega)] at he
   have q1:r.tdiv s = r / s:=Int.tdiv_eq_ediv_of_nonneg hr.1
   have q2:=Int.emod_add_mul_ediv r s
   have q3:=Int.emod_nonneg r (b:=s) (by omega)
   have q4:=Int.emod_lt_of_pos r (b:=s) (by omega)
   have q5:0 ≤ r / s:=Int.ediv_nonneg hr.1 hs.1
   have q6:r / s ≤ r:=Int.ediv_le_self _ hr.1
   have q7:r / s * s = r - r % s:=by rw [Int.mul_comm]; omega
   have m1:=b0n n (r / s) y hn
   have m2:=b0o n x (a2n n (r / s) y) hn
   generalize r % s = t at *
   generalize r / s = q at *
   clear q2
   have q8:r - (r - t) = t:=by omega
   refine Xa (An3 @q1 @q7 @q8) ?_
   refine a4w n q y ?_
   refine c3r n x _ ?_
   generalize a3g n x (a2n n q y) = z at *
   refine ⟨⟨rfl,_,_,_,s,t,y,z,rfl,⟨q3,by omega⟩,⟨hs.1,by omega⟩,hy,⟨m2.1,by omega⟩,he⟩,?_⟩
   simp only [f5u]
   omega
 ·unfold b4g at k
  rw [if_neg hn] at k
  refine Xa0 ?_
  exact k
def TzJ (m:Nat) (w:World) (l:List Value) (w':World):Prop:=w' = w ∧ ∃ (d k:Nat),l = [.int .i64 (d:Int),.int .i64 (k:Int)] ∧ k ≤ tz 64 m ∧ m / 2 ^ k = d ∧ 0 < d
def g6r (l:List Value) (_:World):Nat:=match l with | [.int _ d,_]=>d.toNat | _=>0
theorem f5v (a:Value) (q:IntKind) (d:Int) (w:World):g6r [.int q d,a] w = d.toNat:=rfl
theorem f5w (k:Nat):∀ (f m:Nat),0 < m → m < 2 ^ f → k ≤ tz f m → (m / 2 ^ k % 2 = 0 ↔ k < tz f m) ∧ 0 < m / 2 ^ k:=by
 induction k with
 | zero=>
  intro f m hm hf _
  cases f with
  | zero=>omega
  | succ f=>
   unfold tz
   split
   ·rename_i h; simp [h]; omega
   ·rename_i h; simp [h]; omega
 | succ k ih=>
  intro f m hm hf hk
  cases f with
  | zero=>simp [tz] at hk
  | succ f=>
   unfold tz at hk ⊢
   split at hk
   ·rename_i h
    rw [if_pos h]
    have:=ih f (m / 2) (by omega) (by rw [Nat.pow_succ] at hf; omega) (by omega)
    rw [Nat.div_div_eq_div_mul,← Nat.pow_succ'] at this
    exact ⟨by rw [this.1]; omega,this.2⟩
   ·omega
theorem d2n (n b:Int) (hn:okN n) (h2:2 ≤ n) (k:K (.bool (b1c n b)) w):a0a Tryz.prog 204 #[.int .i64 n,.int .i64 b] K w:=by
 apply d6r
 unfold f0y
 have hn1:=hn.1
 have hn2:=hn.2
 obtain ⟨m,hm⟩:=c7o (n - 1) (by omega)
 have hm2:(n - 1).toNat = m:=by omega
 unfold b1c at k
 rw [hm2] at k
 have ht:=f8o 64 m (by omega) (by omega)
 refine Xa @hm ?_
 refine ⟨TzJ m w,g6r,⟨rfl,m,0,rfl,by omega,by simp,by omega⟩,?_⟩
 rintro _ _ w1 ⟨rfl,d,t,rfl,hd,hmd,hd0⟩
 have hst:=f5w t 64 m (by omega) (by omega) hd
 rw [hmd] at hst
 have hdm:d ≤ m:=by rw [← hmd]; exact Nat.div_le_self _ _
 have e2:(d:Int).tmod 2 = ((d % 2:Nat):Int):=by rw [Int.tmod_eq_emod_of_nonneg (by omega)]; omega
 have e3:(d:Int).tdiv 2 = ((d / 2:Nat):Int):=by rw [Int.tdiv_eq_ediv_of_nonneg (by omega)]; omega
 by_cases hev:d % 2 = 0
 ·have hlt:=hst.1.1 hev
  rw [hev] at e2
  refine Xa (An2 @e2 @e3) ?_
  refine ⟨⟨rfl,d / 2,t + 1,by simp,by omega,?_,by omega⟩,?_⟩
  ·rw [Nat.pow_succ,← Nat.div_div_eq_div_mul,hmd]
  ·simp only [f5v]; omega
 ·have htt:t = tz 64 m:=by have:=mt hst.1.2 hev; omega
  have hodd:d % 2 = 1:=by omega
  rw [hodd] at e2
  have k:K (.bool (if pw n b d = 1 then true else d1y n t (pw n b d))) w1:=by rw [← hmd,htt]; exact k
  refine Xa @e2 ?_
  refine b8l n b d hn (by omega) ?_
  have hp:=a9p n b d (by omega)
  generalize pw n b d = x at *
  by_cases hx1:x = 1
  ·simp only [if_pos hx1] at k
   refine Xa @hx1 ?_
   exact k
  ·simp only [if_neg hx1] at k
   refine Xa @hx1 ?_
   refine ⟨fun l w'=>w' = w1 ∧ ∃ (v:Value) (y:Int) (i:Nat),l = [v,.int .i64 y,.int .i64 (i:Int)] ∧ i ≤ t ∧ (0 ≤ y ∧ y < n) ∧ d1y n (t - i) y = d1y n t x,g4c t,⟨rfl,_,x,0,rfl,by omega,hp,rfl⟩,?_⟩
   generalize d1y n t x = R at *
   rintro _ _ w2 ⟨rfl,v,y,i,rfl,hi,hy,hR⟩
   by_cases hit:i = t
   ·subst hit
    rw [Nat.sub_self] at hR
    have hR2:R = false:=by rw [← hR]; rfl
    subst hR2
    refine Xa0 ?_
    exact k
   ·obtain ⟨j,hj⟩:∃ j,t - i = j + 1:=⟨t - i - 1,by omega⟩
    rw [hj] at hR
    unfold d1y at hR
    by_cases hxn:y = n - 1
    ·rw [if_pos hxn] at hR
     subst hR
     rw [hm] at hxn
     refine Xa (An2 @hm @hxn) ?_
     exact k
    ·rw [if_neg hxn] at hR
     rw [hm] at hxn
     refine Xa (An2 @hm @hxn) ?_
     refine a4w n y y ?_
     rw [c3s n y y hn]
     refine Xa0 ?_
     refine ⟨⟨rfl,_,_,i + 1,rfl,by omega,⟨Int.emod_nonneg _ (by omega),Int.emod_lt_of_pos _ (by omega)⟩,?_⟩,?_⟩
     ·rw [show t - (i + 1) = j by omega]; exact hR
     ·simp only [d4f]; omega
theorem b4x:∀ p ∈ smallP,(2:Int) ≤ p ∧ p ≤ 37:=by decide
theorem e6o (k:∀ v W,Bw w W → Ints W v smallP → K v W):a0a Tryz.prog 203 #[] K w:=by
 apply d6s
 unfold f0z
 rw [b0d (S:=Instr.buildSlice 24 12 (((List.range 12).zip smallV.toList)).toArray) (by kernel_rfl)]
 have e:(Instr.buildSlice 24 12 (((List.range 12).zip smallV.toList)).toArray).run Tryz.prog w = .ok (.slice (some ⟨w.heap.size,0,none⟩) 12 12) (w.alloc (.cells (smallP.map (Value.int .i64)).toArray 3)):=by kernel_rfl
 rw [e]
 exact k _ _ ((Below.refl _ w).alloc (rL) _) (a8g w smallP _ 12 (fun n hn=>by have:=b4x n hn; unfold I64; omega) (by decide))
theorem c8l {n:Int} (hf:smallP.find? (fun p=>decide (n % p = 0)) = none) (h1:2 ≤ n):37 < n:=by
 have hnd:=List.find?_eq_none.1 hf
 have g:∀ p ∈ smallP,¬ n % p = 0:=fun p hp=>by simpa using hnd p hp
 have hs:∀ m:Nat,m < 38 → 2 ≤ m → ∃ p ∈ smallP,(m:Int) % p = 0:=by decide +kernel
 obtain ⟨m,rfl⟩:=c7o n (by omega)
 by_cases hm:m < 38
 ·obtain ⟨p,hp,hp0⟩:=hs m hm (by omega)
  exact absurd hp0 (g p hp)
 ·omega
def g8j (n:Int) (W:World) (l:List Value) (w':World):Prop:=w' = W ∧ ∃ (v:Value) (i:Nat),l = [v,.int .i64 (i:Int)] ∧ i ≤ 12 ∧ smallP.find? (fun p=>decide (n % p = 0)) = (smallP.drop i).find? (fun p=>decide (n % p = 0))
def g4p (n:Int) (W:World) (l:List Value) (w':World):Prop:=w' = W ∧ ∃ (v:Value) (i:Nat),l = [v,.int .i64 (i:Int)] ∧ i ≤ 12 ∧ smallP.all (fun p=>b1c n p) = (smallP.drop i).all (fun p=>b1c n p)
def f5x (l:List Value) (_:World):Nat:=match l with | [_,.int _ i]=>12 - i.toNat | _=>0
theorem d0j (x:Value) (q:IntKind) (i:Int) (w:World):f5x [x,.int q i] w = 12 - i.toNat:=rfl
theorem b8m (n:Int) (k:∀ w',Bw w w' → K (.bool (a3b n)) w'):a0a Tryz.prog 171 #[.int .i64 n] K w:=by
 apply d6t
 unfold f1a
 unfold a3b at k
 by_cases h1:n < 2
 ·rw [if_pos (.inl h1)] at k
  refine Xa @h1 ?_
  exact k _ (bR)
 by_cases h2:2305843009213693952 ≤ n
 ·rw [if_pos (.inr h2)] at k
  refine Xa (An2 @h1 @h2) ?_
  exact k _ (bR)
 rw [if_neg (by omega)] at k
 have hn:okN n:=⟨by omega,by omega⟩
 refine Xa (An2 @h1 @h2) ?_
 refine e6o (fun v W hb hi=>?_)
 have hlen:smallP.length = 12:=rfl
 obtain ⟨ad,c,rfl⟩:=hi.isSlice
 refine ⟨g8j n W,f5x,⟨rfl,_,0,rfl,by omega,rfl⟩,?_⟩
 rintro _ _ w1 ⟨rfl,u,i,rfl,hi12,hf⟩
 by_cases h12:i = 12
 ·subst h12
  rw [show smallP.drop 12 = [] from rfl,List.find?_nil] at hf
  rw [hf] at k
  simp only at k
  have hbig:=c8l hf (by omega)
  refine Xa0 ?_
  refine ⟨g4p n w1,f5x,⟨rfl,_,0,rfl,by omega,rfl⟩,?_⟩
  rintro _ _ w2 ⟨rfl,u2,i,rfl,hi2,hall⟩
  by_cases hi12:i = 12
  ·subst hi12
   rw [show smallP.drop 12 = [] from rfl,List.all_nil] at hall
   rw [hall] at k
   refine Xa0 ?_
   exact k _ hb
  ·rw [List.drop_eq_getElem_cons (by omega),List.all_cons] at hall
   have hr:=b4x _ (List.getElem_mem (show i < smallP.length by omega))
   obtain ⟨b1,o1,rfl,hb1,ca,ra,_⟩:=hi.at (i:=i) (by omega)
   generalize smallP[i] = p at *
   refine Xa (ca _ (bR)) ?_
   refine d2n n p hn (by omega) ?_
   cases hps:b1c n p with
   | false=>
    rw [hps,bF] at hall
    rw [hall] at k
    refine Xa0 ?_
    exact k _ hb
   | true=>
    rw [hps,bT] at hall
    refine Xa0 ?_
    refine ⟨⟨rfl,_,i + 1,rfl,by omega,hall⟩,?_⟩
    simp only [d0j]; omega
 ·rw [List.drop_eq_getElem_cons (by omega)] at hf
  have hr:=b4x _ (List.getElem_mem (show i < smallP.length by omega))
  obtain ⟨b1,o1,rfl,hb1,ca,ra,_⟩:=hi.at (i:=i) (by omega)
  generalize smallP[i] = p at *
  have er:n.tmod p = n % p:=Int.tmod_eq_emod_of_nonneg (by omega)
  by_cases hd:n % p = 0
  ·rw [List.find?_cons_of_pos (by simpa using hd)] at hf
   rw [hf] at k
   have k:=k _ hb
   simp only at k
   refine Xa (An3 (ca _ (bR)) @er @hd) ?_
   exact k
  ·rw [List.find?_cons_of_neg (by simpa using hd)] at hf
   refine Xa (An3 (ca _ (bR)) @er @hd) ?_
   refine ⟨⟨rfl,_,i + 1,rfl,by omega,hf⟩,?_⟩
   simp only [d0j]; omega
set_option maxHeartbeats 1000000 in
theorem b1h (g:Grp) (hg:f4z g) (k:∀ w',Bw w w' → K (.bool (a2a g)) w'):a0a Tryz.prog 110 #[c9u g] K w:=by
 apply d6u
 unfold f1b
 refine b4d g fun b W hW hb c0 c1 c2=>?_
 have n1:=c0c (g:=g)
 have n2:=c0d (g:=g)
 obtain ⟨P,Q,G⟩:=g
 obtain ⟨hP,hQ,hG⟩:=hg
 unfold I64 at hP hQ hG
 simp only at hP hQ hG n1 n2 c0 c1 c2
 have hr:=Below.refl W.heap.size W
 have k1:∀ w',a2a ⟨P,Q,G⟩ = false → Bw W w' → K (.bool false) w':=fun w' e hb=>by rw [e] at k; exact k w' (hW.on hb)
 have k2:∀ w' v,a2a ⟨P,Q,G⟩ = v → Bw W w' → K (.bool v) w':=fun w' v e hb=>by rw [e] at k; exact k w' (hW.on hb)
 clear k
 repeat (any_goals (first
 | (with_reducible first|((refine d1d ?_); first|refine zD ?_|((refine b9s ?_); first|refine zI ?_|refine zJ ?_|refine zK (fun hg=>?_) fun hg=>?_)|((refine e7v ?_); first|refine zO ?_|refine zP ?_|refine zQ (fun hg=>?_) fun hg=>?_))|((refine b3q ?_); first|refine yB ?_|refine yD ?_|refine yE ?_|refine yF ?_|refine yG ?_)|((refine a4z ?_); first|refine yL ?_|refine yP (fun hg=>?_) fun hg=>?_))
 | ((with_reducible refine oG fun X Y=>?_); simp [go_sem,c0,c1,c2,hr]; (try simp (disch:=omega) only [a0o,a4r,a1v]); apply Y; clear Y X)))
 all_goals try exact k1 _ (n1 (by omega)) hr
 refine b8m Q (fun w1 h1=>?_)
 have n2:=n2 (by omega)
 cases hq:a3b Q with
 | false=>
  have n2:a2a ⟨P,Q,G⟩ = false:=by rw [n2,hq]; rfl
  refine Xa0 ?_
  exact k1 _ n2 h1
 | true=>
  rw [hq,bT] at n2
  refine Xa (An2 @c0 @h1) ?_
  refine b8m P (fun w2 h2=>?_)
  have h2:=h1.on h2
  cases hp:a3b P with
  | false=>
   have n2:a2a ⟨P,Q,G⟩ = false:=by rw [n2,hp]; rfl
   refine Xa0 ?_
   exact k1 _ n2 h2
  | true=>
   rw [hp,bT] at n2
   obtain ⟨q,hq'⟩:=c7o Q (by omega)
   subst hq'
   refine Xa (An4 @c0 @c1 @c2 @h2) ?_
   refine b8l P G q ⟨by omega,by omega⟩ (by omega) ?_
   rw [Int.toNat_natCast] at n2
   generalize pw P G q = z at *
   refine Xa0 ?_
   exact k2 _ _ n2 h2
@[reducible] def f7p (g:Grp):List Value:=[.int .i64 g.P,.int .i64 g.Q,.int .i64 g.G]
def g3o (g:Grp) (x:Int):Bool:=decide (1 ≤ x) && decide (x < g.P) && decide (pw g.P x g.Q.toNat = 1)
theorem c1v (g:Grp) (x:Int) (hP:okN g.P) (hQ:0 ≤ g.Q ∧ g.Q < 9223372036854775808) (k:∀ w',Bw w w' → K (.bool (g3o g x)) w'):a0a Tryz.prog 173 #[c9u g,.int .i64 x] K w:=by
 apply d6v
 unfold f1c
 refine a0l (cs:=f7p g) rfl (.start w) fun b W hk hb1 hb=>?_
 have k:=k W hk.below
 unfold g3o at k
 have hp1:=hP.1
 by_cases h1:1 ≤ x
 ·by_cases h2:x < g.P
  ·rw [decide_eq_true h1,decide_eq_true h2,bT,bT] at k
   obtain ⟨q,hq⟩:=c7o g.Q hQ.1
   refine Xa (An3 hk.cells @h1 @h2) ?_
   have e:(Value.int .i64 g.Q) = .int .i64 (q:Int):=by rw [hq]
   rw [e]
   refine b8l g.P x q hP (by omega) ?_
   rw [hq,Int.toNat_natCast] at k
   generalize pw g.P x q = z at *
   refine Xa0 ?_
   exact k
  ·rw [decide_eq_false h2] at k
   refine Xa (An3 hk.cells @h1 @h2) ?_
   simpa using k
 ·rw [decide_eq_false h1] at k
  refine Xa (An2 hk.cells @h1) ?_
  simpa using k
theorem b5r {g:Grp} (h:a2a g = true):okN g.P ∧ okN g.Q ∧ 5 ≤ g.Q ∧ 2 ≤ g.G:=by
 unfold a2a at h
 split at h
 ·cases h
 rename_i hn
 exact ⟨⟨by omega,by omega⟩,⟨by omega,by omega⟩,by omega,by omega⟩
theorem d0k {g:Grp} (h:a2a g = true) (x:Int):a8l g x = g3o g x:=by
 unfold a8l g3o; rw [h,Bool.and_true]
theorem b8n (g:Grp) (x:Int) (hg:f4z g) (k:∀ w',Bw w w' → K (.bool (a8l g x)) w'):a0a Tryz.prog 146 #[c9u g,.int .i64 x] K w:=by
 apply d6w
 unfold f1d
 refine a0l (cs:=f7p g) rfl (.start w) fun b W hk hb1 hb=>?_
 have e0:a8l g x = (decide (1 ≤ x) && decide (x < g.P) && a2a g && decide (pw g.P x g.Q.toNat = 1)):=rfl
 by_cases h1:1 ≤ x
 ·by_cases h2:x < g.P
  ·refine Xa (An3 hk.cells @h1 @h2) ?_
   refine b1h g hg (fun w1 h=>?_)
   have hk:=hk.next h
   cases hv:a2a g with
   | false=>
    refine Xa hk.cells ?_
    have k:=k _ hk.below
    rw [e0,hv] at k
    simpa using k
   | true=>
    have hf:=b5r hv
    have hq:=hf.2.1.1
    have hq2:=hf.2.1.2
    refine Xa hk.cells ?_
    refine c1v g x hf.1 ⟨by omega,by omega⟩ (fun w2 h=>?_)
    have hk:=hk.next h
    refine Xa0 ?_
    have k:=k _ hk.below
    rw [d0k hv] at k
    exact k
  ·have k:=k _ hk.below
   rw [e0,decide_eq_false h2] at k
   refine Xa (An3 hk.cells @h1 @h2) ?_
   simpa using k
 ·have k:=k _ hk.below
  rw [e0,decide_eq_false h1] at k
  refine Xa (An2 hk.cells @h1) ?_
  simpa using k
theorem c6o (g:Grp) (x n:Int) (k:∀ w',Bw w w' → K (.int .i64 (a5u g x n)) w'):a0a Tryz.prog 137 #[c9u g,.int .i64 x,.int .i64 n] K w:=by
 apply d6x
 unfold f1e
 refine a0l (cs:=f7p g) rfl (.start w) fun b W hk hb1 hb=>?_
 unfold a5u at k
 refine Xa hk.cells ?_
 refine a4g g.P ?_
 by_cases hp:okN g.P
 ·refine Xa hk.cells ?_
  refine a4g g.Q ?_
  by_cases hq:okN g.Q
  ·rw [if_pos ⟨hp,hq⟩] at k
   refine Xa hk.cells ?_
   refine ⟨Kn w _,hk.drew,rfl,?_⟩
   repeat (any_goals (first
   | (with_reducible refine pX ?_)
   | ((with_reducible refine e1q ?_); (with_reducible refine b5h ⟨_,rfl⟩ (fun W0 hW0=>by (refine oG (fun X Y=>?_)); simp [go_sem,hW0.cells]; (first | exact Y _ _ ⟨rfl,rfl⟩ | exact ⟨by omega,Y _ _ ⟨rfl,rfl⟩⟩)) ?_))))
   refine ⟨Nx,?_⟩
   have hq1:=hq.1
   have hq2:=hq.2
   have a3:=Int.emod_nonneg n (b:=g.Q) (by omega)
   have a4:=Int.emod_lt_of_pos n (b:=g.Q) (by omega)
   obtain ⟨m,hm⟩:=c7o (n % g.Q) a3
   rw [hm] at k
   rw [Int.toNat_natCast] at k
   apply a1i
   ·(intro w9 h9; repeat (intro v9 e9; try (obtain rfl:=e9)))
    refine a2c g.Q n hq ?_
    rw [hm]
    exact ⟨h9,bR,rfl⟩
   (intro w9 h9; repeat (intro v9 e9; try (obtain rfl:=e9)))
   refine b8l g.P x m hp (by omega) ?_
   exact k _ h9.below
  ·rw [if_neg (fun h=>hq h.2)] at k
   refine Xa hk.cells ?_
   exact k _ hk.below
 ·rw [if_neg (fun h=>hp h.1)] at k
  refine Xa hk.cells ?_
  exact k _ hk.below
theorem d9z (g:Grp) (x n:Int) (k:∀ w',Bw w w' → K (.int .i64 (b1d g x n)) w'):a0a Tryz.prog 138 #[c9u g,.int .i64 x,.int .i64 n] K w:=by
 apply d6y
 unfold f1f
 refine a0l (cs:=f7p g) rfl (.start w) fun b W hk hb1 hb=>?_
 unfold b1d at k
 refine Xa hk.cells ?_
 refine a4g g.Q ?_
 by_cases hq:okN g.Q
 ·rw [if_pos hq] at k
  refine Xa hk.cells ?_
  refine a4w g.P x n ?_
  exact k _ hk.below
 ·rw [if_neg hq] at k
  refine Xa hk.cells ?_
  exact k _ hk.below
def f5y (n:Nat) (l:List Value) (_:World):Nat:=match l with | [_,.int _ i]=>n - i.toNat | _=>0
theorem d0l (n:Nat) (x:Value) (q:IntKind) (i:Int) (w:World):f5y n [x,.int q i] w = n - i.toNat:=rfl
theorem c6p (g:Grp) (x:Int) (hv:a2a g = true) (k:∀ w',Bw w w' → K (.bool (a3s g x)) w'):a0a Tryz.prog 111 #[c9u g,.int .i64 x] K w:=by
 apply d6z
 unfold f1g
 refine a0l (cs:=f7p g) rfl (.start w) fun b W hk hb1 hb=>?_
 unfold a3s at k
 by_cases hx:x = 1
 ·have k:=k _ hk.below
  refine Xa (An2 hk.cells @hx) ?_
  simpa [hx] using k
 ·have hf:=b5r hv
  have hq:=hf.2.1.1
  have hq2:=hf.2.1.2
  refine Xa (An2 hk.cells @hx) ?_
  refine c1v g x hf.1 ⟨by omega,by omega⟩ (fun w2 h=>?_)
  have k:=k _ (hk.next h).below
  rw [d0k hv] at k
  refine Xa0 ?_
  simpa [hx] using k
def g8k (s:Stp) (L:List (Addr × Value)) (R:Bool) (w0:World) (l:List Value) (w':World):Prop:=Kn w0 L w' ∧ ∃ (v:Value) (i:Nat),l = [v,.int .i64 (i:Int)] ∧ i ≤ s.bases.length ∧ (s.bases.drop i).all (a3s s.g) = R
theorem a5p (s:Stp) {v:Value} (hs:SetR w s v) (k:∀ w',Bw w w' → K (.bool (a1x s)) w'):a0a Tryz.prog 22 #[a6b s v] K w:=by
 apply e5h
 unfold g0d
 obtain ⟨ad,c,rfl⟩:=hs.ints.isSlice
 refine a0l (cs:=a2r s (.slice ad s.bases.length c)) rfl (.start w) fun b W hk hb1 hb=>?_
 have k2:∀ w' r,a1x s = r → Bw w w' → K (.bool r) w':=fun w' r e hb=>by rw [← e]; exact k w' hb
 have e0:a1x s = (a2a s.g && decide (2 ≤ s.bases.length) && decide (s.bases.length ≤ 7) && s.bases.all (a3s s.g) && a3s s.g s.blind):=rfl
 have hl:=hs.ints.len
 clear k
 refine Xa hk.cells ?_
 refine b1h s.g hs.grp (fun w1 h1=>?_)
 have hk:=hk.next h1
 clear h1 hb1
 cases hv:a2a s.g with
 | false=>
  refine Xa0 ?_
  exact k2 _ _ (by rw [e0,hv]; simp) hk.below
 | true=>
  repeat (any_goals (first
  | (with_reducible first|((refine d1d ?_); first|refine zC ?_|refine zD ?_|((refine b9s ?_); first|refine zI ?_|refine zJ ?_|refine zK (fun hg=>?_) fun hg=>?_))|((refine b3q ?_); first|refine yB ?_|refine yC ?_|refine yD ?_|refine yE ?_)|refine yL ?_)
  | ((with_reducible refine oG fun X Y=>?_); simp [go_sem,hk.cells]; apply Y; clear Y X)))
  ·exact k2 _ _ (by rw [e0]; simp; omega) hk.below
  ·exact k2 _ _ (by rw [e0]; simp; omega) hk.below
  refine c6p s.g s.blind hv (fun w3 h3=>?_)
  have hk:=hk.next h3
  have e1:a1x s = (s.bases.all (a3s s.g) && a3s s.g s.blind):=by
   rw [e0,hv,decide_eq_true (by omega:2 ≤ s.bases.length),decide_eq_true (by omega:s.bases.length ≤ 7)]; rfl
  cases ho:a3s s.g s.blind with
  | false=>
   refine Xa hk.cells ?_
   exact k2 _ _ (by rw [e1,ho,Bool.and_false]) hk.below
  | true=>
  rw [ho,Bool.and_true] at e1
  refine Xa0 ?_
  refine ⟨g8k s _ (s.bases.all (a3s s.g)) w,f5y s.bases.length,⟨hk,_,0,rfl,by omega,rfl⟩,?_⟩
  rw [e1] at k2
  generalize s.bases.all (a3s s.g) = R at *
  rintro _ _ w2 ⟨hk,u1,i,rfl,hi,hall⟩
  by_cases hin:i = s.bases.length
  ·rw [List.drop_of_length_le (by omega),List.all_nil] at hall
   refine Xa hk.cells ?_
   exact k2 _ _ hall.symm hk.below
  ·rw [List.drop_eq_getElem_cons (by omega),List.all_cons] at hall
   obtain ⟨b1,o1,rfl,hb1,ca,ra,_⟩:=hs.ints.at (i:=i) (by omega)
   refine Xa hk.cells ?_
   refine ⟨Kn w _,hk.drew,rfl,?_⟩
   repeat (any_goals (first
   | (with_reducible refine pX ?_)
   | ((with_reducible refine e1q ?_); (with_reducible refine b5h ⟨_,rfl⟩ (fun W0 hW0=>by (refine oG (fun X Y=>?_)); simp [go_sem,hW0.cells,ca _ hW0.below]; (first | exact Y _ _ ⟨rfl,rfl⟩ | exact ⟨by omega,Y _ _ ⟨rfl,rfl⟩⟩)) ?_))))
   refine ⟨Nx,fun w1 hk=>?_⟩
   refine c6p s.g _ hv (fun w3 h3=>?_)
   have hk:=hk.next h3
   cases ho:a3s s.g s.bases[i] with
   | false=>
    rw [ho,bF] at hall
    refine Xa0 ?_
    exact k2 _ _ hall.symm hk.below
   | true=>
    rw [ho,bT] at hall
    refine Xa0 ?_
    refine ⟨⟨hk,_,i + 1,rfl,by omega,hall⟩,?_⟩
    simp only [d0l]; omega
end
end Go.Proofs
namespace Go.Proofs
open Go.Sh Tryz
variable {a0 a1:Value} {K:VK} {w:World}
def f1j (a0 a1:Value) (K:VK) (w:World):Prop:=
 a0a prog 167 #[a1] (fun v9=>
 kU v9 fun v10=>
 kO v10 (K (.int .i64 0))
 (a0a prog 199 #[a0] fun v12=>
 kQ [(.int .i64 0),(.int .i64 0)] fun J_4 m_5 l_6 u_l_6 w0_l_6=>(fun w=>(
 kN 9 v12 (fun v15=>
 kB .lss 3 4 (l_6.getD 1 undef) v15 fun v16 w=>
 a0v v16
 (a4o w fun C_9=>(a3h prog 104 #[a1,(l_6.getD 0 undef),(.int .i64 256)] C_9 fun v22=>
 oQ prog (.index 9 (.tmp 0) (.tmp 1)) 5 [v12,(l_6.getD 1 undef)] C_9 fun v25=>
 oQ prog (.convert 5 3 (.tmp 0)) 3 [v25] C_9 fun v26=>
 a3h prog 103 #[a1,v22,v26] C_9 fun v27=>
 ∀ w,C_9 w → (kB .add 3 3 (l_6.getD 1 undef) (.int .i64 1) (fun v18=>
 kJ J_4 m_5 l_6 w0_l_6 [v27,v18]) w)))
 (K (l_6.getD 0 undef) w)) w)) w0_l_6)) w
theorem d7c (h:f1j a0 a1 K w):a0a prog 163 #[a0,a1] K w:=
 cZ (fun _=>0) func163 h
def f1k (a0:Value) (K:VK) (w:World):Prop:=
 oM prog (.convert 9 202 (.tmp 0)) 202 [a0] (fun v9=>
 a0a prog 217 #[v9] fun v10=>
 a0a prog 218 #[] fun v11=>
 kQ [v11,(.int .i64 0)] fun J_4 m_5 l_6 u_l_6 w0_l_6=>(fun w=>(
 kN 202 v10 (fun v14=>
 kB .lss 3 4 (l_6.getD 1 undef) v14 fun v15=>
 kO v15 (kB .add 3 3 (l_6.getD 1 undef) (.int .i64 64) fun v22=>
 oM prog (.slice 202 (.tmp 0) (some (.tmp 1)) (some (.tmp 2)) none) 202 [v10,(l_6.getD 1 undef),v22] fun v23=>
 a0a prog 219 #[(l_6.getD 0 undef),v23] fun v24=>
 kB .add 3 3 (l_6.getD 1 undef) (.int .i64 64) fun v17=>
 kJ J_4 m_5 l_6 w0_l_6 [v24,v17])
 (oM prog (.buildSlice 202 0 #[]) 202 [] fun v25=>
 kQ [v25,(.int .i64 0)] fun J_14 m_15 l_16 u_l_16 w0_l_16=>(fun w=>(
 kB .lss 3 4 (l_16.getD 1 undef) (.int .i64 32) (fun v27=>
 kO v27 (kB .quo 3 3 (l_16.getD 1 undef) (.int .i64 4) fun v33=>
 kI 230 (l_6.getD 0 undef) v33 fun v34=>
 kL 223 v34 fun v35=>
 kB .rem 3 3 (l_16.getD 1 undef) (.int .i64 4) fun v37=>
 kB .mul 3 3 (.int .i64 8) v37 fun v38=>
 kB .sub 3 3 (.int .i64 24) v38 fun v39=>
 oM prog (.binOp .shr 223 (.tmp 0) (.tmp 1) 3) 223 [v35,v39] fun v40=>
 oM prog (.convert 223 5 (.tmp 0)) 5 [v40] fun v41=>
 oM prog (.buildSlice 202 1 #[(0,(.tmp 0))]) 202 [v41] fun v42=>
 oM prog (.call (Go.Call.mk (.builtin .append) #[(.tmp 0),(.tmp 1)] #[202,202])) 202 [(l_16.getD 0 undef),v42] fun v43=>
 kB .add 3 3 (l_16.getD 1 undef) (.int .i64 1) fun v29=>
 kJ J_14 m_15 l_16 w0_l_16 [v43,v29])
 (oM prog (.convert 202 9 (.tmp 0)) 9 [(l_16.getD 0 undef)] fun v45=>
 K v45)) w)) w0_l_16)) w)) w0_l_6) w
theorem d7d (h:f1k a0 K w):a0a prog 199 #[a0] K w:=
 cZ (fun _=>0) func199 h
def f1l (a0:Value) (K:VK) (w:World):Prop:=
 oM prog (.buildSlice 202 0 #[]) 202 [] (fun v6=>
 oM prog (.call (Go.Call.mk (.builtin .append) #[(.tmp 0),(.tmp 1)] #[202,202])) 202 [v6,a0] fun v8=>
 oM prog (.buildSlice 202 1 #[(0,(.tmp 0))]) 202 [(.int .u8 128)] fun v10=>
 oM prog (.call (Go.Call.mk (.builtin .append) #[(.tmp 0),(.tmp 1)] #[202,202])) 202 [v8,v10] fun v11=>
 kQ [v11] fun J_5 m_6 l_7 u_l_7 w0_l_7=>(fun w=>(
 kN 202 (l_7.getD 0 undef) (fun v13=>
 kB .rem 3 3 v13 (.int .i64 64) fun v14=>
 kC .neq 3 56 4 v14 fun v15=>
 kO v15 (oM prog (.buildSlice 202 1 #[(0,(.tmp 0))]) 202 [(.int .u8 0)] fun v17=>
 oM prog (.call (Go.Call.mk (.builtin .append) #[(.tmp 0),(.tmp 1)] #[202,202])) 202 [(l_7.getD 0 undef),v17] fun v18=>
 kJ J_5 m_6 l_7 w0_l_7 [v18])
 (kN 202 a0 fun v20=>
 oM prog (.convert 3 150 (.tmp 0)) 150 [v20] fun v21=>
 kB .mul 150 150 (.int .u64 8) v21 fun v22=>
 kQ [(l_7.getD 0 undef),(.int .i64 56)] fun J_16 m_17 l_18 u_l_18 w0_l_18=>(fun w=>(
 kB .geq 3 4 (l_18.getD 1 undef) (.int .i64 0) (fun v24=>
 kO v24 (oM prog (.binOp .shr 150 (.tmp 0) (.tmp 1) 3) 150 [v22,(l_18.getD 1 undef)] fun v30=>
 oM prog (.convert 150 5 (.tmp 0)) 5 [v30] fun v31=>
 oM prog (.buildSlice 202 1 #[(0,(.tmp 0))]) 202 [v31] fun v32=>
 oM prog (.call (Go.Call.mk (.builtin .append) #[(.tmp 0),(.tmp 1)] #[202,202])) 202 [(l_18.getD 0 undef),v32] fun v33=>
 kB .sub 3 3 (l_18.getD 1 undef) (.int .i64 8) fun v26=>
 kJ J_16 m_17 l_18 w0_l_18 [v33,v26])
 (K (l_18.getD 0 undef))) w)) w0_l_18)) w)) w0_l_7) w
theorem d7e (h:f1l a0 K w):a0a prog 217 #[a0] K w:=
 cZ (fun _=>0) func217 h
def f1m (K:VK) (w:World):Prop:=
 oM prog (.buildSlice 230 8 #[(0,(.tmp 0)),(1,(.tmp 1)),(2,(.tmp 2)),(3,(.tmp 3)),(4,(.tmp 4)),(5,(.tmp 5)),(6,(.tmp 6)),(7,(.tmp 7))]) 230 [(.int .u32 1779033703),(.int .u32 3144134277),(.int .u32 1013904242),(.int .u32 2773480762),(.int .u32 1359893119),(.int .u32 2600822924),(.int .u32 528734635),(.int .u32 1541459225)] (fun v1=>
 K v1) w
theorem d7f (h:f1m K w):a0a prog 218 #[] K w:=
 cZ (fun _=>0) func218 h
def f1n (a0 a1:Value) (K:VK) (w:World):Prop:=
 a0a prog 232 #[a1] (fun v16=>
 a0a prog 233 #[] fun v17=>
 oM prog (.buildSlice 230 0 #[]) 230 [] fun v18=>
 oM prog (.call (Go.Call.mk (.builtin .append) #[(.tmp 0),(.tmp 1)] #[230,230])) 230 [v18,a0] fun v20=>
 kQ [undef,undef,undef,undef,undef,v20,(.int .i64 0)] fun J_5 m_6 l_7 u_l_7 w0_l_7=>(fun w=>(
 kB .lss 3 4 (l_7.getD 6 undef) (.int .i64 64) (fun v22 w=>
 a0v v22
 (a4o w fun C_9=>(oQ prog (.indexAddr 230 (.tmp 0) (.tmp 1)) 0 [(l_7.getD 5 undef),(.int .i64 4)] C_9 fun v26=>
 oQ prog (.load 223 (.tmp 0)) 223 [v26] C_9 fun v27=>
 a3h prog 234 #[v27,(.int .i64 6)] C_9 fun v28=>
 oQ prog (.indexAddr 230 (.tmp 0) (.tmp 1)) 0 [(l_7.getD 5 undef),(.int .i64 4)] C_9 fun v30=>
 oQ prog (.load 223 (.tmp 0)) 223 [v30] C_9 fun v31=>
 a3h prog 234 #[v31,(.int .i64 11)] C_9 fun v32=>
 oQ prog (.binOp .xor 223 (.tmp 0) (.tmp 1) 223) 223 [v28,v32] C_9 fun v33=>
 oQ prog (.indexAddr 230 (.tmp 0) (.tmp 1)) 0 [(l_7.getD 5 undef),(.int .i64 4)] C_9 fun v35=>
 oQ prog (.load 223 (.tmp 0)) 223 [v35] C_9 fun v36=>
 a3h prog 234 #[v36,(.int .i64 25)] C_9 fun v37=>
 oQ prog (.binOp .xor 223 (.tmp 0) (.tmp 1) 223) 223 [v33,v37] C_9 fun v38=>
 ∀ w,C_9 w → (a4o w fun C_21=>(oQ prog (.indexAddr 230 (.tmp 0) (.tmp 1)) 0 [(l_7.getD 5 undef),(.int .i64 4)] C_21 fun v40=>
 oQ prog (.load 223 (.tmp 0)) 223 [v40] C_21 fun v41=>
 oQ prog (.indexAddr 230 (.tmp 0) (.tmp 1)) 0 [(l_7.getD 5 undef),(.int .i64 5)] C_21 fun v43=>
 oQ prog (.load 223 (.tmp 0)) 223 [v43] C_21 fun v44=>
 oQ prog (.binOp .and 223 (.tmp 0) (.tmp 1) 223) 223 [v41,v44] C_21 fun v45=>
 oQ prog (.indexAddr 230 (.tmp 0) (.tmp 1)) 0 [(l_7.getD 5 undef),(.int .i64 4)] C_21 fun v47=>
 oQ prog (.load 223 (.tmp 0)) 223 [v47] C_21 fun v48=>
 oQ prog (.unOp .xor 223 (.tmp 0)) 223 [v48] C_21 fun v49=>
 oQ prog (.indexAddr 230 (.tmp 0) (.tmp 1)) 0 [(l_7.getD 5 undef),(.int .i64 6)] C_21 fun v51=>
 oQ prog (.load 223 (.tmp 0)) 223 [v51] C_21 fun v52=>
 oQ prog (.binOp .and 223 (.tmp 0) (.tmp 1) 223) 223 [v49,v52] C_21 fun v53=>
 oQ prog (.binOp .xor 223 (.tmp 0) (.tmp 1) 223) 223 [v45,v53] C_21 fun v54=>
 ∀ w,C_21 w → (a4o w fun C_34=>(oQ prog (.indexAddr 230 (.tmp 0) (.tmp 1)) 0 [(l_7.getD 5 undef),(.int .i64 7)] C_34 fun v56=>
 oQ prog (.load 223 (.tmp 0)) 223 [v56] C_34 fun v57=>
 oQ prog (.binOp .add 223 (.tmp 0) (.tmp 1) 223) 223 [v57,v38] C_34 fun v59=>
 oQ prog (.binOp .add 223 (.tmp 0) (.tmp 1) 223) 223 [v59,v54] C_34 fun v61=>
 oQ prog (.indexAddr 230 (.tmp 0) (.tmp 1)) 0 [v17,(l_7.getD 6 undef)] C_34 fun v64=>
 oQ prog (.load 223 (.tmp 0)) 223 [v64] C_34 fun v65=>
 oQ prog (.binOp .add 223 (.tmp 0) (.tmp 1) 223) 223 [v61,v65] C_34 fun v66=>
 oQ prog (.indexAddr 230 (.tmp 0) (.tmp 1)) 0 [v16,(l_7.getD 6 undef)] C_34 fun v69=>
 oQ prog (.load 223 (.tmp 0)) 223 [v69] C_34 fun v70=>
 oQ prog (.binOp .add 223 (.tmp 0) (.tmp 1) 223) 223 [v66,v70] C_34 fun v71=>
 ∀ w,C_34 w → (a4o w fun C_45=>(oQ prog (.indexAddr 230 (.tmp 0) (.tmp 1)) 0 [(l_7.getD 5 undef),(.int .i64 0)] C_45 fun v73=>
 oQ prog (.load 223 (.tmp 0)) 223 [v73] C_45 fun v74=>
 a3h prog 234 #[v74,(.int .i64 2)] C_45 fun v75=>
 oQ prog (.indexAddr 230 (.tmp 0) (.tmp 1)) 0 [(l_7.getD 5 undef),(.int .i64 0)] C_45 fun v77=>
 oQ prog (.load 223 (.tmp 0)) 223 [v77] C_45 fun v78=>
 a3h prog 234 #[v78,(.int .i64 13)] C_45 fun v79=>
 oQ prog (.binOp .xor 223 (.tmp 0) (.tmp 1) 223) 223 [v75,v79] C_45 fun v80=>
 oQ prog (.indexAddr 230 (.tmp 0) (.tmp 1)) 0 [(l_7.getD 5 undef),(.int .i64 0)] C_45 fun v82=>
 oQ prog (.load 223 (.tmp 0)) 223 [v82] C_45 fun v83=>
 a3h prog 234 #[v83,(.int .i64 22)] C_45 fun v84=>
 oQ prog (.binOp .xor 223 (.tmp 0) (.tmp 1) 223) 223 [v80,v84] C_45 fun v85=>
 ∀ w,C_45 w → (a4o w fun C_57=>(oQ prog (.indexAddr 230 (.tmp 0) (.tmp 1)) 0 [(l_7.getD 5 undef),(.int .i64 0)] C_57 fun v87=>
 oQ prog (.load 223 (.tmp 0)) 223 [v87] C_57 fun v88=>
 oQ prog (.indexAddr 230 (.tmp 0) (.tmp 1)) 0 [(l_7.getD 5 undef),(.int .i64 1)] C_57 fun v90=>
 oQ prog (.load 223 (.tmp 0)) 223 [v90] C_57 fun v91=>
 oQ prog (.binOp .and 223 (.tmp 0) (.tmp 1) 223) 223 [v88,v91] C_57 fun v92=>
 oQ prog (.indexAddr 230 (.tmp 0) (.tmp 1)) 0 [(l_7.getD 5 undef),(.int .i64 0)] C_57 fun v94=>
 oQ prog (.load 223 (.tmp 0)) 223 [v94] C_57 fun v95=>
 oQ prog (.indexAddr 230 (.tmp 0) (.tmp 1)) 0 [(l_7.getD 5 undef),(.int .i64 2)] C_57 fun v97=>
 oQ prog (.load 223 (.tmp 0)) 223 [v97] C_57 fun v98=>
 oQ prog (.binOp .and 223 (.tmp 0) (.tmp 1) 223) 223 [v95,v98] C_57 fun v99=>
 oQ prog (.binOp .xor 223 (.tmp 0) (.tmp 1) 223) 223 [v92,v99] C_57 fun v100=>
 oQ prog (.indexAddr 230 (.tmp 0) (.tmp 1)) 0 [(l_7.getD 5 undef),(.int .i64 1)] C_57 fun v102=>
 oQ prog (.load 223 (.tmp 0)) 223 [v102] C_57 fun v103=>
 oQ prog (.indexAddr 230 (.tmp 0) (.tmp 1)) 0 [(l_7.getD 5 undef),(.int .i64 2)] C_57 fun v105=>
 oQ prog (.load 223 (.tmp 0)) 223 [v105] C_57 fun v106=>
 oQ prog (.binOp .and 223 (.tmp 0) (.tmp 1) 223) 223 [v103,v106] C_57 fun v107=>
 oQ prog (.binOp .xor 223 (.tmp 0) (.tmp 1) 223) 223 [v100,v107] C_57 fun v108=>
 ∀ w,C_57 w → (kH (fun C_75 w=>(((true:Bool) = true) ∧ (a0c v71 C_75 fun v109=>
 a0c v85 C_75 fun v110=>
 jB .add 223 223 v109 v110 C_75 fun v111=>
 a0c v108 C_75 fun v112=>
 jB .add 223 223 v111 v112 C_75 fun v113=>
 a0c (l_7.getD 5 undef) C_75 fun v114=>
 jI 230 v114 (.int .i64 0) C_75 fun v115=>
 jL 223 v115 C_75 fun v116=>
 a0c (l_7.getD 5 undef) C_75 fun v117=>
 jI 230 v117 (.int .i64 1) C_75 fun v118=>
 jL 223 v118 C_75 fun v119=>
 a0c (l_7.getD 5 undef) C_75 fun v120=>
 jI 230 v120 (.int .i64 2) C_75 fun v121=>
 jL 223 v121 C_75 fun v122=>
 a0c (l_7.getD 5 undef) C_75 fun v123=>
 jI 230 v123 (.int .i64 3) C_75 fun v124=>
 jL 223 v124 C_75 fun v125=>
 a0c v71 C_75 fun v126=>
 jB .add 223 223 v125 v126 C_75 fun v127=>
 a0c (l_7.getD 5 undef) C_75 fun v128=>
 jI 230 v128 (.int .i64 4) C_75 fun v129=>
 jL 223 v129 C_75 fun v130=>
 a0c (l_7.getD 5 undef) C_75 fun v131=>
 jI 230 v131 (.int .i64 5) C_75 fun v132=>
 jL 223 v132 C_75 fun v133=>
 a0c (l_7.getD 5 undef) C_75 fun v134=>
 jI 230 v134 (.int .i64 6) C_75 fun v135=>
 jL 223 v135 C_75 fun v136=>
 ∃ S_104:World → WK,∀ w,C_75 w → (
 oM prog (.buildSlice 230 8 #[(0,(.tmp 0)),(1,(.tmp 1)),(2,(.tmp 2)),(3,(.tmp 3)),(4,(.tmp 4)),(5,(.tmp 5)),(6,(.tmp 6)),(7,(.tmp 7))]) 230 [v113,v116,v119,v122,v127,v130,v133,v136] (fun v137=>
 kB .add 3 3 (l_7.getD 6 undef) (.int .i64 1) fun v24=>
 kJ J_5 m_6 l_7 w0_l_7 [v38,v54,v71,v85,v108,v137,v24]) w)))) w)))))))))))
 (kQ [(.int .i64 0)] (fun J_107 m_108 l_109 u_l_109 w0_l_109=>(fun w=>(
 kB .lss 3 4 (l_109.getD 0 undef) (.int .i64 8) (fun v139=>
 kO v139 (kH fun C_111 w=>(((true:Bool) = true) ∧ (a0c (l_7.getD 5 undef) C_111 fun v142=>
 a0c (l_109.getD 0 undef) C_111 fun v143=>
 a0c (l_7.getD 5 undef) C_111 fun v144=>
 a0c (l_109.getD 0 undef) C_111 fun v145=>
 jI 230 v144 v145 C_111 fun v146=>
 jL 223 v146 C_111 fun v147=>
 a0c a0 C_111 fun v148=>
 a0c (l_109.getD 0 undef) C_111 fun v149=>
 jI 230 v148 v149 C_111 fun v150=>
 jL 223 v150 C_111 fun v151=>
 jB .add 223 223 v147 v151 C_111 fun v152=>
 jI 230 v142 v143 C_111 fun v153=>
 ∃ S_124:World → WK,∀ w,C_111 w → (
 kS 223 v153 v152 (fun _=>
 kB .add 3 3 (l_109.getD 0 undef) (.int .i64 1) fun v141=>
 kJ J_107 m_108 l_109 w0_l_109 [v141]) w))))
 (K (l_7.getD 5 undef))) w)) w0_l_109) w)) w)) w0_l_7) w
theorem d7g (h:f1n a0 a1 K w):a0a prog 219 #[a0,a1] K w:=
 cZ (mz [(7,0),(8,0),(9,0),(10,0),(11,0),(12,fz 28 0 2),(16,fz 12 0 1)]) func219 h
def f1o (a0:Value) (K:VK) (w:World):Prop:=
 kQ [(.slice none 0 0),(.int .i64 0)] (fun J_1 m_2 l_3 u_l_3 w0_l_3=>(fun w=>(
 kB .lss 3 4 (l_3.getD 1 undef) (.int .i64 16) (fun v11=>
 kO v11 (kH fun C_5 w=>(((true:Bool) = true) ∧ (a0c (l_3.getD 0 undef) C_5 fun v14=>
 a0c a0 C_5 fun v15=>
 a0c (l_3.getD 1 undef) C_5 fun v16=>
 jB .mul 3 3 (.int .i64 4) v16 C_5 fun v17=>
 jI 202 v15 v17 C_5 fun v18=>
 jL 5 v18 C_5 fun v19=>
 oH prog (.convert 5 223 (.tmp 0)) 223 [v19] C_5 fun v20=>
 oH prog (.binOp .shl 223 (.tmp 0) (.tmp 1) 191) 223 [v20,(.int .u64 24)] C_5 fun v21=>
 a0c a0 C_5 fun v22=>
 a0c (l_3.getD 1 undef) C_5 fun v23=>
 jB .mul 3 3 (.int .i64 4) v23 C_5 fun v24=>
 jB .add 3 3 v24 (.int .i64 1) C_5 fun v25=>
 jI 202 v22 v25 C_5 fun v26=>
 jL 5 v26 C_5 fun v27=>
 oH prog (.convert 5 223 (.tmp 0)) 223 [v27] C_5 fun v28=>
 oH prog (.binOp .shl 223 (.tmp 0) (.tmp 1) 191) 223 [v28,(.int .u64 16)] C_5 fun v29=>
 jB .or 223 223 v21 v29 C_5 fun v30=>
 a0c a0 C_5 fun v31=>
 a0c (l_3.getD 1 undef) C_5 fun v32=>
 jB .mul 3 3 (.int .i64 4) v32 C_5 fun v33=>
 jB .add 3 3 v33 (.int .i64 2) C_5 fun v34=>
 jI 202 v31 v34 C_5 fun v35=>
 jL 5 v35 C_5 fun v36=>
 oH prog (.convert 5 223 (.tmp 0)) 223 [v36] C_5 fun v37=>
 oH prog (.binOp .shl 223 (.tmp 0) (.tmp 1) 191) 223 [v37,(.int .u64 8)] C_5 fun v38=>
 jB .or 223 223 v30 v38 C_5 fun v39=>
 a0c a0 C_5 fun v40=>
 a0c (l_3.getD 1 undef) C_5 fun v41=>
 jB .mul 3 3 (.int .i64 4) v41 C_5 fun v42=>
 jB .add 3 3 v42 (.int .i64 3) C_5 fun v43=>
 jI 202 v40 v43 C_5 fun v44=>
 jL 5 v44 C_5 fun v45=>
 oH prog (.convert 5 223 (.tmp 0)) 223 [v45] C_5 fun v46=>
 jB .or 223 223 v39 v46 C_5 fun v47=>
 ∃ S_40:World → WK,xR S_40 fun R_41=>
 (∀ w,C_5 w → (oM prog (.buildSlice 230 1 #[(0,(.tmp 0))]) 230 [v47] (xK C_5 S_40 R_41 w) w)) ∧
 (∀ w,C_5 w → ∀ v48,R_41 v48 w → (
 oM prog (.call (Go.Call.mk (.builtin .append) #[(.tmp 0),(.tmp 1)] #[230,230])) 230 [v14,v48] (fun v49=>
 kB .add 3 3 (l_3.getD 1 undef) (.int .i64 1) fun v13=>
 kJ J_1 m_2 l_3 w0_l_3 [v49,v13]) w)))))
 (kQ [undef,undef,undef,undef,(l_3.getD 0 undef),(.int .i64 16)] fun J_45 m_46 l_47 u_l_47 w0_l_47=>(fun w=>(
 kB .lss 3 4 (l_47.getD 5 undef) (.int .i64 64) (fun v51=>
 kO v51 (kB .sub 3 3 (l_47.getD 5 undef) (.int .i64 15) fun v56=>
 kI 230 (l_47.getD 4 undef) v56 fun v57=>
 kL 223 v57 fun v58=>
 kB .sub 3 3 (l_47.getD 5 undef) (.int .i64 2) fun v61=>
 kI 230 (l_47.getD 4 undef) v61 fun v62=>
 kL 223 v62 fun v63=>
 a0a prog 234 #[v58,(.int .i64 7)] fun v65=>
 a0a prog 234 #[v58,(.int .i64 18)] fun v67=>
 kB .xor 223 223 v65 v67 fun v68=>
 oM prog (.binOp .shr 223 (.tmp 0) (.tmp 1) 191) 223 [v58,(.int .u64 3)] fun v70=>
 kB .xor 223 223 v68 v70 fun v71=>
 a0a prog 234 #[v63,(.int .i64 17)] fun v73=>
 a0a prog 234 #[v63,(.int .i64 19)] fun v75=>
 kB .xor 223 223 v73 v75 fun v76=>
 oM prog (.binOp .shr 223 (.tmp 0) (.tmp 1) 191) 223 [v63,(.int .u64 10)] fun v78=>
 kB .xor 223 223 v76 v78 fun v79=>
 kH fun C_65 w=>(((true:Bool) = true) ∧ (a0c (l_47.getD 4 undef) C_65 fun v80=>
 a0c (l_47.getD 4 undef) C_65 fun v81=>
 a0c (l_47.getD 5 undef) C_65 fun v82=>
 jB .sub 3 3 v82 (.int .i64 16) C_65 fun v83=>
 jI 230 v81 v83 C_65 fun v84=>
 jL 223 v84 C_65 fun v85=>
 a0c v71 C_65 fun v86=>
 jB .add 223 223 v85 v86 C_65 fun v87=>
 a0c (l_47.getD 4 undef) C_65 fun v88=>
 a0c (l_47.getD 5 undef) C_65 fun v89=>
 jB .sub 3 3 v89 (.int .i64 7) C_65 fun v90=>
 jI 230 v88 v90 C_65 fun v91=>
 jL 223 v91 C_65 fun v92=>
 jB .add 223 223 v87 v92 C_65 fun v93=>
 a0c v79 C_65 fun v94=>
 jB .add 223 223 v93 v94 C_65 fun v95=>
 ∃ S_82:World → WK,xR S_82 fun R_83=>
 (∀ w,C_65 w → (oM prog (.buildSlice 230 1 #[(0,(.tmp 0))]) 230 [v95] (xK C_65 S_82 R_83 w) w)) ∧
 (∀ w,C_65 w → ∀ v96,R_83 v96 w → (
 oM prog (.call (Go.Call.mk (.builtin .append) #[(.tmp 0),(.tmp 1)] #[230,230])) 230 [v80,v96] (fun v97=>
 kB .add 3 3 (l_47.getD 5 undef) (.int .i64 1) fun v53=>
 kJ J_45 m_46 l_47 w0_l_47 [v58,v63,v71,v79,v97,v53]) w)))))
 (K (l_47.getD 4 undef))) w)) w0_l_47)) w)) w0_l_3) w
theorem d7h (h:f1o a0 K w):a0a prog 232 #[a0] K w:=
 cZ (mz [(5,fz 34 1 2),(13,fz 16 1 2)]) func232 h
def f1p (K:VK) (w:World):Prop:=
 oM prog (.buildSlice 230 64 #[(0,(.tmp 0)),(1,(.tmp 1)),(2,(.tmp 2)),(3,(.tmp 3)),(4,(.tmp 4)),(5,(.tmp 5)),(6,(.tmp 6)),(7,(.tmp 7)),(8,(.tmp 8)),(9,(.tmp 9)),(10,(.tmp 10)),(11,(.tmp 11)),(12,(.tmp 12)),(13,(.tmp 13)),(14,(.tmp 14)),(15,(.tmp 15)),(16,(.tmp 16)),(17,(.tmp 17)),(18,(.tmp 18)),(19,(.tmp 19)),(20,(.tmp 20)),(21,(.tmp 21)),(22,(.tmp 22)),(23,(.tmp 23)),(24,(.tmp 24)),(25,(.tmp 25)),(26,(.tmp 26)),(27,(.tmp 27)),(28,(.tmp 28)),(29,(.tmp 29)),(30,(.tmp 30)),(31,(.tmp 31)),(32,(.tmp 32)),(33,(.tmp 33)),(34,(.tmp 34)),(35,(.tmp 35)),(36,(.tmp 36)),(37,(.tmp 37)),(38,(.tmp 38)),(39,(.tmp 39)),(40,(.tmp 40)),(41,(.tmp 41)),(42,(.tmp 42)),(43,(.tmp 43)),(44,(.tmp 44)),(45,(.tmp 45)),(46,(.tmp 46)),(47,(.tmp 47)),(48,(.tmp 48)),(49,(.tmp 49)),(50,(.tmp 50)),(51,(.tmp 51)),(52,(.tmp 52)),(53,(.tmp 53)),(54,(.tmp 54)),(55,(.tmp 55)),(56,(.tmp 56)),(57,(.tmp 57)),(58,(.tmp 58)),(59,(.tmp 59)),(60,(.tmp 60)),(61,(.tmp 61)),(62,(.tmp 62)),(63,(.tmp 63))]) 230 [(.int .u32 1116352408),(.int .u32 1899447441),(.int .u32 3049323471),(.int .u32 3921009573),(.int .u32 961987163),(.int .u32 1508970993),(.int .u32 2453635748),(.int .u32 2870763221),(.int .u32 3624381080),(.int .u32 310598401),(.int .u32 607225278),(.int .u32 1426881987),(.int .u32 1925078388),(.int .u32 2162078206),(.int .u32 2614888103),(.int .u32 3248222580),(.int .u32 3835390401),(.int .u32 4022224774),(.int .u32 264347078),(.int .u32 604807628),(.int .u32 770255983),(.int .u32 1249150122),(.int .u32 1555081692),(.int .u32 1996064986),(.int .u32 2554220882),(.int .u32 2821834349),(.int .u32 2952996808),(.int .u32 3210313671),(.int .u32 3336571891),(.int .u32 3584528711),(.int .u32 113926993),(.int .u32 338241895),(.int .u32 666307205),(.int .u32 773529912),(.int .u32 1294757372),(.int .u32 1396182291),(.int .u32 1695183700),(.int .u32 1986661051),(.int .u32 2177026350),(.int .u32 2456956037),(.int .u32 2730485921),(.int .u32 2820302411),(.int .u32 3259730800),(.int .u32 3345764771),(.int .u32 3516065817),(.int .u32 3600352804),(.int .u32 4094571909),(.int .u32 275423344),(.int .u32 430227734),(.int .u32 506948616),(.int .u32 659060556),(.int .u32 883997877),(.int .u32 958139571),(.int .u32 1322822218),(.int .u32 1537002063),(.int .u32 1747873779),(.int .u32 1955562222),(.int .u32 2024104815),(.int .u32 2227730452),(.int .u32 2361852424),(.int .u32 2428436474),(.int .u32 2756734187),(.int .u32 3204031479),(.int .u32 3329325298)] (fun v1=>
 K v1) w
theorem d7i (h:f1p K w):a0a prog 233 #[] K w:=
 cZ (fun _=>0) func233 h
def f1q (a0 a1:Value) (K:VK) (w:World):Prop:=
 a4o w fun C_1=>(oQ prog (.binOp .shr 223 (.tmp 0) (.tmp 1) 3) 223 [a0,a1] C_1 fun v7=>
 oQ prog (.binOp .sub 3 (.tmp 0) (.tmp 1) 3) 3 [(.int .i64 32),a1] C_1 fun v10=>
 oQ prog (.binOp .shl 223 (.tmp 0) (.tmp 1) 3) 223 [a0,v10] C_1 fun v11=>
 oQ prog (.binOp .or 223 (.tmp 0) (.tmp 1) 223) 223 [v7,v11] C_1 fun v12=>
 ∀ w,C_1 w → (K v12 w))
theorem d7j (h:f1q a0 a1 K w):a0a prog 234 #[a0,a1] K w:=
 cZ (fun _=>0) func234 h
end Go.Proofs
namespace Go.Proofs
open Go Go.Sh Tryz
variable {a0 a1 a2 a3:Value} {K:VK} {w:World}
def c0p (J_2:List Value → World → Prop) (K:VK) (a1:Value) (l_4:List Value) (m_3:List Value → World → Nat) (v3:Value) (w0_l_4 w:World):Prop:=
 kH (fun C_7 w=>(((true:Bool) = true) ∧ (jL 26 v3 C_7 fun v14=>
 a0c a1 C_7 fun v15=>
 a0c (l_4.getD 1 undef) C_7 fun v16=>
 jI 24 v15 v16 C_7 fun v17=>
 jL 3 v17 C_7 fun v18=>
 ∃ S_13:World → WK,∀ w,C_7 w → (
 a0a prog 85 #[v14,v18] (fun v19=>
 kU v19 fun v20=>
 kO v20 (K (.bool false))
 (kB .add 3 3 (l_4.getD 1 undef) (.int .i64 1) fun v13=>
 kJ J_2 m_3 l_4 w0_l_4 [(l_4.getD 0 undef),v13])) w)))) w
def f1v (a0 a1 a2:Value) (K:VK) (w:World):Prop:=
 oM prog (.box 26 (.tmp 0)) 0 [a0] (fun v3=>
 kQ [(.bool false),(.int .i64 0)] fun J_2 m_3 l_4 u_l_4 w0_l_4=>(fun w=>(
 kN 24 a1 (fun v10=>
 kB .lss 3 4 (l_4.getD 1 undef) v10 fun v11 w=>
 a0v v11
 (c0p J_2 K a1 l_4 m_3 v3 w0_l_4 w)
 (kN 24 a1 (fun v22=>
 kB .eql 3 4 v22 a2 fun v24=>
 K v24) w)) w)) w0_l_4) w
theorem d7o (h:f1v a0 a1 a2 K w):a0a prog 119 #[a0,a1,a2] K w:=
 cZ (fun _=>(fz 5 0 2)) func119 h
def c0q (J_24:List Value → World → Prop) (K:VK) (a1 a2:Value) (l_26 l_7:List Value) (m_25:List Value → World → Nat) (v3:Value) (w0_l_26 w:World):Prop:=
 kH (fun C_31 w=>(((true:Bool) = true) ∧ (a0c a2 C_31 fun v41=>
 a0c (l_7.getD 2 undef) C_31 fun v42=>
 jI 28 v41 v42 C_31 fun v43=>
 jL 114 v43 C_31 fun v44=>
 a0c (l_26.getD 1 undef) C_31 fun v45=>
 jI 114 v44 v45 C_31 fun v46=>
 jF 113 0 v46 C_31 fun v47=>
 jL 4 v47 C_31 fun v48=>
 a0c v48 C_31 fun v49=>
 jT v49 (jL 26 v3) C_31 fun v50=>
 jT v49 (a0c a2) C_31 fun v51=>
 jT v49 (a0c (l_7.getD 2 undef)) C_31 fun v52=>
 jT v49 (jI 28 v51 v52) C_31 fun v53=>
 jT v49 (jL 114 v53) C_31 fun v54=>
 jT v49 (a0c (l_26.getD 1 undef)) C_31 fun v55=>
 jT v49 (jI 114 v54 v55) C_31 fun v56=>
 jT v49 (jF 113 1 v56) C_31 fun v57=>
 jT v49 (jL 24 v57) C_31 fun v58=>
 jT v49 (a0c a1) C_31 fun v59=>
 jT v49 (a0c (l_7.getD 2 undef)) C_31 fun v60=>
 jT v49 (jI 27 v59 v60) C_31 fun v61=>
 jT v49 (jF 65 1 v61) C_31 fun v62=>
 jT v49 (jL 63 v62) C_31 fun v63=>
 jT v49 (a0c (l_26.getD 1 undef)) C_31 fun v64=>
 jT v49 (jI 63 v63 v64) C_31 fun v65=>
 jT v49 (jF 69 0 v65) C_31 fun v66=>
 jT v49 (jL 3 v66) C_31 fun v67=>
 ∃ S_59:World → WK,∀ w,C_31 w → (
 gT v49 (a0a prog 119 #[v50,v58,v67]) (fun v68 w=>
 gT v49 (kU v68) (fun v69=>
 kP v49 v69 (.bool false) fun v70=>
 kO v70 (K (.bool false))
 (kB .add 3 3 (l_26.getD 1 undef) (.int .i64 1) fun v40=>
 kJ J_24 m_25 l_26 w0_l_26 [(l_26.getD 0 undef),v40])) w) w)))) w
def c0r (J_24 J_5:List Value → World → Prop) (K:VK) (a1 a2:Value) (l_26 l_7:List Value) (m_25 m_6:List Value → World → Nat) (v3:Value) (w0_l_7 w0_l_26:World):Prop:=
 (fun w=>(
 kI 28 a2 (l_7.getD 2 undef) (fun v35=>
 kL 114 v35 fun v36=>
 kN 114 v36 fun v37=>
 kB .lss 3 4 (l_26.getD 1 undef) v37 fun v38 w=>
 a0v v38
 (c0q J_24 K a1 a2 l_26 l_7 m_25 v3 w0_l_26 w)
 (kB .add 3 3 (l_7.getD 2 undef) (.int .i64 1) (fun v19=>
 kJ J_5 m_6 l_7 w0_l_7 [(l_26.getD 0 undef),(l_26.getD 1 undef),v19]) w)) w)) w0_l_26
def c0s (J_5:List Value → World → Prop) (K:VK) (a1 a2:Value) (l_7:List Value) (m_6:List Value → World → Nat) (v3:Value) (w0_l_7 w:World):Prop:=
 kH (fun C_10 w=>(((true:Bool) = true) ∧ (a0c a2 C_10 fun v20=>
 a0c (l_7.getD 2 undef) C_10 fun v21=>
 jI 28 v20 v21 C_10 fun v22=>
 jL 114 v22 C_10 fun v23=>
 jN 114 v23 C_10 fun v24=>
 a0c a1 C_10 fun v25=>
 a0c (l_7.getD 2 undef) C_10 fun v26=>
 jI 27 v25 v26 C_10 fun v27=>
 jF 65 1 v27 C_10 fun v28=>
 jL 63 v28 C_10 fun v29=>
 jN 63 v29 C_10 fun v30=>
 jB .neq 3 4 v24 v30 C_10 fun v31=>
 ∃ S_23:World → WK,∀ w,C_10 w → (kO v31 (K (.bool false))
 (kQ [(l_7.getD 0 undef),(.int .i64 0)] fun J_24 m_25 l_26 u_l_26 w0_l_26=>c0r J_24 J_5 K a1 a2 l_26 l_7 m_25 m_6 v3 w0_l_7 w0_l_26) w)))) w
def g0e (a0 a1 a2:Value) (K:VK) (w:World):Prop:=
 oM prog (.box 26 (.tmp 0)) 0 [a0] (fun v3=>
 kN 28 a2 fun v10=>
 kN 27 a1 fun v12=>
 kB .neq 3 4 v10 v12 fun v13=>
 kO v13 (K (.bool false))
 (kQ [(.bool false),undef,(.int .i64 0)] fun J_5 m_6 l_7 u_l_7 w0_l_7=>(fun w=>(
 kN 27 a1 (fun v16=>
 kB .lss 3 4 (l_7.getD 2 undef) v16 fun v17 w=>
 a0v v17
 (c0s J_5 K a1 a2 l_7 m_6 v3 w0_l_7 w)
 (K (.bool true) w)) w)) w0_l_7)) w
theorem e5i (h:g0e a0 a1 a2 K w):a0a prog 32 #[a0,a1,a2] K w:=
 cZ (mz [(6,fz 12 0 0),(11,fz 27 0 3)]) func32 h
def c0t (J_60:List Value → World → Prop) (K:VK) (a1 a3:Value) (l_13 l_62:List Value) (m_61:List Value → World → Nat) (v4:Value) (w0_l_62 w:World):Prop:=
 kH (fun C_64 w=>(((true:Bool) = true) ∧ (jL 26 v4 C_64 fun v58=>
 a0c a3 C_64 fun v59=>
 a0c (l_13.getD 3 undef) C_64 fun v60=>
 jI 29 v59 v60 C_64 fun v61=>
 jL 30 v61 C_64 fun v62=>
 a0c (l_62.getD 1 undef) C_64 fun v63=>
 jI 30 v62 v63 C_64 fun v64=>
 jL 24 v64 C_64 fun v65=>
 a0c a1 C_64 fun v66=>
 a0c (l_13.getD 3 undef) C_64 fun v67=>
 jI 27 v66 v67 C_64 fun v68=>
 jF 65 1 v68 C_64 fun v69=>
 jL 63 v69 C_64 fun v70=>
 a0c (l_62.getD 1 undef) C_64 fun v71=>
 jI 63 v70 v71 C_64 fun v72=>
 jF 69 0 v72 C_64 fun v73=>
 jL 3 v73 C_64 fun v74=>
 ∃ S_82:World → WK,∀ w,C_64 w → (
 a0a prog 119 #[v58,v65,v74] (fun v75=>
 kU v75 fun v76=>
 kO v76 (K (.bool false))
 (kB .add 3 3 (l_62.getD 1 undef) (.int .i64 1) fun v57=>
 kJ J_60 m_61 l_62 w0_l_62 [(l_62.getD 0 undef),v57])) w)))) w
def c0u (J_11:List Value → World → Prop) (K:VK) (a1 a2 a3:Value) (l_13:List Value) (m_12:List Value → World → Nat) (v35 v4:Value) (w0_l_13 w:World):Prop:=
 kH (fun C_20 w=>(((true:Bool) = true) ∧ (jL 26 v4 C_20 fun v36=>
 a0c a2 C_20 fun v37=>
 a0c (l_13.getD 3 undef) C_20 fun v38=>
 jI 30 v37 v38 C_20 fun v39=>
 jL 24 v39 C_20 fun v40=>
 a0c v35 C_20 fun v41=>
 ∃ S_27:World → WK,xR S_27 fun R_28=>
 (∀ w,C_20 w → (a0a prog 119 #[v36,v40,v41] (xK C_20 S_27 R_28 w) w)) ∧
 (xR S_27 fun R_29=>
 (∀ w,C_20 w → ∀ v42,R_28 v42 w → (kU v42 (xK C_20 S_27 R_29 w) w)) ∧
 (xR S_27 fun R_31=>
 (∀ w,C_20 w → ∀ v43,R_29 v43 w → (C_20 w ∧ S_27 w w ∧ R_31 v43 w)) ∧
 (xR S_27 fun R_33=>
 (∀ w,C_20 w → ∀ v44,R_31 v44 w → (gF v44 (a0j a3) (xK C_20 S_27 R_33 w) w)) ∧
 (xR S_27 fun R_35=>
 (∀ w,C_20 w → ∀ v44,R_31 v44 w → (gF v44 (a0j (l_13.getD 3 undef)) (xK C_20 S_27 R_35 w) w)) ∧
 (xR S_27 fun R_37=>
 (∀ w,C_20 w → ∀ v44,R_31 v44 w → ∀ v45,R_33 v45 w → ∀ v46,R_35 v46 w → (gF v44 (kI 29 v45 v46) (xK C_20 S_27 R_37 w) w)) ∧
 (xR S_27 fun R_41=>
 (∀ w,C_20 w → ∀ v44,R_31 v44 w → ∀ v47,R_37 v47 w → (gF v44 (kL 30 v47) (xK C_20 S_27 R_41 w) w)) ∧
 (xR S_27 fun R_44=>
 (∀ w,C_20 w → ∀ v44,R_31 v44 w → ∀ v48,R_41 v48 w → (gF v44 (kN 30 v48) (xK C_20 S_27 R_44 w) w)) ∧
 (xR S_27 fun R_47=>
 (∀ w,C_20 w → ∀ v44,R_31 v44 w → (gF v44 (a0j v35) (xK C_20 S_27 R_47 w) w)) ∧
 (∀ w,C_20 w → ∀ v42,R_28 v42 w → ∀ v43,R_29 v43 w → ∀ v44,R_31 v44 w → ∀ v45,R_33 v45 w → ∀ v46,R_35 v46 w → ∀ v47,R_37 v47 w → ∀ v48,R_41 v48 w → ∀ v49,R_44 v49 w → ∀ v50,R_47 v50 w → (
 gF v44 (kB .neq 3 4 v49 v50) (fun v51=>
 kP v44 (.bool true) v51 fun v52=>
 kO v52 (K (.bool false))
 (kQ [(l_13.getD 1 undef),(.int .i64 0)] fun J_60 m_61 l_62 u_l_62 w0_l_62=>(fun w=>(
 kB .lss 3 4 (l_62.getD 1 undef) v35 (fun v55 w=>
 a0v v55
 (c0t J_60 K a1 a3 l_13 l_62 m_61 v4 w0_l_62 w)
 (kB .add 3 3 (l_13.getD 3 undef) (.int .i64 1) (fun v29=>
 kJ J_11 m_12 l_13 w0_l_13 [v35,(l_62.getD 0 undef),(l_62.getD 1 undef),v29]) w)) w)) w0_l_62)) w))))))))))))) w
def g0f (a0 a1 a2 a3:Value) (K:VK) (w:World):Prop:=
 oM prog (.box 26 (.tmp 0)) 0 [a0] (fun v4=>
 kN 30 a2 fun v13=>
 kN 27 a1 fun v15=>
 kB .neq 3 4 v13 v15 fun v16 w=>
 gF v16 (a0j a3) (fun v18 w=>
 gF v16 (kN 29 v18) (fun v19 w=>
 gF v16 (a0j a1) (fun v20 w=>
 gF v16 (kN 27 v20) (fun v21 w=>
 gF v16 (kB .neq 3 4 v19 v21) (fun v22=>
 kP v16 (.bool true) v22 fun v23=>
 kO v23 (K (.bool false))
 (kQ [undef,(.bool false),undef,(.int .i64 0)] fun J_11 m_12 l_13 u_l_13 w0_l_13=>(fun w=>(
 kN 27 a1 (fun v26=>
 kB .lss 3 4 (l_13.getD 3 undef) v26 fun v27=>
 kO v27 (kI 27 a1 (l_13.getD 3 undef) fun v32=>
 kF 65 1 v32 fun v33=>
 kL 63 v33 fun v34=>
 kN 63 v34 fun v35 w=>
 c0u J_11 K a1 a2 a3 l_13 m_12 v35 v4 w0_l_13 w)
 (K (.bool true))) w)) w0_l_13)) w) w) w) w) w) w
theorem e5j (h:g0f a0 a1 a2 a3 K w):a0a prog 33 #[a0,a1,a2,a3] K w:=
 cZ (mz [(7,fz 6 9 2),(12,fz 17 0 2)]) func33 h
def b7l (M_16:List Value → World → Prop) (a2:Value) (l_11:List Value) (v14 v3 v4:Value) (w:World):Prop:=
 kH (fun C_18 w=>(((true:Bool) = true) ∧ (a0c (l_11.getD 0 undef) C_18 fun v24=>
 jB .gtr 3 4 v24 (.int .i64 0) C_18 fun v25=>
 a0c v25 C_18 fun v26=>
 jT v26 (a0c a2) C_18 fun v27=>
 jT v26 (a0c (l_11.getD 1 undef)) C_18 fun v28=>
 jT v26 (jI 114 v27 v28) C_18 fun v29=>
 jT v26 (jF 113 0 v29) C_18 fun v30=>
 jT v26 (jL 4 v30) C_18 fun v31=>
 jP v26 v31 (.bool false) C_18 fun v32=>
 a0c v32 C_18 fun v33=>
 jT v33 (jL 26 v3) C_18 fun v34=>
 jT v33 (jF 65 1 v4) C_18 fun v35=>
 jT v33 (jL 63 v35) C_18 fun v36=>
 jT v33 (a0c (l_11.getD 1 undef)) C_18 fun v37=>
 jT v33 (jI 63 v36 v37) C_18 fun v38=>
 jT v33 (jL 69 v38) C_18 fun v39=>
 jT v33 (a0c a2) C_18 fun v40=>
 jT v33 (a0c (l_11.getD 1 undef)) C_18 fun v41=>
 jT v33 (jI 114 v40 v41) C_18 fun v42=>
 jT v33 (jF 113 1 v42) C_18 fun v43=>
 jT v33 (jL 24 v43) C_18 fun v44=>
 ∃ S_40:World → WK,∀ w,C_18 w → (
 gT v33 (a0a prog 61 #[v34,v39,v44]) (fun v45=>
 kP v33 v45 (.bool false) fun v46=>
 kO v46 (kI 61 v14 (l_11.getD 1 undef) fun v49=>
 kS 4 v49 (.bool true) fun _=>
 kB .sub 3 3 (l_11.getD 0 undef) (.int .i64 1) fun v51=>
 M_16 [v51])
 (M_16 [(l_11.getD 0 undef)])) w)))) w
def c0v (J_9:List Value → World → Prop) (K:VK) (a2:Value) (l_11:List Value) (m_10:List Value → World → Nat) (v14 v3 v4:Value) (w0_l_11:World):Prop:=
 (fun w=>(
 kF 65 1 v4 (fun v18=>
 kL 63 v18 fun v19=>
 kN 63 v19 fun v20=>
 kB .lss 3 4 (l_11.getD 1 undef) v20 fun v21 w=>
 a0v v21
 (a5z (fun M_16=>(b7l M_16 a2 l_11 v14 v3 v4 w))
 fun l_17 u_l_17 w=>(kB .add 3 3 (l_11.getD 1 undef) (.int .i64 1) (fun v23=>
 kJ J_9 m_10 l_11 w0_l_11 [(l_17.getD 0 undef),v23]) w))
 (kC .eql 3 0 4 (l_11.getD 0 undef) (fun v54=>
 K (.tuple #[v14,v54])) w)) w)) w0_l_11
def f1w (a0 a1 a2:Value) (K:VK) (w:World):Prop:=
 oM prog (.box 26 (.tmp 0)) 0 [a0] (fun v3=>
 oM prog (.box 65 (.tmp 0)) 0 [a1] fun v4=>
 kF 65 1 v4 fun v11=>
 kL 63 v11 fun v12=>
 kN 63 v12 fun v13=>
 oM prog (.makeSlice 61 (.tmp 0) (.tmp 1)) 61 [v13,v13] fun v14=>
 kF 65 0 v4 fun v15=>
 kL 3 v15 fun v16=>
 kQ [v16,(.int .i64 0)] fun J_9 m_10 l_11 u_l_11 w0_l_11=>c0v J_9 K a2 l_11 m_10 v14 v3 v4 w0_l_11) w
theorem d7p (h:f1w a0 a1 a2 K w):a0a prog 101 #[a0,a1,a2] K w:=
 cZ (fun _=>(fz 21 0 2)) func101 h
def c0w (J_2 J_32:List Value → World → Prop) (K:VK) (a3:Value) (l_34 l_4:List Value) (m_3 m_33:List Value → World → Nat) (v10 v31:Value) (w0_l_4 w0_l_34:World):Prop:=
 (fun w=>(
 kN 61 v10 (fun v34=>
 kB .lss 3 4 (l_34.getD 1 undef) v34 fun v35=>
 kO v35 (kI 61 v10 (l_34.getD 1 undef) fun v40=>
 kL 4 v40 fun v41 w=>
 gT v41 (a0j a3) (fun v43 w=>
 gT v41 (a0j (l_4.getD 4 undef)) (fun v44 w=>
 gT v41 (kI 30 v43 v44) (fun v45 w=>
 gT v41 (kL 24 v45) (fun v46 w=>
 gT v41 (a0j (l_34.getD 1 undef)) (fun v47 w=>
 gT v41 (kI 24 v46 v47) (fun v48 w=>
 gT v41 (kL 3 v48) (fun v49 w=>
 gT v41 (kC .neq 3 0 4 v49) (fun v50=>
 kP v41 v50 (.bool false) fun v51=>
 kO v51 (K (.bool false))
 (kB .add 3 3 (l_34.getD 1 undef) (.int .i64 1) fun v37=>
 kJ J_32 m_33 l_34 w0_l_34 [(l_34.getD 0 undef),v37])) w) w) w) w) w) w) w) w)
 (kB .add 3 3 (l_4.getD 4 undef) (.int .i64 1) fun v18=>
 kJ J_2 m_3 l_4 w0_l_4 [v10,v31,(l_34.getD 1 undef),(l_34.getD 0 undef),v18])) w)) w0_l_34
def c5w (J_2:List Value → World → Prop) (K:VK) (a1 a2 a3:Value) (l_4:List Value) (m_3:List Value → World → Nat) (v4:Value) (w0_l_4 w:World):Prop:=
 kH (fun C_7 w=>(((true:Bool) = true) ∧ (jL 26 v4 C_7 fun v20=>
 a0c a1 C_7 fun v21=>
 a0c (l_4.getD 4 undef) C_7 fun v22=>
 jI 27 v21 v22 C_7 fun v23=>
 jL 65 v23 C_7 fun v24=>
 a0c a2 C_7 fun v25=>
 a0c (l_4.getD 4 undef) C_7 fun v26=>
 jI 28 v25 v26 C_7 fun v27=>
 jL 114 v27 C_7 fun v28=>
 ∃ S_17:World → WK,xR S_17 fun R_18=>
 (∀ w,C_7 w → (a0a prog 101 #[v20,v24,v28] (xK C_7 S_17 R_18 w) w)) ∧
 (xR S_17 fun R_19=>
 (∀ w,C_7 w → ∀ v29,R_18 v29 w → (C_7 w ∧ S_17 w w ∧ R_19 v29 w)) ∧
 (xR S_17 fun R_21=>
 (∀ w,C_7 w → ∀ v19,R_19 v19 w → (kE 0 61 v19 (xK C_7 S_17 R_21 w) w)) ∧
 (xR S_17 fun R_23=>
 (∀ w,C_7 w → ∀ v19,R_19 v19 w → (kE 1 4 v19 (xK C_7 S_17 R_23 w) w)) ∧
 (xR S_17 fun R_25=>
 (∀ w,C_7 w → ∀ v30,R_21 v30 w → (C_7 w ∧ S_17 w w ∧ R_25 v30 w)) ∧
 (∀ w,C_7 w → ∀ v29,R_18 v29 w → ∀ v19,R_19 v19 w → ∀ v30,R_21 v30 w → ∀ v31,R_23 v31 w → ∀ v10,R_25 v10 w → (kQ [(l_4.getD 3 undef),(.int .i64 0)] (fun J_32 m_33 l_34 u_l_34 w0_l_34=>c0w J_2 J_32 K a3 l_34 l_4 m_3 m_33 v10 v31 w0_l_4 w0_l_34) w))))))))) w
def g0g (a0 a1 a2 a3:Value) (K:VK) (w:World):Prop:=
 oM prog (.box 26 (.tmp 0)) 0 [a0] (fun v4=>
 kQ [undef,undef,undef,(.bool false),(.int .i64 0)] fun J_2 m_3 l_4 u_l_4 w0_l_4=>(fun w=>(
 kN 27 a1 (fun v15=>
 kB .lss 3 4 (l_4.getD 4 undef) v15 fun v16 w=>
 a0v v16
 (c5w J_2 K a1 a2 a3 l_4 m_3 v4 w0_l_4 w)
 (K (.bool true) w)) w)) w0_l_4) w
theorem e5k (h:g0g a0 a1 a2 a3 K w):a0a prog 35 #[a0,a1,a2,a3] K w:=
 cZ (fun _=>(fz 9 5 1)) func35 h
def c0x (J_18:List Value → World → Prop) (K:VK) (a2:Value) (l_20:List Value) (m_19:List Value → World → Nat) (v3 v4:Value) (w0_l_20 w:World):Prop:=
 kH (fun C_25 w=>(((true:Bool) = true) ∧ (jL 26 v3 C_25 fun v32=>
 jF 69 1 v4 C_25 fun v33=>
 jL 67 v33 C_25 fun v34=>
 a0c (l_20.getD 1 undef) C_25 fun v35=>
 jI 67 v34 v35 C_25 fun v36=>
 jL 144 v36 C_25 fun v37=>
 a0c a2 C_25 fun v38=>
 jF 69 1 v4 C_25 fun v40=>
 jL 67 v40 C_25 fun v41=>
 a0c (l_20.getD 1 undef) C_25 fun v42=>
 jI 67 v41 v42 C_25 fun v43=>
 jF 144 0 v43 C_25 fun v44=>
 jL 3 v44 C_25 fun v45=>
 ∃ S_39:World → WK,xR S_39 fun R_40=>
 (∀ w,C_25 w → (a0a prog 139 #[v32,v37,v38] (xK C_25 S_39 R_40 w) w)) ∧
 (∀ w,C_25 w → ∀ v39,R_40 v39 w → (
 kB .neq 3 4 v39 v45 (fun v46=>
 kO v46 (K (.bool false))
 (kB .add 3 3 (l_20.getD 1 undef) (.int .i64 1) fun v31=>
 kJ J_18 m_19 l_20 w0_l_20 [(l_20.getD 0 undef),v31])) w))))) w
def g0h (a0 a1 a2:Value) (K:VK) (w:World):Prop:=
 oM prog (.box 26 (.tmp 0)) 0 [a0] (fun v3=>
 oM prog (.box 69 (.tmp 0)) 0 [a1] fun v4=>
 kL 26 v3 fun v8=>
 a0a prog 22 #[v8] fun v9=>
 kU v9 fun v10 w=>
 gF v10 (kL 26 v3) (fun v12 w=>
 gF v10 (kL 69 v4) (fun v13 w=>
 gF v10 (a0a prog 113 #[v12,v13]) (fun v14 w=>
 gF v10 (kU v14) (fun v15=>
 kP v10 (.bool true) v15 fun v16 w=>
 gF v16 (kL 26 v3) (fun v18 w=>
 gF v16 (a0j a2) (fun v19 w=>
 gF v16 (kF 69 0 v4) (fun v20 w=>
 gF v16 (kL 3 v20) (fun v21 w=>
 gF v16 (a0a prog 119 #[v18,v19,v21]) (fun v22 w=>
 gF v16 (kU v22) (fun v23=>
 kP v16 (.bool true) v23 fun v24=>
 kO v24 (K (.bool false))
 (kQ [(.bool false),(.int .i64 0)] fun J_18 m_19 l_20 u_l_20 w0_l_20=>(fun w=>(
 kF 69 1 v4 (fun v26=>
 kL 67 v26 fun v27=>
 kN 67 v27 fun v28=>
 kB .lss 3 4 (l_20.getD 1 undef) v28 fun v29 w=>
 a0v v29
 (c0x J_18 K a2 l_20 m_19 v3 v4 w0_l_20 w)
 (K (.bool true) w)) w)) w0_l_20)) w) w) w) w) w) w) w) w) w) w) w
theorem e5l (h:g0h a0 a1 a2 K w):a0a prog 61 #[a0,a1,a2] K w:=
 cZ (fun _=>.free [0,1,2,3,4,5,6,8,9,10,11,12,13] [7] [14]) func61 h
def b7m (J_43:List Value → World → Prop) (K:VK) (l_45:List Value) (m_44:List Value → World → Nat) (v2 v3 v6:Value) (w0_l_45 w:World):Prop:=
 kH (fun C_50 w=>(((true:Bool) = true) ∧ (jF 144 1 v6 C_50 fun v59=>
 jL 142 v59 C_50 fun v60=>
 a0c (l_45.getD 1 undef) C_50 fun v61=>
 jI 142 v60 v61 C_50 fun v62=>
 jF 146 0 v62 C_50 fun v63=>
 jL 3 v63 C_50 fun v64=>
 jB .lss 3 4 v64 (.int .i64 0) C_50 fun v65=>
 a0c v65 C_50 fun v66=>
 jG v66 (jF 144 1 v6) C_50 fun v67=>
 jG v66 (jL 142 v67) C_50 fun v68=>
 jG v66 (a0c (l_45.getD 1 undef)) C_50 fun v69=>
 jG v66 (jI 142 v68 v69) C_50 fun v70=>
 jG v66 (jF 146 0 v70) C_50 fun v71=>
 jG v66 (jL 3 v71) C_50 fun v72=>
 jG v66 (jF 69 0 v3) C_50 fun v73=>
 jG v66 (jL 3 v73) C_50 fun v74=>
 jG v66 (jB .geq 3 4 v72 v74) C_50 fun v75=>
 jP v66 (.bool true) v75 C_50 fun v76=>
 a0c v76 C_50 fun v77=>
 jG v77 (jF 26 0 v2) C_50 fun v78=>
 jG v77 (jL 23 v78) C_50 fun v79=>
 jG v77 (jF 144 1 v6) C_50 fun v80=>
 jG v77 (jL 142 v80) C_50 fun v81=>
 jG v77 (a0c (l_45.getD 1 undef)) C_50 fun v82=>
 jG v77 (jI 142 v81 v82) C_50 fun v83=>
 jG v77 (jF 146 1 v83) C_50 fun v84=>
 jG v77 (jL 3 v84) C_50 fun v85=>
 ∃ S_78:World → WK,∀ w,C_50 w → (
 gF v77 (a0a prog 146 #[v79,v85]) (fun v86 w=>
 gF v77 (kU v86) (fun v87=>
 kP v77 (.bool true) v87 fun v88=>
 kO v88 (K (.bool false))
 (kB .add 3 3 (l_45.getD 1 undef) (.int .i64 1) fun v58=>
 kJ J_43 m_44 l_45 w0_l_45 [(l_45.getD 0 undef),v58])) w) w)))) w
def b7n (J_20 J_43:List Value → World → Prop) (K:VK) (l_22 l_45:List Value) (m_21 m_44:List Value → World → Nat) (v2 v3 v6:Value) (w0_l_22 w0_l_45:World):Prop:=
 (fun w=>(
 kF 144 1 v6 (fun v53=>
 kL 142 v53 fun v54=>
 kN 142 v54 fun v55=>
 kB .lss 3 4 (l_45.getD 1 undef) v55 fun v56 w=>
 a0v v56
 (b7m J_43 K l_45 m_44 v2 v3 v6 w0_l_45 w)
 (kB .add 3 3 (l_22.getD 2 undef) (.int .i64 1) (fun v34=>
 kJ J_20 m_21 l_22 w0_l_22 [(l_45.getD 0 undef),(l_45.getD 1 undef),v34]) w)) w)) w0_l_45
def b7o (J_20:List Value → World → Prop) (K:VK) (l_22:List Value) (m_21:List Value → World → Nat) (v2 v3:Value) (w0_l_22:World):Prop:=
 (fun w=>(
 kF 69 1 v3 (fun v29=>
 kL 67 v29 fun v30=>
 kN 67 v30 fun v31=>
 kB .lss 3 4 (l_22.getD 2 undef) v31 fun v32=>
 kO v32 (kF 69 1 v3 fun v35=>
 kL 67 v35 fun v36=>
 kI 67 v36 (l_22.getD 2 undef) fun v38=>
 kL 144 v38 fun v39=>
 kA 144 fun v6=>
 kS 144 v6 v39 fun _=>
 kF 26 0 v2 fun v40=>
 kL 23 v40 fun v41=>
 kF 144 0 v6 fun v42=>
 kL 3 v42 fun v43=>
 a0a prog 146 #[v41,v43] fun v44=>
 kU v44 fun v45 w=>
 gF v45 (kF 144 1 v6) (fun v47 w=>
 gF v45 (kL 142 v47) (fun v48 w=>
 gF v45 (kN 142 v48) (fun v49 w=>
 gF v45 (kB .gtr 3 4 v49 (.int .i64 80)) (fun v50=>
 kP v45 (.bool true) v50 fun v51=>
 kO v51 (K (.bool false))
 (kQ [(l_22.getD 0 undef),(.int .i64 0)] fun J_43 m_44 l_45 u_l_45 w0_l_45=>b7n J_20 J_43 K l_22 l_45 m_21 m_44 v2 v3 v6 w0_l_22 w0_l_45)) w) w) w) w)
 (K (.bool true))) w)) w0_l_22
def f1x (a0 a1:Value) (K:VK) (w:World):Prop:=
 oM prog (.box 26 (.tmp 0)) 0 [a0] (fun v2=>
 oM prog (.box 69 (.tmp 0)) 0 [a1] fun v3=>
 kF 69 0 v3 fun v8=>
 kL 3 v8 fun v9=>
 kB .lss 3 4 v9 (.int .i64 0) fun v10 w=>
 gF v10 (kF 69 0 v3) (fun v12 w=>
 gF v10 (kL 3 v12) (fun v13 w=>
 gF v10 (kB .gtr 3 4 v13 (.int .i64 120)) (fun v14=>
 kP v10 (.bool true) v14 fun v15 w=>
 gF v15 (kF 69 1 v3) (fun v17 w=>
 gF v15 (kL 67 v17) (fun v18 w=>
 gF v15 (kN 67 v18) (fun v19 w=>
 gF v15 (kB .lss 3 4 v19 (.int .i64 1)) (fun v20=>
 kP v15 (.bool true) v20 fun v21 w=>
 gF v21 (kF 69 1 v3) (fun v23 w=>
 gF v21 (kL 67 v23) (fun v24 w=>
 gF v21 (kN 67 v24) (fun v25 w=>
 gF v21 (kB .gtr 3 4 v25 (.int .i64 60)) (fun v26=>
 kP v21 (.bool true) v26 fun v27=>
 kO v27 (K (.bool false))
 (kQ [(.bool false),undef,(.int .i64 0)] fun J_20 m_21 l_22 u_l_22 w0_l_22=>b7o J_20 K l_22 m_21 v2 v3 w0_l_22)) w) w) w) w) w) w) w) w) w) w) w) w
theorem d7q (h:f1x a0 a1 K w):a0a prog 113 #[a0,a1] K w:=
 cZ (fun _=>(fz 27 0 3)) func113 h
def b7p (J_3:List Value → World → Prop) (a2:Value) (l_5:List Value) (m_4:List Value → World → Nat) (v3 v4:Value) (w0_l_5 w:World):Prop:=
 kH (fun C_10 w=>(((true:Bool) = true) ∧ (jF 26 0 v3 C_10 fun v16=>
 jL 23 v16 C_10 fun v17=>
 a0c (l_5.getD 0 undef) C_10 fun v18=>
 jF 26 0 v3 C_10 fun v19=>
 jL 23 v19 C_10 fun v20=>
 jF 144 1 v4 C_10 fun v21=>
 jL 142 v21 C_10 fun v22=>
 a0c (l_5.getD 1 undef) C_10 fun v23=>
 jI 142 v22 v23 C_10 fun v24=>
 jF 146 1 v24 C_10 fun v25=>
 jL 3 v25 C_10 fun v26=>
 a0c a2 C_10 fun v27=>
 jF 144 1 v4 C_10 fun v28=>
 jL 142 v28 C_10 fun v29=>
 a0c (l_5.getD 1 undef) C_10 fun v30=>
 jI 142 v29 v30 C_10 fun v31=>
 jF 146 0 v31 C_10 fun v32=>
 jL 3 v32 C_10 fun v33=>
 jI 24 v27 v33 C_10 fun v34=>
 jL 3 v34 C_10 fun v35=>
 ∃ S_31:World → WK,xR S_31 fun R_32=>
 (∀ w,C_10 w → (a0a prog 137 #[v20,v26,v35] (xK C_10 S_31 R_32 w) w)) ∧
 (∀ w,C_10 w → ∀ v36,R_32 v36 w → (
 a0a prog 138 #[v17,v18,v36] (fun v37=>
 kB .add 3 3 (l_5.getD 1 undef) (.int .i64 1) fun v15=>
 kJ J_3 m_4 l_5 w0_l_5 [v37,v15]) w))))) w
def f1y (a0 a1 a2:Value) (K:VK) (w:World):Prop:=
 oM prog (.box 26 (.tmp 0)) 0 [a0] (fun v3=>
 oM prog (.box 144 (.tmp 0)) 0 [a1] fun v4=>
 kQ [(.int .i64 1),(.int .i64 0)] fun J_3 m_4 l_5 u_l_5 w0_l_5=>(fun w=>(
 kF 144 1 v4 (fun v10=>
 kL 142 v10 fun v11=>
 kN 142 v11 fun v12=>
 kB .lss 3 4 (l_5.getD 1 undef) v12 fun v13 w=>
 a0v v13
 (b7p J_3 a2 l_5 m_4 v3 v4 w0_l_5 w)
 (K (l_5.getD 0 undef) w)) w)) w0_l_5) w
theorem d7r (h:f1y a0 a1 a2 K w):a0a prog 139 #[a0,a1,a2] K w:=
 cZ (fun _=>(fz 20 1 2)) func139 h
end Go.Proofs
namespace Go.Proofs
open Go Go.Sh Go.RowKit FdSpec TkSpec CodeSpec PrSpec FdPoly GrLaw
section
variable {K:VK} {w w' w0 W W' We W1 W2:World} {L:List (Addr × Value)} {g n B b i:Nat} {row:Option Nat}
theorem b5s (s:Stp) (x:Int) {v:Value} (hs:SetR w s v) (k:∀ w',Bw w w' → K (.bool (a1l s x)) w'):a0a Tryz.prog 85 #[a6b s v,.int .i64 x] K w:=by
 apply e4p
 unfold f9l
 obtain ⟨ad,c,rfl⟩:=hs.ints.isSlice
 refine a0l (cs:=a2r s (.slice ad s.bases.length c)) rfl (.start w) fun b1 W hk hb1 hbb=>?_
 have k:=k _ hk.below
 unfold a1l at k
 by_cases h0:0 ≤ x
 ·by_cases h1:x < s.g.Q
  ·rw [decide_eq_true h0,decide_eq_true h1] at k
   refine Xa (An3 hk.cells @h0 @h1) ?_
   exact k
  ·rw [decide_eq_true h0,decide_eq_false h1] at k
   refine Xa (An3 hk.cells @h0 @h1) ?_
   exact k
 ·rw [decide_eq_false h0] at k
  refine Xa (An2 hk.cells @h0) ?_
  exact k
theorem f6h (s:Stp) (l:List Int) (n:Int):a0g s l n = (l.all (a1l s) && decide ((l.length:Int) = n)):=by
 unfold a0g
 rw [Bool.and_comm,List.all_eq_not_any_not]
theorem a4x (s:Stp) (n:Int) {v lv:Value} {l:List Int} (hs:SetR w s v) (hl:Ints w lv l) (k:∀ w',Bw w w' → K (.bool (a0g s l n)) w'):a0a Tryz.prog 119 #[a6b s v,lv,.int .i64 n] K w:=by
 apply d7o
 unfold f1v
 have hs':=hs
 obtain ⟨ad,c,rfl⟩:=hs.ints.isSlice
 have hl':=hl
 obtain ⟨lad,lc,rfl⟩:=hl.isSlice
 have hll:=hl'.len
 refine a0l (cs:=a2r s (.slice ad s.bases.length c)) rfl (.start w) fun b1 W hk hb1 hbb=>?_
 clear hb1 hbb
 rw [f6h] at k
 refine ⟨f8a hk (a1l s) l (l.all (a1l s)),b2m l.length,⟨hk,_,0,rfl,by omega,by rw [List.drop_zero]⟩,?_⟩
 generalize l.all (a1l s) = R at *
 rintro _ _ w3 ⟨hk,u,i,rfl,hi,ha⟩
 by_cases hin:i = l.length
 ·rw [List.drop_of_length_le (by omega),List.all_nil] at ha
  rw [← ha,bT] at k
  subst hin
  have k:=k _ hk.below
  generalize hq:decide ((l.length:Int) = n) = q at *
  refine Xa0 ?_
  rw [hq]
  exact k
 obtain ⟨b8,o8,rfl,hb8,ca,ra,_⟩:=hl'.at (i:=i) (by omega)
 rw [List.drop_eq_getElem_cons (by omega),List.all_cons] at ha
 generalize l[i] = x at *
 have hil:(i:Int) < l.length:=by omega
 refine Xa @hil ?_
 unfold c0p
 simp only [List.getD_cons_succ,List.getD_cons_zero]
 have hk9:=hk.drew
 refine ⟨Nx { w3 with drawn:=w3.drawn + 1 },bR,by trivial,?_⟩
 generalize ({ w3 with drawn:=w3.drawn + 1 }:World) = W9 at hk9 ⊢
 refine Xf (fun W0 hW0=>An2 ((hk9.next hW0).cells) (ca _ (hk9.next hW0).below)) @hil ?_
 refine ⟨Nx,fun w9 h9=>?_⟩
 have hk:=hk9.next h9
 refine Xa0 ?_
 refine b5s s x (hs'.next hk.below) (fun w10 h10=>?_)
 have hk:=hk.next h10
 cases hx:a1l s x with
 | false=>
  rw [hx,bF] at ha
  rw [← ha,bF] at k
  refine Xa0 ?_
  exact k _ hk.below
 | true=>
  rw [hx,bT] at ha
  refine Xa0 ?_
  refine ⟨⟨hk,_,i + 1,rfl,by omega,ha⟩,?_⟩
  simp only [a1u]; omega
def RlJ (w0:World) (L:List (Addr × Value)) (s:Stp) (vs:List Int) (l:List Trm) (R:Int) (us:List Value) (w':World):Prop:=Kn w0 L w' ∧ ∃ (o:Int) (i:Nat),us = [.int .i64 o,.int .i64 (i:Int)] ∧ i ≤ l.length ∧ b4h s.g o ((l.drop i).map fun t=>(t.base,vs.getD t.var.toNat 0)) = R
theorem d0n (s:Stp) (e:Eqn) (vs:List Int) {v ev lv:Value} (hs:SetR w s v) (he:SRow 2 c4p w ev e.terms) (hl:Ints w lv vs) (hlen:e.terms.length < 1000) (hv:∀ t ∈ e.terms,0 ≤ t.var ∧ t.var < vs.length) (hg:a1x s = true)
  (k:∀ w',Bw w w' → K (.int .i64 (a8b s e vs)) w'):a0a Tryz.prog 139 #[a6b s v,f7n e ev,lv] K w:=by
 apply d7r
 unfold f1y
 have hs':=hs
 have he':=he
 have hl':=hl
 obtain ⟨ad,c,rfl⟩:=hs.ints.isSlice
 obtain ⟨ead,ec,rfl⟩:=he.isSlice
 obtain ⟨lad,lc,rfl⟩:=hl.isSlice
 refine a0l (cs:=a2r s (.slice ad s.bases.length c)) rfl (.start w) fun b1 W1 hk hb1 hbb=>?_
 refine a0l (cs:=f4g e (.slice ead e.terms.length ec)) rfl hk fun b2 W2 hk hb2 hbb=>?_
 clear hb1 hb2 hbb
 have hgv:=c3l hg
 have hq:=hgv.okQ
 have hp:okN s.g.P:=by have h1:=hgv.p; have h2:=hgv.q0; have h3:=hgv.q1; unfold okN; omega
 have hp1:1 % s.g.P = 1:=Int.emod_eq_of_lt (by decide) (by have:=hgv.p; have:=hgv.q0; omega)
 have eL:a8b s e vs = b4h s.g 1 (e.terms.map fun t=>(t.base,vs.getD t.var.toNat 0)):=by
  unfold a8b b1n
  rw [if_pos ⟨hp,hq,by simp⟩,hp1,List.zip_map']
 rw [eL] at k
 clear eL
 refine ⟨RlJ w (cellsOf (cellsOf [] b1 0 (a2r s (.slice ad s.bases.length c))) b2 0 (f4g e (.slice ead e.terms.length ec))) s vs e.terms (b4h s.g 1 (e.terms.map fun t=>(t.base,vs.getD t.var.toNat 0))),b2m e.terms.length,⟨hk,1,0,rfl,by omega,by rw [List.drop_zero]⟩,?_⟩
 generalize b4h s.g 1 (e.terms.map fun t=>(t.base,vs.getD t.var.toNat 0)) = R at *
 rintro _ _ w3 ⟨hk,o,i,rfl,hi,ha⟩
 by_cases hin:i = e.terms.length
 ·rw [List.drop_of_length_le (by omega)] at ha
  have ha:o = R:=ha
  subst ha
  subst hin
  refine Xa hk.cells ?_
  exact k _ hk.below
 obtain ⟨b4,o4,rfl,hb4,d0,d1,di0,di1⟩:=(he'.next a2y hk.below).at (i:=i) (by omega)
 obtain ⟨hv0,hv1⟩:=hv _ (List.getElem_mem (show i < e.terms.length by omega))
 rw [List.drop_eq_getElem_cons (by omega)] at ha
 generalize e.terms[i] = t at *
 have hvt:t.var.toNat < vs.length:=by omega
 obtain ⟨b8,o8,rfl,hb8,ca,ra,_⟩:=hl'.at (i:=t.var.toNat) hvt
 have ha:b4h s.g (a2n s.g.P o (a5u s.g t.base (vs.getD t.var.toNat 0))) ((e.terms.drop (i + 1)).map fun t=>(t.base,vs.getD t.var.toNat 0)) = R:=ha
 rw [List.getD_eq_getElem?_getD,gE hvt,Option.getD_some] at ha
 generalize vs[t.var.toNat] = x at *
 have hil:(i:Int) < e.terms.length:=by omega
 refine Xa (An2 hk.cells @hil) ?_
 unfold b7p
 simp only [List.getD_cons_succ,List.getD_cons_zero]
 have hk9:=hk.drew
 have hodr:Below w3.heap.size w3 { w3 with drawn:=w3.drawn + 1 }:=.drawn
 refine ⟨Nx { w3 with drawn:=w3.drawn + 1 },bR,by trivial,?_⟩
 generalize ({ w3 with drawn:=w3.drawn + 1 }:World) = W9 at *
 refine Xf (fun W0 hW0=>An4 ((hk9.next hW0).cells) (((hodr.on hW0).cell hb4).trans d0) (((hodr.on hW0).cell hb4).trans d1) (ca _ (hk9.next hW0).below)) (An3 @hil @hv0 @hv1) ?_
 refine ⟨Nx,?_⟩
 apply a1i
 ·intro w1 h1
  exact c6o s.g t.base x (fun w2 h2=>⟨h1.on h2,h2,rfl⟩)
 rintro w9 h9 _ rfl
 have hk:=hk9.next h9
 refine d9z s.g o _ (fun w10 h10=>?_)
 have hk:=hk.next h10
 refine Xa0 ?_
 refine ⟨⟨hk,_,i + 1,rfl,by omega,?_⟩,?_⟩
 ·unfold b1d
  rw [if_pos hq]
  exact ha
 ·simp only [a1u]; omega
def g8w {α:Type} (w0:World) (L:List (Addr × Value)) (p:α → Bool) (l:List α) (R:Bool) (vs:List Value) (w':World):Prop:=Kn w0 L w' ∧ ∃ (u v:Value) (i:Nat),vs = [u,v,.int .i64 (i:Int)] ∧ i ≤ l.length ∧ (l.drop i).all p = R
def c3t (n:Nat) (l:List Value) (_:World):Nat:=match l with | [_,_,.int _ i]=>n - i.toNat | _=>0
theorem b0q (n:Nat) (u v:Value) (k:IntKind) (i:Int) (w:World):c3t n [u,v,.int k i] w = n - i.toNat:=rfl
set_option maxHeartbeats 2000000 in
theorem a7o (s:Stp) (c:Clm) {v cv:Value} (hs:SetR w s v) (hc:ClmR w c cv) (k:∀ w',Bw w w' → K (.bool (a1q s c)) w'):a0a Tryz.prog 113 #[a6b s v,d1j c cv] K w:=by
 apply d7q
 unfold f1x
 have hs':=hs
 have hc':=hc
 obtain ⟨ad,ca,rfl⟩:=hs.ints.isSlice
 obtain ⟨ead,ec,rfl⟩:=hc.eqs.isSlice
 refine a0l (cs:=a2r s (.slice ad s.bases.length ca)) rfl (.start w) fun b1 W1 hk hb1 hbb=>?_
 refine a0l (cs:=c9j c (.slice ead c.eqs.length ec)) rfl hk fun b2 W2 hk hb2 hbb=>?_
 clear hb1 hb2 hbb
 have hel:=hc'.eqs.len
 have eC:a1q s c = (decide (0 ≤ c.vars) && decide (c.vars ≤ 120) && decide (1 ≤ c.eqs.length) && decide (c.eqs.length ≤ 60) && c.eqs.all (a5x s c.vars)):=rfl
 by_cases h1:c.vars < 0
 ·rw [decide_eq_false (by omega),bF,bF,bF,bF] at eC
  rw [eC] at k
  refine Xa (An2 hk.cells @h1) ?_
  exact k _ hk.below
 by_cases h2:120 < c.vars
 ·rw [decide_eq_false (by omega:¬ c.vars ≤ 120),Bool.and_false,bF,bF,bF] at eC
  rw [eC] at k
  refine Xa (An3 hk.cells @h1 @h2) ?_
  exact k _ hk.below
 by_cases h3:(c.eqs.length:Int) < 1
 ·rw [decide_eq_false (by omega:¬ 1 ≤ c.eqs.length),Bool.and_false,bF,bF] at eC
  rw [eC] at k
  refine Xa (An4 hk.cells @h1 @h2 @h3) ?_
  exact k _ hk.below
 by_cases h4:(60:Int) < c.eqs.length
 ·rw [decide_eq_false (by omega:¬ c.eqs.length ≤ 60),Bool.and_false,bF] at eC
  rw [eC] at k
  refine Xa (An5 hk.cells @h1 @h2 @h3 @h4) ?_
  exact k _ hk.below
 rw [decide_eq_true (by omega),decide_eq_true (by omega:c.vars ≤ 120),decide_eq_true (by omega:1 ≤ c.eqs.length),decide_eq_true (by omega:c.eqs.length ≤ 60)] at eC
 simp only [bT] at eC
 rw [eC] at k
 clear eC
 refine Xa (An5 hk.cells @h1 @h2 @h3 @h4) ?_
 refine ⟨g8w w (cellsOf (cellsOf [] b1 0 (a2r s (.slice ad s.bases.length ca))) b2 0 (c9j c (.slice ead c.eqs.length ec))) (a5x s c.vars) c.eqs (c.eqs.all (a5x s c.vars)),c3t c.eqs.length,⟨hk,_,_,0,rfl,by omega,by rw [List.drop_zero]⟩,?_⟩
 generalize c.eqs.all (a5x s c.vars) = R at *
 rintro _ _ w3 ⟨hk,u,u',i,rfl,hi,ha⟩
 unfold b7o
 by_cases hin:i = c.eqs.length
 ·rw [List.drop_of_length_le (by omega),List.all_nil] at ha
  subst hin
  refine Xa hk.cells ?_
  rw [ha]
  exact k _ hk.below
 rw [List.drop_eq_getElem_cons (by omega),List.all_cons] at ha
 obtain ⟨b3,o3,rfl,hb3,tv,c0,c1,htr,hti⟩:=(hc'.eqs.next b0f hk.below).at (i:=i) (by omega)
 generalize c.eqs[i] = e at *
 obtain ⟨tad,tc,rfl⟩:=htr.isSlice
 have hic:(i:Int) < c.eqs.length:=by omega
 repeat (any_goals (first
 | ((with_reducible refine b2n e tad e.terms.length tc hk ?_); intro g13 W13 hk hb13 hg13)
 | (with_reducible refine yL ?_)
 | ((with_reducible refine oG fun X Y=>?_); simp [go_sem,hk.cells,c0,c1,hic]; apply Y; clear Y X)))
 have htr:=htr.next a2y hb13
 clear hb13 c0 c1
 refine Xa hk.cells ?_
 refine b8n s.g e.target hs'.grp (fun w4 h4=>?_)
 have hk:=hk.next h4
 have htr:=htr.next a2y h4
 clear h4
 have eE:a5x s c.vars e = (a8l s.g e.target && decide (e.terms.length ≤ 80) && e.terms.all (a4v s c.vars)):=rfl
 cases hel:a8l s.g e.target with
 | false=>
  rw [hel,bF,bF] at eE
  rw [eE,bF] at ha
  refine Xa hk.cells ?_
  rw [ha]
  exact k _ hk.below
 | true=>
 rw [hel,bT] at eE
 by_cases h8:(80:Int) < e.terms.length
 ·rw [decide_eq_false (by omega:¬ e.terms.length ≤ 80),bF] at eE
  rw [eE,bF] at ha
  refine Xa (An2 hk.cells @h8) ?_
  rw [ha]
  exact k _ hk.below
 rw [decide_eq_true (by omega:e.terms.length ≤ 80),bT] at eE
 rw [eE] at ha
 clear eE
 have htl:=htr.len
 refine Xa (An2 hk.cells @h8) ?_
 have hkk:=hk
 have htw:Kn w4 _ w4:=⟨bR,hk.cells⟩
 refine ⟨f8a htw (a4v s c.vars) e.terms (e.terms.all (a4v s c.vars)),b2m e.terms.length,⟨htw,_,0,rfl,by omega,by rw [List.drop_zero]⟩,?_⟩
 generalize e.terms.all (a4v s c.vars) = R2 at *
 rintro _ _ w5 ⟨hk2,u2,j,rfl,hj,hb⟩
 have hk:Kn w _ w5:=⟨hkk.below.on hk2.below,hk2.cells⟩
 unfold b7n
 by_cases hjn:j = e.terms.length
 ·rw [List.drop_of_length_le (by omega),List.all_nil] at hb
  rw [← hb,bT] at ha
  subst hjn
  refine Xa hk.cells ?_
  refine ⟨⟨⟨hk.below,hk.cells.2.2⟩,_,_,i + 1,rfl,by omega,ha⟩,?_⟩
  simp only [b0q]; omega
 rw [List.drop_eq_getElem_cons (by omega),List.all_cons] at hb
 obtain ⟨b4,o4,rfl,hb4,d0,d1,di0,di1⟩:=(htr.next a2y hk2.below).at (i:=j) (by omega)
 generalize e.terms[j] = t at *
 have eT:a4v s c.vars t = (decide (0 ≤ t.var) && decide (t.var < c.vars) && a8l s.g t.base):=rfl
 have hno:a4v s c.vars t = false → K (.bool false) = K (.bool R):=fun h=>by
  rw [h,bF] at hb
  rw [← hb,bF] at ha
  rw [ha]
 have hjt:(j:Int) < e.terms.length:=by omega
 refine Xa (An2 hk.cells @hjt) ?_
 unfold b7m
 simp only [List.getD_cons_succ,List.getD_cons_zero]
 have hk9:=hk.drew
 have hodr:Below w5.heap.size w5 { w5 with drawn:=w5.drawn + 1 }:=.drawn
 refine ⟨Nx { w5 with drawn:=w5.drawn + 1 },bR,by trivial,?_⟩
 generalize ({ w5 with drawn:=w5.drawn + 1 }:World) = W9 at *
 by_cases g1:t.var < 0
 ·rw [decide_eq_false (by omega),bF,bF] at eT
  refine Xf (fun W0 hW0=>An3 ((hk9.next hW0).cells) (((hodr.on hW0).cell hb4).trans d0) (((hodr.on hW0).cell hb4).trans d1)) (An2 @hjt @g1) ?_
  refine ⟨Nx,fun w9 h9=>?_⟩
  refine Xa0 ?_
  rw [hno eT]
  exact k _ (hk9.next h9).below
 rw [decide_eq_true (by omega),bT] at eT
 by_cases g2:c.vars ≤ t.var
 ·rw [decide_eq_false (by omega),bF] at eT
  refine Xf (fun W0 hW0=>An3 ((hk9.next hW0).cells) (((hodr.on hW0).cell hb4).trans d0) (((hodr.on hW0).cell hb4).trans d1)) (An3 @hjt @g1 @g2) ?_
  refine ⟨Nx,fun w9 h9=>?_⟩
  refine Xa0 ?_
  rw [hno eT]
  exact k _ (hk9.next h9).below
 rw [decide_eq_true (by omega),bT] at eT
 refine Xf (fun W0 hW0=>An3 ((hk9.next hW0).cells) (((hodr.on hW0).cell hb4).trans d0) (((hodr.on hW0).cell hb4).trans d1)) (An3 @hjt @g1 @g2) ?_
 refine ⟨Nx,fun w9 h9=>?_⟩
 refine Xa0 ?_
 refine b8n s.g t.base hs'.grp (fun w6 h6=>?_)
 have hk:=(hk9.next h9).next h6
 cases hel2:a8l s.g t.base with
 | false=>
  rw [hel2] at eT
  refine Xa hk.cells ?_
  rw [hno eT]
  exact k _ hk.below
 | true=>
  rw [hel2] at eT
  rw [eT,bT] at hb
  refine Xa hk.cells ?_
  refine ⟨⟨⟨((hk2.below.on hodr).on h9).on h6,hk.cells⟩,_,j + 1,rfl,by omega,hb⟩,?_⟩
  simp only [a1u]; omega
set_option maxHeartbeats 2000000 in
theorem e0f (s:Stp) (c:Clm) (l:List Int) {v cv lv:Value} (hs:SetR w s v) (hc:ClmR w c cv) (hl:Ints w lv l)
  (k:∀ w',Bw w w' → K (.bool (b3g s c l)) w'):a0a Tryz.prog 61 #[a6b s v,d1j c cv,lv] K w:=by
 apply e5l
 unfold g0h
 have hs':=hs
 have hc':=hc
 have hl':=hl
 obtain ⟨ad,ca,rfl⟩:=hs.ints.isSlice
 obtain ⟨ead,ec,rfl⟩:=hc.eqs.isSlice
 obtain ⟨lad,lc,rfl⟩:=hl.isSlice
 refine a0l (cs:=a2r s (.slice ad s.bases.length ca)) rfl (.start w) fun b1 W1 hk hb1 hbb=>?_
 refine a0l (cs:=c9j c (.slice ead c.eqs.length ec)) rfl hk fun b2 W2 hk hb2 hbb=>?_
 clear hb1 hb2 hbb
 have eH:b3g s c l = (a1x s && a1q s c && (a0g s l c.vars && c.eqs.all fun e=>decide (a8b s e l = e.target))):=by
  show (a1x s && a1q s c && (a0g s l c.vars && !(c.eqs.any fun e=>!decide (a8b s e l = e.target)))) = _
  rw [List.all_eq_not_any_not]
 refine Xa hk.cells ?_
 refine a5p s (hs'.next hk.below) (fun w4 h4=>?_)
 have hk:=hk.next h4
 clear h4
 cases hv:a1x s with
 | false=>
  rw [hv,bF,bF] at eH
  rw [eH] at k
  refine Xa hk.cells ?_
  exact k _ hk.below
 | true=>
 rw [hv,bT] at eH
 refine Xa hk.cells ?_
 refine a7o s c (hs'.next hk.below) (hc'.next hk.below) (fun w5 h5=>?_)
 have hk:=hk.next h5
 clear h5
 cases hcl:a1q s c with
 | false=>
  rw [hcl,bF] at eH
  rw [eH] at k
  refine Xa hk.cells ?_
  exact k _ hk.below
 | true=>
 rw [hcl,bT] at eH
 refine Xa hk.cells ?_
 refine a4x s c.vars (hs'.next hk.below) (hl'.next hk.below) (fun w6 h6=>?_)
 have hk:=hk.next h6
 clear h6
 cases hx:a0g s l c.vars with
 | false=>
  rw [hx,bF] at eH
  rw [eH] at k
  refine Xa hk.cells ?_
  exact k _ hk.below
 | true=>
 rw [hx,bT] at eH
 rw [eH] at k
 have hln:(l.length:Int) = c.vars:=by
  unfold a0g at hx
  simp only [bA,dE] at hx
  exact hx.1
 have hfit:=a7t hcl
 have hel:=hc'.eqs.len
 refine Xa hk.cells ?_
 refine ⟨f8a hk (fun e=>decide (a8b s e l = e.target)) c.eqs (c.eqs.all fun e=>decide (a8b s e l = e.target)),b2m c.eqs.length,⟨hk,_,0,rfl,by omega,by rw [List.drop_zero]⟩,?_⟩
 generalize (c.eqs.all fun e=>decide (a8b s e l = e.target)) = R at *
 rintro _ _ w3 ⟨hk,u,i,rfl,hi,ha⟩
 by_cases hin:i = c.eqs.length
 ·rw [List.drop_of_length_le (by omega),List.all_nil] at ha
  subst hin
  refine Xa hk.cells ?_
  rw [ha]
  exact k _ hk.below
 rw [List.drop_eq_getElem_cons (by omega),List.all_cons] at ha
 obtain ⟨b3,o3,rfl,hb3,tv,c0,c1,htr,hti⟩:=(hc'.eqs.next b0f hk.below).at (i:=i) (by omega)
 have hfe:=hfit _ (List.getElem_mem (show i < c.eqs.length by omega))
 generalize c.eqs[i] = e at *
 obtain ⟨tad,tc,rfl⟩:=htr.isSlice
 have hic:(i:Int) < c.eqs.length:=by omega
 refine Xa (An2 hk.cells @hic) ?_
 unfold c0x
 simp only [List.getD_cons_succ,List.getD_cons_zero]
 have hk9:=hk.drew
 have hodr:Below w3.heap.size w3 { w3 with drawn:=w3.drawn + 1 }:=.drawn
 refine ⟨Nx { w3 with drawn:=w3.drawn + 1 },bR,by trivial,?_⟩
 generalize ({ w3 with drawn:=w3.drawn + 1 }:World) = W9 at *
 refine Xf (fun W0 hW0=>An3 ((hk9.next hW0).cells) (((hodr.on hW0).cell hb3).trans c0) (((hodr.on hW0).cell hb3).trans c1)) @hic ?_
 refine ⟨Nx,?_⟩
 apply a1i
 ·intro w1 h1
  exact d0n s e l (hs'.next (hk9.next h1).below) (htr.next a2y (hodr.on h1)) (hl'.next (hk9.next h1).below) hfe.1 (fun t ht=>by have:=hfe.2 t ht; omega) hv (fun w2 h2=>⟨h1.on h2,h2,rfl⟩)
 rintro w9 h9 _ rfl
 have hk:=hk9.next h9
 by_cases heq:a8b s e l = e.target
 ·rw [decide_eq_true heq,bT] at ha
  refine Xa @heq ?_
  refine ⟨⟨hk,_,i + 1,rfl,by omega,ha⟩,?_⟩
  simp only [a1u]; omega
 ·rw [decide_eq_false heq,bF] at ha
  rw [← ha] at k
  refine Xa @heq ?_
  exact k _ hk.below
end
end Go.Proofs
namespace PrSpec
open FdSpec TkSpec CodeSpec Go.Proofs
def OkF (s:Stp) (c:Cls) (n:List Knw):Prop:=n.length = c.claims.length ∧ ∀ (k:Nat) (x:Clm) (u:Knw),c.claims[k]? = some x → n[k]? = some u → c8e s x u = true
theorem a6q {s:Stp} {goal:List Cls} {know:List (List Knw)}:a3a s goal know = true ↔ know.length = goal.length ∧ ∀ (i:Nat) (c:Cls) (n:List Knw),goal[i]? = some c → know[i]? = some n → OkF s c n:=by
 unfold a3a
 rw [Bool.and_eq_true,decide_eq_true_eq]
 constructor
 ·rintro ⟨h1,h2⟩
  refine ⟨h1,fun i c n a b=>?_⟩
  obtain ⟨h3,h4⟩:=a5o h2 a b
  exact ⟨h3,fun k x u e1 e2=>b6m h4 e1 e2⟩
 ·rintro ⟨h1,h2⟩
  refine ⟨h1,c3e h1 (fun i c n a b=>?_)⟩
  obtain ⟨h3,h4⟩:=h2 i c n a b
  exact ⟨h3,h4⟩
def OkS (s:Stp) (c:Cls) (d:List Int) (n:List (List Int)):Prop:=(a0g s d c.claims.length = true ∧ n.length = c.claims.length) ∧ ∀ (k:Nat) (x:Clm) (l:List Int),c.claims[k]? = some x → n[k]? = some l → a0g s l x.vars = true
theorem a2o {s:Stp} {goal:List Cls} {ds:List (List Int)} {ns:List (List (List Int))}:a0u s goal ds ns = true ↔ (ds.length = goal.length ∧ ns.length = goal.length) ∧ ∀ (i:Nat) (c:Cls) (d:List Int) (n:List (List Int)),goal[i]? = some c → ds[i]? = some d → ns[i]? = some n → OkS s c d n:=by
 unfold a0u
 rw [Bool.and_eq_true,Bool.and_eq_true,decide_eq_true_eq,decide_eq_true_eq]
 constructor
 ·rintro ⟨h1,h2⟩
  refine ⟨h1,fun i c d n a b e=>?_⟩
  obtain ⟨h3,h4⟩:=a3d h2 a b e
  simp only [a2z,Bool.and_eq_true,decide_eq_true_eq] at h3
  exact ⟨h3,fun k x l e1 e2=>a8a h4 e1 e2⟩
 ·rintro ⟨⟨h1,h0⟩,h2⟩
  refine ⟨⟨h1,h0⟩,b4s h1 h0 (fun i c d n a b e=>?_)⟩
  obtain ⟨h3,h4⟩:=h2 i c d n a b e
  refine ⟨?_,h4⟩
  simp only [a2z,Bool.and_eq_true,decide_eq_true_eq]
  exact h3
end PrSpec
