/- Parts of the proof of the seat's statements (HLf, UrC, RhI, RhK): lemmas about the given translation and plain laws. No condition of their own. -/
import Derived.Test.YtbfkhodfjecndaaGreatDoorFaf
import Derived.Test.YtbfkhodfjecndaaGreatDoorProg
set_option linter.all false
set_option maxRecDepth 100000
namespace Go.Proofs
open Go Go.Sh Tryz
variable {a0 a1 a2 a3 a4 a5:Value} {K:VK} {w:World}
def b5z (J_19:List Value → World → Prop) (K:VK) (a1 a3:Value) (l_21:List Value) (m_20:List Value → World → Nat) (w0_l_21 w:World):Prop:=
 kH (fun C_24 w=>(((true:Bool) = true) ∧ (a0g a1 C_24 fun v52=>
 a0g (l_21.getD 1 undef) C_24 fun v53=>
 jI 27 v52 v53 C_24 fun v54=>
 jL 40 v54 C_24 fun v55=>
 a0g a1 C_24 fun v57=>
 a0g (l_21.getD 1 undef) C_24 fun v58=>
 jI 27 v57 v58 C_24 fun v59=>
 jL 40 v59 C_24 fun v60=>
 ∃ S_33:World → WK,xR S_33 fun R_34=>
 (∀ w,C_24 w → (a0a prog 8 #[v55] (xK C_24 S_33 R_34 w) w)) ∧
 (xR S_33 fun R_35=>
 (∀ w,C_24 w → (a0a prog 9 #[v60] (xK C_24 S_33 R_35 w) w)) ∧
 (xR S_33 fun R_36=>
 (∀ w,C_24 w → ∀ v56,R_34 v56 w → ∀ v61,R_35 v61 w → (kB .neq 4 4 v56 v61 (xK C_24 S_33 R_36 w) w)) ∧
 (xR S_33 fun R_39=>
 (∀ w,C_24 w → ∀ v62,R_36 v62 w → (C_24 w ∧ S_33 w w ∧ R_39 v62 w)) ∧
 (xR S_33 fun R_41=>
 (∀ w,C_24 w → ∀ v63,R_39 v63 w → (gF v63 (a0f a1) (xK C_24 S_33 R_41 w) w)) ∧
 (xR S_33 fun R_43=>
 (∀ w,C_24 w → ∀ v63,R_39 v63 w → (gF v63 (a0f (l_21.getD 1 undef)) (xK C_24 S_33 R_43 w) w)) ∧
 (xR S_33 fun R_45=>
 (∀ w,C_24 w → ∀ v63,R_39 v63 w → ∀ v64,R_41 v64 w → ∀ v65,R_43 v65 w → (gF v63 (kI 27 v64 v65) (xK C_24 S_33 R_45 w) w)) ∧
 (xR S_33 fun R_49=>
 (∀ w,C_24 w → ∀ v63,R_39 v63 w → ∀ v66,R_45 v66 w → (gF v63 (kL 40 v66) (xK C_24 S_33 R_49 w) w)) ∧
 (xR S_33 fun R_52=>
 (∀ w,C_24 w → ∀ v63,R_39 v63 w → (gF v63 (a0f a3) (xK C_24 S_33 R_52 w) w)) ∧
 (xR S_33 fun R_54=>
 (∀ w,C_24 w → ∀ v63,R_39 v63 w → ∀ v67,R_49 v67 w → ∀ v68,R_52 v68 w → (gF v63 (a0a prog 10 #[v67,v68]) (xK C_24 S_33 R_54 w) w)) ∧
 (xR S_33 fun R_58=>
 (∀ w,C_24 w → ∀ v63,R_39 v63 w → (gF v63 (a0f a1) (xK C_24 S_33 R_58 w) w)) ∧
 (xR S_33 fun R_60=>
 (∀ w,C_24 w → ∀ v63,R_39 v63 w → (gF v63 (a0f (l_21.getD 1 undef)) (xK C_24 S_33 R_60 w) w)) ∧
 (xR S_33 fun R_62=>
 (∀ w,C_24 w → ∀ v63,R_39 v63 w → ∀ v70,R_58 v70 w → ∀ v71,R_60 v71 w → (gF v63 (kI 27 v70 v71) (xK C_24 S_33 R_62 w) w)) ∧
 (xR S_33 fun R_66=>
 (∀ w,C_24 w → ∀ v63,R_39 v63 w → ∀ v72,R_62 v72 w → (gF v63 (kL 40 v72) (xK C_24 S_33 R_66 w) w)) ∧
 (xR S_33 fun R_69=>
 (∀ w,C_24 w → ∀ v63,R_39 v63 w → (gF v63 (a0f a3) (xK C_24 S_33 R_69 w) w)) ∧
 (xR S_33 fun R_71=>
 (∀ w,C_24 w → ∀ v63,R_39 v63 w → ∀ v73,R_66 v73 w → ∀ v74,R_69 v74 w → (gF v63 (a0a prog 11 #[v73,v74]) (xK C_24 S_33 R_71 w) w)) ∧
 (xR S_33 fun R_75=>
 (∀ w,C_24 w → ∀ v63,R_39 v63 w → ∀ v69,R_54 v69 w → ∀ v75,R_71 v75 w → (gF v63 (kB .neq 3 4 v69 v75) (xK C_24 S_33 R_75 w) w)) ∧
 (xR S_33 fun R_79=>
 (∀ w,C_24 w → ∀ v63,R_39 v63 w → ∀ v76,R_75 v76 w → (kP v63 (.bool true) v76 (xK C_24 S_33 R_79 w) w)) ∧
 (xR S_33 fun R_82=>
 (∀ w,C_24 w → ∀ v77,R_79 v77 w → (C_24 w ∧ S_33 w w ∧ R_82 v77 w)) ∧
 (xR S_33 fun R_84=>
 (∀ w,C_24 w → ∀ v78,R_82 v78 w → (gF v78 (a0f a1) (xK C_24 S_33 R_84 w) w)) ∧
 (xR S_33 fun R_86=>
 (∀ w,C_24 w → ∀ v78,R_82 v78 w → (gF v78 (a0f (l_21.getD 1 undef)) (xK C_24 S_33 R_86 w) w)) ∧
 (xR S_33 fun R_88=>
 (∀ w,C_24 w → ∀ v78,R_82 v78 w → ∀ v79,R_84 v79 w → ∀ v80,R_86 v80 w → (gF v78 (kI 27 v79 v80) (xK C_24 S_33 R_88 w) w)) ∧
 (xR S_33 fun R_92=>
 (∀ w,C_24 w → ∀ v78,R_82 v78 w → ∀ v81,R_88 v81 w → (gF v78 (kL 40 v81) (xK C_24 S_33 R_92 w) w)) ∧
 (xR S_33 fun R_95=>
 (∀ w,C_24 w → ∀ v78,R_82 v78 w → (gF v78 (a0f a3) (xK C_24 S_33 R_95 w) w)) ∧
 (xR S_33 fun R_97=>
 (∀ w,C_24 w → ∀ v78,R_82 v78 w → ∀ v82,R_92 v82 w → ∀ v83,R_95 v83 w → (gF v78 (a0a prog 12 #[v82,v83]) (xK C_24 S_33 R_97 w) w)) ∧
 (xR S_33 fun R_101=>
 (∀ w,C_24 w → ∀ v78,R_82 v78 w → (gF v78 (a0f a1) (xK C_24 S_33 R_101 w) w)) ∧
 (xR S_33 fun R_103=>
 (∀ w,C_24 w → ∀ v78,R_82 v78 w → (gF v78 (a0f (l_21.getD 1 undef)) (xK C_24 S_33 R_103 w) w)) ∧
 (xR S_33 fun R_105=>
 (∀ w,C_24 w → ∀ v78,R_82 v78 w → ∀ v85,R_101 v85 w → ∀ v86,R_103 v86 w → (gF v78 (kI 27 v85 v86) (xK C_24 S_33 R_105 w) w)) ∧
 (xR S_33 fun R_109=>
 (∀ w,C_24 w → ∀ v78,R_82 v78 w → ∀ v87,R_105 v87 w → (gF v78 (kL 40 v87) (xK C_24 S_33 R_109 w) w)) ∧
 (xR S_33 fun R_112=>
 (∀ w,C_24 w → ∀ v78,R_82 v78 w → (gF v78 (a0f a3) (xK C_24 S_33 R_112 w) w)) ∧
 (∀ w,C_24 w → ∀ v56,R_34 v56 w → ∀ v61,R_35 v61 w → ∀ v62,R_36 v62 w → ∀ v63,R_39 v63 w → ∀ v64,R_41 v64 w → ∀ v65,R_43 v65 w → ∀ v66,R_45 v66 w → ∀ v67,R_49 v67 w → ∀ v68,R_52 v68 w → ∀ v69,R_54 v69 w → ∀ v70,R_58 v70 w → ∀ v71,R_60 v71 w → ∀ v72,R_62 v72 w → ∀ v73,R_66 v73 w → ∀ v74,R_69 v74 w → ∀ v75,R_71 v75 w → ∀ v76,R_75 v76 w → ∀ v77,R_79 v77 w → ∀ v78,R_82 v78 w → ∀ v79,R_84 v79 w → ∀ v80,R_86 v80 w → ∀ v81,R_88 v81 w → ∀ v82,R_92 v82 w → ∀ v83,R_95 v83 w → ∀ v84,R_97 v84 w → ∀ v85,R_101 v85 w → ∀ v86,R_103 v86 w → ∀ v87,R_105 v87 w → ∀ v88,R_109 v88 w → ∀ v89,R_112 v89 w → (
 gF v78 (a0a prog 13 #[v88,v89]) (fun v90 w=>
 gF v78 (kB .neq 3 4 v84 v90) (fun v91=>
 kP v78 (.bool true) v91 fun v92=>
 kO v92 (K (.bool false))
 (kB .add 3 3 (l_21.getD 1 undef) (.int .i64 1) fun v51=>
 kJ J_19 m_20 l_21 w0_l_21 [(l_21.getD 0 undef),v51])) w) w)))))))))))))))))))))))))))))))))) w
def b3t (K:VK) (a1 a4 a5 v25 v6 v8:Value) (w:World):Prop:=
 kH (fun C_190 w=>(((true:Bool) = true) ∧ (a0g v25 C_190 fun v148=>
 a0g v148 C_190 fun v149=>
 jT v149 (jL 26 v6) C_190 fun v150=>
 jT v149 (a0g a1) C_190 fun v151=>
 jT v149 (jL 34 v8) C_190 fun v152=>
 jT v149 (jL 26 v6) C_190 fun v154=>
 jT v149 (a0g a1) C_190 fun v155=>
 jT v149 (jL 34 v8) C_190 fun v156=>
 ∃ S_199:World → WK,xR S_199 fun R_200=>
 (∀ w,C_190 w → (gT v149 (a0a prog 21 #[v150,v151,v152]) (xK C_190 S_199 R_200 w) w)) ∧
 (xR S_199 fun R_201=>
 (∀ w,C_190 w → (gT v149 (a0a prog 22 #[v154,v155,v156]) (xK C_190 S_199 R_201 w) w)) ∧
 (xR S_199 fun R_202=>
 (∀ w,C_190 w → ∀ v153,R_200 v153 w → ∀ v157,R_201 v157 w → (gT v149 (kB .eql 4 4 v153 v157) (xK C_190 S_199 R_202 w) w)) ∧
 (xR S_199 fun R_205=>
 (∀ w,C_190 w → ∀ v158,R_202 v158 w → (kP v149 v158 (.bool false) (xK C_190 S_199 R_205 w) w)) ∧
 (xR S_199 fun R_207=>
 (∀ w,C_190 w → ∀ v159,R_205 v159 w → (C_190 w ∧ S_199 w w ∧ R_207 v159 w)) ∧
 (xR S_199 fun R_209=>
 (∀ w,C_190 w → ∀ v160,R_207 v160 w → (gT v160 (kL 34 v8) (xK C_190 S_199 R_209 w) w)) ∧
 (xR S_199 fun R_211=>
 (∀ w,C_190 w → ∀ v160,R_207 v160 w → ∀ v161,R_209 v161 w → (gT v160 (a0a prog 23 #[v161]) (xK C_190 S_199 R_211 w) w)) ∧
 (xR S_199 fun R_214=>
 (∀ w,C_190 w → ∀ v160,R_207 v160 w → (gT v160 (kL 34 v8) (xK C_190 S_199 R_214 w) w)) ∧
 (xR S_199 fun R_216=>
 (∀ w,C_190 w → ∀ v160,R_207 v160 w → ∀ v163,R_214 v163 w → (gT v160 (a0a prog 24 #[v163]) (xK C_190 S_199 R_216 w) w)) ∧
 (xR S_199 fun R_219=>
 (∀ w,C_190 w → ∀ v160,R_207 v160 w → ∀ v162,R_211 v162 w → ∀ v164,R_216 v164 w → (gT v160 (kB .eql 9 4 v162 v164) (xK C_190 S_199 R_219 w) w)) ∧
 (xR S_199 fun R_223=>
 (∀ w,C_190 w → ∀ v160,R_207 v160 w → ∀ v165,R_219 v165 w → (kP v160 v165 (.bool false) (xK C_190 S_199 R_223 w) w)) ∧
 (xR S_199 fun R_226=>
 (∀ w,C_190 w → ∀ v166,R_223 v166 w → (C_190 w ∧ S_199 w w ∧ R_226 v166 w)) ∧
 (xR S_199 fun R_228=>
 (∀ w,C_190 w → ∀ v167,R_226 v167 w → (gT v167 (a0f a4) (xK C_190 S_199 R_228 w) w)) ∧
 (xR S_199 fun R_230=>
 (∀ w,C_190 w → ∀ v167,R_226 v167 w → (gT v167 (a0f a5) (xK C_190 S_199 R_230 w) w)) ∧
 (xR S_199 fun R_232=>
 (∀ w,C_190 w → ∀ v167,R_226 v167 w → ∀ v168,R_228 v168 w → ∀ v169,R_230 v169 w → (gT v167 (a0a prog 25 #[v168,v169]) (xK C_190 S_199 R_232 w) w)) ∧
 (xR S_199 fun R_236=>
 (∀ w,C_190 w → ∀ v167,R_226 v167 w → (gT v167 (a0f a4) (xK C_190 S_199 R_236 w) w)) ∧
 (xR S_199 fun R_238=>
 (∀ w,C_190 w → ∀ v167,R_226 v167 w → (gT v167 (a0f a5) (xK C_190 S_199 R_238 w) w)) ∧
 (∀ w,C_190 w → ∀ v153,R_200 v153 w → ∀ v157,R_201 v157 w → ∀ v158,R_202 v158 w → ∀ v159,R_205 v159 w → ∀ v160,R_207 v160 w → ∀ v161,R_209 v161 w → ∀ v162,R_211 v162 w → ∀ v163,R_214 v163 w → ∀ v164,R_216 v164 w → ∀ v165,R_219 v165 w → ∀ v166,R_223 v166 w → ∀ v167,R_226 v167 w → ∀ v168,R_228 v168 w → ∀ v169,R_230 v169 w → ∀ v170,R_232 v170 w → ∀ v171,R_236 v171 w → ∀ v172,R_238 v172 w → (
 gT v167 (a0a prog 26 #[v171,v172]) (fun v173 w=>
 gT v167 (kB .eql 4 4 v170 v173) (fun v174=>
 kP v167 v174 (.bool false) fun v175=>
 K v175) w) w))))))))))))))))))))) w
def c3c (J_19:List Value → World → Prop) (K:VK) (a1 a3 a4 a5:Value) (l_21:List Value) (m_20:List Value → World → Nat) (v25 v6 v8:Value) (w0_l_21:World):Prop:=
 (fun w=>(
 kN 27 a1 (fun v48=>
 kB .lss 3 4 (l_21.getD 1 undef) v48 fun v49 w=>
 a2c v49
 (b5z J_19 K a1 a3 l_21 m_20 w0_l_21 w)
 (a0a prog 14 #[a4] (fun v95=>
 kE 0 34 v95 fun v96=>
 kE 1 4 v95 fun v97=>
 kA 34 fun v15=>
 kS 34 v15 v96 fun _=>
 a0a prog 15 #[a4] fun v100=>
 kE 0 34 v100 fun v101=>
 kE 1 4 v100 fun v102=>
 kA 34 fun v17=>
 kS 34 v17 v101 fun _=>
 a0a prog 16 #[a4] fun v105=>
 kE 0 3 v105 fun v106=>
 kE 1 9 v105 fun v107=>
 kE 2 4 v105 fun v108=>
 a0a prog 17 #[a4] fun v111=>
 kE 0 3 v111 fun v112=>
 kE 1 9 v111 fun v113=>
 kE 2 4 v111 fun v114=>
 kB .neq 4 4 v97 v102 fun v117 w=>
 gF v117 (kL 34 v15) (fun v119 w=>
 gF v117 (kL 34 v17) (fun v120 w=>
 gF v117 (a0a prog 18 #[v119,v120]) (fun v121 w=>
 gF v117 (kU v121) (fun v122=>
 kP v117 (.bool true) v122 fun v123 w=>
 gF v123 (a0f v106) (fun v125 w=>
 gF v123 (a0f v112) (fun v126 w=>
 gF v123 (kB .neq 3 4 v125 v126) (fun v127=>
 kP v123 (.bool true) v127 fun v128 w=>
 gF v128 (a0f v107) (fun v130 w=>
 gF v128 (a0f v113) (fun v131 w=>
 gF v128 (kB .neq 9 4 v130 v131) (fun v132=>
 kP v128 (.bool true) v132 fun v133 w=>
 gF v133 (a0f v108) (fun v135 w=>
 gF v133 (a0f v114) (fun v136 w=>
 gF v133 (kB .neq 4 4 v135 v136) (fun v137=>
 kP v133 (.bool true) v137 fun v138 w=>
 gF v138 (a0f a3) (fun v140 w=>
 gF v138 (a0f a5) (fun v141 w=>
 gF v138 (a0a prog 19 #[v140,v141]) (fun v142 w=>
 gF v138 (a0f a3) (fun v143 w=>
 gF v138 (a0f a5) (fun v144 w=>
 gF v138 (a0a prog 20 #[v143,v144]) (fun v145 w=>
 gF v138 (kB .neq 9 4 v142 v145) (fun v146=>
 kP v138 (.bool true) v146 fun v147 w=>
 a2c v147
 (K (.bool false) w)
 (b3t K a1 a4 a5 v25 v6 v8 w)) w) w) w) w) w) w) w) w) w) w) w) w) w) w) w) w) w) w) w) w) w)) w)) w0_l_21
def h1h (a0 a1 a2 a3 a4 a5:Value) (K:VK) (w:World):Prop:=
 oM prog (.box 26 (.tmp 0)) 0 [a0] (fun v6=>
 oM prog (.box 34 (.tmp 0)) 0 [a2] fun v8=>
 a0a prog 5 #[] fun v25=>
 kL 26 v6 fun v26=>
 a0a prog 6 #[v26,a1] fun v28=>
 kU v28 fun v29 w=>
 gF v29 (kL 34 v8) (fun v31 w=>
 gF v29 (a0a prog 7 #[v31]) (fun v32 w=>
 gF v29 (kU v32) (fun v33=>
 kP v29 (.bool true) v33 fun v34 w=>
 gF v34 (a0f a4) (fun v36 w=>
 gF v34 (kN 9 v36) (fun v37 w=>
 gF v34 (kB .gtr 3 4 v37 (.int .i64 600)) (fun v38=>
 kP v34 (.bool true) v38 fun v39 w=>
 gF v39 (a0f a5) (fun v41 w=>
 gF v39 (kN 9 v41) (fun v42 w=>
 gF v39 (kB .gtr 3 4 v42 (.int .i64 600)) (fun v43=>
 kP v39 (.bool true) v43 fun v44=>
 kO v44 (K v25)
 (kQ [(.bool false),(.int .i64 0)] fun J_19 m_20 l_21 u_l_21 w0_l_21=>c3c J_19 K a1 a3 a4 a5 l_21 m_20 v25 v6 v8 w0_l_21)) w) w) w) w) w) w) w) w) w) w
theorem f8z (h:h1h a0 a1 a2 a3 a4 a5 K w):a0a prog 3 #[a0,a1,a2,a3,a4,a5] K w:=
 cZ (mz [(7,.free [0,1,2,3,5,6,7,8] [4,9,10,11,12,13,14,15,16,17,18,19,20,21,22,23,24,25,26,27,28,29,30,31,32,33,34,35,36,37] [38,39,40]),(15,.free [0,1,2,3,4,6,7,8] [5,9,10,11,12,13,14,15,16,17,18,19,20,21,22,23,24] [25,26,27,28])]) func3 h
end Go.Proofs
namespace Go.Proofs
open Go Go.Sh Go.RowKit FdSpec TkSpec CodeSpec PuSpec DkSpec JnSpec
section
variable {K:VK} {w w' w0 W W':World} {L:List (Addr × Value)} {rb b:Nat}
theorem a9b {P:Program} {T T':TypeId} {b p:Nat} {cs:List Value} {d:TypeDesc} {C:WK} {KQ:Value → Prop} (hc:∀ W,C W → ∀ (j:Nat) (v:Value),cs[j]? = some v → W.cell? ⟨b,p + j,none⟩ = some v)
  (hu:P.underlying T = some d) (hd:(match d with | .struct _ | .array _ _=>true | _=>false) = true) (hi:(P.info? T).map (·.size) = some cs.length) (k:KQ (.agg cs.toArray)) :
  oH P (.load T (.tmp 0)) T' [.pointer (some ⟨b,p,none⟩)] C KQ:=
 a3h ⟨_,rfl⟩ (fun W h=>a3n (hc W h) hu hd hi ⟨rfl,rfl⟩) k
end
end Go.Proofs
namespace Go.Proofs
open Go Go.Sh Go.RowKit FdSpec TkSpec CodeSpec PuSpec
section
variable {K:VK} {w w' w0 W W' w2:World} {J:List Value → World → Prop} {m:List Value → World → Nat}
theorem d0o {h:Hld} (w:WHld h) (hf:b8s h = true):(a3m h).length ≤ 10000:=by
 unfold b8s at hf
 simp only [bA,dE] at hf
 obtain ⟨f1,⟨f2,f3⟩,f4⟩:=hf
 rw [List.take_of_length_le (by omega),List.all_eq_true] at f1
 have h1:=a1v (l:=[h.limit,h.window]) (by simp [w.limit,w.window]) (by simp)
 have h2:=a1v w.attrs (by omega)
 have h3:=a1v (l:=[h.bl.s,h.bl.u,h.bl.v]) (by simp [w.s,w.u,w.v]) (by simp)
 have h4:=a1v w.ys (by omega)
 have h5:=a1v w.t.all (by simp [a5m])
 have h6:=PuSpec.encNum_len (n:=(h.links.length:Int)) ⟨by omega,by omega⟩
 have h7:=b5l a5g 1000 h.links fun x hx=>by
  have q:=f1 x hx
  simp only [b8a,bA,dE] at q
  have wx:=w.links x hx
  have g1:=a1v wx.t.all (by simp [a5m])
  have g2:=PuSpec.encInt_len wx.dare
  have g3:=a1v wx.ans (by omega)
  have g4:=a4k (x.terms.length:Int) ⟨by omega,by omega⟩
  have e:(a5m x.ticket).length = 6:=rfl
  rw [e] at g1
  simp only [a5g,List.length_append,a0t,List.length_cons,List.length_nil] at *
  omega
 have e:(a5m h.t).length = 6:=rfl
 rw [e] at h5
 simp only [a3m,List.length_append,List.length_cons,List.length_nil] at *
 have h8:h.links.length * 1000 ≤ 5 * 1000:=Nat.mul_le_mul_right _ f4
 omega
set_option maxHeartbeats 4000000 in
theorem e1m {l21:List Value} {w0l:World} {lv q:Value} {lims:List Lim} {n:Int} {i:Nat} (hl:c5v w lv lims) (h2:Bw w W) (hi:i < lims.length) (e0:l21.getD 0 undef = q) (e1:l21.getD 1 undef = .int .i64 i)
  (k2:∀ W',Nx W W' → J [q,.int .i64 ((i + 1:Nat):Int)] W' ∧ m [q,.int .i64 ((i + 1:Nat):Int)] W' < m l21 w0l) :
  b5z J K lv (.int .i64 n) l21 m w0l W:=by
 unfold b5z
 have hll:=hl.len
 have hiZ:(i:Int) < lims.length:=by omega
 obtain ⟨ad,d,rfl⟩:=hl.isSlice
 obtain ⟨lb,lo,rfl,hlb,cs,hcl,hcc,rfl,_⟩:=hl.at hi
 rw [e0,e1]
 generalize lims[i] = x at *
 have hn:Nx W { W with drawn:=W.drawn + 1 }:=Below.drawn
 have hd:Below w.heap.size w { W with drawn:=W.drawn + 1 }:=h2.on hn
 refine ⟨Nx { W with drawn:=W.drawn + 1 },bR,rfl,?_⟩
 generalize ({ W with drawn:=W.drawn + 1 }:World) = W4 at hd hn ⊢
 have q1:=fun (W0:World) (h:Nx W4 W0) (j:Nat) (u:Value) (hj:(c2i x)[j]? = some u)=>((hd.trans (h.mono hd.size)).cell hlb).trans (hcc j u hj)
 have c0:∀ W0,Nx W4 W0 → W0.cell? ⟨lb,lo + i * 3,none⟩ = some (.int .i64 x.count):=fun W0 h=>q1 W0 h 0 _ rfl
 have c1:∀ W0,Nx W4 W0 → W0.cell? ⟨lb,lo + i * 3 + 1,none⟩ = some (.int .i64 x.length):=fun W0 h=>q1 W0 h 1 _ rfl
 have c2:∀ W0,Nx W4 W0 → W0.cell? ⟨lb,lo + i * 3 + 2,none⟩ = some (.int .i64 x.gate):=fun W0 h=>q1 W0 h 2 _ rfl
 iterate 3 (any_goals (first
 | (with_reducible refine pX ?_)
 | ((with_reducible refine b4u ?_); (with_reducible refine a3h ⟨_,rfl⟩ (fun W0 hW0=>by (refine oG (fun X Y=>?_)); simp [go_sem,hiZ]; (first | exact Y _ _ ⟨rfl,rfl⟩ | exact ⟨by omega,Y _ _ ⟨rfl,rfl⟩⟩)) ?_))))
 refine a9b (cs:=c2i x) (p:=lo + i * 3) q1 c5y (by kernel_rfl) (by kernel_rfl) ?_
 iterate 3 (any_goals (first
 | (with_reducible refine pX ?_)
 | ((with_reducible refine b4u ?_); (with_reducible refine a3h ⟨_,rfl⟩ (fun W0 hW0=>by (refine oG (fun X Y=>?_)); simp [go_sem,hiZ]; (first | exact Y _ _ ⟨rfl,rfl⟩ | exact ⟨by omega,Y _ _ ⟨rfl,rfl⟩⟩)) ?_))))
 refine a9b (cs:=c2i x) (p:=lo + i * 3) q1 c5y (by kernel_rfl) (by kernel_rfl) ?_
 refine ⟨Nx,?_⟩
 apply a2l
 ·intro w1 h1
  exact a7g x (fun w2 h2=>⟨h1.on h2,h2,rfl⟩)
 apply a2l
 ·intro w1 h1
  exact a8m x (fun w2 h2=>⟨h1.on h2,h2,rfl⟩)
 refine Xh (fun w9 h9=>An3 (c0 _ h9) (c1 _ h9) (c2 _ h9)) @hiZ ?_
 apply a2l
 ·(intro w9 h9; repeat (intro v9 e9; try (obtain rfl:=e9)))
  refine Xa0 ?_
  exact b3m x n (fun w2 h2=>⟨h9.on h2,h2,rfl⟩)
 refine Xh (fun w9 h9=>An3 (c0 _ h9) (c1 _ h9) (c2 _ h9)) @hiZ ?_
 apply a2l
 ·(intro w9 h9; repeat (intro v9 e9; try (obtain rfl:=e9)))
  refine Xa0 ?_
  exact d2r x n (fun w2 h2=>⟨h9.on h2,h2,rfl⟩)
 refine Xh (fun w9 h9=>An3 (c0 _ h9) (c1 _ h9) (c2 _ h9)) @hiZ ?_
 apply a2l
 ·(intro w9 h9; repeat (intro v9 e9; try (obtain rfl:=e9)))
  refine Xa0 ?_
  exact c5n x n (fun w2 h2=>⟨h9.on h2,h2,rfl⟩)
 refine Xh (fun w9 h9=>An3 (c0 _ h9) (c1 _ h9) (c2 _ h9)) @hiZ ?_
 (intro w9 h9; repeat (intro v9 e9; try (obtain rfl:=e9)))
 refine Xa0 ?_
 refine d2s x n (fun w2 h2=>?_)
 have k2:=k2 w2 (hn.on (h9.on h2))
 refine Xa0 ?_
 exact k2
theorem g5s {sv lv av yv kv:Value} {s:Stp} {lims:List Lim} {x:Hld} {a b:a0h} {b1 b2:Nat} (hs:SetR w s sv) (hl:c5v w lv lims) (hx:HldR w x av yv kv) (hf:b8s x = true) (ha:a.length ≤ 600) (hb:b.length ≤ 600) (hlE:Cd.LaidE w)
  (h2:Bw w W) (hB1:Holds W b1 26 (a9w s sv)) (hB2:Holds W b2 34 (b2f x av yv kv)) (k:∀ w',Bw w w' → K (.bool true) w') :
  b3t K lv (.string ⟨a.toArray⟩) (.string ⟨b.toArray⟩) (.bool true) (ptr b1 0) (ptr b2 0) W:=by
 unfold b3t
 obtain ⟨sad,sc,rfl⟩:=hs.ints.isSlice
 obtain ⟨lad,lc,rfl⟩:=hl.isSlice
 obtain ⟨a1,n1,d1,a2,n2,d2,a3,n3,d3,rfl,rfl,rfl⟩:=a1k hx
 have hsm:=e5a hf
 have hd:Below w.heap.size w { W with drawn:=W.drawn + 1 }:=h2.on Below.drawn
 have hB1:=hB1.next (.drawn (B:=W.heap.size))
 have hB2:=hB2.next (.drawn (B:=W.heap.size))
 refine ⟨Nx { W with drawn:=W.drawn + 1 },bR,rfl,?_⟩
 generalize ({ W with drawn:=W.drawn + 1 }:World) = W4 at hd hB1 hB2 ⊢
 have q1:=fun (W0:World) (h:Nx W4 W0) (j:Nat) (u:Value) (hj:(a9w s (.slice sad s.bases.length sc))[j]? = some u)=>(show W0.cell? ⟨b1,0 + j,none⟩ = some u by rw [Nat.zero_add]; exact a8k (hB1.next h) hj)
 have q2:=fun (W0:World) (h:Nx W4 W0) (j:Nat) (u:Value) (hj:(b2f x (.slice a1 n1 d1) (.slice a2 n2 d2) (.slice a3 n3 d3))[j]? = some u)=>(show W0.cell? ⟨b2,0 + j,none⟩ = some u by rw [Nat.zero_add]; exact a8k (hB2.next h) hj)
 refine g7f ?_
 refine a9b (cs:=a9w s (.slice sad s.bases.length sc)) (p:=0) q1 d1m (by kernel_rfl) (by kernel_rfl) ?_
 refine g0t ?_
 refine a9b (cs:=b2f x (.slice a1 n1 d1) (.slice a2 n2 d2) (.slice a3 n3 d3)) (p:=0) q2 a4u (by kernel_rfl) (by kernel_rfl) ?_
 refine b2c ?_
 refine a9b (cs:=a9w s (.slice sad s.bases.length sc)) (p:=0) q1 d1m (by kernel_rfl) (by kernel_rfl) ?_
 refine g0t ?_
 refine a9b (cs:=b2f x (.slice a1 n1 d1) (.slice a2 n2 d2) (.slice a3 n3 d3)) (p:=0) q2 a4u (by kernel_rfl) (by kernel_rfl) ?_
 refine ⟨Nx,?_⟩
 apply a2l
 ·(intro w9 h9; repeat (intro v9 e9; try (obtain rfl:=e9)))
  refine Xa0 ?_
  exact c2j s lims x (hs.next (hd.on h9)) (hl.next (a1o a7x) (hd.on h9)) (hx.next (hd.on h9)) (fun w2 h2=>⟨h9.on h2,h2,rfl⟩)
 apply a2l
 ·(intro w9 h9; repeat (intro v9 e9; try (obtain rfl:=e9)))
  refine Xa0 ?_
  exact e1l s lims x (hs.next (hd.on h9)) (hl.next (a1o a7x) (hd.on h9)) (hx.next (hd.on h9)) (fun w2 h2=>⟨h9.on h2,h2,by rw [e1f]⟩)
 refine Xd0 ?_
 apply a2l
 ·(intro w9 h9; repeat (intro v9 e9; try (obtain rfl:=e9)))
  refine a5q ?_
  refine a3n (cs:=b2f x (.slice a1 n1 d1) (.slice a2 n2 d2) (.slice a3 n3 d3)) (p:=0) (q2 _ h9) a4u (by kernel_rfl) (by kernel_rfl) ?_
  exact ⟨h9,bR,rfl⟩
 apply a2l
 ·(intro w9 h9; repeat (intro v9 e9; try (obtain rfl:=e9)))
  refine Xa0 ?_
  exact c0j x (hx.next (hd.on h9)) (by have:=d0o hx.wf hf; omega) (hlE.below (hd.on h9) hlE.size) (fun w2 h2=>⟨h9.on h2,h2,rfl⟩)
 apply a2l
 ·(intro w9 h9; repeat (intro v9 e9; try (obtain rfl:=e9)))
  refine a5q ?_
  refine a3n (cs:=b2f x (.slice a1 n1 d1) (.slice a2 n2 d2) (.slice a3 n3 d3)) (p:=0) (q2 _ h9) a4u (by kernel_rfl) (by kernel_rfl) ?_
  exact ⟨h9,bR,rfl⟩
 apply a2l
 ·(intro w9 h9; repeat (intro v9 e9; try (obtain rfl:=e9)))
  refine Xa0 ?_
  exact b9q x (hx.next (hd.on h9)) (by have:=d0o hx.wf hf; omega) (fun w2 h2=>⟨h9.on h2,h2,rfl⟩)
 refine Xd0 ?_
 apply a2l
 ·(intro w9 h9; repeat (intro v9 e9; try (obtain rfl:=e9)))
  refine Xa0 ?_
  exact b4m a b (by omega) (by omega) (hlE.below (hd.on h9) hlE.size) (fun w2 h2=>⟨h9.on h2,h2,rfl⟩)
 refine Xd0 ?_
 (intro w9 h9; repeat (intro v9 e9; try (obtain rfl:=e9)))
 refine Xa0 ?_
 refine c8c a b (by omega) (by omega) (fun w2 h2=>?_)
 have k:=k w2 (hd.on (h9.on h2))
 refine Xa0 ?_
 exact k
end
section
variable {K:VK} {w w' w0 W W' w2:World}
set_option maxHeartbeats 4000000 in
theorem f0l (s:Stp) (lims:List Lim) (x:Hld) (n:Int) (a b:a0h) {sv lv av yv kv:Value} (hset:SetR w s sv) (hlim:c5v w lv lims) (hx:HldR w x av yv kv) (ha:a.length < 2 ^ 50) (hb:b.length < 2 ^ 50) (hl:Cd.LaidE w) (hdb:DbT w)
  (k:∀ w',Bw w w' → K (.bool true) w'):a0a Tryz.prog 3 #[b0d s sv,lv,b8c x av yv kv,.int .i64 n,.string ⟨a.toArray⟩,.string ⟨b.toArray⟩] K w:=by
 apply f8z
 unfold h1h
 have hset':=hset
 have hlim':=hlim
 have hx':=hx
 obtain ⟨sad,sc,rfl⟩:=hset.ints.isSlice
 obtain ⟨lad,lc,rfl⟩:=hlim.isSlice
 obtain ⟨a1,n1,d1,a2,n2,d2,a3,n3,d3,rfl,rfl,rfl⟩:=a1k hx
 have hll:=hlim.len
 refine a4f (cs:=a9w s (.slice sad s.bases.length sc)) rfl (fun b1 w1 h1 hb1 hB1=>?_)
 refine a4f (cs:=b2f x (.slice a1 n1 d1) (.slice a2 n2 d2) (.slice a3 n3 d3)) rfl (fun b2 w2 h2 hb2 hB2=>?_)
 have h02:=h1.on h2
 have hB1:=hB1.next h2
 refine g1o (hl.below h02 hl.size) (DbT.next hdb h02) (fun w3 h3=>?_)
 have h03:=h02.on h3
 have hB1:=hB1.next h3
 have hB2:=hB2.next h3
 refine a2k hB1 d1m (by kernel_rfl) (by kernel_rfl) ?_
 refine c9i s lims (hset.ints.next h03) (hlim.next (a1o a7x) h03) (fun w4 h4=>?_)
 have h04:=h03.on h4
 have hB1:=hB1.next h4
 have hB2:=hB2.next h4
 cases hfs:(decide (s.bases.length ≤ 8) && decide (lims.length ≤ 18)) with
 | false=>
  have k:=k _ h04
  refine Xa0 ?_
  exact k
 | true=>
 refine b2c ?_
 refine a2k hB2 a4u (by kernel_rfl) (by kernel_rfl) ?_
 refine a5q ?_
 refine d4c x (hx.next h04) (fun w5 h5=>?_)
 have h05:=h04.on h5
 have hB1:=hB1.next h5
 have hB2:=hB2.next h5
 cases hf:b8s x with
 | false=>
  have k:=k _ h05
  refine Xa0 ?_
  exact k
 | true=>
 by_cases ha6:600 < a.length
 ·have ha6Z:(600:Int) < a.length:=by omega
  have k:=k _ h05
  refine Xa (An2 @a3o @ha6Z) ?_
  exact k
 have ha6Z:¬ (600:Int) < a.length:=by omega
 by_cases hb6:600 < b.length
 ·have hb6Z:(600:Int) < b.length:=by omega
  have k:=k _ h05
  refine Xa (An3 @a3o @ha6Z @hb6Z) ?_
  exact k
 have hb6Z:¬ (600:Int) < b.length:=by omega
 refine Xa (An3 @a3o @ha6Z @hb6Z) ?_
 refine ⟨fun vs W=>∃ i:Nat,vs = [.bool false,.int .i64 (i:Int)] ∧ i ≤ lims.length ∧ Nx w5 W,fun vs _=>match vs with | [_,.int _ i]=>lims.length - i.toNat | _=>0,⟨0,rfl,by omega,bR⟩,?_⟩
 rintro _ u W2 ⟨i,rfl,hi,n2'⟩
 unfold c3c
 by_cases hil:i < lims.length
 ·have hiZ:(i:Int) < lims.length:=by omega
  refine Xa @hiZ ?_
  exact e1m hlim' (h05.on n2') hil rfl rfl (fun W' h'=>⟨⟨i + 1,rfl,by omega,n2'.on h'⟩,by show lims.length - (((i + 1:Nat):Int)).toNat < lims.length - ((i:Nat):Int).toNat; omega⟩)
 have hiZ:¬ (i:Int) < lims.length:=by omega
 have h06:=h05.on n2'
 have hB1:=hB1.next n2'
 have hB2:=hB2.next n2'
 refine Xa @hiZ ?_
 refine c6a a (by omega) (hl.below h06 hl.size) (fun w7 av yv lv7 h7 hF7=>?_)
 have h07:=h06.on h7
 obtain ⟨c1,m1,e1,c2,m2,e2,c3,m3,e3,rfl,rfl,rfl⟩:=a1k hF7.here
 refine b2c ?_
 refine a0m b0e (fun g8 w8 h8 hg8 hH8=>?_)
 refine a0i a8j (xs:=b2f (a2d a).1 (.slice c1 m1 e1) (.slice c2 m2 e2) (.slice c3 m3 e3)) rfl rfl (a5s _ _ _ _ _ _ _ _ _ _ _ _ _ _ _ _ _ _ _ _) hH8 rfl (fun w9 hg9 hH9=>?_)
 have h79:Bw w7 w9:=a0y h8 hg9 hg8
 have hF9:=hF7.next h79
 have h09:=h07.on h79
 refine d2t a (by omega) (fun w10 av' yv' lv10 h10 hF10=>?_)
 have hH10:=hH9.next h10
 have hF9:=hF9.next h10
 have h010:=h09.on h10
 rw [c4b] at hF10
 rw [c4b]
 obtain ⟨c4,m4,e4,c5,m5,e5,c6,m6,e6,rfl,rfl,rfl⟩:=a1k hF10.here
 refine b2c ?_
 refine a0m b0e (fun g11 w11 h11 hg11 hH11=>?_)
 refine a0i a8j (xs:=b2f (a2d a).1 (.slice c4 m4 e4) (.slice c5 m5 e5) (.slice c6 m6 e6)) rfl rfl (a5s _ _ _ _ _ _ _ _ _ _ _ _ _ _ _ _ _ _ _ _) hH11 rfl (fun w12 hg12 hH12=>?_)
 have h1012:Bw w10 w12:=a0y h11 hg12 hg11
 have hF12:=hF10.next h1012
 have hF9:=hF9.next h1012
 have hH12':=hH10.next h1012
 have h012:=h010.on h1012
 generalize a2d a = dA at *
 refine b0z a (by omega) (hl.below h012 hl.size) (fun w13 h13=>?_)
 have h013:=h012.on h13
 refine g9p ?_
 refine a9l a (by omega) (fun w14 h14=>?_)
 rw [a9h]
 have h014:=h013.on h14
 have hF14:=(hF12.next h13).next h14
 have hG14:=(hF9.next h13).next h14
 have hH14:=(hH12.next h13).next h14
 have hH14':=(hH12'.next h13).next h14
 generalize a0o a = rA at *
 refine g0t ?_
 refine a2k hH14' a4u (by kernel_rfl) (by kernel_rfl) ?_
 refine a5q ?_
 refine a2k hH14 a4u (by kernel_rfl) (by kernel_rfl) ?_
 refine a5q ?_
 refine c9h dA.1 dA.1 hG14.here hF14.here (fun w15 h15=>?_)
 rw [decide_eq_true (rfl:dA.1 = dA.1)]
 have h015:=h014.on h15
 refine Xa0 ?_
 refine c2g n b (by omega) (hl.below h015 hl.size) (fun w16 h16=>?_)
 refine Xa0 ?_
 refine c4j n b (by omega) (fun w17 h17=>?_)
 have h017:=(h015.on h16).on h17
 have t17:=(((((((h7.on h79).on h10).on h1012).on h13).on h14).on h15).on h16).on h17
 refine Xa0 ?_
 exact g5s hset' hlim' hx' hf (by omega) (by omega) hl h017 (hB1.next t17) (hB2.next t17) k
end
end Go.Proofs
