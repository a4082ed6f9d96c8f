/- Parts of the proof of the seat's statements (HPz, UqH, PuLaw8, PuLaw9, PuLaw10, PuSane, UqI, UqJ): lemmas about the given translation and plain laws. No condition of their own. -/
import Derived.Test.YtnbokkoppdnllaaGreatDoorPwe
import Derived.Test.YtnbokkoppdnllaaGreatDoorProg
set_option linter.all false
set_option maxRecDepth 100000
namespace Go.Proofs
open Go.Sh Tryz
def sh_51 (K:VK) (w:World):Prop:=
 oM prog (.build 41 #[(0,(.tmp 0)),(1,(.tmp 1)),(2,(.tmp 2))]) 41 [(.int .i64 1),(.int .i64 1440),(.int .i64 (-1))] (fun v1 w=>
 oM prog (.build 41 #[(0,(.tmp 0)),(2,(.tmp 1))]) 41 [(.int .i64 2),(.int .i64 (-1))] (fun v2 w=>
 oM prog (.buildSlice 51 2 #[(0,(.tmp 0)),(1,(.tmp 1))]) 51 [v1,v2] (fun v3 w=>
 K v3 w) w) w) w
theorem sh_51_ok {K:VK} {w:World} (h:sh_51 K w):callM prog 51 #[] K w:=
 calls_of_code (fun _=>0) (fn:=Tryz.f51) (rs:=[.tmp 0]) Tryz.func51 rfl rfl (by kernel_rfl) (nB rfl) (Eq.mp (by kernel_rfl) h)
def sh_52 (K:VK) (w:World):Prop:=
 kA 50 (fun v0 w=>
 oM prog (.build 48 #[(0,(.tmp 0)),(1,(.tmp 1)),(2,(.tmp 2))]) 48 [(.int .i64 23),(.int .i64 11),(.int .i64 4)] (fun v1 w=>
 oM prog (.buildSlice 22 2 #[(0,(.tmp 0)),(1,(.tmp 1))]) 22 [(.int .i64 4),(.int .i64 9)] (fun v2 w=>
 oM prog (.build 50 #[(0,(.tmp 0)),(1,(.tmp 1)),(2,(.tmp 2))]) 50 [v1,v2,(.int .i64 13)] (fun v3 w=>
 kS 50 v0 v3 (fun _ w=>
 ∃ r_5,(do loadVar 50 (← asAddr v0):Sem Value).run prog w = .ok r_5 w ∧ K r_5 w) w) w) w) w) w
theorem sh_52_ok {K:VK} {w:World} (h:sh_52 K w):callM prog 52 #[] K w:=
 calls_of_code (fun _=>0) (fn:=Tryz.f52) (rs:=[.cell 0 50]) Tryz.func52 rfl rfl (by kernel_rfl) (nB rfl) (Eq.mp (by kernel_rfl) h)
def sh_54 (a0 a1:Value) (K:VK) (w:World):Prop:=
 kA 29 (fun v4 w=>
 oM prog (.buildSlice 22 1 #[(0,(.tmp 0))]) 22 [(.int .i64 3)] (fun v8 w=>
 oM prog (.build 29 #[(0,(.tmp 0)),(1,(.tmp 1)),(2,(.tmp 2))]) 29 [a0,a1,v8] (fun v9 w=>
 kA 29 (fun v5 w=>
 kS 29 v5 v9 (fun _ w=>
 oM prog (.buildSlice 22 2 #[(0,(.tmp 0)),(1,(.tmp 1))]) 22 [(.int .i64 1),(.int .i64 5)] (fun v10 w=>
 oM prog (.build 24 #[(0,(.tmp 0)),(1,(.tmp 1)),(3,(.tmp 2))]) 24 [(.int .i64 2),(.int .i64 1),v10] (fun v11 w=>
 kF 29 3 v5 (fun v12 w=>
 kS 24 v12 v11 (fun _ w=>
 kB .mul 3 3 (.int .i64 10) a0 (fun v14 w=>
 kB .add 3 3 v14 a1 (fun v16 w=>
 oM prog (.build 26 #[(0,(.tmp 0)),(1,(.tmp 1)),(2,(.tmp 2)),(3,(.tmp 3)),(4,(.tmp 4)),(5,(.tmp 5))]) 26 [(.int .i64 2),(.int .i64 9),(.int .i64 1),(.int .i64 1),(.int .i64 1),v16] (fun v17 w=>
 kF 29 4 v5 (fun v18 w=>
 kS 26 v18 v17 (fun _ w=>
 kL 29 v5 (fun v19 w=>
 kS 29 v4 v19 (fun _ w=>
 ∃ r_13,(do loadVar 29 (← asAddr v4):Sem Value).run prog w = .ok r_13 w ∧ K r_13 w) w) w) w) w) w) w) w) w) w) w) w) w) w) w) w) w
theorem sh_54_ok {a0 a1:Value} {K:VK} {w:World} (h:sh_54 a0 a1 K w):callM prog 54 #[a0,a1] K w:=
 calls_of_code (fun _=>0) (fn:=Tryz.f54) (rs:=[.cell 4 29]) Tryz.func54 rfl rfl (by kernel_rfl) (nB rfl) (Eq.mp (by kernel_rfl) h)
def sh_56 (a0 a1:Value) (K:VK) (w:World):Prop:=
 kN 22 a0 (fun v7 w=>
 kN 22 a1 (fun v9 w=>
 kB .neq 3 4 v7 v9 (fun v10 w=>
 condM v10
 (K (.bool false) w)
 (loopM [(.bool false),(.int .i64 0)] w (fun J_4 m_5 l_6 u_l_6 w0_l_6=>(fun w=>(
 kN 22 a0 (fun v13 w=>
 kB .lss 3 4 (l_6.getD 1 undef) v13 (fun v14 w=>
 condM v14
 (heldM w (fun C_9 w=>(((true:Bool) = true) ∧ (pureH a0 C_9 (fun v17=>
 pureH (l_6.getD 1 undef) C_9 (fun v18=>
 jI 22 v17 v18 C_9 (fun v19=>
 jL 3 v19 C_9 (fun v20=>
 pureH a1 C_9 (fun v21=>
 pureH (l_6.getD 1 undef) C_9 (fun v22=>
 jI 22 v21 v22 C_9 (fun v23=>
 jL 3 v23 C_9 (fun v24=>
 jB .neq 3 4 v20 v24 C_9 (fun v25=>
 ∃ S_19:World → WK,∀ w,C_9 w → (
 condM v25
 (K (.bool false) w)
 (kB .add 3 3 (l_6.getD 1 undef) (.int .i64 1) (fun v16 w=>
 J_4 [(l_6.getD 0 undef),v16] w ∧ m_5 [(l_6.getD 0 undef),v16] w < m_5 l_6 w0_l_6) w)))))))))))))))
 (K (.bool true) w)) w) w)) w0_l_6))) w) w) w
theorem sh_56_ok {a0 a1:Value} {K:VK} {w:World} (h:sh_56 a0 a1 K w):callM prog 56 #[a0,a1] K w:=
 calls_of_code (fun _=>.free [0,1,2,3,4,5,6,7,8] [] []) (fn:=Tryz.f56) (rs:=[.tmp 4]) Tryz.func56 rfl rfl (by kernel_rfl) (nB rfl) (Eq.mp (by kernel_rfl) h)
def sh_12 (K:VK) (w:World):Prop:=
 callM prog 51 #[] (fun v18 w=>
 kI 51 v18 (.int .i64 0) (fun v20 w=>
 kL 41 v20 (fun v21 w=>
 callM prog 20 #[v21,(.int .i64 2900)] (fun v22 w=>
 kC .eql 3 2 4 v22 (fun v23 w=>
 gT v23 (pureM v18) (fun v25 w=>
 gT v23 (kI 51 v25 (.int .i64 0)) (fun v26 w=>
 gT v23 (kL 41 v26) (fun v27 w=>
 gT v23 (callM prog 21 #[v27,(.int .i64 2)]) (fun v28 w=>
 gT v23 (kC .eql 3 2880 4 v28) (fun v29 w=>
 kP v23 v29 (.bool false) (fun v30 w=>
 gT v30 (pureM v18) (fun v32 w=>
 gT v30 (kI 51 v32 (.int .i64 1)) (fun v33 w=>
 gT v30 (kL 41 v33) (fun v34 w=>
 gT v30 (callM prog 20 #[v34,(.int .i64 2900)]) (fun v35 w=>
 gT v30 (kC .eql 3 0 4 v35) (fun v36 w=>
 kP v30 v36 (.bool false) (fun v37 w=>
 gT v37 (callM prog 17 #[(.int .i64 100),(.string ⟨#[112,111,111,108]⟩)]) (fun v39 w=>
 gT v37 (oM prog (.binOp .eql 9 (.tmp 0) (.const (.string ⟨#[49,48,48,59,52,58,112,111,111,108,44]⟩)) 9) 4 [v39]) (fun v40 w=>
 kP v37 v40 (.bool false) (fun v41 w=>
 callM prog 35 #[] (fun v42 w=>
 oM prog (.binOp .eql 55 (.tmp 0) (.const (.pointer none)) 55) 4 [v42] (fun v44 w=>
 gF v44 (pureM v41) (fun v46 w=>
 gF v44 (kU v46) (fun v47 w=>
 kP v44 (.bool true) v47 (fun v48 w=>
 gF v48 (callM prog 22 #[(.string ⟨#[57,48,59,52,58,112,111,111,108,44]⟩),(.string ⟨#[49,48,48,59,48,58,44]⟩)]) (fun v50 w=>
 gF v48 (kU v50) (fun v51 w=>
 kP v48 (.bool true) v51 (fun v52 w=>
 gF v52 (callM prog 22 #[(.string ⟨#[49,49,48,59,52,58,112,111,111,108,44]⟩),(.string ⟨#[49,48,48,59,48,58,44]⟩)]) (fun v54 w=>
 kP v52 (.bool true) v54 (fun v55 w=>
 condM v55
 (K (.bool false) w)
 (callM prog 52 #[] (fun v58 w=>
 callM prog 34 #[v42,v58,v18] (fun v60 w=>
 kE 0 56 v60 (fun v61 w=>
 kE 1 62 v60 (fun v62 w=>
 oM prog (.binOp .eql 56 (.tmp 0) (.const (.pointer none)) 56) 4 [v61] (fun v64 w=>
 gF v64 (pureM v62) (fun v66 w=>
 gF v64 (kC .neq 62 0 4 v66) (fun v67 w=>
 kP v64 (.bool true) v67 (fun v68 w=>
 condM v68
 (K (.bool false) w)
 (callM prog 54 #[(.int .i64 0),(.int .i64 2)] (fun v70 w=>
 callM prog 53 #[v61,v70] (fun v71 w=>
 callM prog 28 #[v61,(.int .i64 0),(.int .i64 2900),(.int .i64 5)] (fun v74 w=>
 kE 0 3 v74 (fun v75 w=>
 kE 1 62 v74 (fun v76 w=>
 callM prog 28 #[v61,(.int .i64 0),(.int .i64 2901),(.int .i64 6)] (fun v79 w=>
 kE 0 3 v79 (fun v80 w=>
 kE 1 62 v79 (fun v81 w=>
 callM prog 55 #[v61,(.int .i64 0)] (fun v84 w=>
 kE 0 84 v84 (fun v85 w=>
 kE 1 62 v84 (fun v86 w=>
 kA 84 (fun v11 w=>
 kS 84 v11 v85 (fun _ w=>
 kC .neq 62 0 4 v71 (fun v88 w=>
 gF v88 (pureM v75) (fun v90 w=>
 gF v88 (kC .neq 3 0 4 v90) (fun v91 w=>
 kP v88 (.bool true) v91 (fun v92 w=>
 gF v92 (pureM v76) (fun v94 w=>
 gF v92 (kC .neq 62 0 4 v94) (fun v95 w=>
 kP v92 (.bool true) v95 (fun v96 w=>
 gF v96 (pureM v81) (fun v98 w=>
 gF v96 (kC .neq 62 15 4 v98) (fun v99 w=>
 kP v96 (.bool true) v99 (fun v100 w=>
 gF v100 (pureM v61) (fun v102 w=>
 gF v100 (callM prog 27 #[v102,(.int .i64 0),(.int .i64 2900)]) (fun v103 w=>
 gF v100 (kC .neq 3 0 4 v103) (fun v104 w=>
 kP v100 (.bool true) v104 (fun v105 w=>
 gF v105 (pureM v86) (fun v107 w=>
 gF v105 (kC .neq 62 0 4 v107) (fun v108 w=>
 kP v105 (.bool true) v108 (fun v109 w=>
 gF v109 (kF 84 1 v11) (fun v111 w=>
 gF v109 (kL 22 v111) (fun v112 w=>
 gF v109 (oM prog (.buildSlice 22 2 #[(0,(.tmp 0)),(1,(.tmp 1))]) 22 [(.int .i64 0),(.int .i64 2)]) (fun v113 w=>
 gF v109 (callM prog 56 #[v112,v113]) (fun v114 w=>
 gF v109 (kU v114) (fun v115 w=>
 kP v109 (.bool true) v115 (fun v116 w=>
 condM v116
 (K (.bool false) w)
 (callM prog 32 #[v42,(.slice none 0 0)] (fun v118 w=>
 callM prog 33 #[v42] (fun v120 w=>
 callM prog 52 #[] (fun v123 w=>
 callM prog 34 #[v42,v123,v18] (fun v125 w=>
 kE 0 56 v125 (fun v126 w=>
 kE 1 62 v125 (fun v127 w=>
 oM prog (.binOp .eql 56 (.tmp 0) (.const (.pointer none)) 56) 4 [v126] (fun v129 w=>
 gF v129 (pureM v127) (fun v131 w=>
 gF v129 (kC .neq 62 0 4 v131) (fun v132 w=>
 kP v129 (.bool true) v132 (fun v133 w=>
 condM v133
 (K (.bool false) w)
 (callM prog 55 #[v126,(.int .i64 0)] (fun v136 w=>
 kE 0 84 v136 (fun v137 w=>
 kE 1 62 v136 (fun v138 w=>
 kA 84 (fun v15 w=>
 kS 84 v15 v137 (fun _ w=>
 callM prog 26 #[v126] (fun v140 w=>
 kC .eql 62 7 4 v138 (fun v142 w=>
 gT v142 (pureM v140) (fun v144 w=>
 gT v142 (kN 59 v144) (fun v145 w=>
 gT v142 (kC .eql 3 1 4 v145) (fun v146 w=>
 kP v142 v146 (.bool false) (fun v147 w=>
 gT v147 (pureM v140) (fun v149 w=>
 gT v147 (kI 59 v149 (.int .i64 0)) (fun v150 w=>
 gT v147 (kF 67 1 v150) (fun v151 w=>
 gT v147 (kL 3 v151) (fun v152 w=>
 gT v147 (kC .eql 3 3 4 v152) (fun v153 w=>
 kP v147 v153 (.bool false) (fun v154 w=>
 gT v154 (pureM v140) (fun v156 w=>
 gT v154 (kI 59 v156 (.int .i64 0)) (fun v157 w=>
 gT v154 (kF 67 2 v157) (fun v158 w=>
 gT v154 (kL 3 v158) (fun v159 w=>
 gT v154 (kC .eql 3 5 4 v159) (fun v160 w=>
 kP v154 v160 (.bool false) (fun v161 w=>
 K v161 w) w) w) w) w) w) w) w) w) w) w) w) w) w) w) w) w) w) w) w) w) w) w) w)) w) w) w) w) w) w) w) w) w) w)) w) w) w) w) w) w) w) w) w) w) w) w) w) w) w) w) w) w) w) w) w) w) w) w) w) w) w) w) w) w) w) w) w) w) w) w)) w) w) w) w) w) w) w) w)) w) w) w) w) w) w) w) w) w) w) w) w) w) w) w) w) w) w) w) w) w) w) w) w) w) w) w) w) w) w
theorem sh_12_ok {K:VK} {w:World} (h:sh_12 K w):callM prog 12 #[] K w:=
 calls_of_code (fun _=>0) (fn:=Tryz.f12) (rs:=[.tmp 0]) Tryz.func12 rfl rfl (by kernel_rfl) (nB rfl) (Eq.mp (by kernel_rfl) h)
def sh_4 (a0 a1 a2 a3:Value) (K:VK) (w:World):Prop:=
 oM prog (.box 41 (.tmp 0)) 0 [a0] (fun v4 w=>
 callM prog 12 #[] (fun v13 w=>
 kL 41 v4 (fun v14 w=>
 callM prog 19 #[v14] (fun v15 w=>
 kU v15 (fun v16 w=>
 gF v16 (pureM a1) (fun v18 w=>
 gF v16 (kB .lss 3 4 v18 (.int .i64 0)) (fun v19 w=>
 kP v16 (.bool true) v19 (fun v20 w=>
 gF v20 (pureM a2) (fun v22 w=>
 gF v20 (kB .gtr 3 4 v22 (.int .i64 2147483648)) (fun v23 w=>
 kP v20 (.bool true) v23 (fun v24 w=>
 gF v24 (pureM a1) (fun v26 w=>
 gF v24 (pureM a2) (fun v27 w=>
 gF v24 (kB .gtr 3 4 v26 v27) (fun v28 w=>
 kP v24 (.bool true) v28 (fun v29 w=>
 condM v29
 (K v13 w)
 (kL 41 v4 (fun v31 w=>
 callM prog 20 #[v31,a1] (fun v33 w=>
 kL 41 v4 (fun v34 w=>
 callM prog 21 #[v34,v33] (fun v36 w=>
 kB .lss 3 4 v33 (.int .i64 0) (fun v38 w=>
 gF v38 (pureM v36) (fun v40 w=>
 gF v38 (kB .lss 3 4 v40 (.int .i64 0)) (fun v41 w=>
 kP v38 (.bool true) v41 (fun v42 w=>
 gF v42 (pureM v36) (fun v44 w=>
 gF v42 (pureM a1) (fun v45 w=>
 gF v42 (kB .gtr 3 4 v44 v45) (fun v46 w=>
 kP v42 (.bool true) v46 (fun v47 w=>
 gF v47 (kF 41 1 v4) (fun v49 w=>
 gF v47 (kL 3 v49) (fun v50 w=>
 gF v47 (kB .gtr 3 4 v50 (.int .i64 0)) (fun v51 w=>
 gF v47 (pureM v51) (fun v52 w=>
 gT v52 (pureM a1) (fun v53 w=>
 gT v52 (pureM v36) (fun v54 w=>
 gT v52 (kB .sub 3 3 v53 v54) (fun v55 w=>
 gT v52 (kF 41 1 v4) (fun v56 w=>
 gT v52 (kL 3 v56) (fun v57 w=>
 gT v52 (kB .geq 3 4 v55 v57) (fun v58 w=>
 gF v47 (kP v52 v58 (.bool false)) (fun v59 w=>
 kP v47 (.bool true) v59 (fun v60 w=>
 gF v60 (kL 41 v4) (fun v62 w=>
 gF v60 (pureM a2) (fun v63 w=>
 gF v60 (callM prog 20 #[v62,v63]) (fun v64 w=>
 gF v60 (pureM v33) (fun v65 w=>
 gF v60 (kB .lss 3 4 v64 v65) (fun v66 w=>
 kP v60 (.bool true) v66 (fun v67 w=>
 condM v67
 (K (.bool false) w)
 (kL 41 v4 (fun v68 w=>
 callM prog 21 #[v68,a3] (fun v70 w=>
 gT v13 (pureM v70) (fun v73 w=>
 gT v13 (kB .lss 3 4 v73 (.int .i64 0)) (fun v74 w=>
 gT v13 (pureM v74) (fun v75 w=>
 gF v75 (kF 41 1 v4) (fun v76 w=>
 gF v75 (kL 3 v76) (fun v77 w=>
 gF v75 (kB .gtr 3 4 v77 (.int .i64 0)) (fun v78 w=>
 gF v75 (pureM v78) (fun v79 w=>
 gT v79 (kL 41 v4) (fun v80 w=>
 gT v79 (pureM v70) (fun v81 w=>
 gT v79 (callM prog 20 #[v80,v81]) (fun v82 w=>
 gT v79 (pureM a3) (fun v83 w=>
 gT v79 (kB .eql 3 4 v82 v83) (fun v84 w=>
 gF v75 (kP v79 v84 (.bool false)) (fun v85 w=>
 gT v13 (kP v75 (.bool true) v85) (fun v86 w=>
 gT v13 (pureM v86) (fun v87 w=>
 gF v87 (kF 41 1 v4) (fun v88 w=>
 gF v87 (kL 3 v88) (fun v89 w=>
 gF v87 (kC .eql 3 0 4 v89) (fun v90 w=>
 gF v87 (pureM v90) (fun v91 w=>
 gT v91 (pureM v70) (fun v92 w=>
 gT v91 (kC .eql 3 0 4 v92) (fun v93 w=>
 gF v87 (kP v91 v93 (.bool false)) (fun v94 w=>
 gT v13 (kP v87 (.bool true) v94) (fun v95 w=>
 kP v13 v95 (.bool false) (fun v96 w=>
 K v96 w) w) w) w) w) w) w) w) w) w) w) w) w) w) w) w) w) w) w) w) w) w) w) w) w) w) w)) w) w) w) w) w) w) w) w) w) w) w) w) w) w) w) w) w) w) w) w) w) w) w) w) w) w) w) w) w) w)) w) w) w) w) w) w) w) w) w) w) w) w) w) w) w
theorem sh_4_ok {a0 a1 a2 a3:Value} {K:VK} {w:World} (h:sh_4 a0 a1 a2 a3 K w):callM prog 4 #[a0,a1,a2,a3] K w:=
 calls_of_code (fun _=>0) (fn:=Tryz.f4) (rs:=[.tmp 8]) Tryz.func4 rfl rfl (by kernel_rfl) (nB rfl) (Eq.mp (by kernel_rfl) h)
end Go.Proofs
namespace Go.Proofs
open Go Go.Sh Go.RowKit FdSpec TkSpec CodeSpec PuSpec DkSpec JnSpec
section
variable {K:VK} {w w' w0 W W':World} {L:List (Addr × Value)} {rb b:Nat}
theorem build_lim3 (T:TypeId) (a b c:Int):oM Tryz.prog (Go.Op.build 41 #[(0,(.tmp 0)),(1,(.tmp 1)),(2,(.tmp 2))]) T [.int .i64 a,.int .i64 b,.int .i64 c] = pureM (limV ⟨a,b,c⟩):=by
 funext K w
 kernel_rfl
theorem build_lim2 (T:TypeId) (a c:Int):oM Tryz.prog (Go.Op.build 41 #[(0,(.tmp 0)),(2,(.tmp 1))]) T [.int .i64 a,.int .i64 c] = pureM (limV ⟨a,0,c⟩):=by
 funext K w
 kernel_rfl
theorem mk2l {T:TypeId} (x y:Lim) (hx:I64 x.count ∧ I64 x.length ∧ I64 x.gate) (hy:I64 y.count ∧ I64 y.length ∧ I64 y.gate) (k:∀ v W,Bw w W → Fresh w W (fun W=>LimR W v [x,y]) → K v W) :
  oM Tryz.prog (.buildSlice 51 2 #[(0,.tmp 0),(1,.tmp 1)]) T [limV x,limV y] K w:=by
 rw [oM_buildSlice2]
 refine lit_run (e:=41) (n:=2) (xs:=limC x ++ limC y) (by kernel_rfl) (fun g W h hg hH=>k _ W h ?_)
 exact (hH.fresh hg).imp (fun W hW=>srow_lit2 hW rfl rfl ⟨rfl,hx⟩ ⟨rfl,hy⟩)
theorem limits_ok (k:∀ w' v,Bw w w' → Fresh w w' (fun W=>LimR W v exL) → K v w'):callM Tryz.prog 51 #[] K w:=by
 apply sh_51_ok
 unfold sh_51
 rw [build_lim3]
 show oM _ _ _ _ _ _
 rw [build_lim2]
 show oM _ _ _ _ _ _
 refine mk2l _ _ ⟨by constructor <;> decide,by constructor <;> decide,by constructor <;> decide⟩ ⟨by constructor <;> decide,by constructor <;> decide,by constructor <;> decide⟩ (fun v W h hF=>k W v h hF)
theorem mkF2 {T:TypeId} (x y:Int) (hx:I64 x) (hy:I64 y) (k:∀ ad c W,Bw w W → Fresh w W (fun W=>Ints W (.slice ad 2 c) [x,y]) → K (.slice ad 2 c) W):oM Tryz.prog (.buildSlice 22 2 #[(0,.tmp 0),(1,.tmp 1)]) T [.int .i64 x,.int .i64 y] K w:=by
 rw [oM_buildSlice2]
 have e:(Instr.buildSlice 22 2 #[(0,.int .i64 x),(1,.int .i64 y)]).run Tryz.prog w = .ok (.slice (some ⟨w.heap.size,0,none⟩) 2 2) (w.alloc (.cells #[.int .i64 x,.int .i64 y] 3)):=by kernel_rfl
 rw [e]
 exact k _ _ _ ((Below.refl _ w).alloc (rL) _) ((ints_alloc w [x,y] _ 2 (by simp; exact ⟨hx,hy⟩) (by simp)).fresh (fun i hi=>by cases hi; exact rL))
theorem sz_stp (w:World):(sizeOf 50).run Tryz.prog w = .ok 5 w:=by kernel_rfl
theorem al_stp (w:World):(Instr.alloc 50 true (.tuple #[])).run Tryz.prog w = .ok (.pointer (some ⟨w.heap.size,0,none⟩)) (w.alloc (.cells [.int .i64 0,.int .i64 0,.int .i64 0,.slice none 0 0,.int .i64 0].toArray 50)):=by kernel_rfl
theorem un_stp:Tryz.prog.underlying 50 = some ((Tryz.prog.underlying 50).getD default):=by kernel_rfl
theorem stp_one7 (a b c e:Int) (ad:Option Addr) (n m:Nat):∀ u ∈ ([.int .i64 a,.int .i64 b,.int .i64 c,.slice ad n m,.int .i64 e]:List Value),u.oneCell' = true:=by
 intro u hu
 simp only [List.mem_cons,List.not_mem_nil,or_false] at hu
 rcases hu with rfl | rfl | rfl | rfl | rfl <;> rfl
theorem setup_ok (k:∀ w' v,Bw w w' → Fresh w w' (fun W=>Ints W v exS.bases) → K (stpV exS v) w'):callM Tryz.prog 52 #[] K w:=by
 apply sh_52_ok
 unfold sh_52
 refine arr_alloc al_stp (fun g1 w1 h1 hg1 hH1=>?_)
 iterate 1 (any_goals ((with_reducible refine oG fun X Y=>?_); simp [go_sem]; apply Y; clear Y X))
 refine mkF2 4 9 (by constructor <;> decide) (by constructor <;> decide) (fun ad c w2 h2 hF=>?_)
 iterate 1 (any_goals ((with_reducible refine oG fun X Y=>?_); simp [go_sem]; apply Y; clear Y X))
 have hg1l:=hH1.lt
 refine arr_store (xs:=stpC exS (.slice ad 2 c)) sz_stp rfl rfl (stp_one7 _ _ _ _ _ _ _) (hH1.next h2) rfl (fun w3 hg3 hH3=>?_)
 refine arr_ret hH3 un_stp (by kernel_rfl) (by kernel_rfl) ?_
 have hs1:=h1.size
 have hs3:=hg3.size
 exact k w3 _ ((h1.on h2).grown hg3 (by have:=h2.size; omega) (fun j e=>by cases e; exact hg1)) ((FP.fr hF (Fr.of_by hg3) (fun j hj=>⟨hj.2,fun e=>by omega⟩)).mono (fun j hj=>⟨by omega,by omega⟩))
theorem mkF1 {T:TypeId} (x:Int) (hx:I64 x) (k:∀ ad c W,Bw w W → Fresh w W (fun W=>Ints W (.slice ad 1 c) [x]) → K (.slice ad 1 c) W):oM Tryz.prog (.buildSlice 22 1 #[(0,.tmp 0)]) T [.int .i64 x] K w:=by
 rw [oM_buildSlice1]
 have e:(Instr.buildSlice 22 1 #[(0,.int .i64 x)]).run Tryz.prog w = .ok (.slice (some ⟨w.heap.size,0,none⟩) 1 1) (w.alloc (.cells #[.int .i64 x] 3)):=by kernel_rfl
 rw [e]
 exact k _ _ _ ((Below.refl _ w).alloc (rL) _) ((ints_alloc w [x] _ 1 (by simpa using hx) (by simp)).fresh (fun i hi=>by cases hi; exact rL))
theorem build_hld3 (T:TypeId) (a b:Int) (ad:Option Addr) (n c:Nat):oM Tryz.prog (Go.Op.build 29 #[(0,(.tmp 0)),(1,(.tmp 1)),(2,(.tmp 2))]) T [.int .i64 a,.int .i64 b,.slice ad n c] = pureM (.agg #[.int .i64 a,.int .i64 b,.slice ad n c,.int .i64 0,.int .i64 0,.int .i64 0,.slice none 0 0,.int .i64 0,.int .i64 0,.int .i64 0,.int .i64 0,.int .i64 0,.int .i64 0,.slice none 0 0]):=by
 funext K w
 kernel_rfl
theorem build_bld3 (T:TypeId) (a b:Int) (ad:Option Addr) (n c:Nat):oM Tryz.prog (Go.Op.build 24 #[(0,(.tmp 0)),(1,(.tmp 1)),(3,(.tmp 2))]) T [.int .i64 a,.int .i64 b,.slice ad n c] = pureM (.agg #[.int .i64 a,.int .i64 b,.int .i64 0,.slice ad n c]):=by
 funext K w
 kernel_rfl
theorem exH_wf:WHld exH:=by
 have r:∀ n:Int,-100 ≤ n ∧ n ≤ 100 → InR n:=fun n h=>by unfold InR; omega
 refine ⟨r _ (by decide),r _ (by decide),fun v hv=>r _ ?_,by decide,r _ (by decide),r _ (by decide),r _ (by decide),fun v hv=>r _ ?_,by decide,⟨fun v hv=>r _ ?_⟩,fun _ h=>by cases h⟩
 ·simp only [exH,List.mem_cons,List.not_mem_nil,or_false] at hv; subst hv; decide
 ·simp only [exH,List.mem_cons,List.not_mem_nil,or_false] at hv; rcases hv with rfl | rfl <;> decide
 ·simp only [tktL,exH,List.mem_cons,List.not_mem_nil,or_false] at hv; rcases hv with rfl | rfl | rfl | rfl | rfl | rfl <;> decide
theorem example_ok (k:∀ w' av yv kv,Bw w w' → Fresh w w' (fun W=>HldR W exH av yv kv) → K (hldV exH av yv kv) w'):callM Tryz.prog 54 #[.int .i64 0,.int .i64 2] K w:=by
 apply sh_54_ok
 unfold sh_54
 refine arr_alloc al_hld (fun g1 w1 h1 hg1 hH1=>?_)
 refine mkF1 3 (by constructor <;> decide) (fun a1 c1 w2 h2 hF2=>?_)
 rw [build_hld3]
 show oM _ _ _ _ _ _
 refine arr_alloc al_hld (fun g3 w3 h3 hg3 hH3=>?_)
 refine arr_store sz_hld rfl rfl (hld_one _ _ _ _ _ _ _ _ _ _ _ _ _ _ _ _ _ _ _ _) hH3 rfl (fun w4 hg4 hH4=>?_)
 refine mkF2 1 5 (by constructor <;> decide) (by constructor <;> decide) (fun a5 c5 w5 h5 hF5=>?_)
 rw [build_bld3]
 show oM _ _ _ _ _ _
 have hH5:=hH4.next h5
 iterate 1 (any_goals ((with_reducible refine oG fun X Y=>?_); simp [go_sem]; apply Y; clear Y X))
 refine arr_storeRow (o:=3) sz_bld rfl rfl (bld_one ⟨2,1,0,[]⟩ _ _ _) hH5 (by simp) (fun w6 hg6 hH6=>?_)
 simp only [List.take_succ_cons,List.take_zero,List.drop_succ_cons,List.drop_zero,List.cons_append,List.nil_append] at hH6
 iterate 4 (any_goals ((with_reducible refine oG fun X Y=>?_); simp [go_sem]; (try simp (disch:=omega) only [wrapI64,wrapU8,wrapU32,wrapU64]); apply Y; clear Y X))
 refine arr_storeRow (o:=7) (xs:=tktC exH.t) sz_tkt rfl rfl (tkt_one exH.t) hH6 (by simp) (fun w7 hg7 hH7=>?_)
 simp only [List.take_succ_cons,List.take_zero,List.drop_succ_cons,List.drop_zero,List.cons_append,List.nil_append] at hH7
 refine arr_load hH7 un_hld (by kernel_rfl) (by kernel_rfl) ?_
 have l1:=hH1.lt
 have l3:=hH3.lt
 have s1:=h1.size
 have s2:=h2.size
 have s3:=h3.size
 have s4:=hg4.size
 have s5:=h5.size
 have s6:=hg6.size
 have s7:=hg7.size
 have f27:Fr (fun i=>i = g3) w2 w7:=((((Fr.of_below h3).trans (Fr.of_by hg4) (fun i hi=>.inl hi)).trans (Fr.of_below (S:=fun _=>False) h5) (fun i hi=>hi.elim)).trans (Fr.of_by hg6) (fun i hi=>.inl hi)).trans (Fr.of_by hg7) (fun i hi=>.inl hi)
 have f57:Fr (fun i=>i = g3) w5 w7:=(Fr.of_by hg6).trans (Fr.of_by hg7) (fun i hi=>.inl hi)
 have hH1':Holds w7 g1 29 hldZ:=(f27.block g1 (by omega) (by omega)).trans (hH1.next h2)
 refine arr_store sz_hld rfl rfl (hld_one _ _ _ _ _ _ _ _ _ _ _ _ _ _ _ _ _ _ _ _) hH1' rfl (fun w8 hg8 hH8=>?_)
 have s8:=hg8.size
 refine arr_ret hH8 un_hld (by kernel_rfl) (by kernel_rfl) ?_
 have b17:Bw w w7:=(h1.on h2).trans ⟨f27.os,f27.tape,f27.output,by omega,fun i hi=>f27.block i (by omega) (by omega)⟩
 have p1:=((FP.fr hF2 f27 (fun j hj=>⟨hj.2,fun e=>by omega⟩)).fr (Fr.of_by hg8) (fun j hj=>⟨by omega,fun e=>by omega⟩))
 have p2:=((FP.fr hF5 f57 (fun j hj=>⟨hj.2,fun e=>by omega⟩)).fr (Fr.of_by hg8) (fun j hj=>⟨by omega,fun e=>by omega⟩))
 refine k w8 (.slice a1 1 c1) (.slice a5 2 c5) (.slice none 0 0) (b17.grown hg8 (by omega) (fun j e=>by cases e; exact hg1)) ?_
 exact ((p1.and p2).imp (fun W hW=>⟨hW.1,hW.2,SRow.nil,exH_wf⟩)).mono (fun j hj=>by rcases hj with hj | hj <;> exact ⟨by omega,by omega⟩)
end
end Go.Proofs
namespace PuSpec
open FdSpec TkSpec CodeSpec DkSpec JnSpec
variable {s:Stp} {lims:List Lim} {A:Ab} {p:Pst} {all sure:List Bytes} {n:Nat}
structure Up (s:Stp) (lims:List Lim) (A:Ab) (p:Pst) (sure:List Bytes) (n:Nat):Prop where
 u:Upp A
 inv:Inv s lims A p p.j.recs sure
 nb:p.j.broken = false
 cnt:p.j.recs.length ≤ n
 vs:validS s = true
 vl:limsM lims = true
 items:p.items.length ≤ p.j.recs.length
theorem Up.live (h:Up s lims A p sure n):Live 0 A p.j p.j.recs sure:=LJ.live h.inv.lj h.nb
theorem form_le {t:Bytes} (ht:t.length ≤ 20000):(form t).length ≤ 20064:=by
 have:=form_len (s:=t) (by omega)
 omega
theorem Up.append (h:Up s lims A p sure n) (hn:n ≤ 50) {t:Bytes} (ht:t.length ≤ 20000) :
  ∃ B b,appendJ A 0 p.j t = (0,B,⟨p.j.recs ++ [t],b,false⟩) ∧ Upp B ∧ Live 0 B ⟨p.j.recs ++ [t],b,false⟩ (p.j.recs ++ [t]) sure:=by
 have hb:=h.live.bytes_le h.cnt
 have hf:=form_le ht
 have h3:n * 20064 ≤ 50 * 20064:=Nat.mul_le_mul_right _ hn
 obtain ⟨B,e,u,l⟩:=h.u.add_rec h.live zero15 h.nb ht (by omega)
 exact ⟨B,_,e,u,l⟩
theorem Up.add (h:Up s lims A p sure n) (hn:n ≤ 50) {x:Hld} (w:WHld x) :
  (addErr s lims p.items x ≠ 0 ∧ addP s lims A p x = (addErr s lims p.items x,A,p) ∧ (addErr s lims p.items x = 1 ∨ addErr s lims p.items x = 5)) ∨
  (addErr s lims p.items x = 0 ∧ ∃ B q,addP s lims A p x = (0,B,q) ∧ q.items = p.items ++ [freshI x] ∧ validM s lims x = true ∧ hasM p.items x.t = false ∧ Up s lims B q sure (n + 1)):=by
 by_cases he:addErr s lims p.items x = 0
 ·right
  have hv:validM s lims x = true ∧ hasM p.items x.t = false:=by
   unfold addErr at he
   split at he
   ·cases he
   ·rename_i hv
    split at he
    ·cases he
    ·rename_i hh
     exact ⟨by simpa using hv,by simpa using hh⟩
  have e0:(encNum 0).length = 2:=by decide +kernel
  obtain ⟨B,b,e,u,l⟩:=h.append hn (t:=recAdd x) (by
   have:=held_len w hv.1
   simp only [recAdd,List.length_append,e0]; omega)
  refine ⟨he,B,⟨⟨p.j.recs ++ [recAdd x],b,false⟩,p.items ++ [freshI x]⟩,?_,rfl,hv.1,hv.2,⟨u,?_,rfl,?_,h.vs,h.vl,?_⟩⟩
  ·unfold addP
   rw [if_neg (by simp [he]),e,if_neg (by simp)]
  ·obtain ⟨all',sure',hp,v⟩:=add_inv h.inv x w
   have ea:addP s lims A p x = (0,B,⟨⟨p.j.recs ++ [recAdd x],b,false⟩,p.items ++ [freshI x]⟩):=by
    unfold addP
    rw [if_neg (by simp [he]),e,if_neg (by simp)]
   obtain ⟨rj,h1,h2,g⟩:=live_good h.inv
   have hl:x.links.length ≤ 4:=by
    have:=hv.1
    simp only [validM,linksM,Bool.and_eq_true,decide_eq_true_eq] at this
    omega
   have hlen:p.items.length < 400:=by
    have:=h.items
    have:=h.cnt
    omega
   have ht:replayM s lims rj (recAdd x) = some (rj ++ [freshI x]):=by
    rw [replay_add rj x w hl,if_pos]
    exact ⟨hv.1,by rw [h2.has]; exact hv.2,by rw [h2.1]; exact hlen⟩
   have hr:replayL s lims [] (p.j.recs ++ [recAdd x]) = some (rj ++ [freshI x]):=by
    rw [replayL_append,h1,Option.bind_some,replayL_one,ht]
   refine ⟨.inl ⟨rfl,l⟩,⟨_,hr⟩,⟨_,hr,h2.push _⟩,?_⟩
   intro i y hy hst
   dsimp only at hy
   rw [List.getElem?_append] at hy
   split at hy
   ·exact h.inv.spent i y hy hst
   ·have:y = freshI x:=by
     rcases hk:i - p.items.length with _ | k
     ·rw [hk] at hy; simp only [List.getElem?_cons_zero,Option.some.injEq] at hy; exact hy.symm
     ·rw [hk] at hy; simp at hy
    rw [this] at hst
    simp [freshI] at hst
  ·have:=h.cnt
   simp only [List.length_append,List.length_cons,List.length_nil]; omega
  ·have:=h.items
   simp only [List.length_append,List.length_cons,List.length_nil]; omega
 ·left
  refine ⟨he,by unfold addP; rw [if_pos he],?_⟩
  unfold addErr at he ⊢
  split at he
  ·rename_i h1; rw [if_pos h1]; exact .inl rfl
  ·rename_i h1
   rw [if_neg h1]
   split at he
   ·rename_i h2; rw [if_pos h2]; exact .inr rfl
   ·split at he
    ·have:=h.items
     have:=h.cnt
     omega
    ·exact absurd rfl he
theorem Up.keep (h:Up s lims A p sure n) (hn:n ≤ 50) {i:Nat} {x:Itm} (hx:p.items[i]? = some x) (h0:x.status = 0) {kind dare:Int} (hk:kind = 1 ∨ kind = 3) (hd:1 ≤ dare) (hq:dare < s.g.Q) (hr:InR dare) :
  ∃ B q,keepP A p i kind dare = (0,B,q) ∧ q.items = p.items.set i { x with dare:=dare,status:=1,lent:=decide (kind = 3) } ∧ Up s lims B q q.j.recs (n + 1):=by
 have hi:(i:Int) < 9223372036854775807:=by
  have:=(List.getElem?_eq_some_iff.1 hx).1
  have:=h.items
  have:=h.cnt
  omega
 have hin:∀ m ∈ [kind,(i:Int),dare],InR m:=by
  intro m hm
  simp only [List.mem_cons,List.not_mem_nil,or_false] at hm
  rcases hm with rfl | rfl | rfl
  ·rcases hk with rfl | rfl <;> exact ⟨by decide,by decide⟩
  ·exact ⟨by omega,by omega⟩
  ·exact hr
 obtain ⟨B,b,e,u,l⟩:=h.append hn (t:=recNums [kind,i,dare]) (by have:=recNums_len hin (by simp); omega)
 obtain ⟨C,e2,u2,l2⟩:=u.sync_rec l zero15 rfl
 have ek:keepP A p i kind dare = (0,C,⟨⟨p.j.recs ++ [recNums [kind,i,dare]],b,false⟩,p.items.set i { x with dare:=dare,status:=1,lent:=decide (kind = 3) }⟩):=by
  unfold keepP
  rw [e]
  dsimp only
  rw [if_neg (by simp),e2]
  dsimp only
  rw [if_neg (by simp),modify_set hx]
 refine ⟨C,_,ek,rfl,⟨u2,?_,rfl,?_,h.vs,h.vl,?_⟩⟩
 ·obtain ⟨rj,h1,h2,g⟩:=live_good h.inv
  obtain ⟨r,hr1,hr2⟩:=h2.get hx
  have hrs:r.status = 0:=by
   rcases hr2.rest with ⟨a,_⟩ | ⟨a,b,_⟩ <;> omega
  have hstep:stepR s [kind,i,dare] r = some { r with status:=1,dare:=dare,lent:=decide (kind = 3) }:=by
   unfold stepR
   dsimp only
   rw [if_pos (by simpa using hk),if_pos (by simp [hrs,hd,hq])]
  have ht:=replay_nums (s:=s) (lims:=lims) rj [kind,i,dare] hin (.inr rfl) (i:=i) rfl hr1
  rw [hstep,Option.map_some] at ht
  have hr:replayL s lims [] (p.j.recs ++ [recNums [kind,i,dare]]) = some (rj.set i { r with status:=1,dare:=dare,lent:=decide (kind = 3) }):=by
   rw [replayL_append,h1,Option.bind_some,replayL_one,ht]
  have hm:Match (rj.set i { r with status:=1,dare:=dare,lent:=decide (kind = 3) }) (p.items.set i { x with dare:=dare,status:=1,lent:=decide (kind = 3) }):=
   h2.set i ⟨hr2.held,hr2.back,.inl ⟨rfl,rfl,rfl⟩⟩
  exact ⟨.inl ⟨rfl,l2⟩,⟨_,hr⟩,⟨_,hr,hm⟩,spent_sure hr hm⟩
 ·have:=h.cnt
  simp only [List.length_append,List.length_cons,List.length_nil]; omega
 ·have:=h.items
  simp only [List.length_append,List.length_cons,List.length_nil,List.length_set]; omega
theorem open_newP (hv:validS s = true) (hl:limsM lims = true):∃ B,openP s lims newA = (some ⟨⟨[],0,false⟩,[]⟩,0,B) ∧ Up s lims B ⟨⟨[],0,false⟩,[]⟩ [] 0:=by
 obtain ⟨B,e,u,l⟩:=open_new zero15
 refine ⟨B,?_,⟨u,⟨.inl ⟨rfl,l⟩,⟨[],rfl⟩,⟨[],rfl,rfl,fun i r x h=>by simp at h⟩,fun i x h=>by simp at h⟩,rfl,Nat.le_refl _,hv,hl,Nat.le_refl _⟩⟩
 unfold openP
 rw [if_neg (by simp [hv,hl]),e]
 rfl
end PuSpec
namespace PuSpec
open FdSpec TkSpec CodeSpec DkSpec JnSpec
variable {s:Stp} {lims:List Lim} {A:Ab} {p:Pst} {all sure:List Bytes} {n:Nat}
end PuSpec
namespace PuSpec
open FdSpec TkSpec CodeSpec DkSpec JnSpec
variable {s:Stp} {lims:List Lim} {A:Ab} {p:Pst} {all sure:List Bytes} {n:Nat}
structure Dur (s:Stp) (lims:List Lim) (p:Pst) (sure:List Bytes):Prop where
 many:∃ rs,replayL s lims [] sure = some rs ∧ p.items.length ≤ rs.length
 nb:∀ x ∈ p.items,x.status ≠ 3
theorem LaterL.len {l m:List Itm} (h:LaterL l m):l.length ≤ m.length:=by
 rcases hl:l.length with _ | k
 ·omega
 ·have hk:k < l.length:=by omega
  obtain ⟨y,hy,_⟩:=h k l[k] (List.getElem?_eq_getElem hk)
  have:=(List.getElem?_eq_some_iff.1 hy).1
  omega
theorem burns_law (h:Up s lims A p sure n) (d:Dur s lims p sure) (keep:List Int) :
  ∃ B q,openP s lims (startA (crashA A keep)) = (some q,0,B) ∧ q.items.length = p.items.length ∧
   ∀ (i:Nat) (a b:Itm),p.items[i]? = some a → q.items[i]? = some b → b.held = a.held ∧ b.status ≠ 1 ∧ (a.status = 0 → b.status = 0) ∧ (a.status = 1 → b.status = 3 ∧ b.dare = a.dare) ∧
    (a.status ≠ 0 → a.status ≠ 1 → b.status ≠ 0 ∧ b.dare = a.dare):=by
 obtain ⟨B,j',e,u,lv,hb,hp,hs⟩:=h.u.again h.live.good zero15 keep
 obtain ⟨rj,hrj,hm,g⟩:=live_good h.inv
 obtain ⟨l,hl,gl,_,ll⟩:=replayL_pre hp hrj
 obtain ⟨rs,hrs,hmany⟩:=d.many
 obtain ⟨rs',hrs',grs,_,lr⟩:=replayL_pre hs hl
 rw [hrs] at hrs'
 cases hrs'
 have ho:openP s lims (startA (crashA A keep)) = (some ⟨j',l.map burnM⟩,0,B):=by
  unfold openP
  rw [if_neg (by simp [h.vs,h.vl]),e]
  dsimp only
  unfold openM
  rw [hl]
  rfl
 have e1:=ll.len
 have e2:=lr.len
 have e3:=hm.1
 refine ⟨B,_,ho,by simp only [List.length_map]; omega,fun i a b ha hbi=>?_⟩
 dsimp only at hbi
 rw [List.getElem?_map] at hbi
 rcases hli:l[i]? with _ | y
 ·rw [hli] at hbi; cases hbi
 ·rw [hli] at hbi
  cases hbi
  obtain ⟨r,hr,rel⟩:=hm.get ha
  obtain ⟨r',hr',lt⟩:=ll i y hli
  rw [hr] at hr'
  cases hr'
  have na:=d.nb a (List.mem_of_getElem? ha)
  obtain ⟨q1,q2,q3⟩:a.status = r.status ∧ a.dare = r.dare ∧ a.lent = r.lent:=by
   rcases rel.rest with k | ⟨_,k,_⟩
   ·exact k
   ·exact absurd k na
  have ry:=gl.raw y (List.mem_of_getElem? hli)
  have lu:=lt.up
  have spent:a.status = 1 ∨ a.status = 2 → 1 ≤ y.status:=by
   intro hst
   obtain ⟨rs1,z,z1,z2,_,_,z5⟩:=h.inv.spent i a ha hst
   rw [hrs] at z1
   cases z1
   obtain ⟨y',hy',lt'⟩:=lr i z z2
   rw [hli] at hy'
   cases hy'
   have:=lt'.up
   omega
  have bh:(burnM y).held = y.held:=by unfold burnM; split <;> rfl
  have bd:(burnM y).dare = y.dare:=by unfold burnM; split <;> rfl
  have bs:(burnM y).status = if y.status = 1 then 3 else y.status:=by unfold burnM; split <;> rfl
  rw [bh,bd,bs]
  refine ⟨by rw [rel.held,lt.held],by split <;> omega,fun k=>by rw [if_neg (by omega)]; omega,fun k=>?_,fun k1 k2=>?_⟩
  ·have:=spent (.inl k)
   rw [if_pos (by omega),q2,(lt.dare (by omega)).1]
   exact ⟨rfl,rfl⟩
  ·have ra:=g.raw r (List.mem_of_getElem? hr)
   have:=spent (.inr (by omega))
   rw [q2,(lt.dare (by omega)).1]
   refine ⟨?_,rfl⟩
   split <;> omega
end PuSpec
namespace PuSpec
open FdSpec TkSpec CodeSpec DkSpec JnSpec
def exI1:Itm:={ freshI exH with status:=1,dare:=5 }
theorem sane_facts (hw:WHld exH):∃ B0 B1 B2 q1 q2,openP exS exL newA = (some ⟨⟨[],0,false⟩,[]⟩,0,B0) ∧ addP exS exL B0 ⟨⟨[],0,false⟩,[]⟩ exH = (0,B1,q1) ∧ q1.items = [freshI exH] ∧
  reserveP exS exL B1 q1 0 2900 5 = ((0,0),B2,q2) ∧ q2.items = [exI1] ∧ reserveP exS exL B2 q2 0 2901 6 = ((0,15),B2,q2) ∧
  ∃ B3 q3 x,openP exS exL (startA (crashA B2 [])) = (some q3,0,B3) ∧ q3.items = [x] ∧ x.status = 3 ∧ x.dare = 5 ∧ x.held = exH:=by
 obtain ⟨f1,_,_,_,_,fv,_,fa,_,fc1,fc2,_,_⟩:=ex_facts
 obtain ⟨B0,e0,u0⟩:=open_newP fv f1
 rcases u0.add (by omega) hw with ⟨hne,_⟩ | ⟨_,B1,q1,e1,i1,_,_,u1⟩
 ·exact absurd fa hne
 have i1':q1.items = [freshI exH]:=i1
 have hx:q1.items[0]? = some (freshI exH):=by rw [i1']; rfl
 obtain ⟨B2,q2,e2,i2,u2⟩:=u1.keep (by omega) hx rfl (kind:=1) (dare:=5) (.inl rfl) (by omega) (by decide) ⟨by omega,by omega⟩
 have i2':q2.items = [exI1]:=by rw [i2,i1']; rfl
 refine ⟨B0,B1,B2,q1,q2,e0,e1,i1',?_,i2',?_,?_⟩
 ·unfold reserveP
  rw [i1',fc1]
  rw [if_neg (by decide),if_neg (by simp),e2]
  rw [if_neg (by simp)]
 ·unfold reserveP
  rw [i2',show [exI1] = [{ freshI exH with status:=1,dare:=5 }] from rfl,fc2]
  rw [if_neg (by decide),if_pos (by simp)]
 ·obtain ⟨rj,hr,hm⟩:=u2.inv.live
  have hd:Dur exS exL q2 q2.j.recs:=⟨⟨rj,hr,Nat.le_of_eq hm.1.symm⟩,by rw [i2']; intro x hx; rw [List.mem_singleton] at hx; subst hx; decide⟩
  obtain ⟨B3,q3,e3,l3,h3⟩:=burns_law u2 hd []
  rw [i2'] at l3 h3
  obtain ⟨x,hx3⟩:∃ x,q3.items = [x]:=List.length_eq_one_iff.1 (by simpa using l3)
  have:=h3 0 exI1 x rfl (by rw [hx3]; rfl)
  exact ⟨B3,q3,x,e3,hx3,(this.2.2.2.1 rfl).1,(this.2.2.2.1 rfl).2,this.1⟩
end PuSpec
namespace Go.Proofs
open Go Go.Sh Go.RowKit FdSpec TkSpec CodeSpec PuSpec DkSpec JnSpec
section
variable {K:VK} {w w' w0 W W':World} {L:List (Addr × Value)} {rb b:Nat}
theorem sameInts_ok {va vb:Value} {l m:List Int} (ha:Ints w va l) (hb:Ints w vb m) (k:∀ w',Bw w w' → K (.bool (decide (l = m))) w'):callM Tryz.prog 56 #[va,vb] K w:=by
 apply sh_56_ok
 unfold sh_56
 obtain ⟨a1,c1,rfl⟩:=ha.isSlice
 obtain ⟨a2,c2,rfl⟩:=hb.isSlice
 have hll:=ha.len
 by_cases hl:l.length = m.length
 ·have hlZ:(l.length:Int) = m.length:=by omega
  repeat (any_goals (first
  | (with_reducible refine yM ?_)
  | ((with_reducible refine oG fun X Y=>?_); simp [go_sem,hlZ]; apply Y; clear Y X)))
  refine ⟨fun vs W=>∃ (i:Nat),vs = [.bool false,.int .i64 (i:Int)] ∧ i ≤ l.length ∧ l.take i = m.take i ∧ Nx w W,
   (fun vs _=>match vs with | [_,.int _ i]=>l.length - i.toNat | _=>0),⟨0,rfl,by omega,rfl,bR⟩,?_⟩
  rintro _ _ w2 ⟨i,rfl,hi,he,h2⟩
  by_cases hin:i = l.length
  ·have e:l = m:=by
    rw [hin,List.take_length,hl,List.take_length] at he
    exact he
   have k:=k _ h2
   rw [decide_eq_true e] at k
   have hn:¬ (i:Int) < m.length:=by omega
   repeat (any_goals (first
   | (with_reducible refine yM ?_)
   | ((with_reducible refine oG fun X Y=>?_); simp [go_sem,hn,hlZ]; apply Y; clear Y X)))
   exact k
  ·have hil:i < l.length:=by omega
   have him:i < m.length:=by omega
   have hiZ:(i:Int) < m.length:=by omega
   obtain ⟨b1,o1,rfl,hb1,ca,_,_⟩:=ha.at (i:=i) hil
   obtain ⟨b2,o2,rfl,hb2,cb,_,_⟩:=hb.at (i:=i) him
   repeat (any_goals (first
   | (with_reducible refine yL ?_)
   | ((with_reducible refine oG fun X Y=>?_); simp [go_sem,hiZ,hlZ]; apply Y; clear Y X)))
   refine ⟨Nx { w2 with drawn:=w2.drawn + 1 },bR,rfl,?_⟩
   have h2d:=h2.on (.drawn (B:=w2.heap.size))
   generalize ({ w2 with drawn:=w2.drawn + 1 }:World) = W3 at h2d ⊢
   by_cases hx:l[i] = m[i]
   ·repeat (any_goals (first
    | (with_reducible refine pX ?_)
    | ((with_reducible refine idOH ?_); (with_reducible refine oH_of ⟨_,rfl⟩ (fun W0 hW0=>by (refine oG (fun X Y=>?_)); simp [go_sem,ca _ (h2d.on hW0),cb _ (h2d.on hW0),hx,hiZ,hlZ]; (first | exact Y _ _ ⟨rfl,rfl⟩ | exact ⟨by omega,Y _ _ ⟨rfl,rfl⟩⟩)) ?_))))
    refine ⟨Nx,fun w4 h4=>?_⟩
    repeat (any_goals (first
    | (with_reducible refine yM ?_)
    | ((with_reducible refine oG fun X Y=>?_); simp [go_sem]; (try simp (disch:=omega) only [wrapI64,wrapU8,wrapU32,wrapU64]); apply Y; clear Y X)))
    exact ⟨⟨i + 1,rfl,by omega,by rw [List.take_succ_eq_append_getElem hil,List.take_succ_eq_append_getElem him,he,hx],h2d.on h4⟩,by show l.length - (((i + 1:Nat):Int)).toNat < l.length - ((i:Nat):Int).toNat; omega⟩
   ·repeat (any_goals (first
    | (with_reducible refine pX ?_)
    | ((with_reducible refine idOH ?_); (with_reducible refine oH_of ⟨_,rfl⟩ (fun W0 hW0=>by (refine oG (fun X Y=>?_)); simp [go_sem,ca _ (h2d.on hW0),cb _ (h2d.on hW0),hx,hiZ,hlZ]; (first | exact Y _ _ ⟨rfl,rfl⟩ | exact ⟨by omega,Y _ _ ⟨rfl,rfl⟩⟩)) ?_))))
    refine ⟨Nx,fun w4 h4=>?_⟩
    have k:=k _ (h2d.on h4)
    rw [decide_eq_false (fun e=>hx (by subst e; rfl))] at k
    repeat (any_goals (with_reducible refine yL ?_))
    exact k
 ·have hlZ:¬ (l.length:Int) = m.length:=by omega
  have k:=k _ (bR)
  rw [decide_eq_false (fun e=>hl (by rw [e]))] at k
  repeat (any_goals (first
  | (with_reducible refine yL ?_)
  | ((with_reducible refine oG fun X Y=>?_); simp [go_sem,hlZ]; apply Y; clear Y X)))
  exact k
theorem nil_purse {T:TypeId} (b:Nat) (k:K (.bool false) w):oM Tryz.prog (Go.Op.binOp Go.BinOp.eql 56 (.tmp 0) (.const (.pointer none)) 56) T [.pointer (some ⟨b,0,none⟩)] K w:=by
 skip
 exact k
set_option maxHeartbeats 4000000 in
theorem sane_ok (hl:Cd.LaidE w) (hdb:DbT w) (k:∀ w',Bw w w' → K (.bool true) w'):callM Tryz.prog 12 #[] K w:=by
 apply sh_12_ok
 unfold sh_12
 obtain ⟨f1,fw1,fb1,fw2,ft,fv,_,fa,_,fc1,fc2,fl,fu⟩:=ex_facts
 obtain ⟨fn1,fn2⟩:=ex_narrows
 refine limits_ok (fun w1 lv h1 hL=>?_)
 have hL1:=hL.here
 obtain ⟨lad,lc,hlv⟩:=hL1.isSlice
 have e2:exL.length = 2:=rfl
 rw [e2] at hlv
 subst hlv
 obtain ⟨lb,lo,rfl,hlb,cs0,hcl0,hcc0,hV0,_⟩:=hL1.at (i:=0) (by decide)
 obtain ⟨lb',lo',hlo,_,cs1,hcl1,hcc1,hV1,_⟩:=hL1.at (i:=1) (by decide)
 cases hlo
 subst hV0
 subst hV1
 have a0:=hcc0 0 _ rfl
 have a1:=hcc0 1 _ rfl
 have a2:=hcc0 2 _ rfl
 have b0:=hcc1 0 _ rfl
 have b1:=hcc1 1 _ rfl
 have b2:=hcc1 2 _ rfl
 simp only [exL,List.getElem_cons_zero,List.getElem_cons_succ,Nat.zero_mul,Nat.add_zero,Nat.one_mul] at a0 a1 a2 b0 b1 b2
 have q0:∀ W,Nx w1 W → W.cell? ⟨lb,lo,none⟩ = some (.int .i64 1) ∧ W.cell? ⟨lb,lo + 1,none⟩ = some (.int .i64 1440) ∧ W.cell? ⟨lb,lo + 2,none⟩ = some (.int .i64 (-1)) ∧ W.cell? ⟨lb,lo + 3,none⟩ = some (.int .i64 2) ∧ W.cell? ⟨lb,lo + 3 + 1,none⟩ = some (.int .i64 0) ∧ W.cell? ⟨lb,lo + 3 + 2,none⟩ = some (.int .i64 (-1)):=fun W h=>⟨(h.cell hlb).trans a0,(h.cell hlb).trans a1,(h.cell hlb).trans a2,(h.cell hlb).trans b0,(h.cell hlb).trans b1,(h.cell hlb).trans b2⟩
 have q:=q0 _ (bR)
 repeat (any_goals ((with_reducible refine oG fun X Y=>?_); simp [go_sem,q]; apply Y; clear Y X))
 refine Window_ok ⟨1,1440,-1⟩ 2900 (fun w2 h2=>?_)
 rw [fw1]
 have q:=q0 _ h2
 repeat (any_goals (first
 | (with_reducible first|refine pureM_in ?_|refine zA ?_)
 | ((with_reducible refine oG fun X Y=>?_); simp [go_sem,q]; apply Y; clear Y X)))
 refine Begins_ok ⟨1,1440,-1⟩ 2 (fun w3 h3=>?_)
 rw [fb1]
 have h13:=h2.on h3
 have q:=q0 _ h13
 repeat (any_goals (first
 | (with_reducible first|refine pureM_in ?_|refine zA ?_|refine yB ?_)
 | ((with_reducible refine oG fun X Y=>?_); simp [go_sem,q]; apply Y; clear Y X)))
 refine Window_ok ⟨2,0,-1⟩ 2900 (fun w4 h4=>?_)
 rw [fw2]
 have h14:=h13.on h4
 repeat (any_goals (first
 | (with_reducible first|refine zA ?_|refine yB ?_)
 | ((with_reducible refine oG fun X Y=>?_); simp [go_sem]; apply Y; clear Y X)))
 have hl4:=hl.below (h1.on h14) hl.size
 refine Terms_ok 100 [112,111,111,108] (by decide) hl4 (fun w5 h5=>?_)
 rw [ft]
 have h15:=h14.on h5
 have z15':=h15.size
 repeat (any_goals (first
 | (with_reducible first|refine zA ?_|refine yB ?_)
 | ((with_reducible refine oG fun X Y=>?_); simp [go_sem]; apply Y; clear Y X)))
 refine new_ok (fun w6 d dk hd6 f6 ho6 hr6=>?_)
 have h6:Bw w5 w6:=⟨f6.os,f6.tape,f6.output,f6.size,fun i hi=>f6.block i hi id⟩
 have h16:=h15.on h6
 have h06:=h1.on h16
 have hw8:=hl.size
 have s6:Sys w6 d newA dk:=⟨hd6,hl.below h06 hl.size,fun i hi=>by have:=ho6 i hi; have:=(h1.on h15).size; omega⟩
 skip
 refine Narrows_ok _ _ (by decide) (by decide) s6.l (fun w7 h7=>?_)
 rw [fn1]
 have s7:=s6.below h7
 skip
 refine Narrows_ok _ _ (by decide) (by decide) s7.l (fun w8 h8=>?_)
 rw [fn2]
 have s8:=s7.below h8
 repeat (any_goals ((with_reducible refine oG fun X Y=>?_); simp [go_sem]; apply Y; clear Y X))
 show condM (.bool false) _ _
 repeat (any_goals (with_reducible refine yM ?_))
 refine setup_ok (fun w9 bv h9 hB9=>?_)
 have s9:=s8.below h9
 have h69:=(h7.on h8).on h9
 have h09:=h06.on h69
 have h19:=h16.on h69
 have gE:GrpR exS.g:=⟨by constructor <;> decide,by constructor <;> decide,by constructor <;> decide⟩
 have hsl9:FP (fun i=>i < w9.heap.size ∧ ¬ Own d dk i) w9 (fun W=>SetR W exS bv ∧ LimR W (.slice (some ⟨lb,lo,none⟩) 2 lc) exL):=by
  have r1:=dbT_fp (DbT.next hdb h09)
  have r2:=FP.next hL h19 (fun i hi=>hi.2)
  have z1:=h1.size
  have z15:=h15.size
  have z6:=f6.size
  have z68:=(h7.on h8).size
  have z9:=h9.size
  refine (((FP.and hB9 r1).and r2).imp (fun W hW=>⟨⟨gE,hW.1.1,by constructor <;> decide,hW.1.2⟩,hW.2⟩)).mono (fun i hi=>?_)
  rcases hi with (hi | hi) | hi
  ·exact ⟨hi.2,fun e=>by have:i < w6.heap.size:=s6.d.lt (.inl e); omega⟩
  ·exact ⟨by omega,fun e=>by have:=ho6 i e; omega⟩
  ·exact ⟨by omega,fun e=>by have:=ho6 i e; omega⟩
 refine Open_ok (w0:=w) hl.size h09 s9 (fun i hi=>by
  rcases hi with hi | hi
  ·have:=ho6 i hi; have:=(h1.on h15).size; omega
  ·exact absurd hi (hr6 i)) (fun i hi=>hi) hsl9 (fun w10 dk10 r10 s10 t10 o10=>?_)
 obtain ⟨B0,B1,B2,q1,q2,e0,e1,i1,e2,i2,e3,B3,q3,x3,e4,i3,x3s,x3d,x3h⟩:=sane_facts exH_wf
 rw [e0] at s10 o10 ⊢
 obtain ⟨p,hpb,hph,rfl,hP,hMu⟩:=o10
 repeat (any_goals ((with_reducible refine oG fun X Y=>?_); simp [go_sem]; apply Y; clear Y X))
 refine nil_purse p.pb ?_
 repeat (any_goals (first
 | (with_reducible first|refine pureM_in ?_|refine zC ?_|refine yC ?_|refine yM ?_)
 | ((with_reducible refine oG fun X Y=>?_); simp [go_sem]; apply Y; clear Y X)))
 refine example_ok (fun w11 av yv kv h11 hx=>?_)
 have hP11:=hP.next h11
 refine PAdd_ok hP11 exH (D:=fun i=>w10.heap.size ≤ i ∧ i < w11.heap.size) (fun i hi=>⟨hi.2,fun e=>by have:=hP.mu_lt i e; omega⟩) hx (fun w12 p12 hP12 t12 ⟨epb12,eb12⟩=>?_)
 rw [e1] at hP12 ⊢
 rw [← epb12]
 refine PReserve_ok hP12 0 2900 5 ⟨by omega,by omega⟩ (fun w13 p13 hP13 t13 ⟨epb13,eb13⟩=>?_)
 rw [e2] at hP13 ⊢
 rw [← epb13]
 repeat (any_goals ((with_reducible refine oG fun X Y=>?_); simp [go_sem]; apply Y; clear Y X))
 refine PReserve_ok hP13 0 2901 6 ⟨by omega,by omega⟩ (fun w14 p14 hP14 t14 ⟨epb14,eb14⟩=>?_)
 rw [e3] at hP14 ⊢
 rw [← epb14]
 repeat (any_goals ((with_reducible refine oG fun X Y=>?_); simp [go_sem]; apply Y; clear Y X))
 refine Answer_ok hP14.st 0 (fun w15 ov h15 hov=>?_)
 have eA:answerI exS q2.items 0 = (⟨5,[0,2]⟩,0):=by
  rw [i2]
  show (if exI1.status = 1 ∨ exI1.status = 2 then ((useI exS exI1).1,(0:Int)) else (⟨0,[]⟩,7)) = _
  rw [if_pos (.inl rfl)]
  have:useI exS exI1 = (⟨5,[0,2]⟩,true):=fu
  rw [this]
 rw [eA] at hov ⊢
 have hP15:=hP14.next h15
 obtain ⟨oa,oc,rfl⟩:=hov.here.isSlice
 iterate 2 (any_goals ((with_reducible refine oG fun X Y=>?_); simp [go_sem]; apply Y; clear Y X))
 refine arr_alloc al_spd' (fun g16 w16 h16' hg16 hH16=>?_)
 refine arr_store sz_spd' rfl rfl (spd_one' _ _ _ _) hH16 rfl (fun w17 hg17 hH17=>?_)
 have h1517:Bw w15 w17:=grown_below h16' hg17 hg16
 have hP17:=hP15.next h1517
 repeat (any_goals (first
 | (with_reducible first|refine pureM_in ?_|refine zC ?_|refine yC ?_)
 | ((with_reducible refine oG fun X Y=>?_); simp [go_sem]; apply Y; clear Y X)))
 refine PLeft_ok hP17.st 0 2900 (fun w18 h18=>?_)
 rw [show leftM exL q2.items 0 2900 = 0 by rw [i2]; exact fl]
 have hP18:=hP17.next h18
 have c18:=(hH17.next h18).cell 1 (by simp)
 simp only [List.getElem_cons_zero,List.getElem_cons_succ] at c18
 iterate 12 (any_goals (first
 | (with_reducible first|refine pureM_in ?_|refine zC ?_|refine yC ?_)
 | ((with_reducible refine oG fun X Y=>?_); simp [go_sem,c18]; apply Y; clear Y X)))
 have gstep:∀ {o:Op} {T:TypeId} {xs:List Value} {K:VK} {w:World},oM Tryz.prog o T xs K w → gdM (gd (.bool false) false) (oM Tryz.prog o T xs) K w:=fun h=>by
  iterate 1 (any_goals (with_reducible refine zC ?_))
  exact h
 refine gstep ?_
 refine mkF2 0 2 I64_0 (I64_k 2 (by omega)) (fun a20 c20 w20 h20 hF20=>?_)
 have hov20:=((hov.here.next h1517).next h18).next h20
 refine sameInts_ok hov20 hF20.here (fun w21 h21=>?_)
 have hP21:=(hP18.next h20).next h21
 have ebd:p14.b = d:=eb14.trans (eb13.trans (eb12.trans hpb))
 repeat (any_goals (first
 | (with_reducible first|refine zC ?_|refine yC ?_|refine yM ?_)
 | ((with_reducible refine oG fun X Y=>?_); simp [go_sem]; apply Y; clear Y X)))
 have hd21:=hP21.sys.d
 rw [ebd] at hd21
 refine crash_ok hd21 (kl:=[]) ⟨none,0,rfl,fun _=>⟨rfl,rfl⟩,.inl rfl⟩ (by decide) (fun w' _=>⟨none,0,rfl,fun _=>⟨rfl,rfl⟩,.inl rfl⟩) (fun w22 dk22 hd22 t22=>?_)
 skip
 refine start_ok hd22 (fun w23 hd23 t23=>?_)
 skip
 have hS21:=hP21.sys
 rw [ebd] at hS21
 have s23:=(hS21.step hd22 t22).step hd23 t23
 have hy23:∀ i,Own d dk22 i ∨ Rdb dk22 i → w.heap.size ≤ i:=fun i hi=>by
  have hz:=hP21.bl.size
  rcases hi with hi | hi
  ·rcases t22.own i hi with e | e
   ·exact hP21.yg i (.inl (by rw [ebd]; exact e))
   ·omega
  ·rcases t22.rd i hi with e | e
   ·exact hP21.yg i (.inr (.inl e))
   ·omega
 have b22:Bw w w22:=hP21.bl.trans ⟨t22.fr.os,t22.fr.tape,t22.fr.output,t22.fr.size,fun i hi=>t22.fr.block i (by have:=hP21.bl.size; omega) (fun e=>by have:=hP21.yg i (.inl (by rw [ebd]; exact e)); omega)⟩
 have b23:Bw w w23:=b22.trans ⟨t23.fr.os,t23.fr.tape,t23.fr.output,t23.fr.size,fun i hi=>t23.fr.block i (by have:=b22.size; omega) (fun e=>by have:=hy23 i (.inl e); omega)⟩
 refine setup_ok (fun w24 bv2 h24 hB24=>?_)
 have s24:=s23.below h24
 have b24:=b23.trans (h24.mono b23.size)
 have hsl24:FP (fun i=>i < w24.heap.size ∧ ¬ Own d dk22 i) w24 (fun W=>SetR W exS bv2 ∧ LimR W (.slice (some ⟨lb,lo,none⟩) 2 lc) exL):=by
  have z1:=h1.size
  have z15:=h15.size
  have z19:=h19.size
  have z10:=t10.fr.size
  have z11:=h11.size
  have z12:=t12.fr.size
  have z13:=t13.fr.size
  have z14:=t14.fr.size
  have n0:∀ i,Own d dk i ∨ Rdb dk i → w1.heap.size ≤ i:=fun i hi=>by
   rcases hi with hi | hi
   ·have:=ho6 i hi; omega
   ·exact absurd hi (hr6 i)
  have m0:∀ i,Mu p i → w1.heap.size ≤ i:=fun i hi=>by
   rcases hMu i hi with e | e | e
   ·rcases t10.own i e with e | e
    ·exact n0 i (.inl e)
    ·omega
   ·rcases t10.rd i e with e | e
    ·exact n0 i (.inr e)
    ·omega
   ·omega
  have m12:∀ i,Mu p12 i → w1.heap.size ≤ i:=fun i hi=>(t12.mu i hi).elim (m0 i) (fun e=>by omega)
  have m13:∀ i,Mu p13 i → w1.heap.size ≤ i:=fun i hi=>(t13.mu i hi).elim (m12 i) (fun e=>by omega)
  have m14:∀ i,Mu p14 i → w1.heap.size ≤ i:=fun i hi=>(t14.mu i hi).elim (m13 i) (fun e=>by omega)
  have o22:∀ i,Own d dk22 i → w1.heap.size ≤ i:=fun i hi=>by
   rcases t22.own i hi with e | e
   ·exact m14 i (.inl (by rw [ebd]; exact e))
   ·have:=((((h15.on h1517).on h18).on h20).on h21).size; omega
  have g9:=FP.next hL h19 (fun i hi=>hi.2)
  have g10:=FP.fr g9 t10.fr (fun i hi=>⟨by omega,fun e=>by have:=n0 i (.inl e); omega⟩)
  have g11:=FP.next g10 h11 (fun i hi=>by omega)
  have g12:=FP.fr g11 t12.fr (fun i hi=>⟨by omega,fun e=>by have:=m0 i e; omega⟩)
  have g13:=FP.fr g12 t13.fr (fun i hi=>⟨by omega,fun e=>by have:=m12 i e; omega⟩)
  have g14:=FP.fr g13 t14.fr (fun i hi=>⟨by omega,fun e=>by have:=m13 i e; omega⟩)
  have h1421:=(((h15.on h1517).on h18).on h20).on h21
  have z21:=h1421.size
  have g21:=FP.next g14 h1421 (fun i hi=>by omega)
  have z22:=t22.fr.size
  have z23:=t23.fr.size
  have z24:=h24.size
  have g22:=FP.fr g21 t22.fr (fun i hi=>⟨by omega,fun e=>by have:=m14 i (.inl (by rw [ebd]; exact e)); omega⟩)
  have g23:=FP.fr g22 t23.fr (fun i hi=>⟨by omega,fun e=>by have:=o22 i e; omega⟩)
  have g24:=FP.next g23 h24 (fun i hi=>by omega)
  have r1:=dbT_fp (DbT.next hdb b24)
  have hw8':=hl.size
  refine (((FP.and hB24 r1).and g24).imp (fun W hW=>⟨⟨gE,hW.1.1,by constructor <;> decide,hW.1.2⟩,hW.2⟩)).mono (fun i hi=>?_)
  rcases hi with (hi | hi) | hi
  ·exact ⟨hi.2,fun e=>by have:i < w23.heap.size:=s23.d.lt (.inl e); omega⟩
  ·exact ⟨by omega,fun e=>by have:=o22 i e; omega⟩
  ·exact ⟨by omega,fun e=>by have:=o22 i e; omega⟩
 refine Open_ok (w0:=w) hl.size b24 s24 hy23 (fun i hi=>hi) hsl24 (fun w25 dk25 r25 s25 t25 o25=>?_)
 rw [e4] at s25 o25 ⊢
 obtain ⟨p3,hpb3,hph3,rfl,hQ,hMu3⟩:=o25
 repeat (any_goals ((with_reducible refine oG fun X Y=>?_); simp [go_sem]; apply Y; clear Y X))
 refine nil_purse p3.pb ?_
 repeat (any_goals (first
 | (with_reducible first|refine pureM_in ?_|refine zC ?_|refine yC ?_|refine yM ?_)
 | ((with_reducible refine oG fun X Y=>?_); simp [go_sem]; apply Y; clear Y X)))
 refine Answer_ok hQ.st 0 (fun w26 ov2 h26 hov2=>?_)
 have eA2:answerI exS q3.items 0 = (⟨0,[]⟩,7):=by
  rw [i3]
  show (if x3.status = 1 ∨ x3.status = 2 then ((useI exS x3).1,(0:Int)) else (⟨0,[]⟩,7)) = _
  rw [if_neg (by omega)]
 rw [eA2] at hov2 ⊢
 have hQ26:=hQ.next h26
 obtain ⟨oa2,oc2,rfl⟩:=hov2.here.isSlice
 iterate 2 (any_goals ((with_reducible refine oG fun X Y=>?_); simp [go_sem]; apply Y; clear Y X))
 refine arr_alloc al_spd' (fun g27 w27 h27 hg27 hH27=>?_)
 refine arr_store sz_spd' rfl rfl (spd_one' _ _ _ _) hH27 rfl (fun w28 hg28 hH28=>?_)
 have h2628:Bw w26 w28:=grown_below h27 hg28 hg27
 have hQ28:=hQ26.next h2628
 refine Items_ok hQ28.st (fun x hx=>by rw [i3,List.mem_singleton] at hx; subst hx; rw [x3h]; exact ⟨by decide,by decide,by decide,fun y hy=>by cases hy⟩) (fun w29 v29 h29 hI29=>?_)
 have hR:=hI29.here
 obtain ⟨va,vc,hva⟩:=hR.isSlice
 rw [i3] at hR hva
 have e1':[x3].length = 1:=rfl
 rw [e1'] at hva
 subst hva
 obtain ⟨vb,vo,rfl,hvb,cs,hcl,hcc,av3,yv3,lv3,rfl,_⟩:=hR.at (i:=0) (by simp)
 have k14:=hcc 14 _ rfl
 have k15:=hcc 15 _ rfl
 simp only [List.getElem_cons_zero,Nat.zero_mul,Nat.add_zero] at k14 k15
 rw [x3s] at k14
 rw [x3d] at k15
 have k:=k w29 ((hQ28.next h29).bl)
 repeat (any_goals (first
 | (with_reducible first|refine pureM_in ?_|refine zA ?_|refine yB ?_)
 | ((with_reducible refine oG fun X Y=>?_); simp [go_sem,k14,k15]; apply Y; clear Y X)))
 exact k
end
end Go.Proofs
