/- Parts of the proof of the seat's statements (HFo, FoA, FoB, FoC, FoD, HRa, HRb, RfA, RfB, RfC, RfD, RfE, RfF, RfG, RfH, RfI, TcF, RgA, FqA, FoE, FoF, FoG, FoH, FoI, FqB, FqC, FqG, FqI, FqJ, FqK0, HiSpec, HiExp, HiLaw, HiDot, HiCore, CoSpec, FqD, FqE, FqF, CoLaw, CoLaw2, CoLaw3, FqL, FoJ, FoK, FdPoly, FdInv, FdThr, PrUnit, GrLaw): lemmas about the given translation and plain laws. No condition of their own. -/
import Derived.Test.YtpfjmfgnlpnflaaGreatDoorZfc
import Derived.Test.YtpfjmfgnlpnflaaGreatDoorProg
import Derived.Laws.IdiomStrings
set_option linter.all false
set_option maxRecDepth 100000
namespace Go.Proofs
open Go.Sh Tryz
def sh_95 (a0:Value) (K:Value → World → Prop) (w:World):Prop:=
 oM prog (.call (Go.Call.mk (.builtin .len) #[(.tmp 0)] #[9])) 3 [a0] (fun v4 w=>
 callM prog 145 #[v4] (fun v5 w=>
 oM prog (.binOp .add 9 (.tmp 0) (.tmp 1) 9) 9 [v5,(.string ⟨#[58]⟩)] (fun v6 w=>
 oM prog (.binOp .add 9 (.tmp 0) (.tmp 1) 9) 9 [v6,a0] (fun v8 w=>
 oM prog (.binOp .add 9 (.tmp 0) (.tmp 1) 9) 9 [v8,(.string ⟨#[44]⟩)] (fun v9 w=>
 K v9 w) w) w) w) w) w
theorem sh_95_ok {a0:Value} {K:Value → World → Prop} {w:World} (h:sh_95 a0 K w):callM prog 95 #[a0] K w:=
 calls_of_code (fun _=>0) (fn:=Tryz.f95) (rs:=[.tmp 2]) Tryz.func95 rfl rfl (by kernel_rfl) (Nat.le_of_ble_eq_true rfl) (Eq.mp (by kernel_rfl) h)
def sh_16 (a0 a1 a2 a3 a4 a5 a6:Value) (K:Value → World → Prop) (w:World):Prop:=
 oM prog (.box 32 (.tmp 0)) 0 [a0] (fun v7 w=>
 oM prog (.box 24 (.tmp 0)) 0 [a1] (fun v8 w=>
 oM prog (.box 39 (.tmp 0)) 0 [a3] (fun v10 w=>
 oM prog (.box 45 (.tmp 0)) 0 [a4] (fun v11 w=>
 oM prog (.box 39 (.tmp 0)) 0 [a5] (fun v12 w=>
 oM prog (.alloc 45) 0 [] (fun v14 w=>
 oM prog (.load 32 (.tmp 0)) 32 [v7] (fun v29 w=>
 oM prog (.load 39 (.tmp 0)) 39 [v10] (fun v31 w=>
 oM prog (.load 45 (.tmp 0)) 45 [v11] (fun v32 w=>
 callM prog 72 #[v29,a2,v31,v32] (fun v33 w=>
 oM prog (.extract (.tmp 0) 0) 41 [v33] (fun v34 w=>
 oM prog (.extract (.tmp 0) 1) 4 [v33] (fun v35 w=>
 oM prog (.alloc 41) 0 [] (fun v16 w=>
 oM prog (.store 41 (.tmp 0) (.tmp 1)) 0 [v16,v34] (fun _ w=>
 oM prog (.load 32 (.tmp 0)) 32 [v7] (fun v37 w=>
 oM prog (.fieldAddr 39 (.tmp 0) 0) 0 [v10] (fun v38 w=>
 oM prog (.load 22 (.tmp 0)) 22 [v38] (fun v39 w=>
 oM prog (.load 45 (.tmp 0)) 45 [v11] (fun v40 w=>
 callM prog 15 #[v37,v39,v40,a6] (fun v42 w=>
 oM prog (.extract (.tmp 0) 0) 49 [v42] (fun v43 w=>
 oM prog (.extract (.tmp 0) 1) 4 [v42] (fun v44 w=>
 oM prog (.alloc 49) 0 [] (fun v18 w=>
 oM prog (.store 49 (.tmp 0) (.tmp 1)) 0 [v18,v43] (fun _ w=>
 oM prog (.load 32 (.tmp 0)) 32 [v7] (fun v46 w=>
 oM prog (.fieldAddr 39 (.tmp 0) 0) 0 [v12] (fun v47 w=>
 oM prog (.load 22 (.tmp 0)) 22 [v47] (fun v48 w=>
 callM prog 67 #[v46,v48] (fun v49 w=>
 oM prog (.extract (.tmp 0) 0) 116 [v49] (fun v50 w=>
 oM prog (.extract (.tmp 0) 1) 3 [v49] (fun v51 w=>
 oM prog (.extract (.tmp 0) 2) 4 [v49] (fun v52 w=>
 oM prog (.alloc 116) 0 [] (fun v20 w=>
 oM prog (.store 116 (.tmp 0) (.tmp 1)) 0 [v20,v50] (fun _ w=>
 oM prog (.unOp .not 4 (.tmp 0)) 4 [v35] (fun v54 w=>
 gdM (gd v54 false) (pureM v44) (fun v56 w=>
 gdM (gd v54 false) (oM prog (.unOp .not 4 (.tmp 0)) 4 [v56]) (fun v57 w=>
 oM prog (.pick (.tmp 0) (.tmp 1) (.tmp 2)) 4 [v54,(.bool true),v57] (fun v58 w=>
 gdM (gd v58 false) (pureM v52) (fun v60 w=>
 gdM (gd v58 false) (oM prog (.unOp .not 4 (.tmp 0)) 4 [v60]) (fun v61 w=>
 oM prog (.pick (.tmp 0) (.tmp 1) (.tmp 2)) 4 [v58,(.bool true),v61] (fun v62 w=>
 gdM (gd v62 false) (oM prog (.load 32 (.tmp 0)) 32 [v7]) (fun v64 w=>
 gdM (gd v62 false) (oM prog (.load 24 (.tmp 0)) 24 [v8]) (fun v65 w=>
 gdM (gd v62 false) (callM prog 73 #[v64,v65]) (fun v66 w=>
 gdM (gd v62 false) (oM prog (.unOp .not 4 (.tmp 0)) 4 [v66]) (fun v67 w=>
 oM prog (.pick (.tmp 0) (.tmp 1) (.tmp 2)) 4 [v62,(.bool true),v67] (fun v68 w=>
 gdM (gd v68 false) (oM prog (.load 116 (.tmp 0)) 116 [v20]) (fun v70 w=>
 gdM (gd v68 false) (oM prog (.fieldAddr 39 (.tmp 0) 2) 0 [v12]) (fun v71 w=>
 gdM (gd v68 false) (oM prog (.load 3 (.tmp 0)) 3 [v71]) (fun v72 w=>
 gdM (gd v68 false) (oM prog (.buildSlice 22 1 #[(0,(.tmp 0))]) 22 [v72]) (fun v73 w=>
 gdM (gd v68 false) (callM prog 65 #[v70,(.int .i64 1),v73]) (fun v74 w=>
 gdM (gd v68 false) (oM prog (.unOp .not 4 (.tmp 0)) 4 [v74]) (fun v75 w=>
 oM prog (.pick (.tmp 0) (.tmp 1) (.tmp 2)) 4 [v68,(.bool true),v75] (fun v76 w=>
 gdM (gd v76 false) (oM prog (.load 116 (.tmp 0)) 116 [v20]) (fun v78 w=>
 gdM (gd v76 false) (oM prog (.fieldAddr 39 (.tmp 0) 3) 0 [v12]) (fun v79 w=>
 gdM (gd v76 false) (oM prog (.load 3 (.tmp 0)) 3 [v79]) (fun v80 w=>
 gdM (gd v76 false) (oM prog (.buildSlice 22 1 #[(0,(.tmp 0))]) 22 [v80]) (fun v81 w=>
 gdM (gd v76 false) (callM prog 65 #[v78,(.int .i64 0),v81]) (fun v82 w=>
 gdM (gd v76 false) (oM prog (.unOp .not 4 (.tmp 0)) 4 [v82]) (fun v83 w=>
 oM prog (.pick (.tmp 0) (.tmp 1) (.tmp 2)) 4 [v76,(.bool true),v83] (fun v84 w=>
 condM v84
 (oM prog (.build 45 #[]) 45 [] (fun v85 w=>
 oM prog (.store 45 (.tmp 0) (.tmp 1)) 0 [v14,v85] (fun _ w=>
 ∃ r_57,(do loadVar 45 (← asAddr v14):Sem Value).run prog w = .ok r_57 w ∧ K (.tuple #[r_57,(.bool false)]) w) w) w)
 (heldM w (fun C_58 w=>(((true:Bool) = true) ∧ (oH prog (.load 116 (.tmp 0)) 116 [v20] C_58 (fun v86=>
 oH prog (.load 116 (.tmp 0)) 116 [v20] C_58 (fun v87=>
 oH prog (.fieldAddr 45 (.tmp 0) 0) 0 [v11] C_58 (fun v88=>
 oH prog (.load 3 (.tmp 0)) 3 [v88] C_58 (fun v89=>
 oH prog (.load 116 (.tmp 0)) 116 [v20] C_58 (fun v90=>
 oH prog (.load 24 (.tmp 0)) 24 [v8] C_58 (fun v91=>
 oH prog (.fieldAddr 39 (.tmp 0) 0) 0 [v10] C_58 (fun v92=>
 oH prog (.load 22 (.tmp 0)) 22 [v92] C_58 (fun v93=>
 oH prog (.load 116 (.tmp 0)) 116 [v20] C_58 (fun v97=>
 oH prog (.load 24 (.tmp 0)) 24 [v8] C_58 (fun v98=>
 oH prog (.fieldAddr 39 (.tmp 0) 0) 0 [v12] C_58 (fun v99=>
 oH prog (.load 22 (.tmp 0)) 22 [v99] C_58 (fun v100=>
 oH prog (.load 116 (.tmp 0)) 116 [v20] C_58 (fun v103=>
 oH prog (.load 116 (.tmp 0)) 116 [v20] C_58 (fun v104=>
 oH prog (.load 41 (.tmp 0)) 41 [v16] C_58 (fun v105=>
 oH prog (.fieldAddr 39 (.tmp 0) 2) 0 [v12] C_58 (fun v107=>
 oH prog (.load 3 (.tmp 0)) 3 [v107] C_58 (fun v108=>
 ∃ S_76:World → World → Prop,∃ R_77:Value → World → Prop,(∀ v w w_1,S_76 w w_1 → R_77 v w → R_77 v w_1) ∧
 (∀ w,C_58 w → (callM prog 75 #[v90,v91,v93] (fun v w_1=>C_58 w_1 ∧ S_76 w w_1 ∧ R_77 v w_1) w)) ∧
 (∃ R_78:Value → World → Prop,(∀ v w w_1,S_76 w w_1 → R_78 v w → R_78 v w_1) ∧
 (∀ w,C_58 w → ∀ v94,R_77 v94 w → (oM prog (.buildSlice 22 1 #[(0,(.tmp 0))]) 22 [v94] (fun v w_1=>C_58 w_1 ∧ S_76 w w_1 ∧ R_78 v w_1) w)) ∧
 (∃ R_80:Value → World → Prop,(∀ v w w_1,S_76 w w_1 → R_80 v w → R_80 v w_1) ∧
 (∀ w,C_58 w → ∀ v95,R_78 v95 w → (callM prog 71 #[v87,v89,v95] (fun v w_1=>C_58 w_1 ∧ S_76 w w_1 ∧ R_80 v w_1) w)) ∧
 (∃ R_82:Value → World → Prop,(∀ v w w_1,S_76 w w_1 → R_82 v w → R_82 v w_1) ∧
 (∀ w,C_58 w → (callM prog 75 #[v97,v98,v100] (fun v w_1=>C_58 w_1 ∧ S_76 w w_1 ∧ R_82 v w_1) w)) ∧
 (∃ R_83:Value → World → Prop,(∀ v w w_1,S_76 w w_1 → R_83 v w → R_83 v w_1) ∧
 (∀ w,C_58 w → ∀ v96,R_80 v96 w → ∀ v101,R_82 v101 w → (callM prog 74 #[v86,v96,v101] (fun v w_1=>C_58 w_1 ∧ S_76 w w_1 ∧ R_83 v w_1) w)) ∧
 (∃ R_86:Value → World → Prop,(∀ v w w_1,S_76 w w_1 → R_86 v w → R_86 v w_1) ∧
 (∀ w,C_58 w → (callM prog 76 #[v104,v105] (fun v w_1=>C_58 w_1 ∧ S_76 w w_1 ∧ R_86 v w_1) w)) ∧
 (∃ R_87:Value → World → Prop,(∀ v w w_1,S_76 w w_1 → R_87 v w → R_87 v w_1) ∧
 (∀ w,C_58 w → ∀ v106,R_86 v106 w → (callM prog 74 #[v103,v106,v108] (fun v w_1=>C_58 w_1 ∧ S_76 w w_1 ∧ R_87 v w_1) w)) ∧
 (∃ R_89:Value → World → Prop,(∀ v w w_1,S_76 w w_1 → R_89 v w → R_89 v w_1) ∧
 (∀ w,C_58 w → ∀ v102,R_83 v102 w → ∀ v109,R_87 v109 w → (oM prog (.build 45 #[(0,(.tmp 0)),(1,(.tmp 1))]) 45 [v102,v109] (fun v w_1=>C_58 w_1 ∧ S_76 w w_1 ∧ R_89 v w_1) w)) ∧
 (∃ R_92:Value → World → Prop,(∀ v w w_1,S_76 w w_1 → R_92 v w → R_92 v w_1) ∧
 (∀ w,C_58 w → (oM prog (.alloc 45) 0 [] (fun v w_1=>C_58 w_1 ∧ S_76 w w_1 ∧ R_92 v w_1) w)) ∧
 (∀ w,C_58 w → ∀ v94,R_77 v94 w → ∀ v95,R_78 v95 w → ∀ v96,R_80 v96 w → ∀ v101,R_82 v101 w → ∀ v102,R_83 v102 w → ∀ v106,R_86 v106 w → ∀ v109,R_87 v109 w → ∀ v110,R_89 v110 w → ∀ v23,R_92 v23 w → (
 oM prog (.store 45 (.tmp 0) (.tmp 1)) 0 [v23,v110] (fun _ w=>
 heldM w (fun C_102 w=>(((true:Bool) = true) ∧ (oH prog (.load 116 (.tmp 0)) 116 [v20] C_102 (fun v111=>
 oH prog (.fieldAddr 41 (.tmp 0) 5) 0 [v16] C_102 (fun v112=>
 oH prog (.load 3 (.tmp 0)) 3 [v112] C_102 (fun v113=>
 oH prog (.load 116 (.tmp 0)) 116 [v20] C_102 (fun v114=>
 oH prog (.fieldAddr 39 (.tmp 0) 3) 0 [v12] C_102 (fun v115=>
 oH prog (.load 3 (.tmp 0)) 3 [v115] C_102 (fun v116=>
 oH prog (.fieldAddr 45 (.tmp 0) 1) 0 [v23] C_102 (fun v117=>
 oH prog (.load 3 (.tmp 0)) 3 [v117] C_102 (fun v118=>
 ∃ S_111:World → World → Prop,∃ R_112:Value → World → Prop,(∀ v w w_1,S_111 w w_1 → R_112 v w → R_112 v w_1) ∧
 (∀ w,C_102 w → (oM prog (.buildSlice 22 1 #[(0,(.tmp 0))]) 22 [v118] (fun v w_1=>C_102 w_1 ∧ S_111 w w_1 ∧ R_112 v w_1) w)) ∧
 (∃ R_113:Value → World → Prop,(∀ v w w_1,S_111 w w_1 → R_113 v w → R_113 v w_1) ∧
 (∀ w,C_102 w → ∀ v119,R_112 v119 w → (callM prog 71 #[v114,v116,v119] (fun v w_1=>C_102 w_1 ∧ S_111 w w_1 ∧ R_113 v w_1) w)) ∧
 (∀ w,C_102 w → ∀ v119,R_112 v119 w → ∀ v120,R_113 v120 w → (
 callM prog 77 #[v111,v113,v120] (fun v121 w=>
 oM prog (.fieldAddr 45 (.tmp 0) 2) 0 [v23] (fun v122 w=>
 oM prog (.store 3 (.tmp 0) (.tmp 1)) 0 [v122,v121] (fun _ w=>
 oM prog (.fieldAddr 39 (.tmp 0) 0) 0 [v12] (fun v123 w=>
 oM prog (.load 22 (.tmp 0)) 22 [v123] (fun v124 w=>
 callM prog 69 #[v124] (fun v125 w=>
 oM prog (.call (Go.Call.mk (.builtin .len) #[(.tmp 0)] #[22])) 3 [v125] (fun v126 w=>
 loopM [undef,undef,(.int .i64 0)] w (fun J_123 m_124 l_125 u_l_125 w0_l_125=>(fun w=>(
 oM prog (.binOp .lss 3 (.tmp 0) (.tmp 1) 3) 0 [(l_125.getD 2 undef),v126] (fun v128 w=>
 condM v128
 (oM prog (.indexAddr 22 (.tmp 0) (.tmp 1)) 0 [v125,(l_125.getD 2 undef)] (fun v130 w=>
 oM prog (.load 3 (.tmp 0)) 3 [v130] (fun v131 w=>
 heldM w (fun C_129 w=>(((true:Bool) = true) ∧ (oH prog (.fieldAddr 45 (.tmp 0) 3) 0 [v23] C_129 (fun v132=>
 oH prog (.load 22 (.tmp 0)) 22 [v132] C_129 (fun v133=>
 oH prog (.load 116 (.tmp 0)) 116 [v20] C_129 (fun v134=>
 oH prog (.fieldAddr 49 (.tmp 0) 1) 0 [v18] C_129 (fun v135=>
 oH prog (.load 22 (.tmp 0)) 22 [v135] C_129 (fun v136=>
 pureH (l_125.getD 2 undef) C_129 (fun v137=>
 oH prog (.indexAddr 22 (.tmp 0) (.tmp 1)) 0 [v136,v137] C_129 (fun v138=>
 oH prog (.load 3 (.tmp 0)) 3 [v138] C_129 (fun v139=>
 oH prog (.load 116 (.tmp 0)) 116 [v20] C_129 (fun v140=>
 pureH a6 C_129 (fun v141=>
 oH prog (.fieldAddr 45 (.tmp 0) 0) 0 [v23] C_129 (fun v142=>
 oH prog (.load 3 (.tmp 0)) 3 [v142] C_129 (fun v143=>
 pureH v131 C_129 (fun v144=>
 ∃ S_143:World → World → Prop,∃ R_144:Value → World → Prop,(∀ v w w_1,S_143 w w_1 → R_144 v w → R_144 v w_1) ∧
 (∀ w,C_129 w → (oM prog (.buildSlice 22 2 #[(0,(.tmp 0)),(1,(.tmp 1))]) 22 [v143,v144] (fun v w_1=>C_129 w_1 ∧ S_143 w w_1 ∧ R_144 v w_1) w)) ∧
 (∃ R_145:Value → World → Prop,(∀ v w w_1,S_143 w w_1 → R_145 v w → R_145 v w_1) ∧
 (∀ w,C_129 w → ∀ v145,R_144 v145 w → (callM prog 71 #[v140,v141,v145] (fun v w_1=>C_129 w_1 ∧ S_143 w w_1 ∧ R_145 v w_1) w)) ∧
 (∃ R_147:Value → World → Prop,(∀ v w w_1,S_143 w w_1 → R_147 v w → R_147 v w_1) ∧
 (∀ w,C_129 w → ∀ v146,R_145 v146 w → (callM prog 77 #[v134,v139,v146] (fun v w_1=>C_129 w_1 ∧ S_143 w w_1 ∧ R_147 v w_1) w)) ∧
 (∃ R_149:Value → World → Prop,(∀ v w w_1,S_143 w w_1 → R_149 v w → R_149 v w_1) ∧
 (∀ w,C_129 w → ∀ v147,R_147 v147 w → (oM prog (.buildSlice 22 1 #[(0,(.tmp 0))]) 22 [v147] (fun v w_1=>C_129 w_1 ∧ S_143 w w_1 ∧ R_149 v w_1) w)) ∧
 (∀ w,C_129 w → ∀ v145,R_144 v145 w → ∀ v146,R_145 v146 w → ∀ v147,R_147 v147 w → ∀ v148,R_149 v148 w → (
 oM prog (.call (Go.Call.mk (.builtin .append) #[(.tmp 0),(.tmp 1)] #[22,22])) 22 [v133,v148] (fun v149 w=>
 oM prog (.fieldAddr 45 (.tmp 0) 3) 0 [v23] (fun v150 w=>
 oM prog (.store 22 (.tmp 0) (.tmp 1)) 0 [v150,v149] (fun _ w=>
 oM prog (.binOp .add 3 (.tmp 0) (.tmp 1) 3) 3 [(l_125.getD 2 undef),(.int .i64 1)] (fun v151 w=>
 J_123 [(l_125.getD 2 undef),v131,v151] w ∧ m_124 [(l_125.getD 2 undef),v131,v151] w < m_124 l_125 w0_l_125) w) w) w) w)))))))))))))))))))))) w) w)
 (oM prog (.load 32 (.tmp 0)) 32 [v7] (fun v153 w=>
 oM prog (.load 39 (.tmp 0)) 39 [v12] (fun v155 w=>
 oM prog (.load 45 (.tmp 0)) 45 [v23] (fun v156 w=>
 callM prog 72 #[v153,a2,v155,v156] (fun v157 w=>
 oM prog (.extract (.tmp 0) 0) 41 [v157] (fun v158 w=>
 oM prog (.extract (.tmp 0) 1) 4 [v157] (fun v159 w=>
 oM prog (.alloc 41) 0 [] (fun v26 w=>
 oM prog (.store 41 (.tmp 0) (.tmp 1)) 0 [v26,v158] (fun _ w=>
 oM prog (.unOp .not 4 (.tmp 0)) 4 [v159] (fun v161 w=>
 gdM (gd v161 false) (oM prog (.load 41 (.tmp 0)) 41 [v26]) (fun v163 w=>
 gdM (gd v161 false) (oM prog (.load 41 (.tmp 0)) 41 [v16]) (fun v164 w=>
 gdM (gd v161 false) (oM prog (.binOp .neq 41 (.tmp 0) (.tmp 1) 41) 4 [v163,v164]) (fun v165 w=>
 oM prog (.pick (.tmp 0) (.tmp 1) (.tmp 2)) 4 [v161,(.bool true),v165] (fun v166 w=>
 condM v166
 (oM prog (.build 45 #[]) 45 [] (fun v167 w=>
 oM prog (.store 45 (.tmp 0) (.tmp 1)) 0 [v14,v167] (fun _ w=>
 ∃ r_171,(do loadVar 45 (← asAddr v14):Sem Value).run prog w = .ok r_171 w ∧ K (.tuple #[r_171,(.bool false)]) w) w) w)
 (oM prog (.load 45 (.tmp 0)) 45 [v23] (fun v168 w=>
 oM prog (.store 45 (.tmp 0) (.tmp 1)) 0 [v14,v168] (fun _ w=>
 ∃ r_173,(do loadVar 45 (← asAddr v14):Sem Value).run prog w = .ok r_173 w ∧ K (.tuple #[r_173,(.bool true)]) w) w) w)) w) w) w) w) w) w) w) w) w) w) w) w) w)) w)) w0_l_125)) w) w) w) w) w) w) w))))))))))))))) w)))))))))))))))))))))))))))))))) w) w) w) w) w) w) w) w) w) w) w) w) w) w) w) w) w) w) w) w) w) w) w) w) w) w) w) w) w) w) w) w) w) w) w) w) w) w) w) w) w) w) w) w) w) w) w) w) w) w) w) w) w) w) w) w) w) w
theorem sh_16_ok {a0 a1 a2 a3 a4 a5 a6:Value} {K:Value → World → Prop} {w:World} (h:sh_16 a0 a1 a2 a3 a4 a5 a6 K w):callM prog 16 #[a0,a1,a2,a3,a4,a5,a6] K w:=
 calls_of_code (fun i=>bif Nat.beq i 6 then .free [0,1,2,3,4,5,6,7,11,12,13,14,17,18,19,21,22] [8,9,10,15,16,20,23,24,25] [26] else bif Nat.beq i 7 then .free [0,1,2,3,4,5,6,7] [8,9] [10,11,12] else bif Nat.beq i 11 then .free [0,1,2,3,4,5,6,7,8,9,10,11,12] [13,14,15,16] [17,18,19] else 0) (fn:=Tryz.f16) (rs:=[.cell 14 45,.tmp 15]) Tryz.func16 rfl rfl (by kernel_rfl) (Nat.le_of_ble_eq_true rfl) (Eq.mp (by kernel_rfl) h)
def sh_63 (a0 a1:Value) (K:Value → World → Prop) (w:World):Prop:=
 oM prog (.box 30 (.tmp 0)) 0 [a0] (fun v2 w=>
 oM prog (.box 24 (.tmp 0)) 0 [a1] (fun v3 w=>
 oM prog (.alloc 32) 0 [] (fun v4 w=>
 oM prog (.makeFunc (Go.Fn.func 132) #[] #[(.tmp 0)]) 138 [v2] (fun v10 w=>
 oM prog (.load 30 (.tmp 0)) 30 [v2] (fun v11 w=>
 callM prog 131 #[v11] (fun v12 w=>
 oM prog (.unOp .not 4 (.tmp 0)) 4 [v12] (fun v13 w=>
 gdM (gd v13 false) (oM prog (.fieldAddr 24 (.tmp 0) 0) 0 [v3]) (fun v15 w=>
 gdM (gd v13 false) (oM prog (.load 22 (.tmp 0)) 22 [v15]) (fun v16 w=>
 gdM (gd v13 false) (oM prog (.call (Go.Call.mk (.builtin .len) #[(.tmp 0)] #[22])) 3 [v16]) (fun v17 w=>
 gdM (gd v13 false) (oM prog (.binOp .lss 3 (.tmp 0) (.tmp 1) 3) 4 [v17,(.int .i64 2)]) (fun v18 w=>
 oM prog (.pick (.tmp 0) (.tmp 1) (.tmp 2)) 4 [v13,(.bool true),v18] (fun v19 w=>
 gdM (gd v19 false) (oM prog (.fieldAddr 24 (.tmp 0) 0) 0 [v3]) (fun v21 w=>
 gdM (gd v19 false) (oM prog (.load 22 (.tmp 0)) 22 [v21]) (fun v22 w=>
 gdM (gd v19 false) (oM prog (.call (Go.Call.mk (.builtin .len) #[(.tmp 0)] #[22])) 3 [v22]) (fun v23 w=>
 gdM (gd v19 false) (oM prog (.binOp .gtr 3 (.tmp 0) (.tmp 1) 3) 4 [v23,(.int .i64 7)]) (fun v24 w=>
 oM prog (.pick (.tmp 0) (.tmp 1) (.tmp 2)) 4 [v19,(.bool true),v24] (fun v25 w=>
 gdM (gd v25 false) (oM prog (.fieldAddr 24 (.tmp 0) 0) 0 [v3]) (fun v27 w=>
 gdM (gd v25 false) (oM prog (.load 22 (.tmp 0)) 22 [v27]) (fun v28 w=>
 gdM (gd v25 false) (pureM v10) (fun v29 w=>
 gdM (gd v25 false) (callM prog 92 #[v28,v29]) (fun v30 w=>
 oM prog (.pick (.tmp 0) (.tmp 1) (.tmp 2)) 4 [v25,(.bool true),v30] (fun v31 w=>
 gdM (gd v31 false) (pureM v10) (fun v33 w=>
 gdM (gd v31 false) (oM prog (.fieldAddr 24 (.tmp 0) 1) 0 [v3]) (fun v34 w=>
 gdM (gd v31 false) (oM prog (.load 3 (.tmp 0)) 3 [v34]) (fun v35 w=>
 gdM (gd v31 false) (oM prog (.call (Go.Call.mk (.value (.tmp 0)) #[(.tmp 1)] #[3])) 4 [v33,v35]) (fun v36 w=>
 oM prog (.pick (.tmp 0) (.tmp 1) (.tmp 2)) 4 [v31,(.bool true),v36] (fun v37 w=>
 condM v37
 (oM prog (.build 32 #[]) 32 [] (fun v38 w=>
 oM prog (.store 32 (.tmp 0) (.tmp 1)) 0 [v4,v38] (fun _ w=>
 ∃ r_29,(do loadVar 32 (← asAddr v4):Sem Value).run prog w = .ok r_29 w ∧ K (.tuple #[r_29,(.bool false)]) w) w) w)
 (heldM w (fun C_30 w=>(((true:Bool) = true) ∧ (oH prog (.load 30 (.tmp 0)) 30 [v2] C_30 (fun v39=>
 oH prog (.load 30 (.tmp 0)) 30 [v2] C_30 (fun v40=>
 oH prog (.fieldAddr 30 (.tmp 0) 2) 0 [v2] C_30 (fun v41=>
 oH prog (.load 3 (.tmp 0)) 3 [v41] C_30 (fun v42=>
 oH prog (.fieldAddr 24 (.tmp 0) 1) 0 [v3] C_30 (fun v43=>
 oH prog (.load 3 (.tmp 0)) 3 [v43] C_30 (fun v44=>
 ∃ S_37:World → World → Prop,∃ R_38:Value → World → Prop,(∀ v w w_1,S_37 w w_1 → R_38 v w → R_38 v w_1) ∧
 (∀ w,C_30 w → (callM prog 24 #[v40,v42,v44] (fun v w_1=>C_30 w_1 ∧ S_37 w w_1 ∧ R_38 v w_1) w)) ∧
 (∃ R_39:Value → World → Prop,(∀ v w w_1,S_37 w w_1 → R_39 v w → R_39 v w_1) ∧
 (∀ w,C_30 w → ∀ v45,R_38 v45 w → (oM prog (.build 32 #[(0,(.tmp 0)),(2,(.tmp 1))]) 32 [v39,v45] (fun v w_1=>C_30 w_1 ∧ S_37 w w_1 ∧ R_39 v w_1) w)) ∧
 (∃ R_41:Value → World → Prop,(∀ v w w_1,S_37 w w_1 → R_41 v w → R_41 v w_1) ∧
 (∀ w,C_30 w → (oM prog (.alloc 32) 0 [] (fun v w_1=>C_30 w_1 ∧ S_37 w w_1 ∧ R_41 v w_1) w)) ∧
 (∀ w,C_30 w → ∀ v45,R_38 v45 w → ∀ v46,R_39 v46 w → ∀ v7,R_41 v7 w → (
 oM prog (.store 32 (.tmp 0) (.tmp 1)) 0 [v7,v46] (fun _ w=>
 oM prog (.fieldAddr 24 (.tmp 0) 0) 0 [v3] (fun v47 w=>
 oM prog (.load 22 (.tmp 0)) 22 [v47] (fun v48 w=>
 oM prog (.call (Go.Call.mk (.builtin .len) #[(.tmp 0)] #[22])) 3 [v48] (fun v49 w=>
 loopM [undef,(.int .i64 0)] w (fun J_48 m_49 l_50 u_l_50 w0_l_50=>(fun w=>(
 oM prog (.binOp .lss 3 (.tmp 0) (.tmp 1) 3) 0 [(l_50.getD 1 undef),v49] (fun v51 w=>
 condM v51
 (oM prog (.indexAddr 22 (.tmp 0) (.tmp 1)) 0 [v48,(l_50.getD 1 undef)] (fun v52 w=>
 oM prog (.load 3 (.tmp 0)) 3 [v52] (fun v53 w=>
 heldM w (fun C_54 w=>(((true:Bool) = true) ∧ (oH prog (.fieldAddr 32 (.tmp 0) 1) 0 [v7] C_54 (fun v54=>
 oH prog (.load 22 (.tmp 0)) 22 [v54] C_54 (fun v55=>
 oH prog (.load 30 (.tmp 0)) 30 [v2] C_54 (fun v56=>
 oH prog (.fieldAddr 30 (.tmp 0) 2) 0 [v2] C_54 (fun v57=>
 oH prog (.load 3 (.tmp 0)) 3 [v57] C_54 (fun v58=>
 pureH v53 C_54 (fun v59=>
 ∃ S_61:World → World → Prop,∃ R_62:Value → World → Prop,(∀ v w w_1,S_61 w w_1 → R_62 v w → R_62 v w_1) ∧
 (∀ w,C_54 w → (callM prog 24 #[v56,v58,v59] (fun v w_1=>C_54 w_1 ∧ S_61 w w_1 ∧ R_62 v w_1) w)) ∧
 (∃ R_63:Value → World → Prop,(∀ v w w_1,S_61 w w_1 → R_63 v w → R_63 v w_1) ∧
 (∀ w,C_54 w → ∀ v60,R_62 v60 w → (oM prog (.buildSlice 22 1 #[(0,(.tmp 0))]) 22 [v60] (fun v w_1=>C_54 w_1 ∧ S_61 w w_1 ∧ R_63 v w_1) w)) ∧
 (∀ w,C_54 w → ∀ v60,R_62 v60 w → ∀ v61,R_63 v61 w → (
 oM prog (.call (Go.Call.mk (.builtin .append) #[(.tmp 0),(.tmp 1)] #[22,22])) 22 [v55,v61] (fun v62 w=>
 oM prog (.fieldAddr 32 (.tmp 0) 1) 0 [v7] (fun v63 w=>
 oM prog (.store 22 (.tmp 0) (.tmp 1)) 0 [v63,v62] (fun _ w=>
 oM prog (.binOp .add 3 (.tmp 0) (.tmp 1) 3) 3 [(l_50.getD 1 undef),(.int .i64 1)] (fun v64 w=>
 J_48 [v53,v64] w ∧ m_49 [v53,v64] w < m_49 l_50 w0_l_50) w) w) w) w))))))))))))) w) w)
 (oM prog (.load 32 (.tmp 0)) 32 [v7] (fun v65 w=>
 oM prog (.store 32 (.tmp 0) (.tmp 1)) 0 [v4,v65] (fun _ w=>
 ∃ r_71,(do loadVar 32 (← asAddr v4):Sem Value).run prog w = .ok r_71 w ∧ K (.tuple #[r_71,(.bool true)]) w) w) w)) w)) w0_l_50)) w) w) w) w))))))))))))))) w) w) w) w) w) w) w) w) w) w) w) w) w) w) w) w) w) w) w) w) w) w) w) w) w) w) w
theorem sh_63_ok {a0 a1:Value} {K:Value → World → Prop} {w:World} (h:sh_63 a0 a1 K w):callM prog 63 #[a0,a1] K w:=
 calls_of_code (fun i=>bif Nat.beq i 4 then .free [0,1,2,3,4,5] [6,7,8] [9] else bif Nat.beq i 8 then .free [0,1,2,3,4,5] [6,7] [8,9,10] else 0) (fn:=Tryz.f63) (rs:=[.cell 4 32,.tmp 5]) Tryz.func63 rfl rfl (by kernel_rfl) (Nat.le_of_ble_eq_true rfl) (Eq.mp (by kernel_rfl) h)
def sh_132 (a0 a1:Value) (K:Value → World → Prop) (w:World):Prop:=
 oM prog (.binOp .lss 3 (.tmp 0) (.tmp 1) 3) 4 [a0,(.int .i64 1)] (fun v5 w=>
 gdM (gd v5 false) (pureM a0) (fun v7 w=>
 gdM (gd v5 false) (oM prog (.fieldAddr 30 (.tmp 0) 1) 0 [a1]) (fun v8 w=>
 gdM (gd v5 false) (oM prog (.load 3 (.tmp 0)) 3 [v8]) (fun v9 w=>
 gdM (gd v5 false) (oM prog (.binOp .geq 3 (.tmp 0) (.tmp 1) 3) 4 [v7,v9]) (fun v10 w=>
 oM prog (.pick (.tmp 0) (.tmp 1) (.tmp 2)) 4 [v5,(.bool true),v10] (fun v11 w=>
 K v11 w) w) w) w) w) w) w
theorem sh_132_ok {a0 a1:Value} {K:Value → World → Prop} {w:World} (h:sh_132 a0 a1 K w):callM prog 132 #[a0,a1] K w:=
 calls_of_code (fun _=>0) (fn:=Tryz.f132) (rs:=[.tmp 3]) Tryz.func132 rfl rfl (by kernel_rfl) (Nat.le_of_ble_eq_true rfl) (Eq.mp (by kernel_rfl) h)
def sh_38 (a0 a1 a2 a3:Value) (K:Value → World → Prop) (w:World):Prop:=
 oM prog (.box 32 (.tmp 0)) 0 [a0] (fun v4 w=>
 oM prog (.call (Go.Call.mk (.builtin .len) #[(.tmp 0)] #[85])) 3 [a2] (fun v17 w=>
 oM prog (.load 32 (.tmp 0)) 32 [v4] (fun v19 w=>
 callM prog 64 #[v19] (fun v20 w=>
 oM prog (.extract (.tmp 0) 0) 116 [v20] (fun v21 w=>
 oM prog (.extract (.tmp 0) 1) 4 [v20] (fun v22 w=>
 oM prog (.alloc 116) 0 [] (fun v10 w=>
 oM prog (.store 116 (.tmp 0) (.tmp 1)) 0 [v10,v21] (fun _ w=>
 oM prog (.unOp .not 4 (.tmp 0)) 4 [v22] (fun v24 w=>
 gdM (gd v24 false) (pureM v17) (fun v26 w=>
 gdM (gd v24 false) (oM prog (.binOp .lss 3 (.tmp 0) (.tmp 1) 3) 4 [v26,(.int .i64 1)]) (fun v27 w=>
 oM prog (.pick (.tmp 0) (.tmp 1) (.tmp 2)) 4 [v24,(.bool true),v27] (fun v28 w=>
 gdM (gd v28 false) (pureM v17) (fun v30 w=>
 gdM (gd v28 false) (oM prog (.binOp .gtr 3 (.tmp 0) (.tmp 1) 3) 4 [v30,(.int .i64 5)]) (fun v31 w=>
 oM prog (.pick (.tmp 0) (.tmp 1) (.tmp 2)) 4 [v28,(.bool true),v31] (fun v32 w=>
 condM v32
 (K (.bool false) w)
 (oM prog (.call (Go.Call.mk (.builtin .len) #[(.tmp 0)] #[85])) 3 [a2] (fun v34 w=>
 loopM [undef,undef,(.bool false),undef,(.int .i64 0)] w (fun J_16 m_17 l_18 u_l_18 w0_l_18=>(fun w=>(
 oM prog (.binOp .lss 3 (.tmp 0) (.tmp 1) 3) 0 [(l_18.getD 4 undef),v34] (fun v36 w=>
 condM v36
 (oM prog (.indexAddr 85 (.tmp 0) (.tmp 1)) 0 [a2,(l_18.getD 4 undef)] (fun v38 w=>
 oM prog (.load 91 (.tmp 0)) 91 [v38] (fun v39 w=>
 oM prog (.alloc 91) 0 [] (fun v13 w=>
 oM prog (.store 91 (.tmp 0) (.tmp 1)) 0 [v13,v39] (fun _ w=>
 oM prog (.makeFunc (Go.Fn.func 93) #[] #[(.tmp 0),(.tmp 1)]) 138 [v4,v13] (fun v41 w=>
 callM prog 92 #[a1,v41] (fun v42 w=>
 oM prog (.unOp .not 4 (.tmp 0)) 4 [v42] (fun v44 w=>
 gdM (gd v44 false) (oM prog (.fieldAddr 91 (.tmp 0) 2) 0 [v13]) (fun v46 w=>
 gdM (gd v44 false) (oM prog (.load 9 (.tmp 0)) 9 [v46]) (fun v47 w=>
 gdM (gd v44 false) (oM prog (.call (Go.Call.mk (.builtin .len) #[(.tmp 0)] #[9])) 3 [v47]) (fun v48 w=>
 gdM (gd v44 false) (oM prog (.binOp .gtr 3 (.tmp 0) (.tmp 1) 3) 4 [v48,(.int .i64 8000)]) (fun v49 w=>
 oM prog (.pick (.tmp 0) (.tmp 1) (.tmp 2)) 4 [v44,(.bool true),v49] (fun v50 w=>
 gdM (gd v50 false) (oM prog (.load 32 (.tmp 0)) 32 [v4]) (fun v52 w=>
 gdM (gd v50 false) (oM prog (.fieldAddr 91 (.tmp 0) 0) 0 [v13]) (fun v53 w=>
 gdM (gd v50 false) (oM prog (.load 41 (.tmp 0)) 41 [v53]) (fun v54 w=>
 gdM (gd v50 false) (oM prog (.fieldAddr 91 (.tmp 0) 1) 0 [v13]) (fun v55 w=>
 gdM (gd v50 false) (oM prog (.load 49 (.tmp 0)) 49 [v55]) (fun v56 w=>
 gdM (gd v50 false) (callM prog 36 #[v52,v54,v56]) (fun v57 w=>
 gdM (gd v50 false) (oM prog (.unOp .not 4 (.tmp 0)) 4 [v57]) (fun v58 w=>
 oM prog (.pick (.tmp 0) (.tmp 1) (.tmp 2)) 4 [v50,(.bool true),v58] (fun v59 w=>
 condM v59
 (K (.bool false) w)
 (joinM (fun M_39=>(oM prog (.binOp .add 3 (.tmp 0) (.tmp 1) 3) 3 [(l_18.getD 4 undef),(.int .i64 1)] (fun v62 w=>
 oM prog (.binOp .lss 3 (.tmp 0) (.tmp 1) 3) 4 [v62,v17] (fun v64 w=>
 condM v64
 (heldM w (fun C_43 w=>(((true:Bool) = true) ∧ (oH prog (.load 32 (.tmp 0)) 32 [v4] C_43 (fun v65=>
 pureH a2 C_43 (fun v66=>
 pureH (l_18.getD 4 undef) C_43 (fun v67=>
 oH prog (.binOp .add 3 (.tmp 0) (.tmp 1) 3) 3 [v67,(.int .i64 1)] C_43 (fun v68=>
 oH prog (.indexAddr 85 (.tmp 0) (.tmp 1)) 0 [v66,v68] C_43 (fun v69=>
 oH prog (.fieldAddr 91 (.tmp 0) 0) 0 [v69] C_43 (fun v70=>
 oH prog (.load 41 (.tmp 0)) 41 [v70] C_43 (fun v71=>
 oH prog (.fieldAddr 91 (.tmp 0) 2) 0 [v13] C_43 (fun v72=>
 oH prog (.load 9 (.tmp 0)) 9 [v72] C_43 (fun v73=>
 ∃ S_53:World → World → Prop,∀ w,C_43 w → (
 callM prog 39 #[v65,v71,v73] (fun v74 w=>
 M_39 [v74] w) w))))))))))))))
 (M_39 [a3] w)) w) w))
 (fun l_40 u_l_40 w=>(oM prog (.fieldAddr 91 (.tmp 0) 1) 0 [v13] (fun v75 w=>
 oM prog (.fieldAddr 49 (.tmp 0) 0) 0 [v75] (fun v76 w=>
 oM prog (.load 3 (.tmp 0)) 3 [v76] (fun v77 w=>
 oM prog (.binOp .neq 3 (.tmp 0) (.tmp 1) 3) 4 [v77,(l_40.getD 0 undef)] (fun v79 w=>
 condM v79
 (K (.bool false) w)
 (oM prog (.binOp .add 3 (.tmp 0) (.tmp 1) 3) 3 [(l_18.getD 4 undef),(.int .i64 1)] (fun v80 w=>
 J_16 [(l_18.getD 4 undef),v42,(l_18.getD 2 undef),(l_40.getD 0 undef),v80] w ∧ m_17 [(l_18.getD 4 undef),v42,(l_18.getD 2 undef),(l_40.getD 0 undef),v80] w < m_17 l_18 w0_l_18) w)) w) w) w) w)))) w) w) w) w) w) w) w) w) w) w) w) w) w) w) w) w) w) w) w) w)
 (oM prog (.binOp .sub 3 (.tmp 0) (.tmp 1) 3) 3 [v17,(.int .i64 1)] (fun v83 w=>
 oM prog (.indexAddr 85 (.tmp 0) (.tmp 1)) 0 [a2,v83] (fun v84 w=>
 oM prog (.fieldAddr 91 (.tmp 0) 2) 0 [v84] (fun v85 w=>
 oM prog (.load 9 (.tmp 0)) 9 [v85] (fun v86 w=>
 oM prog (.binOp .eql 9 (.tmp 0) (.const (.string ⟨#[]⟩)) 9) 4 [v86] (fun v87 w=>
 K v87 w) w) w) w) w) w)) w)) w0_l_18)) w)) w) w) w) w) w) w) w) w) w) w) w) w) w) w) w
theorem sh_38_ok {a0 a1 a2 a3:Value} {K:Value → World → Prop} {w:World} (h:sh_38 a0 a1 a2 a3 K w):callM prog 38 #[a0,a1,a2,a3] K w:=
 calls_of_code (fun _=>.free [0,1,2,3,4,5,6,7,8] [] [9,10]) (fn:=Tryz.f38) (rs:=[.tmp 8]) Tryz.func38 rfl rfl (by kernel_rfl) (Nat.le_of_ble_eq_true rfl) (Eq.mp (by kernel_rfl) h)
def sh_75 (a0 a1 a2:Value) (K:Value → World → Prop) (w:World):Prop:=
 oM prog (.box 116 (.tmp 0)) 0 [a0] (fun v3 w=>
 oM prog (.box 24 (.tmp 0)) 0 [a1] (fun v4 w=>
 callM prog 69 #[a2] (fun v11 w=>
 oM prog (.call (Go.Call.mk (.builtin .len) #[(.tmp 0)] #[22])) 3 [v11] (fun v12 w=>
 loopM [undef,undef,(.int .i64 0),(.int .i64 0)] w (fun J_5 m_6 l_7 u_l_7 w0_l_7=>(fun w=>(
 oM prog (.binOp .lss 3 (.tmp 0) (.tmp 1) 3) 0 [(l_7.getD 3 undef),v12] (fun v14 w=>
 condM v14
 (oM prog (.indexAddr 22 (.tmp 0) (.tmp 1)) 0 [v11,(l_7.getD 3 undef)] (fun v16 w=>
 oM prog (.load 3 (.tmp 0)) 3 [v16] (fun v17 w=>
 heldM w (fun C_11 w=>(((true:Bool) = true) ∧ (oH prog (.load 116 (.tmp 0)) 116 [v3] C_11 (fun v18=>
 pureH (l_7.getD 2 undef) C_11 (fun v19=>
 oH prog (.load 116 (.tmp 0)) 116 [v3] C_11 (fun v20=>
 pureH v17 C_11 (fun v21=>
 oH prog (.fieldAddr 24 (.tmp 0) 0) 0 [v4] C_11 (fun v22=>
 oH prog (.load 22 (.tmp 0)) 22 [v22] C_11 (fun v23=>
 pureH (l_7.getD 3 undef) C_11 (fun v24=>
 oH prog (.indexAddr 22 (.tmp 0) (.tmp 1)) 0 [v23,v24] C_11 (fun v25=>
 oH prog (.load 3 (.tmp 0)) 3 [v25] C_11 (fun v26=>
 ∃ S_21:World → World → Prop,∃ R_22:Value → World → Prop,(∀ v w w_1,S_21 w w_1 → R_22 v w → R_22 v w_1) ∧
 (∀ w,C_11 w → (oM prog (.buildSlice 22 1 #[(0,(.tmp 0))]) 22 [v26] (fun v w_1=>C_11 w_1 ∧ S_21 w w_1 ∧ R_22 v w_1) w)) ∧
 (∃ R_23:Value → World → Prop,(∀ v w w_1,S_21 w w_1 → R_23 v w → R_23 v w_1) ∧
 (∀ w,C_11 w → ∀ v27,R_22 v27 w → (callM prog 71 #[v20,v21,v27] (fun v w_1=>C_11 w_1 ∧ S_21 w w_1 ∧ R_23 v w_1) w)) ∧
 (∀ w,C_11 w → ∀ v27,R_22 v27 w → ∀ v28,R_23 v28 w → (
 callM prog 70 #[v18,v19,v28] (fun v29 w=>
 oM prog (.binOp .add 3 (.tmp 0) (.tmp 1) 3) 3 [(l_7.getD 3 undef),(.int .i64 1)] (fun v30 w=>
 J_5 [(l_7.getD 3 undef),v17,v29,v30] w ∧ m_6 [(l_7.getD 3 undef),v17,v29,v30] w < m_6 l_7 w0_l_7) w) w)))))))))))))))) w) w)
 (K (l_7.getD 2 undef) w)) w)) w0_l_7)) w) w) w) w
theorem sh_75_ok {a0 a1 a2:Value} {K:Value → World → Prop} {w:World} (h:sh_75 a0 a1 a2 K w):callM prog 75 #[a0,a1,a2] K w:=
 calls_of_code (fun _=>.free [0,1,2,3,4,5,6,7,8] [9,10] [11,12]) (fn:=Tryz.f75) (rs:=[.tmp 6]) Tryz.func75 rfl rfl (by kernel_rfl) (Nat.le_of_ble_eq_true rfl) (Eq.mp (by kernel_rfl) h)
def sh_73 (a0 a1:Value) (K:Value → World → Prop) (w:World):Prop:=
 oM prog (.box 32 (.tmp 0)) 0 [a0] (fun v2 w=>
 oM prog (.box 24 (.tmp 0)) 0 [a1] (fun v3 w=>
 oM prog (.fieldAddr 32 (.tmp 0) 0) 0 [v2] (fun v8 w=>
 oM prog (.load 30 (.tmp 0)) 30 [v8] (fun v9 w=>
 oM prog (.load 24 (.tmp 0)) 24 [v3] (fun v10 w=>
 callM prog 63 #[v9,v10] (fun v11 w=>
 oM prog (.extract (.tmp 0) 0) 32 [v11] (fun v12 w=>
 oM prog (.extract (.tmp 0) 1) 4 [v11] (fun v13 w=>
 oM prog (.alloc 32) 0 [] (fun v5 w=>
 oM prog (.store 32 (.tmp 0) (.tmp 1)) 0 [v5,v12] (fun _ w=>
 gdM (gd v13 true) (oM prog (.fieldAddr 32 (.tmp 0) 2) 0 [v5]) (fun v16 w=>
 gdM (gd v13 true) (oM prog (.load 3 (.tmp 0)) 3 [v16]) (fun v17 w=>
 gdM (gd v13 true) (oM prog (.fieldAddr 32 (.tmp 0) 2) 0 [v2]) (fun v18 w=>
 gdM (gd v13 true) (oM prog (.load 3 (.tmp 0)) 3 [v18]) (fun v19 w=>
 gdM (gd v13 true) (oM prog (.binOp .eql 3 (.tmp 0) (.tmp 1) 3) 4 [v17,v19]) (fun v20 w=>
 oM prog (.pick (.tmp 0) (.tmp 1) (.tmp 2)) 4 [v13,v20,(.bool false)] (fun v21 w=>
 gdM (gd v21 true) (oM prog (.fieldAddr 32 (.tmp 0) 1) 0 [v5]) (fun v23 w=>
 gdM (gd v21 true) (oM prog (.load 22 (.tmp 0)) 22 [v23]) (fun v24 w=>
 gdM (gd v21 true) (oM prog (.fieldAddr 32 (.tmp 0) 1) 0 [v2]) (fun v25 w=>
 gdM (gd v21 true) (oM prog (.load 22 (.tmp 0)) 22 [v25]) (fun v26 w=>
 gdM (gd v21 true) (callM prog 137 #[v24,v26]) (fun v27 w=>
 oM prog (.pick (.tmp 0) (.tmp 1) (.tmp 2)) 4 [v21,v27,(.bool false)] (fun v28 w=>
 K v28 w) w) w) w) w) w) w) w) w) w) w) w) w) w) w) w) w) w) w) w) w) w) w
theorem sh_73_ok {a0 a1:Value} {K:Value → World → Prop} {w:World} (h:sh_73 a0 a1 K w):callM prog 73 #[a0,a1] K w:=
 calls_of_code (fun _=>0) (fn:=Tryz.f73) (rs:=[.tmp 4]) Tryz.func73 rfl rfl (by kernel_rfl) (Nat.le_of_ble_eq_true rfl) (Eq.mp (by kernel_rfl) h)
def sh_137 (a0 a1:Value) (K:Value → World → Prop) (w:World):Prop:=
 oM prog (.call (Go.Call.mk (.builtin .len) #[(.tmp 0)] #[22])) 3 [a0] (fun v7 w=>
 oM prog (.call (Go.Call.mk (.builtin .len) #[(.tmp 0)] #[22])) 3 [a1] (fun v9 w=>
 oM prog (.binOp .neq 3 (.tmp 0) (.tmp 1) 3) 4 [v7,v9] (fun v10 w=>
 condM v10
 (K (.bool false) w)
 (oM prog (.call (Go.Call.mk (.builtin .len) #[(.tmp 0)] #[22])) 3 [a0] (fun v12 w=>
 loopM [undef,(.bool false),(.int .i64 0)] w (fun J_5 m_6 l_7 u_l_7 w0_l_7=>(fun w=>(
 oM prog (.binOp .lss 3 (.tmp 0) (.tmp 1) 3) 0 [(l_7.getD 2 undef),v12] (fun v14 w=>
 condM v14
 (heldM w (fun C_9 w=>(((true:Bool) = true) ∧ (pureH a0 C_9 (fun v16=>
 pureH (l_7.getD 2 undef) C_9 (fun v17=>
 oH prog (.indexAddr 22 (.tmp 0) (.tmp 1)) 0 [v16,v17] C_9 (fun v18=>
 oH prog (.load 3 (.tmp 0)) 3 [v18] C_9 (fun v19=>
 pureH a1 C_9 (fun v20=>
 pureH (l_7.getD 2 undef) C_9 (fun v21=>
 oH prog (.indexAddr 22 (.tmp 0) (.tmp 1)) 0 [v20,v21] C_9 (fun v22=>
 oH prog (.load 3 (.tmp 0)) 3 [v22] C_9 (fun v23=>
 oH prog (.binOp .neq 3 (.tmp 0) (.tmp 1) 3) 4 [v19,v23] C_9 (fun v24=>
 ∃ S_19:World → World → Prop,∀ w,C_9 w → (
 condM v24
 (K (.bool false) w)
 (oM prog (.binOp .add 3 (.tmp 0) (.tmp 1) 3) 3 [(l_7.getD 2 undef),(.int .i64 1)] (fun v25 w=>
 J_5 [(l_7.getD 2 undef),(l_7.getD 1 undef),v25] w ∧ m_6 [(l_7.getD 2 undef),(l_7.getD 1 undef),v25] w < m_6 l_7 w0_l_7) w)))))))))))))))
 (K (.bool true) w)) w)) w0_l_7)) w)) w) w) w
theorem sh_137_ok {a0 a1:Value} {K:Value → World → Prop} {w:World} (h:sh_137 a0 a1 K w):callM prog 137 #[a0,a1] K w:=
 calls_of_code (fun _=>.free [0,1,2,3,4,5,6,7,8] [] []) (fn:=Tryz.f137) (rs:=[.tmp 4]) Tryz.func137 rfl rfl (by kernel_rfl) (Nat.le_of_ble_eq_true rfl) (Eq.mp (by kernel_rfl) h)
def sh_93 (a0 a1 a2:Value) (K:Value → World → Prop) (w:World):Prop:=
 oM prog (.load 32 (.tmp 0)) 32 [a1] (fun v5 w=>
 oM prog (.fieldAddr 91 (.tmp 0) 0) 0 [a2] (fun v7 w=>
 oM prog (.load 41 (.tmp 0)) 41 [v7] (fun v8 w=>
 callM prog 29 #[v5,a0,v8] (fun v9 w=>
 K v9 w) w) w) w) w
theorem sh_93_ok {a0 a1 a2:Value} {K:Value → World → Prop} {w:World} (h:sh_93 a0 a1 a2 K w):callM prog 93 #[a0,a1,a2] K w:=
 calls_of_code (fun _=>0) (fn:=Tryz.f93) (rs:=[.tmp 4]) Tryz.func93 rfl rfl (by kernel_rfl) (Nat.le_of_ble_eq_true rfl) (Eq.mp (by kernel_rfl) h)
def sh_72 (a0 a1 a2 a3:Value) (K:Value → World → Prop) (w:World):Prop:=
 oM prog (.box 32 (.tmp 0)) 0 [a0] (fun v4 w=>
 oM prog (.box 39 (.tmp 0)) 0 [a2] (fun v6 w=>
 oM prog (.box 45 (.tmp 0)) 0 [a3] (fun v7 w=>
 oM prog (.alloc 41) 0 [] (fun v8 w=>
 oM prog (.load 32 (.tmp 0)) 32 [v4] (fun v14 w=>
 oM prog (.fieldAddr 39 (.tmp 0) 0) 0 [v6] (fun v16 w=>
 oM prog (.load 22 (.tmp 0)) 22 [v16] (fun v17 w=>
 oM prog (.fieldAddr 39 (.tmp 0) 1) 0 [v6] (fun v18 w=>
 oM prog (.load 37 (.tmp 0)) 37 [v18] (fun v19 w=>
 oM prog (.load 45 (.tmp 0)) 45 [v7] (fun v20 w=>
 callM prog 17 #[v14,a1,v17,v19,v20] (fun v21 w=>
 oM prog (.extract (.tmp 0) 0) 3 [v21] (fun v22 w=>
 oM prog (.extract (.tmp 0) 1) 54 [v21] (fun v23 w=>
 oM prog (.binOp .neq 54 (.tmp 0) (.const (.int .i64 0)) 54) 4 [v23] (fun v25 w=>
 gdM (gd v25 false) (pureM v22) (fun v27 w=>
 gdM (gd v25 false) (oM prog (.fieldAddr 39 (.tmp 0) 2) 0 [v6]) (fun v28 w=>
 gdM (gd v25 false) (oM prog (.load 3 (.tmp 0)) 3 [v28]) (fun v29 w=>
 gdM (gd v25 false) (oM prog (.binOp .neq 3 (.tmp 0) (.tmp 1) 3) 4 [v27,v29]) (fun v30 w=>
 oM prog (.pick (.tmp 0) (.tmp 1) (.tmp 2)) 4 [v25,(.bool true),v30] (fun v31 w=>
 condM v31
 (oM prog (.build 41 #[]) 41 [] (fun v32 w=>
 oM prog (.store 41 (.tmp 0) (.tmp 1)) 0 [v8,v32] (fun _ w=>
 ∃ r_21,(do loadVar 41 (← asAddr v8):Sem Value).run prog w = .ok r_21 w ∧ K (.tuple #[r_21,(.bool false)]) w) w) w)
 (oM prog (.load 32 (.tmp 0)) 32 [v4] (fun v34 w=>
 oM prog (.fieldAddr 39 (.tmp 0) 0) 0 [v6] (fun v36 w=>
 oM prog (.load 22 (.tmp 0)) 22 [v36] (fun v37 w=>
 oM prog (.fieldAddr 39 (.tmp 0) 1) 0 [v6] (fun v38 w=>
 oM prog (.load 37 (.tmp 0)) 37 [v38] (fun v39 w=>
 oM prog (.load 45 (.tmp 0)) 45 [v7] (fun v40 w=>
 oM prog (.fieldAddr 39 (.tmp 0) 3) 0 [v6] (fun v41 w=>
 oM prog (.load 3 (.tmp 0)) 3 [v41] (fun v42 w=>
 callM prog 18 #[v34,a1,v37,v39,v40,v42] (fun v43 w=>
 oM prog (.extract (.tmp 0) 0) 41 [v43] (fun v44 w=>
 oM prog (.extract (.tmp 0) 1) 54 [v43] (fun v45 w=>
 oM prog (.alloc 41) 0 [] (fun v12 w=>
 oM prog (.store 41 (.tmp 0) (.tmp 1)) 0 [v12,v44] (fun _ w=>
 oM prog (.load 41 (.tmp 0)) 41 [v12] (fun v46 w=>
 oM prog (.binOp .eql 54 (.tmp 0) (.const (.int .i64 0)) 54) 4 [v45] (fun v48 w=>
 oM prog (.store 41 (.tmp 0) (.tmp 1)) 0 [v8,v46] (fun _ w=>
 ∃ r_36,(do loadVar 41 (← asAddr v8):Sem Value).run prog w = .ok r_36 w ∧ K (.tuple #[r_36,v48]) w) w) w) w) w) w) w) w) w) w) w) w) w) w) w) w) w)) w) w) w) w) w) w) w) w) w) w) w) w) w) w) w) w) w) w) w
theorem sh_72_ok {a0 a1 a2 a3:Value} {K:Value → World → Prop} {w:World} (h:sh_72 a0 a1 a2 a3 K w):callM prog 72 #[a0,a1,a2,a3] K w:=
 calls_of_code (fun _=>0) (fn:=Tryz.f72) (rs:=[.cell 8 41,.tmp 9]) Tryz.func72 rfl rfl (by kernel_rfl) (Nat.le_of_ble_eq_true rfl) (Eq.mp (by kernel_rfl) h)
end Go.Proofs
namespace Go.Proofs.Cd
open Go Go.Sh Go.RowKit Go.Lib CodeSpec
theorem pText_ok (s:List UInt8) (hs:s.length < 2^60) {K:Value → World → Prop} {w:World} (hl:Laid w) (k:∀ w',Below w.heap.size w w' → K (.string ⟨(encText s).toArray⟩) w'):callM Tryz.prog 95 #[.string ⟨s.toArray⟩] K w:=by
 apply sh_95_ok
 unfold sh_95
 have hin:InR (s.length:Nat):=⟨by omega,by omega⟩
 have hi:=itoa_len _ hin
 refine Xa0 ?_
 refine itoa_ok _ hin hl (fun w1 hb1=>?_)
 refine Xa0 ?_
 exact K_eq (k _ hb1) (by simp [encText])
end Go.Proofs.Cd
namespace Go.Proofs
open Go Go.Sh Go.RowKit FdSpec TkSpec CodeSpec
section
variable {K:Value → World → Prop} {w w0:World} {L:List (Addr × Value)}
theorem Valid_ok (s:Stp) (key:Int) (t:Tkt) {v:Value} (hkey:I64 key) (ht:TktR t) (hs:SetR w s v) (hL:Cd.Laid w) (k:∀ w',Below w.heap.size w w' → K (.bool (validM s key t)) w'):callM Tryz.prog 29 #[stpV s v,.int .i64 key,tktV t] K w:=by
 apply sh_29_ok
 unfold sh_29
 obtain ⟨ad,c,rfl⟩:=hs.ints.isSlice
 refine box_kn (cs:=stpC s (.slice ad s.bases.length c)) rfl (.start w) fun b W hk hb1 hb=>?_
 refine box_kn (cs:=tktC t) rfl hk fun b2 W2 hk hb2 hbb=>?_
 refine Xa hk.cells ?_
 refine formed_ok s t ht (hs.next hk.below) (fun w2 h=>?_)
 have hk:=hk.next h
 clear h hb1 hb2
 unfold validM at k
 refine Xb2_0 ?_
 refine local_desk' s ad s.bases.length c hk (fun b7 W7 hk hb7 hg7=>?_)
 cases hf:formedM s t with
 | false=>
  rw [hf,Bool.false_and,Bool.false_and,Bool.false_and] at k
  refine Xa0 ?_
  exact k _ hk.below
 | true=>
 rw [hf,Bool.true_and] at k
 refine Xa hk.cells ?_
 refine key_ok s key hkey (hs.next hk.below) (fun w3 h3=>?_)
 have hk:=hk.next h3
 clear h3
 cases hke:keyM s key with
 | false=>
  rw [hke,Bool.false_and,Bool.false_and] at k
  refine Xa0 ?_
  exact k _ hk.below
 | true=>
 rw [hke,Bool.true_and] at k
 refine Xa hk.cells ?_
 refine inner_ok s t ht (hs.next hk.below) (hL.below hk.below hL.size) (fun w4 h4=>?_)
 have hk:=hk.next h4
 clear h4
 by_cases h0:innerQ s t = 0
 ·rw [decide_eq_true h0] at k
  refine Xa (An2 hk.cells @h0) ?_
  exact k _ hk.below
 ·rw [decide_eq_false h0] at k
  refine Xa (An2 hk.cells @h0) ?_
  refine signed_ok s key t.mark (innerQ s t) t.r ⟨t.z,t.a,t.b⟩ ⟨ht.z,ht.a,ht.b⟩ (hs.next hk.below) (fun w5 h5=>?_)
  have hk:=hk.next h5
  have k:=k _ hk.below
  simp only [Bool.not_false,Bool.true_and] at k
  generalize signedM s key t.mark (innerQ s t) t.r ⟨t.z,t.a,t.b⟩ = q at *
  refine Xa0 ?_
  exact k
end
end Go.Proofs
namespace Go.Proofs
open Go Go.Sh Go.RowKit FdSpec TkSpec CodeSpec
section
variable {K:Value → World → Prop} {w w0:World} {L:List (Addr × Value)}
theorem numberM_range (s:List UInt8) (n:Int) (hn:okN n):0 ≤ numberM s n ∧ numberM s n < n:=by
 unfold numberM
 rw [if_pos hn]
 have h:∀ (l:List UInt8) (o:Int),0 ≤ o ∧ o < n → 0 ≤ l.foldl (numStep n) o ∧ l.foldl (numStep n) o < n:=by
  intro l
  induction l with
  | nil=>intro o h; exact h
  | cons a l ih=>intro o h; exact ih _ (addM_range n _ _ hn)
 exact h _ 0 (by unfold okN at hn; omega)
theorem lend_nums {q:Int} (h:5 ≤ q) (h2:q < 1152921504606846976):okN (q - 1 - q / 2):=by unfold okN; omega
theorem encT_eq (t:Tkt):encM t = encT t:=rfl
theorem validS_bd {s:Stp} (h:validS s = true):5 ≤ s.g.Q ∧ s.g.Q < 1152921504606846976:=by
 unfold validS at h
 simp only [Bool.and_eq_true] at h
 have hg:=h.1.1.1.1
 by_cases hc:s.g.Q < 5 ∨ 1152921504606846976 ≤ s.g.Q ∨ s.g.P ≠ 2 * s.g.Q + 1 ∨ s.g.G < 2 ∨ s.g.P ≤ s.g.G
 ·rw [validG_not hc] at hg; cases hg
 ·omega
theorem LendDare_ok (s:Stp) (t:Tkt) (m:List UInt8) {v:Value} (hm:m.length ≤ 100000000) (ht:TktR t) (hs:SetR w s v) (hL:Cd.Laid w) (k:∀ w',Below w.heap.size w w' → K (.int .i64 (lendM s t m)) w'):callM Tryz.prog 39 #[stpV s v,tktV t,.string ⟨m.toArray⟩] K w:=by
 apply sh_39_ok
 unfold sh_39
 obtain ⟨ad,c,rfl⟩:=hs.ints.isSlice
 refine box_kn (cs:=stpC s (.slice ad s.bases.length c)) rfl (.start w) fun b W hk hb1 hb=>?_
 refine box_kn (cs:=tktC t) rfl hk fun b2 W2 hk hb2 hbb=>?_
 unfold lendM at k
 refine Xa hk.cells ?_
 refine open_ok s (hs.next hk.below) (fun w2 h=>?_)
 have hk:=hk.next h
 clear h hb1 hb2
 refine Xb2_0 ?_
 refine local_desk' s ad s.bases.length c hk (fun b7 W7 hk hb7 hg7=>?_)
 cases hv:validS s with
 | false=>
  rw [hv,if_neg (by decide)] at k
  refine Xa0 ?_
  exact k _ hk.below
 | true=>
 rw [hv,if_pos rfl] at k
 obtain ⟨hq1,hq2⟩:=validS_bd hv
 have hr:=numberM_range (encT t ++ encText m) _ (lend_nums hq1 hq2)
 have ed:s.g.Q.tdiv 2 = s.g.Q / 2:=Int.tdiv_eq_ediv_of_nonneg (by omega)
 have e0:IntKind.i64.wrap (s.g.Q / 2) = s.g.Q / 2:=wrapI64 _ (by omega) (by omega)
 have e1:IntKind.i64.wrap (s.g.Q / 2 + 1) = s.g.Q / 2 + 1:=wrapI64 _ (by omega) (by omega)
 have e2:IntKind.i64.wrap (s.g.Q - 1) = s.g.Q - 1:=wrapI64 _ (by omega) (by omega)
 have e3:IntKind.i64.wrap (s.g.Q - 1 - s.g.Q / 2) = s.g.Q - 1 - s.g.Q / 2:=wrapI64 _ (by omega) (by omega)
 have e4:IntKind.i64.wrap (s.g.Q / 2 + 1 + numberM (encT t ++ encText m) (s.g.Q - 1 - s.g.Q / 2)) = s.g.Q / 2 + 1 + numberM (encT t ++ encText m) (s.g.Q - 1 - s.g.Q / 2):=wrapI64 _ (by omega) (by omega)
 refine Xa (An3 hk.cells @ed @e0) ?_
 have hk:=hk.drew
 refine ⟨Kn w _,hk,?_⟩
 repeat (any_goals (first
 | (with_reducible refine And.intro hk ?_)
 | (with_reducible refine pureH_in ?_)
 | ((with_reducible refine idOH ?_); (with_reducible refine oH_of ⟨_,rfl⟩ (fun W0 hW0=>by (refine oM_gen (fun Kv hK=>?_)); simp [go_sem,hW0.cells,e1,e2,e3]; (first | exact hK _ _ ⟨rfl,rfl⟩ | exact ⟨by omega,hK _ _ ⟨rfl,rfl⟩⟩)) ?_))))
 refine Encode_ok t ht (hL.below hk.below hL.size) (fun w3 h3=>?_)
 have hk:=hk.next h3
 refine ⟨hk,?_⟩
 clear h3
 refine Cd.pText_ok m (by omega) (hL.below hk.below hL.size) (fun w4 h4=>?_)
 have hk:=hk.next h4
 refine ⟨hk,?_⟩
 clear h4
 have hl1:=encM_len ht
 have hl2:=Cd.encText_len m (by omega)
 repeat (any_goals (first
 | (with_reducible refine And.intro hk ?_)
 | ((with_reducible refine oM_gen fun Kv hK=>?_); simp [go_sem]; refine And.intro (by omega) (hK _ _ ?_); clear hK Kv)))
 rw [encT_eq] at hl1 ⊢
 refine Number_ok (encT t ++ encText m) _ (by rw [List.length_append]; omega) (fun w5 h5=>?_)
 have hk:=hk.next h5
 clear h5
 refine ⟨hk,?_⟩
 repeat (any_goals (first
 | (with_reducible refine And.intro hk ?_)
 | ((with_reducible refine oM_gen fun Kv hK=>?_); simp [go_sem,e4]; refine hK _ _ ?_; clear hK Kv)))
 exact k _ hk.below
end
end Go.Proofs
namespace Go.Proofs
open Go Go.Sh Go.RowKit FdSpec TkSpec CodeSpec
section
variable {K:Value → World → Prop} {w w0:World} {L:List (Addr × Value)}
structure GrI (Wl w:World) (g:Nat) (T:TypeId) (cs:List Value) (ov:Value) (l:List Int):Prop where
 lt:g < Wl.heap.size
 fr:FrG g Wl w
 own:OwnI w Wl.heap.size ov l
 holds:Holds w g T cs
theorem GrI.next {Wl w1:World} {g:Nat} {T:TypeId} {cs:List Value} {ov:Value} {l:List Int} (h:GrI Wl w g T cs ov l) (hb:Below w.heap.size w w1):GrI Wl w1 g T cs ov l:=
 ⟨h.lt,h.fr.next hb,h.own.keep hb,h.holds.next hb⟩
theorem GrI.start {g:Nat} {T:TypeId} {cs:List Value} (hg:g < w.heap.size) (hh:Holds w g T cs):GrI w w g T cs (.slice none 0 0) []:=⟨hg,Fr.refl _ _,World.ownsRow_nil _ _ _ _,hh⟩
theorem gr_append {Wl:World} {g:Nat} {T T3:TypeId} {cs:List Value} {ov xv:Value} {l:List Int} {x:Int} (h:GrI Wl w g T cs ov l) (hx:Ints w xv [x]) (hl:l.length < 1099511627776)
  (k:∀ ad n c w',GrI Wl w' g T cs (.slice ad n c) (l ++ [x]) → K (.slice ad n c) w'):oM Tryz.prog (.call { callee:=.builtin .append,args:=#[.tmp 0,.tmp 1],argTypes:=#[22,22] }) T3 [ov,xv] K w:=by
 refine append1 h.own h.fr.size hx hl (fun v w' ho hb=>?_)
 obtain ⟨ad,c,rfl⟩:=owns_len ho
 have hlt:=h.lt
 refine k _ _ _ _ ⟨h.lt,h.fr.trans (S':=fun i=>Wl.heap.size ≤ i) ⟨hb.os,hb.tape,hb.output,hb.size,fun i hi hn=>hb.block i (by omega)⟩ (fun i h=>.inr h),ho,?_⟩
 have:=h.holds
 unfold Holds at this ⊢
 rw [hb.block g hlt]
 exact this
theorem gr_store {Wl:World} {g i:Nat} {T T3:TypeId} {cs:List Value} {l:List Int} {ad:Option Addr} {n c:Nat} (h:GrI Wl w g T cs (.slice ad n c) l) (hi:i < cs.length)
  (k:∀ w',GrI Wl w' g T (cs.set i (.slice ad n c)) (.slice ad n c) l → K undef w'):oM Tryz.prog (.store 22 (.tmp 0) (.tmp 1)) T3 [ptr g i,.slice ad n c] K w:=by
 refine arr_set sz_ints rfl rfl h.holds hi (fun w' hg hh=>?_)
 have hlt:=h.lt
 exact k _ ⟨h.lt,h.fr.by hg (fun i e=>.inl (Option.some.inj e).symm),owns_keep h.own (fun j hj=>hg.block j (owns_own h.own hj).1 (fun e=>by have:=(owns_own h.own hj).2.1; have:=Option.some.inj e; omega)),hh⟩
def GrJ (Wl:World) (g:Nat) (T:TypeId) (cs:Value → List Value) (al:List Int) (vs:List Value) (w':World):Prop:=∃ (v ov:Value) (i:Nat),vs = [v,.int .i64 (i:Int)] ∧ i ≤ al.length ∧ GrI Wl w' g T (cs ov) ov (al.take i)
def grMu (n:Nat) (l:List Value) (_:World):Nat:=match l with | [_,.int _ i]=>n - i.toNat | _=>0
theorem grMu_eq (n:Nat) (u:Value) (k:IntKind) (i:Int) (w:World):grMu n [u,.int k i] w = n - i.toNat:=rfl
theorem take_snoc {al:List Int} {i:Nat} (h:i < al.length):al.take i ++ [al[i]] = al.take (i + 1):=by
 rw [List.take_add_one,List.getElem?_eq_getElem h]; rfl
@[reducible] def mirV (m:Mir) (v:Value):Value:=.agg #[v,.int .i64 m.blind]
@[reducible] def mirC (m:Mir) (v:Value):List Value:=[v,.int .i64 m.blind]
structure MirR (w:World) (m:Mir) (v:Value):Prop where
 ints:Ints w v m.bases
 blind:I64 m.blind
theorem MirR.next {w1:World} {m:Mir} {v:Value} (h:MirR w m v) (hb:Below w.heap.size w w1):MirR w1 m v:=⟨h.ints.next hb,h.blind⟩
theorem bad_ok (g:Grp) (x:Int) {b:Nat} (h1:w.cell? ⟨b,1,none⟩ = some (.int .i64 g.Q)) (k:∀ w',Below w.heap.size w w' → K (.bool (badN g x)) w'):callM Tryz.prog 132 #[.int .i64 x,.pointer (some ⟨b,0,none⟩)] K w:=by
 apply sh_132_ok
 unfold sh_132
 have k:=k w (Below.refl _ _)
 unfold badN at k
 by_cases h0:x < 1
 ·rw [decide_eq_true h0,Bool.true_or] at k
  refine Xa (An2 @h1 @h0) ?_
  exact k
 ·rw [decide_eq_false h0,Bool.false_or] at k
  refine Xa (An2 @h1 @h0) ?_
  by_cases h2:g.Q ≤ x
  ·simpa [h2] using k
  ·simpa [h2] using k
theorem makeM_no {g:Grp} {m:Mir} (h:validG g = false ∨ m.bases.length < 2 ∨ 7 < m.bases.length ∨ m.bases.any (badN g) = true ∨ badN g m.blind = true):makeM g m = (⟨⟨0,0,0⟩,[],0⟩,false):=by
 unfold makeM
 rw [if_neg]
 rcases h with h | h | h | h | h <;> simp [h] <;> omega
end
end Go.Proofs
namespace Go.Proofs
open Go Go.Sh Go.RowKit FdSpec TkSpec CodeSpec
section
variable {K:Value → World → Prop} {w w0:World} {L:List (Addr × Value)}
theorem build_stp2 (T:TypeId) (g:Grp) (b:Int):oM Tryz.prog (Go.Op.build 32 #[(0,(.tmp 0)),(2,(.tmp 1))]) T [grpV g,.int .i64 b] = pureM (stpV ⟨g,[],b⟩ (.slice none 0 0)):=by
 funext K w
 kernel_rfl
theorem store_stp {K:Value → World → Prop} {T':TypeId} {g:Nat} (s:Stp) (ad:Option Addr) (n c:Nat) (hk:KnM w0 L g 5 w)
  (k:∀ W,KnM w0 L g 5 W → cellsAre W (cellsOf [] g 0 (stpC s (.slice ad n c))) → w.grownBy W (some g) → K undef W):oM Tryz.prog (.store 32 (.tmp 0) (.tmp 1)) T' [.pointer (some ⟨g,0,none⟩),stpV s (.slice ad n c)] K w:=by
 obtain ⟨W,e,hg,hm,hc⟩:=store_run (P:=Tryz.prog) (W:=w) sz_stp (x:=stpV s (.slice ad n c)) rfl rfl (stp_one s ad n c) hk.mine
 rw [oM_store,e]
 exact k W ⟨hk.kn.wrote hg hk.base hk.off,hm,hk.base,hk.off⟩ hc hg
theorem zS_R {v:Value} (hT:DbT w) (hi:Ints w v []):SetR w zS v:=⟨⟨by constructor <;> decide,by constructor <;> decide,by constructor <;> decide⟩,hi,by constructor <;> decide,hT⟩
theorem Make_ok (g:Grp) (m:Mir) {mv:Value} (hg:GrpR g) (hT:DbT w) (hm:MirR w m mv)
  (k:∀ w' sv,Below w.heap.size w w' → SetR w' (makeM g m).1 sv → (∀ i,Value.inBlock sv = some i → w.heap.size ≤ i) → K (.tuple #[stpV (makeM g m).1 sv,.bool (makeM g m).2]) w'):callM Tryz.prog 63 #[grpV g,mirV m mv] K w:=by
 apply sh_63_ok
 unfold sh_63
 have hms:=hm.ints
 obtain ⟨ad,c,rfl⟩:=hm.ints.isSlice
 have k2:∀ w' sv r,makeM g m = r → Below w.heap.size w w' → SetR w' r.1 sv → (∀ i,Value.inBlock sv = some i → w.heap.size ≤ i) → K (.tuple #[stpV r.1 sv,.bool r.2]) w':=fun w' sv r e hb hi hf=>by
  rw [← e] at hi ⊢
  exact k w' sv hb hi hf
 clear k
 have hno:=makeM_no (g:=g) (m:=m)
 have hml:=hms.len
 refine box_kn (cs:=[.int .i64 g.P,.int .i64 g.Q,.int .i64 g.G]) rfl (.start w) fun b1 W hk hb1 hbb=>?_
 refine box_kn (cs:=mirC m (.slice ad m.bases.length c)) rfl hk fun b2 W2 hk hb2 hbb=>?_
 refine alloc_mine (n:=5) al_stp rfl hk fun g0 W3 hk hb3 hg0=>?_
 clear hb1 hb2 hb3
 have bad:makeM g m = (⟨⟨0,0,0⟩,[],0⟩,false) → ∀ w2 (hk:KnM w (cellsOf (cellsOf [] b1 0 [.int .i64 g.P,.int .i64 g.Q,.int .i64 g.G]) b2 0 (mirC m (.slice ad m.bases.length c))) g0 5 w2),
   oM Tryz.prog (Go.Op.store 32 (.tmp 0) (.tmp 1)) 0 [.pointer (some ⟨g0,0,none⟩),stpV zS (.slice none 0 0)] (fun _ w=>
    ∃ r_29,(do loadVar 32 (← asAddr (.pointer (some ⟨g0,0,none⟩))):Sem Value).run Tryz.prog w = .ok r_29 w ∧ K (.tuple #[r_29,(.bool false)]) w) w2:=fun e w2 hk=>
  store_stp zS none 0 0 hk (fun W3 hk hc _=>⟨_,by simp [go_sem,hc],k2 _ _ _ e hk.below (zS_R (hT.next hk.below) (Ints.nil _)) (fun i h=>by cases h)⟩)
 refine Xa hk.cells ?_
 refine ValidGroup_ok g hg (hT.next hk.below) (fun w2 h2=>?_)
 have hk:=hk.next h2
 clear h2
 cases hv:validG g with
 | false=>
  refine Xa hk.cells ?_
  exact bad (hno (.inl hv)) _ hk
 | true=>
 by_cases h2:(m.bases.length:Int) < 2
 ·refine Xa (An2 hk.cells @h2) ?_
  exact bad (hno (.inr (.inl (by omega)))) _ hk
 by_cases h7:(7:Int) < m.bases.length
 ·refine Xa (An3 hk.cells @h2 @h7) ?_
  exact bad (hno (.inr (.inr (.inl (by omega))))) _ hk
 refine Xa (An3 hk.cells @h2 @h7) ?_
 refine ContainsFunc_ok (badN g) (hms.next hk.below) ?_ ?_
 ·intro w' x K' T hb _ h'
  refine oM_callv1 (by kernel_rfl) ?_
  have hk:=(hk.next hb).cells
  exact bad_ok g x hk.2.2.2.1 h'
 intro w3 h3
 have hk:=hk.next h3
 clear h3
 cases ha:m.bases.any (badN g) with
 | true=>
  refine Xa hk.cells ?_
  exact bad (hno (.inr (.inr (.inr (.inl ha))))) _ hk
 | false=>
 refine Xa hk.cells ?_
 refine oM_callv1 (by kernel_rfl) ?_
 refine bad_ok g m.blind hk.cells.2.2.2.1 (fun w4 h4=>?_)
 have hk:=hk.next h4
 clear h4
 cases hb:badN g m.blind with
 | true=>
  refine Xa hk.cells ?_
  exact bad (hno (.inr (.inr (.inr (.inr hb))))) _ hk
 | false=>
 clear bad hno
 have ey:makeM g m = (⟨g,m.bases.map (powerG g g.G),powerG g g.G m.blind⟩,true):=by
  unfold makeM
  rw [if_pos]
  rw [hv,ha,hb,decide_eq_true (by omega:2 ≤ m.bases.length),decide_eq_true (by omega:m.bases.length ≤ 7)]; rfl
 refine Xa hk.cells ?_
 have hk:=hk.drew
 refine ⟨Nx { w4 with drawn:=w4.drawn + 1 },Below.refl _ _,rfl,?_⟩
 generalize ({ w4 with drawn:=w4.drawn + 1 }:World) = W at hk ⊢
 refine Xc (fun W0 hW0=>(hk.next hW0).cells) ?_
 refine ⟨Nx,?_⟩
 apply monoE
 ·intro w1 h1
  exact Power_ok g g.G m.blind (fun w2 h2=>⟨h1.on h2,h2,rfl⟩)
 repeat (apply monoE; focus (intro w9 h9; (repeat (intro v9 e9; try (obtain rfl:=e9))); (repeat (any_goals ((with_reducible refine oM_gen fun Kv hK=>?_); simp [go_sem,build_stp2]; refine hK _ _ ?_; clear hK Kv))); exact ⟨h9,Below.refl _ _,rfl⟩))
 refine monoR (fun v w'=>∃ g2,v = ptr g2 0 ∧ W.heap.size ≤ g2 ∧ Holds w' g2 32 (stpC zS (.slice none 0 0))) (fun v w w1 hS h=>h.imp fun g2 h=>⟨h.1,h.2.1,h.2.2.next hS⟩) ?_ ?_
 ·intro w1 h1
  exact arr_alloc al_stp (fun g2 w2 h2 hg2 hh=>⟨h1.on h2,h2,g2,rfl,Nat.le_trans h1.size hg2,hh⟩)
 (intro w9 h9; repeat (intro v9 e9; try (obtain rfl:=e9)))
 obtain ⟨g2,rfl,hg2,hh⟩:=e9
 refine arr_store sz_stp (xs:=stpC ⟨g,[],powerG g g.G m.blind⟩ (.slice none 0 0)) rfl rfl (stp_one ⟨g,[],powerG g g.G m.blind⟩ none 0 0) hh rfl (fun w10 hg10 hh=>?_)
 have h10:=grown_below h9 hg10 hg2
 have hgW:g0 < W.heap.size:=mine_lt hk.mine
 have hoffL:=cells_lt hk.cells
 have hk:=hk.next h10
 clear hg10 h9
 refine Xa hk.cells ?_
 have hne:g0 ≠ g2:=by omega
 have hoff:∀ p ∈ cellsOf (cellsOf [] b1 0 [.int .i64 g.P,.int .i64 g.Q,.int .i64 g.G]) b2 0 (mirC m (.slice ad m.bases.length c)),p.1.block ≠ g2:=fun p hp=>by have:=hoffL p hp; omega
 have hbase:w.heap.size ≤ g2:=Nat.le_trans hk.base (by omega)
 have hal:(m.bases.map (powerG g g.G)).length = m.bases.length:=List.length_map _
 have hrng:∀ n ∈ m.bases.map (powerG g g.G),I64 n:=by
  intro n hn
  obtain ⟨x,_,rfl⟩:=List.mem_map.1 hn
  exact powerG_I64 _ _ _
 have hat:∀ i (h:i < m.bases.length),powerG g g.G m.bases[i] = (m.bases.map (powerG g g.G))[i]'(by rw [hal]; exact h):=fun i h=>by simp
 generalize m.bases.map (powerG g g.G) = al at *
 refine ⟨GrJ w10 g2 32 (fun ov=>stpC ⟨g,[],powerG g g.G m.blind⟩ ov) al,grMu m.bases.length,⟨_,.slice none 0 0,0,rfl,by omega,.start hh.lt hh⟩,?_⟩
 have hk0:=hk
 rintro _ _ w6 ⟨u,ov,i,rfl,hi,hgr⟩
 have hk:=hk0.fr hgr.fr hoff hne hbase
 by_cases hin:i = m.bases.length
 ·have ho:=hgr.own
  rw [List.take_of_length_le (by omega)] at ho
  have hints:=ho.ints hrng (by omega)
  obtain ⟨g',oc,cur,rfl,hlt,hB,_,_,_,_⟩:=owns_cells ho (by omega)
  refine Xa hgr.holds.are ?_
  refine store_stp ⟨g,al,powerG g g.G m.blind⟩ (some ⟨g',0,none⟩) al.length oc hk (fun W3 hk hc hg3=>⟨stpV ⟨g,al,powerG g g.G m.blind⟩ (.slice (some ⟨g',0,none⟩) al.length oc),by simp [go_sem,hc],k2 W3 (.slice (some ⟨g',0,none⟩) al.length oc) _ ey hk.below ⟨hg,⟨hints.row.keep hg3.size (fun i hi hlt=>hg3.block i hlt ?_),hrng,by show al.length ≤ _; omega⟩,powerG_I64 _ _ _,hT.next hk.below⟩ (fun i h=>by have e2:g' = i:=Option.some.inj h; have:=hk0.below.size; omega)⟩)
  cases hi
  intro e
  have e2:g' = g0:=Option.some.inj e
  have:=hh.lt
  omega
 ·obtain ⟨b8,o8,rfl,hb8',ca,ra,_⟩:=hms.at (i:=i) (by omega)
  refine Xa (ca _ hk.below) ?_
  have hk:=hk.drew
  have hgr:=hgr.next (.drawn (B:=w6.heap.size))
  refine ⟨Nx { w6 with drawn:=w6.drawn + 1 },Below.refl _ _,rfl,?_⟩
  generalize ({ w6 with drawn:=w6.drawn + 1 }:World) = W6 at hk hgr ⊢
  refine Xc (fun W0 hW0=>An2 ((hk.next hW0).cells) ((hgr.next hW0).holds.are)) ?_
  refine ⟨Nx,?_⟩
  apply monoE
  ·intro w1 h1
   exact Power_ok g g.G _ (fun w2 h2=>⟨h1.on h2,h2,rfl⟩)
  refine monoR (fun v w'=>Ints w' v [powerG g g.G m.bases[i]]) (fun v w w1 hS h=>h.next hS) ?_ ?_
  ·rintro w1 h1 _ rfl
   exact mk1 _ (powerG_I64 _ _ _) (fun v w2 h2 hi=>⟨h1.on h2,h2,hi⟩)
  rintro w9 h9 _ rfl v9 hi9
  refine gr_append (hgr.next h9) hi9 (by rw [List.length_take]; omega) (fun ad n c w11 hgr=>?_)
  refine Xa0 ?_
  refine gr_store (i:=3) hgr (show 3 < 5 by decide) (fun w12 hgr=>?_)
  refine Xa0 ?_
  rw [hat i (by omega),take_snoc] at hgr
  refine ⟨⟨_,_,i + 1,rfl,by omega,hgr⟩,?_⟩
  simp only [grMu_eq]; omega
end
end Go.Proofs
namespace Go.Proofs
open Go.Sh Tryz
def sh_109 (a0 a1 a2:Value) (K:Value → World → Prop) (w:World):Prop:=
 callM prog 154 #[a0] (fun v8 w=>
 oM prog (.unOp .not 4 (.tmp 0)) 4 [v8] (fun v9 w=>
 condM v9
 (K (.int .i64 0) w)
 (callM prog 155 #[a0,a1] (fun v12 w=>
 callM prog 155 #[a0,a2] (fun v15 w=>
 oM prog (.binOp .add 3 (.tmp 0) (.tmp 1) 3) 3 [v12,v15] (fun v16 w=>
 oM prog (.binOp .rem 3 (.tmp 0) (.tmp 1) 3) 3 [v16,a0] (fun v18 w=>
 K v18 w) w) w) w) w)) w) w
theorem sh_109_ok {a0 a1 a2:Value} {K:Value → World → Prop} {w:World} (h:sh_109 a0 a1 a2 K w):callM prog 109 #[a0,a1,a2] K w:=
 calls_of_code (fun _=>0) (fn:=Tryz.f109) (rs:=[.tmp 6]) Tryz.func109 rfl rfl (by kernel_rfl) (Nat.le_of_ble_eq_true rfl) (Eq.mp (by kernel_rfl) h)
def sh_104 (a0 a1 a2:Value) (K:Value → World → Prop) (w:World):Prop:=
 callM prog 154 #[a0] (fun v8 w=>
 oM prog (.unOp .not 4 (.tmp 0)) 4 [v8] (fun v9 w=>
 condM v9
 (K (.int .i64 0) w)
 (callM prog 155 #[a0,a1] (fun v12 w=>
 oM prog (.binOp .add 3 (.tmp 0) (.tmp 1) 3) 3 [v12,a0] (fun v14 w=>
 callM prog 155 #[a0,a2] (fun v17 w=>
 oM prog (.binOp .sub 3 (.tmp 0) (.tmp 1) 3) 3 [v14,v17] (fun v18 w=>
 oM prog (.binOp .rem 3 (.tmp 0) (.tmp 1) 3) 3 [v18,a0] (fun v20 w=>
 K v20 w) w) w) w) w) w)) w) w
theorem sh_104_ok {a0 a1 a2:Value} {K:Value → World → Prop} {w:World} (h:sh_104 a0 a1 a2 K w):callM prog 104 #[a0,a1,a2] K w:=
 calls_of_code (fun _=>0) (fn:=Tryz.f104) (rs:=[.tmp 6]) Tryz.func104 rfl rfl (by kernel_rfl) (Nat.le_of_ble_eq_true rfl) (Eq.mp (by kernel_rfl) h)
def sh_164 (a0 a1 a2:Value) (K:Value → World → Prop) (w:World):Prop:=
 oM prog (.box 30 (.tmp 0)) 0 [a0] (fun v3 w=>
 oM prog (.fieldAddr 30 (.tmp 0) 0) 0 [v3] (fun v7 w=>
 oM prog (.load 3 (.tmp 0)) 3 [v7] (fun v8 w=>
 callM prog 154 #[v8] (fun v9 w=>
 oM prog (.unOp .not 4 (.tmp 0)) 4 [v9] (fun v10 w=>
 gdM (gd v10 false) (oM prog (.fieldAddr 30 (.tmp 0) 1) 0 [v3]) (fun v12 w=>
 gdM (gd v10 false) (oM prog (.load 3 (.tmp 0)) 3 [v12]) (fun v13 w=>
 gdM (gd v10 false) (callM prog 154 #[v13]) (fun v14 w=>
 gdM (gd v10 false) (oM prog (.unOp .not 4 (.tmp 0)) 4 [v14]) (fun v15 w=>
 oM prog (.pick (.tmp 0) (.tmp 1) (.tmp 2)) 4 [v10,(.bool true),v15] (fun v16 w=>
 condM v16
 (K (.int .i64 0) w)
 (heldM w (fun C_11 w=>(((true:Bool) = true) ∧ (oH prog (.fieldAddr 30 (.tmp 0) 0) 0 [v3] C_11 (fun v17=>
 oH prog (.load 3 (.tmp 0)) 3 [v17] C_11 (fun v18=>
 pureH a1 C_11 (fun v19=>
 oH prog (.fieldAddr 30 (.tmp 0) 1) 0 [v3] C_11 (fun v20=>
 oH prog (.load 3 (.tmp 0)) 3 [v20] C_11 (fun v21=>
 pureH a2 C_11 (fun v22=>
 ∃ S_18:World → World → Prop,∀ w,C_11 w → (
 callM prog 155 #[v21,v22] (fun v23 w=>C_11 w ∧ (
 callM prog 189 #[v18,v19,v23] (fun v24 w=>C_11 w ∧ (
 C_11 w ∧ (K v24 w))) w)) w)))))))))))) w) w) w) w) w) w) w) w) w) w
theorem sh_164_ok {a0 a1 a2:Value} {K:Value → World → Prop} {w:World} (h:sh_164 a0 a1 a2 K w):callM prog 164 #[a0,a1,a2] K w:=
 calls_of_code (fun _=>.mono [0,1,2,3,4,5] [] [6,7,8]) (fn:=Tryz.f164) (rs:=[.tmp 6]) Tryz.func164 rfl rfl (by kernel_rfl) (Nat.le_of_ble_eq_true rfl) (Eq.mp (by kernel_rfl) h)
def sh_156 (a0:Value) (K:Value → World → Prop) (w:World):Prop:=
 oM prog (.box 30 (.tmp 0)) 0 [a0] (fun v1 w=>
 oM prog (.fieldAddr 30 (.tmp 0) 1) 0 [v1] (fun v3 w=>
 oM prog (.load 3 (.tmp 0)) 3 [v3] (fun v4 w=>
 oM prog (.binOp .lss 3 (.tmp 0) (.tmp 1) 3) 4 [v4,(.int .i64 5)] (fun v5 w=>
 gdM (gd v5 false) (oM prog (.fieldAddr 30 (.tmp 0) 1) 0 [v1]) (fun v7 w=>
 gdM (gd v5 false) (oM prog (.load 3 (.tmp 0)) 3 [v7]) (fun v8 w=>
 gdM (gd v5 false) (oM prog (.binOp .geq 3 (.tmp 0) (.tmp 1) 3) 4 [v8,(.int .i64 1152921504606846976)]) (fun v9 w=>
 oM prog (.pick (.tmp 0) (.tmp 1) (.tmp 2)) 4 [v5,(.bool true),v9] (fun v10 w=>
 gdM (gd v10 false) (oM prog (.fieldAddr 30 (.tmp 0) 0) 0 [v1]) (fun v12 w=>
 gdM (gd v10 false) (oM prog (.load 3 (.tmp 0)) 3 [v12]) (fun v13 w=>
 gdM (gd v10 false) (oM prog (.fieldAddr 30 (.tmp 0) 1) 0 [v1]) (fun v14 w=>
 gdM (gd v10 false) (oM prog (.load 3 (.tmp 0)) 3 [v14]) (fun v15 w=>
 gdM (gd v10 false) (oM prog (.binOp .mul 3 (.tmp 0) (.tmp 1) 3) 3 [(.int .i64 2),v15]) (fun v16 w=>
 gdM (gd v10 false) (oM prog (.binOp .add 3 (.tmp 0) (.tmp 1) 3) 3 [v16,(.int .i64 1)]) (fun v17 w=>
 gdM (gd v10 false) (oM prog (.binOp .neq 3 (.tmp 0) (.tmp 1) 3) 4 [v13,v17]) (fun v18 w=>
 oM prog (.pick (.tmp 0) (.tmp 1) (.tmp 2)) 4 [v10,(.bool true),v18] (fun v19 w=>
 gdM (gd v19 false) (oM prog (.fieldAddr 30 (.tmp 0) 0) 0 [v1]) (fun v21 w=>
 gdM (gd v19 false) (oM prog (.load 3 (.tmp 0)) 3 [v21]) (fun v22 w=>
 gdM (gd v19 false) (oM prog (.binOp .geq 3 (.tmp 0) (.tmp 1) 3) 4 [v22,(.int .i64 2305843009213693952)]) (fun v23 w=>
 oM prog (.pick (.tmp 0) (.tmp 1) (.tmp 2)) 4 [v19,(.bool true),v23] (fun v24 w=>
 gdM (gd v24 false) (oM prog (.fieldAddr 30 (.tmp 0) 2) 0 [v1]) (fun v26 w=>
 gdM (gd v24 false) (oM prog (.load 3 (.tmp 0)) 3 [v26]) (fun v27 w=>
 gdM (gd v24 false) (oM prog (.binOp .lss 3 (.tmp 0) (.tmp 1) 3) 4 [v27,(.int .i64 2)]) (fun v28 w=>
 oM prog (.pick (.tmp 0) (.tmp 1) (.tmp 2)) 4 [v24,(.bool true),v28] (fun v29 w=>
 gdM (gd v29 false) (oM prog (.fieldAddr 30 (.tmp 0) 2) 0 [v1]) (fun v31 w=>
 gdM (gd v29 false) (oM prog (.load 3 (.tmp 0)) 3 [v31]) (fun v32 w=>
 gdM (gd v29 false) (oM prog (.fieldAddr 30 (.tmp 0) 0) 0 [v1]) (fun v33 w=>
 gdM (gd v29 false) (oM prog (.load 3 (.tmp 0)) 3 [v33]) (fun v34 w=>
 gdM (gd v29 false) (oM prog (.binOp .geq 3 (.tmp 0) (.tmp 1) 3) 4 [v32,v34]) (fun v35 w=>
 oM prog (.pick (.tmp 0) (.tmp 1) (.tmp 2)) 4 [v29,(.bool true),v35] (fun v36 w=>
 condM v36
 (K (.bool false) w)
 (oM prog (.fieldAddr 30 (.tmp 0) 1) 0 [v1] (fun v37 w=>
 oM prog (.load 3 (.tmp 0)) 3 [v37] (fun v38 w=>
 callM prog 188 #[v38] (fun v39 w=>
 gdM (gd v39 true) (oM prog (.fieldAddr 30 (.tmp 0) 0) 0 [v1]) (fun v41 w=>
 gdM (gd v39 true) (oM prog (.load 3 (.tmp 0)) 3 [v41]) (fun v42 w=>
 gdM (gd v39 true) (callM prog 188 #[v42]) (fun v43 w=>
 oM prog (.pick (.tmp 0) (.tmp 1) (.tmp 2)) 4 [v39,v43,(.bool false)] (fun v44 w=>
 gdM (gd v44 true) (oM prog (.fieldAddr 30 (.tmp 0) 0) 0 [v1]) (fun v46 w=>
 gdM (gd v44 true) (oM prog (.load 3 (.tmp 0)) 3 [v46]) (fun v47 w=>
 gdM (gd v44 true) (oM prog (.fieldAddr 30 (.tmp 0) 2) 0 [v1]) (fun v48 w=>
 gdM (gd v44 true) (oM prog (.load 3 (.tmp 0)) 3 [v48]) (fun v49 w=>
 gdM (gd v44 true) (oM prog (.fieldAddr 30 (.tmp 0) 1) 0 [v1]) (fun v50 w=>
 gdM (gd v44 true) (oM prog (.load 3 (.tmp 0)) 3 [v50]) (fun v51 w=>
 gdM (gd v44 true) (callM prog 189 #[v47,v49,v51]) (fun v52 w=>
 gdM (gd v44 true) (oM prog (.binOp .eql 3 (.tmp 0) (.const (.int .i64 1)) 3) 4 [v52]) (fun v53 w=>
 oM prog (.pick (.tmp 0) (.tmp 1) (.tmp 2)) 4 [v44,v53,(.bool false)] (fun v54 w=>
 K v54 w) w) w) w) w) w) w) w) w) w) w) w) w) w) w) w) w)) w) w) w) w) w) w) w) w) w) w) w) w) w) w) w) w) w) w) w) w) w) w) w) w) w) w) w) w) w) w
theorem sh_156_ok {a0:Value} {K:Value → World → Prop} {w:World} (h:sh_156 a0 K w):callM prog 156 #[a0] K w:=
 calls_of_code (fun _=>0) (fn:=Tryz.f156) (rs:=[.tmp 2]) Tryz.func156 rfl rfl (by kernel_rfl) (Nat.le_of_ble_eq_true rfl) (Eq.mp (by kernel_rfl) h)
def sh_163 (a0 a1:Value) (K:Value → World → Prop) (w:World):Prop:=
 oM prog (.box 30 (.tmp 0)) 0 [a0] (fun v2 w=>
 oM prog (.binOp .geq 3 (.tmp 0) (.tmp 1) 3) 4 [a1,(.int .i64 1)] (fun v6 w=>
 gdM (gd v6 true) (pureM a1) (fun v8 w=>
 gdM (gd v6 true) (oM prog (.fieldAddr 30 (.tmp 0) 0) 0 [v2]) (fun v9 w=>
 gdM (gd v6 true) (oM prog (.load 3 (.tmp 0)) 3 [v9]) (fun v10 w=>
 gdM (gd v6 true) (oM prog (.binOp .lss 3 (.tmp 0) (.tmp 1) 3) 4 [v8,v10]) (fun v11 w=>
 oM prog (.pick (.tmp 0) (.tmp 1) (.tmp 2)) 4 [v6,v11,(.bool false)] (fun v12 w=>
 gdM (gd v12 true) (oM prog (.fieldAddr 30 (.tmp 0) 0) 0 [v2]) (fun v14 w=>
 gdM (gd v12 true) (oM prog (.load 3 (.tmp 0)) 3 [v14]) (fun v15 w=>
 gdM (gd v12 true) (pureM a1) (fun v16 w=>
 gdM (gd v12 true) (oM prog (.fieldAddr 30 (.tmp 0) 1) 0 [v2]) (fun v17 w=>
 gdM (gd v12 true) (oM prog (.load 3 (.tmp 0)) 3 [v17]) (fun v18 w=>
 gdM (gd v12 true) (callM prog 189 #[v15,v16,v18]) (fun v19 w=>
 gdM (gd v12 true) (oM prog (.binOp .eql 3 (.tmp 0) (.const (.int .i64 1)) 3) 4 [v19]) (fun v20 w=>
 oM prog (.pick (.tmp 0) (.tmp 1) (.tmp 2)) 4 [v12,v20,(.bool false)] (fun v21 w=>
 K v21 w) w) w) w) w) w) w) w) w) w) w) w) w) w) w) w
theorem sh_163_ok {a0 a1:Value} {K:Value → World → Prop} {w:World} (h:sh_163 a0 a1 K w):callM prog 163 #[a0,a1] K w:=
 calls_of_code (fun _=>0) (fn:=Tryz.f163) (rs:=[.tmp 4]) Tryz.func163 rfl rfl (by kernel_rfl) (Nat.le_of_ble_eq_true rfl) (Eq.mp (by kernel_rfl) h)
def sh_152 (a0 a1:Value) (K:Value → World → Prop) (w:World):Prop:=
 callM prog 154 #[a0] (fun v14 w=>
 oM prog (.unOp .not 4 (.tmp 0)) 4 [v14] (fun v15 w=>
 condM v15
 (K (.tuple #[(.int .i64 0),(.bool false)]) w)
 (callM prog 155 #[a0,a1] (fun v19 w=>
 oM prog (.binOp .rem 3 (.tmp 0) (.tmp 1) 3) 3 [(.int .i64 1),a0] (fun v21 w=>
 loopM [undef,undef,undef,a0,v19,(.int .i64 0),v21] w (fun J_5 m_6 l_7 u_l_7 w0_l_7=>(fun w=>(
 oM prog (.binOp .neq 3 (.tmp 0) (.const (.int .i64 0)) 3) 4 [(l_7.getD 4 undef)] (fun v23 w=>
 condM v23
 (oM prog (.binOp .quo 3 (.tmp 0) (.tmp 1) 3) 3 [(l_7.getD 3 undef),(l_7.getD 4 undef)] (fun v26 w=>
 oM prog (.binOp .mul 3 (.tmp 0) (.tmp 1) 3) 3 [v26,(l_7.getD 4 undef)] (fun v30 w=>
 oM prog (.binOp .sub 3 (.tmp 0) (.tmp 1) 3) 3 [(l_7.getD 3 undef),v30] (fun v31 w=>
 callM prog 153 #[a0,v26,(l_7.getD 6 undef)] (fun v37 w=>
 callM prog 104 #[a0,(l_7.getD 5 undef),v37] (fun v38 w=>
 J_5 [v26,v31,v38,(l_7.getD 4 undef),v31,(l_7.getD 6 undef),v38] w ∧ m_6 [v26,v31,v38,(l_7.getD 4 undef),v31,(l_7.getD 6 undef),v38] w < m_6 l_7 w0_l_7) w) w) w) w) w)
 (oM prog (.binOp .neq 3 (.tmp 0) (.const (.int .i64 1)) 3) 4 [(l_7.getD 3 undef)] (fun v44 w=>
 condM v44
 (K (.tuple #[(.int .i64 0),(.bool false)]) w)
 (oM prog (.binOp .rem 3 (.tmp 0) (.tmp 1) 3) 3 [(l_7.getD 5 undef),a0] (fun v47 w=>
 K (.tuple #[v47,(.bool true)]) w) w)) w)) w)) w0_l_7)) w) w)) w) w
theorem sh_152_ok {a0 a1:Value} {K:Value → World → Prop} {w:World} (h:sh_152 a0 a1 K w):callM prog 152 #[a0,a1] K w:=
 calls_of_code (fun _=>0) (fn:=Tryz.f152) (rs:=[.tmp 4,.tmp 5]) Tryz.func152 rfl rfl (by kernel_rfl) (Nat.le_of_ble_eq_true rfl) (Eq.mp (by kernel_rfl) h)
def sh_165 (a0 a1 a2:Value) (K:Value → World → Prop) (w:World):Prop:=
 oM prog (.box 30 (.tmp 0)) 0 [a0] (fun v3 w=>
 oM prog (.fieldAddr 30 (.tmp 0) 1) 0 [v3] (fun v7 w=>
 oM prog (.load 3 (.tmp 0)) 3 [v7] (fun v8 w=>
 callM prog 154 #[v8] (fun v9 w=>
 oM prog (.unOp .not 4 (.tmp 0)) 4 [v9] (fun v10 w=>
 condM v10
 (K (.int .i64 0) w)
 (oM prog (.fieldAddr 30 (.tmp 0) 0) 0 [v3] (fun v11 w=>
 oM prog (.load 3 (.tmp 0)) 3 [v11] (fun v12 w=>
 callM prog 153 #[v12,a1,a2] (fun v15 w=>
 K v15 w) w) w) w)) w) w) w) w) w
theorem sh_165_ok {a0 a1 a2:Value} {K:Value → World → Prop} {w:World} (h:sh_165 a0 a1 a2 K w):callM prog 165 #[a0,a1,a2] K w:=
 calls_of_code (fun _=>0) (fn:=Tryz.f165) (rs:=[.tmp 6]) Tryz.func165 rfl rfl (by kernel_rfl) (Nat.le_of_ble_eq_true rfl) (Eq.mp (by kernel_rfl) h)
def sh_154 (a0:Value) (K:Value → World → Prop) (w:World):Prop:=
 oM prog (.binOp .geq 3 (.tmp 0) (.tmp 1) 3) 4 [a0,(.int .i64 1)] (fun v4 w=>
 gdM (gd v4 true) (pureM a0) (fun v6 w=>
 gdM (gd v4 true) (oM prog (.binOp .lss 3 (.tmp 0) (.tmp 1) 3) 4 [v6,(.int .i64 2305843009213693952)]) (fun v7 w=>
 oM prog (.pick (.tmp 0) (.tmp 1) (.tmp 2)) 4 [v4,v7,(.bool false)] (fun v8 w=>
 K v8 w) w) w) w) w
theorem sh_154_ok {a0:Value} {K:Value → World → Prop} {w:World} (h:sh_154 a0 K w):callM prog 154 #[a0] K w:=
 calls_of_code (fun _=>0) (fn:=Tryz.f154) (rs:=[.tmp 2]) Tryz.func154 rfl rfl (by kernel_rfl) (Nat.le_of_ble_eq_true rfl) (Eq.mp (by kernel_rfl) h)
def sh_155 (a0 a1:Value) (K:Value → World → Prop) (w:World):Prop:=
 oM prog (.binOp .rem 3 (.tmp 0) (.tmp 1) 3) 3 [a1,a0] (fun v8 w=>
 joinM (fun M_2=>(oM prog (.binOp .lss 3 (.tmp 0) (.tmp 1) 3) 4 [v8,(.int .i64 0)] (fun v10 w=>
 condM v10
 (oM prog (.binOp .add 3 (.tmp 0) (.tmp 1) 3) 3 [v8,a0] (fun v13 w=>
 M_2 [v13] w) w)
 (M_2 [v8] w)) w))
 (fun l_3 u_l_3 w=>(K (l_3.getD 0 undef) w))) w
theorem sh_155_ok {a0 a1:Value} {K:Value → World → Prop} {w:World} (h:sh_155 a0 a1 K w):callM prog 155 #[a0,a1] K w:=
 calls_of_code (fun _=>0) (fn:=Tryz.f155) (rs:=[.tmp 4]) Tryz.func155 rfl rfl (by kernel_rfl) (Nat.le_of_ble_eq_true rfl) (Eq.mp (by kernel_rfl) h)
def sh_153 (a0 a1 a2:Value) (K:Value → World → Prop) (w:World):Prop:=
 callM prog 154 #[a0] (fun v14 w=>
 oM prog (.unOp .not 4 (.tmp 0)) 4 [v14] (fun v15 w=>
 condM v15
 (K (.int .i64 0) w)
 (callM prog 155 #[a0,a1] (fun v18 w=>
 callM prog 155 #[a0,a2] (fun v21 w=>
 oM prog (.binOp .leq 3 (.tmp 0) (.tmp 1) 3) 4 [a0,(.int .i64 2147483648)] (fun v23 w=>
 condM v23
 (oM prog (.binOp .mul 3 (.tmp 0) (.tmp 1) 3) 3 [v18,v21] (fun v26 w=>
 oM prog (.binOp .rem 3 (.tmp 0) (.tmp 1) 3) 3 [v26,a0] (fun v28 w=>
 K v28 w) w) w)
 (loopM [(.int .i64 0),undef,undef,(.int .i64 60)] w (fun J_8 m_9 l_10 u_l_10 w0_l_10=>(fun w=>(
 oM prog (.binOp .geq 3 (.tmp 0) (.tmp 1) 3) 4 [(l_10.getD 3 undef),(.int .i64 0)] (fun v30 w=>
 condM v30
 (oM prog (.binOp .mul 3 (.tmp 0) (.tmp 1) 3) 3 [(.int .i64 4),(l_10.getD 0 undef)] (fun v34 w=>
 oM prog (.binOp .rem 3 (.tmp 0) (.tmp 1) 3) 3 [v34,a0] (fun v36 w=>
 oM prog (.binOp .shr 3 (.tmp 0) (.tmp 1) 3) 3 [v21,(l_10.getD 3 undef)] (fun v39 w=>
 oM prog (.binOp .and 3 (.tmp 0) (.tmp 1) 3) 3 [v39,(.int .i64 3)] (fun v40 w=>
 loopM [v36,(.int .i64 0)] w (fun J_16 m_17 l_18 u_l_18 w0_l_18=>(fun w=>(
 oM prog (.binOp .lss 3 (.tmp 0) (.tmp 1) 3) 4 [(l_18.getD 1 undef),v40] (fun v43 w=>
 condM v43
 (oM prog (.binOp .add 3 (.tmp 0) (.tmp 1) 3) 3 [(l_18.getD 0 undef),v18] (fun v48 w=>
 oM prog (.binOp .rem 3 (.tmp 0) (.tmp 1) 3) 3 [v48,a0] (fun v50 w=>
 oM prog (.binOp .add 3 (.tmp 0) (.tmp 1) 3) 3 [(l_18.getD 1 undef),(.int .i64 1)] (fun v45 w=>
 J_16 [v50,v45] w ∧ m_17 [v50,v45] w < m_17 l_18 w0_l_18) w) w) w)
 (oM prog (.binOp .sub 3 (.tmp 0) (.tmp 1) 3) 3 [(l_10.getD 3 undef),(.int .i64 2)] (fun v32 w=>
 J_8 [(l_18.getD 0 undef),v40,(l_18.getD 1 undef),v32] w ∧ m_9 [(l_18.getD 0 undef),v40,(l_18.getD 1 undef),v32] w < m_9 l_10 w0_l_10) w)) w)) w0_l_18)) w) w) w) w)
 (K (l_10.getD 0 undef) w)) w)) w0_l_10))) w) w) w)) w) w
theorem sh_153_ok {a0 a1 a2:Value} {K:Value → World → Prop} {w:World} (h:sh_153 a0 a1 a2 K w):callM prog 153 #[a0,a1,a2] K w:=
 calls_of_code (fun _=>0) (fn:=Tryz.f153) (rs:=[.tmp 6]) Tryz.func153 rfl rfl (by kernel_rfl) (Nat.le_of_ble_eq_true rfl) (Eq.mp (by kernel_rfl) h)
def sh_166 (a0 a1 a2:Value) (K:Value → World → Prop) (w:World):Prop:=
 oM prog (.box 30 (.tmp 0)) 0 [a0] (fun v3 w=>
 oM prog (.fieldAddr 30 (.tmp 0) 0) 0 [v3] (fun v10 w=>
 oM prog (.load 3 (.tmp 0)) 3 [v10] (fun v11 w=>
 callM prog 154 #[v11] (fun v12 w=>
 oM prog (.unOp .not 4 (.tmp 0)) 4 [v12] (fun v13 w=>
 gdM (gd v13 false) (oM prog (.fieldAddr 30 (.tmp 0) 1) 0 [v3]) (fun v15 w=>
 gdM (gd v13 false) (oM prog (.load 3 (.tmp 0)) 3 [v15]) (fun v16 w=>
 gdM (gd v13 false) (callM prog 154 #[v16]) (fun v17 w=>
 gdM (gd v13 false) (oM prog (.unOp .not 4 (.tmp 0)) 4 [v17]) (fun v18 w=>
 oM prog (.pick (.tmp 0) (.tmp 1) (.tmp 2)) 4 [v13,(.bool true),v18] (fun v19 w=>
 gdM (gd v19 false) (pureM a1) (fun v21 w=>
 gdM (gd v19 false) (oM prog (.call (Go.Call.mk (.builtin .len) #[(.tmp 0)] #[22])) 3 [v21]) (fun v22 w=>
 gdM (gd v19 false) (pureM a2) (fun v23 w=>
 gdM (gd v19 false) (oM prog (.call (Go.Call.mk (.builtin .len) #[(.tmp 0)] #[22])) 3 [v23]) (fun v24 w=>
 gdM (gd v19 false) (oM prog (.binOp .neq 3 (.tmp 0) (.tmp 1) 3) 4 [v22,v24]) (fun v25 w=>
 oM prog (.pick (.tmp 0) (.tmp 1) (.tmp 2)) 4 [v19,(.bool true),v25] (fun v26 w=>
 condM v26
 (K (.tuple #[(.int .i64 0),(.bool false)]) w)
 (oM prog (.fieldAddr 30 (.tmp 0) 0) 0 [v3] (fun v27 w=>
 oM prog (.load 3 (.tmp 0)) 3 [v27] (fun v28 w=>
 oM prog (.binOp .rem 3 (.tmp 0) (.tmp 1) 3) 3 [(.int .i64 1),v28] (fun v29 w=>
 loopM [v29,(.int .i64 0)] w (fun J_20 m_21 l_22 u_l_22 w0_l_22=>(fun w=>(
 oM prog (.call (Go.Call.mk (.builtin .len) #[(.tmp 0)] #[22])) 3 [a1] (fun v32 w=>
 oM prog (.binOp .lss 3 (.tmp 0) (.tmp 1) 3) 4 [(l_22.getD 1 undef),v32] (fun v33 w=>
 condM v33
 (quietM w (fun C_25=>(oQ prog (.fieldAddr 30 (.tmp 0) 0) 0 [v3] C_25 (fun v36=>
 oQ prog (.load 3 (.tmp 0)) 3 [v36] C_25 (fun v37=>
 oQ prog (.load 30 (.tmp 0)) 30 [v3] C_25 (fun v39=>
 oQ prog (.indexAddr 22 (.tmp 0) (.tmp 1)) 0 [a1,(l_22.getD 1 undef)] C_25 (fun v42=>
 oQ prog (.load 3 (.tmp 0)) 3 [v42] C_25 (fun v43=>
 oQ prog (.indexAddr 22 (.tmp 0) (.tmp 1)) 0 [a2,(l_22.getD 1 undef)] C_25 (fun v46=>
 oQ prog (.load 3 (.tmp 0)) 3 [v46] C_25 (fun v47=>
 callQ prog 164 #[v39,v43,v47] C_25 (fun v48=>
 callQ prog 153 #[v37,(l_22.getD 0 undef),v48] C_25 (fun v49=>
 ∀ w,C_25 w → (oM prog (.binOp .add 3 (.tmp 0) (.tmp 1) 3) 3 [(l_22.getD 1 undef),(.int .i64 1)] (fun v35 w=>
 J_20 [v49,v35] w ∧ m_21 [v49,v35] w < m_21 l_22 w0_l_22) w)))))))))))))
 (K (.tuple #[(l_22.getD 0 undef),(.bool true)]) w)) w) w)) w0_l_22)) w) w) w)) w) w) w) w) w) w) w) w) w) w) w) w) w) w) w) w
theorem sh_166_ok {a0 a1 a2:Value} {K:Value → World → Prop} {w:World} (h:sh_166 a0 a1 a2 K w):callM prog 166 #[a0,a1,a2] K w:=
 calls_of_code (fun _=>0) (fn:=Tryz.f166) (rs:=[.tmp 6,.tmp 7]) Tryz.func166 rfl rfl (by kernel_rfl) (Nat.le_of_ble_eq_true rfl) (Eq.mp (by kernel_rfl) h)
def sh_189 (a0 a1 a2:Value) (K:Value → World → Prop) (w:World):Prop:=
 oM prog (.binOp .rem 3 (.tmp 0) (.tmp 1) 3) 3 [(.int .i64 1),a0] (fun v10 w=>
 callM prog 155 #[a0,a1] (fun v13 w=>
 loopM [v10,v13,a2] w (fun J_3 m_4 l_5 u_l_5 w0_l_5=>(fun w=>(
 oM prog (.binOp .gtr 3 (.tmp 0) (.tmp 1) 3) 4 [(l_5.getD 2 undef),(.int .i64 0)] (fun v15 w=>
 condM v15
 (joinM (fun M_7=>(oM prog (.binOp .rem 3 (.tmp 0) (.tmp 1) 3) 3 [(l_5.getD 2 undef),(.int .i64 2)] (fun v17 w=>
 oM prog (.binOp .eql 3 (.tmp 0) (.const (.int .i64 1)) 3) 4 [v17] (fun v18 w=>
 condM v18
 (callM prog 153 #[a0,(l_5.getD 0 undef),(l_5.getD 1 undef)] (fun v22 w=>
 M_7 [v22] w) w)
 (M_7 [(l_5.getD 0 undef)] w)) w) w))
 (fun l_8 u_l_8 w=>(callM prog 153 #[a0,(l_5.getD 1 undef),(l_5.getD 1 undef)] (fun v26 w=>
 oM prog (.binOp .quo 3 (.tmp 0) (.tmp 1) 3) 3 [(l_5.getD 2 undef),(.int .i64 2)] (fun v28 w=>
 J_3 [(l_8.getD 0 undef),v26,v28] w ∧ m_4 [(l_8.getD 0 undef),v26,v28] w < m_4 l_5 w0_l_5) w) w)))
 (K (l_5.getD 0 undef) w)) w)) w0_l_5)) w) w
theorem sh_189_ok {a0 a1 a2:Value} {K:Value → World → Prop} {w:World} (h:sh_189 a0 a1 a2 K w):callM prog 189 #[a0,a1,a2] K w:=
 calls_of_code (fun _=>0) (fn:=Tryz.f189) (rs:=[.tmp 6]) Tryz.func189 rfl rfl (by kernel_rfl) (Nat.le_of_ble_eq_true rfl) (Eq.mp (by kernel_rfl) h)
def sh_188 (a0:Value) (K:Value → World → Prop) (w:World):Prop:=
 oM prog (.binOp .lss 3 (.tmp 0) (.tmp 1) 3) 4 [a0,(.int .i64 2)] (fun v7 w=>
 gdM (gd v7 false) (pureM a0) (fun v9 w=>
 gdM (gd v7 false) (oM prog (.binOp .geq 3 (.tmp 0) (.tmp 1) 3) 4 [v9,(.int .i64 2305843009213693952)]) (fun v10 w=>
 oM prog (.pick (.tmp 0) (.tmp 1) (.tmp 2)) 4 [v7,(.bool true),v10] (fun v11 w=>
 condM v11
 (K (.bool false) w)
 (callM prog 209 #[] (fun v12 w=>
 loopM [(.bool false),(.int .i64 0)] w (fun J_6 m_7 l_8 u_l_8 w0_l_8=>(fun w=>(
 oM prog (.call (Go.Call.mk (.builtin .len) #[(.tmp 0)] #[22])) 3 [v12] (fun v15 w=>
 oM prog (.binOp .lss 3 (.tmp 0) (.tmp 1) 3) 4 [(l_8.getD 1 undef),v15] (fun v16 w=>
 condM v16
 (oM prog (.indexAddr 22 (.tmp 0) (.tmp 1)) 0 [v12,(l_8.getD 1 undef)] (fun v22 w=>
 oM prog (.load 3 (.tmp 0)) 3 [v22] (fun v23 w=>
 oM prog (.binOp .rem 3 (.tmp 0) (.tmp 1) 3) 3 [a0,v23] (fun v24 w=>
 oM prog (.binOp .eql 3 (.tmp 0) (.const (.int .i64 0)) 3) 4 [v24] (fun v25 w=>
 condM v25
 (oM prog (.indexAddr 22 (.tmp 0) (.tmp 1)) 0 [v12,(l_8.getD 1 undef)] (fun v29 w=>
 oM prog (.load 3 (.tmp 0)) 3 [v29] (fun v30 w=>
 oM prog (.binOp .eql 3 (.tmp 0) (.tmp 1) 3) 4 [a0,v30] (fun v31 w=>
 K v31 w) w) w) w)
 (oM prog (.binOp .add 3 (.tmp 0) (.tmp 1) 3) 3 [(l_8.getD 1 undef),(.int .i64 1)] (fun v18 w=>
 J_6 [(l_8.getD 0 undef),v18] w ∧ m_7 [(l_8.getD 0 undef),v18] w < m_7 l_8 w0_l_8) w)) w) w) w) w)
 (loopM [(l_8.getD 0 undef),(.int .i64 0)] w (fun J_19 m_20 l_21 u_l_21 w0_l_21=>(fun w=>(
 oM prog (.call (Go.Call.mk (.builtin .len) #[(.tmp 0)] #[22])) 3 [v12] (fun v34 w=>
 oM prog (.binOp .lss 3 (.tmp 0) (.tmp 1) 3) 4 [(l_21.getD 1 undef),v34] (fun v35 w=>
 condM v35
 (oM prog (.indexAddr 22 (.tmp 0) (.tmp 1)) 0 [v12,(l_21.getD 1 undef)] (fun v41 w=>
 oM prog (.load 3 (.tmp 0)) 3 [v41] (fun v42 w=>
 callM prog 210 #[a0,v42] (fun v43 w=>
 oM prog (.unOp .not 4 (.tmp 0)) 4 [v43] (fun v44 w=>
 condM v44
 (K (.bool false) w)
 (oM prog (.binOp .add 3 (.tmp 0) (.tmp 1) 3) 3 [(l_21.getD 1 undef),(.int .i64 1)] (fun v37 w=>
 J_19 [(l_21.getD 0 undef),v37] w ∧ m_20 [(l_21.getD 0 undef),v37] w < m_20 l_21 w0_l_21) w)) w) w) w) w)
 (K (.bool true) w)) w) w)) w0_l_21))) w) w)) w0_l_8)) w)) w) w) w) w
theorem sh_188_ok {a0:Value} {K:Value → World → Prop} {w:World} (h:sh_188 a0 K w):callM prog 188 #[a0] K w:=
 calls_of_code (fun _=>0) (fn:=Tryz.f188) (rs:=[.tmp 2]) Tryz.func188 rfl rfl (by kernel_rfl) (Nat.le_of_ble_eq_true rfl) (Eq.mp (by kernel_rfl) h)
def sh_210 (a0 a1:Value) (K:Value → World → Prop) (w:World):Prop:=
 oM prog (.binOp .sub 3 (.tmp 0) (.tmp 1) 3) 3 [a0,(.int .i64 1)] (fun v10 w=>
 loopM [v10,(.int .i64 0)] w (fun J_2 m_3 l_4 u_l_4 w0_l_4=>(fun w=>(
 oM prog (.binOp .rem 3 (.tmp 0) (.tmp 1) 3) 3 [(l_4.getD 0 undef),(.int .i64 2)] (fun v12 w=>
 oM prog (.binOp .eql 3 (.tmp 0) (.const (.int .i64 0)) 3) 4 [v12] (fun v13 w=>
 condM v13
 (oM prog (.binOp .quo 3 (.tmp 0) (.tmp 1) 3) 3 [(l_4.getD 0 undef),(.int .i64 2)] (fun v15 w=>
 oM prog (.binOp .add 3 (.tmp 0) (.tmp 1) 3) 3 [(l_4.getD 1 undef),(.int .i64 1)] (fun v17 w=>
 J_2 [v15,v17] w ∧ m_3 [v15,v17] w < m_3 l_4 w0_l_4) w) w)
 (callM prog 189 #[a0,a1,(l_4.getD 0 undef)] (fun v21 w=>
 oM prog (.binOp .eql 3 (.tmp 0) (.const (.int .i64 1)) 3) 4 [v21] (fun v23 w=>
 condM v23
 (K (.bool true) w)
 (loopM [(.bool false),v21,(.int .i64 0)] w (fun J_11 m_12 l_13 u_l_13 w0_l_13=>(fun w=>(
 oM prog (.binOp .lss 3 (.tmp 0) (.tmp 1) 3) 4 [(l_13.getD 2 undef),(l_4.getD 1 undef)] (fun v26 w=>
 condM v26
 (oM prog (.binOp .sub 3 (.tmp 0) (.tmp 1) 3) 3 [a0,(.int .i64 1)] (fun v31 w=>
 oM prog (.binOp .eql 3 (.tmp 0) (.tmp 1) 3) 4 [(l_13.getD 1 undef),v31] (fun v32 w=>
 condM v32
 (K (.bool true) w)
 (callM prog 153 #[a0,(l_13.getD 1 undef),(l_13.getD 1 undef)] (fun v36 w=>
 oM prog (.binOp .add 3 (.tmp 0) (.tmp 1) 3) 3 [(l_13.getD 2 undef),(.int .i64 1)] (fun v28 w=>
 J_11 [(l_13.getD 0 undef),v36,v28] w ∧ m_12 [(l_13.getD 0 undef),v36,v28] w < m_12 l_13 w0_l_13) w) w)) w) w)
 (K (.bool false) w)) w)) w0_l_13))) w) w)) w) w)) w0_l_4)) w
theorem sh_210_ok {a0 a1:Value} {K:Value → World → Prop} {w:World} (h:sh_210 a0 a1 K w):callM prog 210 #[a0,a1] K w:=
 calls_of_code (fun _=>0) (fn:=Tryz.f210) (rs:=[.tmp 4]) Tryz.func210 rfl rfl (by kernel_rfl) (Nat.le_of_ble_eq_true rfl) (Eq.mp (by kernel_rfl) h)
def sh_209 (K:Value → World → Prop) (w:World):Prop:=
 oM prog (.buildSlice 22 12 #[(0,(.tmp 0)),(1,(.tmp 1)),(2,(.tmp 2)),(3,(.tmp 3)),(4,(.tmp 4)),(5,(.tmp 5)),(6,(.tmp 6)),(7,(.tmp 7)),(8,(.tmp 8)),(9,(.tmp 9)),(10,(.tmp 10)),(11,(.tmp 11))]) 22 [(.int .i64 2),(.int .i64 3),(.int .i64 5),(.int .i64 7),(.int .i64 11),(.int .i64 13),(.int .i64 17),(.int .i64 19),(.int .i64 23),(.int .i64 29),(.int .i64 31),(.int .i64 37)] (fun v1 w=>
 K v1 w) w
theorem sh_209_ok {K:Value → World → Prop} {w:World} (h:sh_209 K w):callM prog 209 #[] K w:=
 calls_of_code (fun _=>0) (fn:=Tryz.f209) (rs:=[.tmp 0]) Tryz.func209 rfl rfl (by kernel_rfl) (Nat.le_of_ble_eq_true rfl) (Eq.mp (by kernel_rfl) h)
def sh_116 (a0 a1:Value) (K:Value → World → Prop) (w:World):Prop:=
 oM prog (.box 30 (.tmp 0)) 0 [a0] (fun v2 w=>
 oM prog (.binOp .geq 3 (.tmp 0) (.tmp 1) 3) 4 [a1,(.int .i64 1)] (fun v6 w=>
 gdM (gd v6 true) (pureM a1) (fun v8 w=>
 gdM (gd v6 true) (oM prog (.fieldAddr 30 (.tmp 0) 0) 0 [v2]) (fun v9 w=>
 gdM (gd v6 true) (oM prog (.load 3 (.tmp 0)) 3 [v9]) (fun v10 w=>
 gdM (gd v6 true) (oM prog (.binOp .lss 3 (.tmp 0) (.tmp 1) 3) 4 [v8,v10]) (fun v11 w=>
 oM prog (.pick (.tmp 0) (.tmp 1) (.tmp 2)) 4 [v6,v11,(.bool false)] (fun v12 w=>
 gdM (gd v12 true) (oM prog (.load 30 (.tmp 0)) 30 [v2]) (fun v14 w=>
 gdM (gd v12 true) (callM prog 156 #[v14]) (fun v15 w=>
 oM prog (.pick (.tmp 0) (.tmp 1) (.tmp 2)) 4 [v12,v15,(.bool false)] (fun v16 w=>
 gdM (gd v16 true) (oM prog (.load 30 (.tmp 0)) 30 [v2]) (fun v18 w=>
 gdM (gd v16 true) (pureM a1) (fun v19 w=>
 gdM (gd v16 true) (callM prog 163 #[v18,v19]) (fun v20 w=>
 oM prog (.pick (.tmp 0) (.tmp 1) (.tmp 2)) 4 [v16,v20,(.bool false)] (fun v21 w=>
 K v21 w) w) w) w) w) w) w) w) w) w) w) w) w) w) w
theorem sh_116_ok {a0 a1:Value} {K:Value → World → Prop} {w:World} (h:sh_116 a0 a1 K w):callM prog 116 #[a0,a1] K w:=
 calls_of_code (fun _=>0) (fn:=Tryz.f116) (rs:=[.tmp 4]) Tryz.func116 rfl rfl (by kernel_rfl) (Nat.le_of_ble_eq_true rfl) (Eq.mp (by kernel_rfl) h)
def sh_106 (a0:Value) (K:Value → World → Prop) (w:World):Prop:=
 oM prog (.box 32 (.tmp 0)) 0 [a0] (fun v1 w=>
 oM prog (.fieldAddr 32 (.tmp 0) 0) 0 [v1] (fun v4 w=>
 oM prog (.load 30 (.tmp 0)) 30 [v4] (fun v5 w=>
 callM prog 156 #[v5] (fun v6 w=>
 oM prog (.unOp .not 4 (.tmp 0)) 4 [v6] (fun v7 w=>
 gdM (gd v7 false) (oM prog (.fieldAddr 32 (.tmp 0) 1) 0 [v1]) (fun v9 w=>
 gdM (gd v7 false) (oM prog (.load 22 (.tmp 0)) 22 [v9]) (fun v10 w=>
 gdM (gd v7 false) (oM prog (.call (Go.Call.mk (.builtin .len) #[(.tmp 0)] #[22])) 3 [v10]) (fun v11 w=>
 gdM (gd v7 false) (oM prog (.binOp .lss 3 (.tmp 0) (.tmp 1) 3) 4 [v11,(.int .i64 2)]) (fun v12 w=>
 oM prog (.pick (.tmp 0) (.tmp 1) (.tmp 2)) 4 [v7,(.bool true),v12] (fun v13 w=>
 gdM (gd v13 false) (oM prog (.fieldAddr 32 (.tmp 0) 1) 0 [v1]) (fun v15 w=>
 gdM (gd v13 false) (oM prog (.load 22 (.tmp 0)) 22 [v15]) (fun v16 w=>
 gdM (gd v13 false) (oM prog (.call (Go.Call.mk (.builtin .len) #[(.tmp 0)] #[22])) 3 [v16]) (fun v17 w=>
 gdM (gd v13 false) (oM prog (.binOp .gtr 3 (.tmp 0) (.tmp 1) 3) 4 [v17,(.int .i64 7)]) (fun v18 w=>
 oM prog (.pick (.tmp 0) (.tmp 1) (.tmp 2)) 4 [v13,(.bool true),v18] (fun v19 w=>
 gdM (gd v19 false) (oM prog (.fieldAddr 32 (.tmp 0) 0) 0 [v1]) (fun v21 w=>
 gdM (gd v19 false) (oM prog (.load 30 (.tmp 0)) 30 [v21]) (fun v22 w=>
 gdM (gd v19 false) (oM prog (.fieldAddr 32 (.tmp 0) 2) 0 [v1]) (fun v23 w=>
 gdM (gd v19 false) (oM prog (.load 3 (.tmp 0)) 3 [v23]) (fun v24 w=>
 gdM (gd v19 false) (callM prog 157 #[v22,v24]) (fun v25 w=>
 gdM (gd v19 false) (oM prog (.unOp .not 4 (.tmp 0)) 4 [v25]) (fun v26 w=>
 oM prog (.pick (.tmp 0) (.tmp 1) (.tmp 2)) 4 [v19,(.bool true),v26] (fun v27 w=>
 condM v27
 (K (.bool false) w)
 (loopM [(.bool false),(.int .i64 0)] w (fun J_23 m_24 l_25 u_l_25 w0_l_25=>(fun w=>(
 oM prog (.fieldAddr 32 (.tmp 0) 1) 0 [v1] (fun v29 w=>
 oM prog (.load 22 (.tmp 0)) 22 [v29] (fun v30 w=>
 oM prog (.call (Go.Call.mk (.builtin .len) #[(.tmp 0)] #[22])) 3 [v30] (fun v31 w=>
 oM prog (.binOp .lss 3 (.tmp 0) (.tmp 1) 3) 4 [(l_25.getD 1 undef),v31] (fun v32 w=>
 condM v32
 (heldM w (fun C_30 w=>(((true:Bool) = true) ∧ (oH prog (.fieldAddr 32 (.tmp 0) 0) 0 [v1] C_30 (fun v35=>
 oH prog (.load 30 (.tmp 0)) 30 [v35] C_30 (fun v36=>
 oH prog (.fieldAddr 32 (.tmp 0) 1) 0 [v1] C_30 (fun v37=>
 oH prog (.load 22 (.tmp 0)) 22 [v37] C_30 (fun v38=>
 pureH (l_25.getD 1 undef) C_30 (fun v39=>
 oH prog (.indexAddr 22 (.tmp 0) (.tmp 1)) 0 [v38,v39] C_30 (fun v40=>
 oH prog (.load 3 (.tmp 0)) 3 [v40] C_30 (fun v41=>
 ∃ S_38:World → World → Prop,∀ w,C_30 w → (
 callM prog 157 #[v36,v41] (fun v42 w=>C_30 w ∧ (
 oM prog (.unOp .not 4 (.tmp 0)) 4 [v42] (fun v43 w=>C_30 w ∧ (
 condM v43
 (K (.bool false) w)
 (oM prog (.binOp .add 3 (.tmp 0) (.tmp 1) 3) 3 [(l_25.getD 1 undef),(.int .i64 1)] (fun v34 w=>
 J_23 [(l_25.getD 0 undef),v34] w ∧ m_24 [(l_25.getD 0 undef),v34] w < m_24 l_25 w0_l_25) w))) w)) w))))))))))))
 (K (.bool true) w)) w) w) w) w)) w0_l_25))) w) w) w) w) w) w) w) w) w) w) w) w) w) w) w) w) w) w) w) w) w) w
theorem sh_106_ok {a0:Value} {K:Value → World → Prop} {w:World} (h:sh_106 a0 K w):callM prog 106 #[a0] K w:=
 calls_of_code (fun _=>.mono [0,1,2,3,4,5,6] [] [7,8]) (fn:=Tryz.f106) (rs:=[.tmp 2]) Tryz.func106 rfl rfl (by kernel_rfl) (Nat.le_of_ble_eq_true rfl) (Eq.mp (by kernel_rfl) h)
def sh_157 (a0 a1:Value) (K:Value → World → Prop) (w:World):Prop:=
 oM prog (.box 30 (.tmp 0)) 0 [a0] (fun v2 w=>
 oM prog (.binOp .neq 3 (.tmp 0) (.const (.int .i64 1)) 3) 4 [a1] (fun v6 w=>
 gdM (gd v6 true) (oM prog (.load 30 (.tmp 0)) 30 [v2]) (fun v8 w=>
 gdM (gd v6 true) (pureM a1) (fun v9 w=>
 gdM (gd v6 true) (callM prog 163 #[v8,v9]) (fun v10 w=>
 oM prog (.pick (.tmp 0) (.tmp 1) (.tmp 2)) 4 [v6,v10,(.bool false)] (fun v11 w=>
 K v11 w) w) w) w) w) w) w
theorem sh_157_ok {a0 a1:Value} {K:Value → World → Prop} {w:World} (h:sh_157 a0 a1 K w):callM prog 157 #[a0,a1] K w:=
 calls_of_code (fun _=>0) (fn:=Tryz.f157) (rs:=[.tmp 4]) Tryz.func157 rfl rfl (by kernel_rfl) (Nat.le_of_ble_eq_true rfl) (Eq.mp (by kernel_rfl) h)
end Go.Proofs
namespace Go.Proofs
open Go.Sh Tryz
def sh_125 (a0 a1:Value) (K:Value → World → Prop) (w:World):Prop:=
 callM prog 154 #[a1] (fun v9 w=>
 oM prog (.unOp .not 4 (.tmp 0)) 4 [v9] (fun v10 w=>
 condM v10
 (K (.int .i64 0) w)
 (callM prog 171 #[a0] (fun v12 w=>
 loopM [(.int .i64 0),(.int .i64 0)] w (fun J_4 m_5 l_6 u_l_6 w0_l_6=>(fun w=>(
 oM prog (.call (Go.Call.mk (.builtin .len) #[(.tmp 0)] #[9])) 3 [v12] (fun v15 w=>
 oM prog (.binOp .lss 3 (.tmp 0) (.tmp 1) 3) 4 [(l_6.getD 1 undef),v15] (fun v16 w=>
 condM v16
 (quietM w (fun C_9=>(callQ prog 153 #[a1,(l_6.getD 0 undef),(.int .i64 256)] C_9 (fun v22=>
 oQ prog (.index 9 (.tmp 0) (.tmp 1)) 5 [v12,(l_6.getD 1 undef)] C_9 (fun v25=>
 oQ prog (.convert 5 3 (.tmp 0)) 3 [v25] C_9 (fun v26=>
 callQ prog 109 #[a1,v22,v26] C_9 (fun v27=>
 ∀ w,C_9 w → (oM prog (.binOp .add 3 (.tmp 0) (.tmp 1) 3) 3 [(l_6.getD 1 undef),(.int .i64 1)] (fun v18 w=>
 J_4 [v27,v18] w ∧ m_5 [v27,v18] w < m_5 l_6 w0_l_6) w))))))))
 (K (l_6.getD 0 undef) w)) w) w)) w0_l_6)) w)) w) w
theorem sh_125_ok {a0 a1:Value} {K:Value → World → Prop} {w:World} (h:sh_125 a0 a1 K w):callM prog 125 #[a0,a1] K w:=
 calls_of_code (fun _=>0) (fn:=Tryz.f125) (rs:=[.tmp 4]) Tryz.func125 rfl rfl (by kernel_rfl) (Nat.le_of_ble_eq_true rfl) (Eq.mp (by kernel_rfl) h)
def sh_171 (a0:Value) (K:Value → World → Prop) (w:World):Prop:=
 oM prog (.convert 9 181 (.tmp 0)) 181 [a0] (fun v9 w=>
 callM prog 196 #[v9] (fun v10 w=>
 callM prog 197 #[] (fun v11 w=>
 loopM [v11,(.int .i64 0)] w (fun J_4 m_5 l_6 u_l_6 w0_l_6=>(fun w=>(
 oM prog (.call (Go.Call.mk (.builtin .len) #[(.tmp 0)] #[181])) 3 [v10] (fun v14 w=>
 oM prog (.binOp .lss 3 (.tmp 0) (.tmp 1) 3) 4 [(l_6.getD 1 undef),v14] (fun v15 w=>
 condM v15
 (oM prog (.binOp .add 3 (.tmp 0) (.tmp 1) 3) 3 [(l_6.getD 1 undef),(.int .i64 64)] (fun v22 w=>
 oM prog (.slice 181 (.tmp 0) (some (.tmp 1)) (some (.tmp 2)) none) 181 [v10,(l_6.getD 1 undef),v22] (fun v23 w=>
 callM prog 198 #[(l_6.getD 0 undef),v23] (fun v24 w=>
 oM prog (.binOp .add 3 (.tmp 0) (.tmp 1) 3) 3 [(l_6.getD 1 undef),(.int .i64 64)] (fun v17 w=>
 J_4 [v24,v17] w ∧ m_5 [v24,v17] w < m_5 l_6 w0_l_6) w) w) w) w)
 (oM prog (.buildSlice 181 0 #[]) 181 [] (fun v25 w=>
 loopM [v25,(.int .i64 0)] w (fun J_14 m_15 l_16 u_l_16 w0_l_16=>(fun w=>(
 oM prog (.binOp .lss 3 (.tmp 0) (.tmp 1) 3) 4 [(l_16.getD 1 undef),(.int .i64 32)] (fun v27 w=>
 condM v27
 (oM prog (.binOp .quo 3 (.tmp 0) (.tmp 1) 3) 3 [(l_16.getD 1 undef),(.int .i64 4)] (fun v33 w=>
 oM prog (.indexAddr 216 (.tmp 0) (.tmp 1)) 0 [(l_6.getD 0 undef),v33] (fun v34 w=>
 oM prog (.load 200 (.tmp 0)) 200 [v34] (fun v35 w=>
 oM prog (.binOp .rem 3 (.tmp 0) (.tmp 1) 3) 3 [(l_16.getD 1 undef),(.int .i64 4)] (fun v37 w=>
 oM prog (.binOp .mul 3 (.tmp 0) (.tmp 1) 3) 3 [(.int .i64 8),v37] (fun v38 w=>
 oM prog (.binOp .sub 3 (.tmp 0) (.tmp 1) 3) 3 [(.int .i64 24),v38] (fun v39 w=>
 oM prog (.binOp .shr 200 (.tmp 0) (.tmp 1) 3) 200 [v35,v39] (fun v40 w=>
 oM prog (.convert 200 5 (.tmp 0)) 5 [v40] (fun v41 w=>
 oM prog (.buildSlice 181 1 #[(0,(.tmp 0))]) 181 [v41] (fun v42 w=>
 oM prog (.call (Go.Call.mk (.builtin .append) #[(.tmp 0),(.tmp 1)] #[181,181])) 181 [(l_16.getD 0 undef),v42] (fun v43 w=>
 oM prog (.binOp .add 3 (.tmp 0) (.tmp 1) 3) 3 [(l_16.getD 1 undef),(.int .i64 1)] (fun v29 w=>
 J_14 [v43,v29] w ∧ m_15 [v43,v29] w < m_15 l_16 w0_l_16) w) w) w) w) w) w) w) w) w) w) w)
 (oM prog (.convert 181 9 (.tmp 0)) 9 [(l_16.getD 0 undef)] (fun v45 w=>
 K v45 w) w)) w)) w0_l_16)) w)) w) w)) w0_l_6)) w) w) w
theorem sh_171_ok {a0:Value} {K:Value → World → Prop} {w:World} (h:sh_171 a0 K w):callM prog 171 #[a0] K w:=
 calls_of_code (fun _=>0) (fn:=Tryz.f171) (rs:=[.tmp 2]) Tryz.func171 rfl rfl (by kernel_rfl) (Nat.le_of_ble_eq_true rfl) (Eq.mp (by kernel_rfl) h)
def sh_196 (a0:Value) (K:Value → World → Prop) (w:World):Prop:=
 oM prog (.buildSlice 181 0 #[]) 181 [] (fun v6 w=>
 oM prog (.call (Go.Call.mk (.builtin .append) #[(.tmp 0),(.tmp 1)] #[181,181])) 181 [v6,a0] (fun v8 w=>
 oM prog (.buildSlice 181 1 #[(0,(.tmp 0))]) 181 [(.int .u8 128)] (fun v10 w=>
 oM prog (.call (Go.Call.mk (.builtin .append) #[(.tmp 0),(.tmp 1)] #[181,181])) 181 [v8,v10] (fun v11 w=>
 loopM [v11] w (fun J_5 m_6 l_7 u_l_7 w0_l_7=>(fun w=>(
 oM prog (.call (Go.Call.mk (.builtin .len) #[(.tmp 0)] #[181])) 3 [(l_7.getD 0 undef)] (fun v13 w=>
 oM prog (.binOp .rem 3 (.tmp 0) (.tmp 1) 3) 3 [v13,(.int .i64 64)] (fun v14 w=>
 oM prog (.binOp .neq 3 (.tmp 0) (.const (.int .i64 56)) 3) 4 [v14] (fun v15 w=>
 condM v15
 (oM prog (.buildSlice 181 1 #[(0,(.tmp 0))]) 181 [(.int .u8 0)] (fun v17 w=>
 oM prog (.call (Go.Call.mk (.builtin .append) #[(.tmp 0),(.tmp 1)] #[181,181])) 181 [(l_7.getD 0 undef),v17] (fun v18 w=>
 J_5 [v18] w ∧ m_6 [v18] w < m_6 l_7 w0_l_7) w) w)
 (oM prog (.call (Go.Call.mk (.builtin .len) #[(.tmp 0)] #[181])) 3 [a0] (fun v20 w=>
 oM prog (.convert 3 139 (.tmp 0)) 139 [v20] (fun v21 w=>
 oM prog (.binOp .mul 139 (.tmp 0) (.tmp 1) 139) 139 [(.int .u64 8),v21] (fun v22 w=>
 loopM [(l_7.getD 0 undef),(.int .i64 56)] w (fun J_16 m_17 l_18 u_l_18 w0_l_18=>(fun w=>(
 oM prog (.binOp .geq 3 (.tmp 0) (.tmp 1) 3) 4 [(l_18.getD 1 undef),(.int .i64 0)] (fun v24 w=>
 condM v24
 (oM prog (.binOp .shr 139 (.tmp 0) (.tmp 1) 3) 139 [v22,(l_18.getD 1 undef)] (fun v30 w=>
 oM prog (.convert 139 5 (.tmp 0)) 5 [v30] (fun v31 w=>
 oM prog (.buildSlice 181 1 #[(0,(.tmp 0))]) 181 [v31] (fun v32 w=>
 oM prog (.call (Go.Call.mk (.builtin .append) #[(.tmp 0),(.tmp 1)] #[181,181])) 181 [(l_18.getD 0 undef),v32] (fun v33 w=>
 oM prog (.binOp .sub 3 (.tmp 0) (.tmp 1) 3) 3 [(l_18.getD 1 undef),(.int .i64 8)] (fun v26 w=>
 J_16 [v33,v26] w ∧ m_17 [v33,v26] w < m_17 l_18 w0_l_18) w) w) w) w) w)
 (K (l_18.getD 0 undef) w)) w)) w0_l_18)) w) w) w)) w) w) w)) w0_l_7)) w) w) w) w
theorem sh_196_ok {a0:Value} {K:Value → World → Prop} {w:World} (h:sh_196 a0 K w):callM prog 196 #[a0] K w:=
 calls_of_code (fun _=>0) (fn:=Tryz.f196) (rs:=[.tmp 2]) Tryz.func196 rfl rfl (by kernel_rfl) (Nat.le_of_ble_eq_true rfl) (Eq.mp (by kernel_rfl) h)
def sh_197 (K:Value → World → Prop) (w:World):Prop:=
 oM prog (.buildSlice 216 8 #[(0,(.tmp 0)),(1,(.tmp 1)),(2,(.tmp 2)),(3,(.tmp 3)),(4,(.tmp 4)),(5,(.tmp 5)),(6,(.tmp 6)),(7,(.tmp 7))]) 216 [(.int .u32 1779033703),(.int .u32 3144134277),(.int .u32 1013904242),(.int .u32 2773480762),(.int .u32 1359893119),(.int .u32 2600822924),(.int .u32 528734635),(.int .u32 1541459225)] (fun v1 w=>
 K v1 w) w
theorem sh_197_ok {K:Value → World → Prop} {w:World} (h:sh_197 K w):callM prog 197 #[] K w:=
 calls_of_code (fun _=>0) (fn:=Tryz.f197) (rs:=[.tmp 0]) Tryz.func197 rfl rfl (by kernel_rfl) (Nat.le_of_ble_eq_true rfl) (Eq.mp (by kernel_rfl) h)
def sh_198 (a0 a1:Value) (K:Value → World → Prop) (w:World):Prop:=
 callM prog 217 #[a1] (fun v16 w=>
 callM prog 218 #[] (fun v17 w=>
 oM prog (.buildSlice 216 0 #[]) 216 [] (fun v18 w=>
 oM prog (.call (Go.Call.mk (.builtin .append) #[(.tmp 0),(.tmp 1)] #[216,216])) 216 [v18,a0] (fun v20 w=>
 loopM [undef,undef,undef,undef,undef,v20,(.int .i64 0)] w (fun J_5 m_6 l_7 u_l_7 w0_l_7=>(fun w=>(
 oM prog (.binOp .lss 3 (.tmp 0) (.tmp 1) 3) 4 [(l_7.getD 6 undef),(.int .i64 64)] (fun v22 w=>
 condM v22
 (quietM w (fun C_9=>(oQ prog (.indexAddr 216 (.tmp 0) (.tmp 1)) 0 [(l_7.getD 5 undef),(.int .i64 4)] C_9 (fun v26=>
 oQ prog (.load 200 (.tmp 0)) 200 [v26] C_9 (fun v27=>
 callQ prog 219 #[v27,(.int .i64 6)] C_9 (fun v28=>
 oQ prog (.indexAddr 216 (.tmp 0) (.tmp 1)) 0 [(l_7.getD 5 undef),(.int .i64 4)] C_9 (fun v30=>
 oQ prog (.load 200 (.tmp 0)) 200 [v30] C_9 (fun v31=>
 callQ prog 219 #[v31,(.int .i64 11)] C_9 (fun v32=>
 oQ prog (.binOp .xor 200 (.tmp 0) (.tmp 1) 200) 200 [v28,v32] C_9 (fun v33=>
 oQ prog (.indexAddr 216 (.tmp 0) (.tmp 1)) 0 [(l_7.getD 5 undef),(.int .i64 4)] C_9 (fun v35=>
 oQ prog (.load 200 (.tmp 0)) 200 [v35] C_9 (fun v36=>
 callQ prog 219 #[v36,(.int .i64 25)] C_9 (fun v37=>
 oQ prog (.binOp .xor 200 (.tmp 0) (.tmp 1) 200) 200 [v33,v37] C_9 (fun v38=>
 ∀ w,C_9 w → (quietM w (fun C_21=>(oQ prog (.indexAddr 216 (.tmp 0) (.tmp 1)) 0 [(l_7.getD 5 undef),(.int .i64 4)] C_21 (fun v40=>
 oQ prog (.load 200 (.tmp 0)) 200 [v40] C_21 (fun v41=>
 oQ prog (.indexAddr 216 (.tmp 0) (.tmp 1)) 0 [(l_7.getD 5 undef),(.int .i64 5)] C_21 (fun v43=>
 oQ prog (.load 200 (.tmp 0)) 200 [v43] C_21 (fun v44=>
 oQ prog (.binOp .and 200 (.tmp 0) (.tmp 1) 200) 200 [v41,v44] C_21 (fun v45=>
 oQ prog (.indexAddr 216 (.tmp 0) (.tmp 1)) 0 [(l_7.getD 5 undef),(.int .i64 4)] C_21 (fun v47=>
 oQ prog (.load 200 (.tmp 0)) 200 [v47] C_21 (fun v48=>
 oQ prog (.unOp .xor 200 (.tmp 0)) 200 [v48] C_21 (fun v49=>
 oQ prog (.indexAddr 216 (.tmp 0) (.tmp 1)) 0 [(l_7.getD 5 undef),(.int .i64 6)] C_21 (fun v51=>
 oQ prog (.load 200 (.tmp 0)) 200 [v51] C_21 (fun v52=>
 oQ prog (.binOp .and 200 (.tmp 0) (.tmp 1) 200) 200 [v49,v52] C_21 (fun v53=>
 oQ prog (.binOp .xor 200 (.tmp 0) (.tmp 1) 200) 200 [v45,v53] C_21 (fun v54=>
 ∀ w,C_21 w → (quietM w (fun C_34=>(oQ prog (.indexAddr 216 (.tmp 0) (.tmp 1)) 0 [(l_7.getD 5 undef),(.int .i64 7)] C_34 (fun v56=>
 oQ prog (.load 200 (.tmp 0)) 200 [v56] C_34 (fun v57=>
 oQ prog (.binOp .add 200 (.tmp 0) (.tmp 1) 200) 200 [v57,v38] C_34 (fun v59=>
 oQ prog (.binOp .add 200 (.tmp 0) (.tmp 1) 200) 200 [v59,v54] C_34 (fun v61=>
 oQ prog (.indexAddr 216 (.tmp 0) (.tmp 1)) 0 [v17,(l_7.getD 6 undef)] C_34 (fun v64=>
 oQ prog (.load 200 (.tmp 0)) 200 [v64] C_34 (fun v65=>
 oQ prog (.binOp .add 200 (.tmp 0) (.tmp 1) 200) 200 [v61,v65] C_34 (fun v66=>
 oQ prog (.indexAddr 216 (.tmp 0) (.tmp 1)) 0 [v16,(l_7.getD 6 undef)] C_34 (fun v69=>
 oQ prog (.load 200 (.tmp 0)) 200 [v69] C_34 (fun v70=>
 oQ prog (.binOp .add 200 (.tmp 0) (.tmp 1) 200) 200 [v66,v70] C_34 (fun v71=>
 ∀ w,C_34 w → (quietM w (fun C_45=>(oQ prog (.indexAddr 216 (.tmp 0) (.tmp 1)) 0 [(l_7.getD 5 undef),(.int .i64 0)] C_45 (fun v73=>
 oQ prog (.load 200 (.tmp 0)) 200 [v73] C_45 (fun v74=>
 callQ prog 219 #[v74,(.int .i64 2)] C_45 (fun v75=>
 oQ prog (.indexAddr 216 (.tmp 0) (.tmp 1)) 0 [(l_7.getD 5 undef),(.int .i64 0)] C_45 (fun v77=>
 oQ prog (.load 200 (.tmp 0)) 200 [v77] C_45 (fun v78=>
 callQ prog 219 #[v78,(.int .i64 13)] C_45 (fun v79=>
 oQ prog (.binOp .xor 200 (.tmp 0) (.tmp 1) 200) 200 [v75,v79] C_45 (fun v80=>
 oQ prog (.indexAddr 216 (.tmp 0) (.tmp 1)) 0 [(l_7.getD 5 undef),(.int .i64 0)] C_45 (fun v82=>
 oQ prog (.load 200 (.tmp 0)) 200 [v82] C_45 (fun v83=>
 callQ prog 219 #[v83,(.int .i64 22)] C_45 (fun v84=>
 oQ prog (.binOp .xor 200 (.tmp 0) (.tmp 1) 200) 200 [v80,v84] C_45 (fun v85=>
 ∀ w,C_45 w → (quietM w (fun C_57=>(oQ prog (.indexAddr 216 (.tmp 0) (.tmp 1)) 0 [(l_7.getD 5 undef),(.int .i64 0)] C_57 (fun v87=>
 oQ prog (.load 200 (.tmp 0)) 200 [v87] C_57 (fun v88=>
 oQ prog (.indexAddr 216 (.tmp 0) (.tmp 1)) 0 [(l_7.getD 5 undef),(.int .i64 1)] C_57 (fun v90=>
 oQ prog (.load 200 (.tmp 0)) 200 [v90] C_57 (fun v91=>
 oQ prog (.binOp .and 200 (.tmp 0) (.tmp 1) 200) 200 [v88,v91] C_57 (fun v92=>
 oQ prog (.indexAddr 216 (.tmp 0) (.tmp 1)) 0 [(l_7.getD 5 undef),(.int .i64 0)] C_57 (fun v94=>
 oQ prog (.load 200 (.tmp 0)) 200 [v94] C_57 (fun v95=>
 oQ prog (.indexAddr 216 (.tmp 0) (.tmp 1)) 0 [(l_7.getD 5 undef),(.int .i64 2)] C_57 (fun v97=>
 oQ prog (.load 200 (.tmp 0)) 200 [v97] C_57 (fun v98=>
 oQ prog (.binOp .and 200 (.tmp 0) (.tmp 1) 200) 200 [v95,v98] C_57 (fun v99=>
 oQ prog (.binOp .xor 200 (.tmp 0) (.tmp 1) 200) 200 [v92,v99] C_57 (fun v100=>
 oQ prog (.indexAddr 216 (.tmp 0) (.tmp 1)) 0 [(l_7.getD 5 undef),(.int .i64 1)] C_57 (fun v102=>
 oQ prog (.load 200 (.tmp 0)) 200 [v102] C_57 (fun v103=>
 oQ prog (.indexAddr 216 (.tmp 0) (.tmp 1)) 0 [(l_7.getD 5 undef),(.int .i64 2)] C_57 (fun v105=>
 oQ prog (.load 200 (.tmp 0)) 200 [v105] C_57 (fun v106=>
 oQ prog (.binOp .and 200 (.tmp 0) (.tmp 1) 200) 200 [v103,v106] C_57 (fun v107=>
 oQ prog (.binOp .xor 200 (.tmp 0) (.tmp 1) 200) 200 [v100,v107] C_57 (fun v108=>
 ∀ w,C_57 w → (heldM w (fun C_75 w=>(((true:Bool) = true) ∧ (pureH v71 C_75 (fun v109=>
 pureH v85 C_75 (fun v110=>
 oH prog (.binOp .add 200 (.tmp 0) (.tmp 1) 200) 200 [v109,v110] C_75 (fun v111=>
 pureH v108 C_75 (fun v112=>
 oH prog (.binOp .add 200 (.tmp 0) (.tmp 1) 200) 200 [v111,v112] C_75 (fun v113=>
 pureH (l_7.getD 5 undef) C_75 (fun v114=>
 oH prog (.indexAddr 216 (.tmp 0) (.tmp 1)) 0 [v114,(.int .i64 0)] C_75 (fun v115=>
 oH prog (.load 200 (.tmp 0)) 200 [v115] C_75 (fun v116=>
 pureH (l_7.getD 5 undef) C_75 (fun v117=>
 oH prog (.indexAddr 216 (.tmp 0) (.tmp 1)) 0 [v117,(.int .i64 1)] C_75 (fun v118=>
 oH prog (.load 200 (.tmp 0)) 200 [v118] C_75 (fun v119=>
 pureH (l_7.getD 5 undef) C_75 (fun v120=>
 oH prog (.indexAddr 216 (.tmp 0) (.tmp 1)) 0 [v120,(.int .i64 2)] C_75 (fun v121=>
 oH prog (.load 200 (.tmp 0)) 200 [v121] C_75 (fun v122=>
 pureH (l_7.getD 5 undef) C_75 (fun v123=>
 oH prog (.indexAddr 216 (.tmp 0) (.tmp 1)) 0 [v123,(.int .i64 3)] C_75 (fun v124=>
 oH prog (.load 200 (.tmp 0)) 200 [v124] C_75 (fun v125=>
 pureH v71 C_75 (fun v126=>
 oH prog (.binOp .add 200 (.tmp 0) (.tmp 1) 200) 200 [v125,v126] C_75 (fun v127=>
 pureH (l_7.getD 5 undef) C_75 (fun v128=>
 oH prog (.indexAddr 216 (.tmp 0) (.tmp 1)) 0 [v128,(.int .i64 4)] C_75 (fun v129=>
 oH prog (.load 200 (.tmp 0)) 200 [v129] C_75 (fun v130=>
 pureH (l_7.getD 5 undef) C_75 (fun v131=>
 oH prog (.indexAddr 216 (.tmp 0) (.tmp 1)) 0 [v131,(.int .i64 5)] C_75 (fun v132=>
 oH prog (.load 200 (.tmp 0)) 200 [v132] C_75 (fun v133=>
 pureH (l_7.getD 5 undef) C_75 (fun v134=>
 oH prog (.indexAddr 216 (.tmp 0) (.tmp 1)) 0 [v134,(.int .i64 6)] C_75 (fun v135=>
 oH prog (.load 200 (.tmp 0)) 200 [v135] C_75 (fun v136=>
 ∃ S_104:World → World → Prop,∀ w,C_75 w → (
 oM prog (.buildSlice 216 8 #[(0,(.tmp 0)),(1,(.tmp 1)),(2,(.tmp 2)),(3,(.tmp 3)),(4,(.tmp 4)),(5,(.tmp 5)),(6,(.tmp 6)),(7,(.tmp 7))]) 216 [v113,v116,v119,v122,v127,v130,v133,v136] (fun v137 w=>
 oM prog (.binOp .add 3 (.tmp 0) (.tmp 1) 3) 3 [(l_7.getD 6 undef),(.int .i64 1)] (fun v24 w=>
 J_5 [v38,v54,v71,v85,v108,v137,v24] w ∧ m_6 [v38,v54,v71,v85,v108,v137,v24] w < m_6 l_7 w0_l_7) w) w)))))))))))))))))))))))))))))))))))))))))))))))))))))))))))))))))))))))))))))))))))))))))))))))))))))))))))))
 (loopM [(.int .i64 0)] w (fun J_107 m_108 l_109 u_l_109 w0_l_109=>(fun w=>(
 oM prog (.binOp .lss 3 (.tmp 0) (.tmp 1) 3) 4 [(l_109.getD 0 undef),(.int .i64 8)] (fun v139 w=>
 condM v139
 (heldM w (fun C_111 w=>(((true:Bool) = true) ∧ (pureH (l_7.getD 5 undef) C_111 (fun v142=>
 pureH (l_109.getD 0 undef) C_111 (fun v143=>
 pureH (l_7.getD 5 undef) C_111 (fun v144=>
 pureH (l_109.getD 0 undef) C_111 (fun v145=>
 oH prog (.indexAddr 216 (.tmp 0) (.tmp 1)) 0 [v144,v145] C_111 (fun v146=>
 oH prog (.load 200 (.tmp 0)) 200 [v146] C_111 (fun v147=>
 pureH a0 C_111 (fun v148=>
 pureH (l_109.getD 0 undef) C_111 (fun v149=>
 oH prog (.indexAddr 216 (.tmp 0) (.tmp 1)) 0 [v148,v149] C_111 (fun v150=>
 oH prog (.load 200 (.tmp 0)) 200 [v150] C_111 (fun v151=>
 oH prog (.binOp .add 200 (.tmp 0) (.tmp 1) 200) 200 [v147,v151] C_111 (fun v152=>
 oH prog (.indexAddr 216 (.tmp 0) (.tmp 1)) 0 [v142,v143] C_111 (fun v153=>
 ∃ S_124:World → World → Prop,∀ w,C_111 w → (
 oM prog (.store 200 (.tmp 0) (.tmp 1)) 0 [v153,v152] (fun _ w=>
 oM prog (.binOp .add 3 (.tmp 0) (.tmp 1) 3) 3 [(l_109.getD 0 undef),(.int .i64 1)] (fun v141 w=>
 J_107 [v141] w ∧ m_108 [v141] w < m_108 l_109 w0_l_109) w) w)))))))))))))))))
 (K (l_7.getD 5 undef) w)) w)) w0_l_109))) w)) w0_l_7)) w) w) w) w
theorem sh_198_ok {a0 a1:Value} {K:Value → World → Prop} {w:World} (h:sh_198 a0 a1 K w):callM prog 198 #[a0,a1] K w:=
 calls_of_code (fun i=>bif Nat.beq i 7 then 0 else bif Nat.beq i 8 then 0 else bif Nat.beq i 9 then 0 else bif Nat.beq i 10 then 0 else bif Nat.beq i 11 then 0 else bif Nat.beq i 12 then .free [0,1,2,3,4,5,6,7,8,9,10,11,12,13,14,15,16,17,18,19,20,21,22,23,24,25,26,27] [] [28,29] else bif Nat.beq i 16 then .free [0,1,2,3,4,5,6,7,8,9,10,11] [] [12] else 0) (fn:=Tryz.f198) (rs:=[.tmp 4]) Tryz.func198 rfl rfl (by kernel_rfl) (Nat.le_of_ble_eq_true rfl) (Eq.mp (by kernel_rfl) h)
def sh_217 (a0:Value) (K:Value → World → Prop) (w:World):Prop:=
 loopM [(.slice none 0 0),(.int .i64 0)] w (fun J_1 m_2 l_3 u_l_3 w0_l_3=>(fun w=>(
 oM prog (.binOp .lss 3 (.tmp 0) (.tmp 1) 3) 4 [(l_3.getD 1 undef),(.int .i64 16)] (fun v11 w=>
 condM v11
 (heldM w (fun C_5 w=>(((true:Bool) = true) ∧ (pureH (l_3.getD 0 undef) C_5 (fun v14=>
 pureH a0 C_5 (fun v15=>
 pureH (l_3.getD 1 undef) C_5 (fun v16=>
 oH prog (.binOp .mul 3 (.tmp 0) (.tmp 1) 3) 3 [(.int .i64 4),v16] C_5 (fun v17=>
 oH prog (.indexAddr 181 (.tmp 0) (.tmp 1)) 0 [v15,v17] C_5 (fun v18=>
 oH prog (.load 5 (.tmp 0)) 5 [v18] C_5 (fun v19=>
 oH prog (.convert 5 200 (.tmp 0)) 200 [v19] C_5 (fun v20=>
 oH prog (.binOp .shl 200 (.tmp 0) (.tmp 1) 174) 200 [v20,(.int .u64 24)] C_5 (fun v21=>
 pureH a0 C_5 (fun v22=>
 pureH (l_3.getD 1 undef) C_5 (fun v23=>
 oH prog (.binOp .mul 3 (.tmp 0) (.tmp 1) 3) 3 [(.int .i64 4),v23] C_5 (fun v24=>
 oH prog (.binOp .add 3 (.tmp 0) (.tmp 1) 3) 3 [v24,(.int .i64 1)] C_5 (fun v25=>
 oH prog (.indexAddr 181 (.tmp 0) (.tmp 1)) 0 [v22,v25] C_5 (fun v26=>
 oH prog (.load 5 (.tmp 0)) 5 [v26] C_5 (fun v27=>
 oH prog (.convert 5 200 (.tmp 0)) 200 [v27] C_5 (fun v28=>
 oH prog (.binOp .shl 200 (.tmp 0) (.tmp 1) 174) 200 [v28,(.int .u64 16)] C_5 (fun v29=>
 oH prog (.binOp .or 200 (.tmp 0) (.tmp 1) 200) 200 [v21,v29] C_5 (fun v30=>
 pureH a0 C_5 (fun v31=>
 pureH (l_3.getD 1 undef) C_5 (fun v32=>
 oH prog (.binOp .mul 3 (.tmp 0) (.tmp 1) 3) 3 [(.int .i64 4),v32] C_5 (fun v33=>
 oH prog (.binOp .add 3 (.tmp 0) (.tmp 1) 3) 3 [v33,(.int .i64 2)] C_5 (fun v34=>
 oH prog (.indexAddr 181 (.tmp 0) (.tmp 1)) 0 [v31,v34] C_5 (fun v35=>
 oH prog (.load 5 (.tmp 0)) 5 [v35] C_5 (fun v36=>
 oH prog (.convert 5 200 (.tmp 0)) 200 [v36] C_5 (fun v37=>
 oH prog (.binOp .shl 200 (.tmp 0) (.tmp 1) 174) 200 [v37,(.int .u64 8)] C_5 (fun v38=>
 oH prog (.binOp .or 200 (.tmp 0) (.tmp 1) 200) 200 [v30,v38] C_5 (fun v39=>
 pureH a0 C_5 (fun v40=>
 pureH (l_3.getD 1 undef) C_5 (fun v41=>
 oH prog (.binOp .mul 3 (.tmp 0) (.tmp 1) 3) 3 [(.int .i64 4),v41] C_5 (fun v42=>
 oH prog (.binOp .add 3 (.tmp 0) (.tmp 1) 3) 3 [v42,(.int .i64 3)] C_5 (fun v43=>
 oH prog (.indexAddr 181 (.tmp 0) (.tmp 1)) 0 [v40,v43] C_5 (fun v44=>
 oH prog (.load 5 (.tmp 0)) 5 [v44] C_5 (fun v45=>
 oH prog (.convert 5 200 (.tmp 0)) 200 [v45] C_5 (fun v46=>
 oH prog (.binOp .or 200 (.tmp 0) (.tmp 1) 200) 200 [v39,v46] C_5 (fun v47=>
 ∃ S_40:World → World → Prop,∃ R_41:Value → World → Prop,(∀ v w w_1,S_40 w w_1 → R_41 v w → R_41 v w_1) ∧
 (∀ w,C_5 w → (oM prog (.buildSlice 216 1 #[(0,(.tmp 0))]) 216 [v47] (fun v w_1=>C_5 w_1 ∧ S_40 w w_1 ∧ R_41 v w_1) w)) ∧
 (∀ w,C_5 w → ∀ v48,R_41 v48 w → (
 oM prog (.call (Go.Call.mk (.builtin .append) #[(.tmp 0),(.tmp 1)] #[216,216])) 216 [v14,v48] (fun v49 w=>
 oM prog (.binOp .add 3 (.tmp 0) (.tmp 1) 3) 3 [(l_3.getD 1 undef),(.int .i64 1)] (fun v13 w=>
 J_1 [v49,v13] w ∧ m_2 [v49,v13] w < m_2 l_3 w0_l_3) w) w))))))))))))))))))))))))))))))))))))))))
 (loopM [undef,undef,undef,undef,(l_3.getD 0 undef),(.int .i64 16)] w (fun J_45 m_46 l_47 u_l_47 w0_l_47=>(fun w=>(
 oM prog (.binOp .lss 3 (.tmp 0) (.tmp 1) 3) 4 [(l_47.getD 5 undef),(.int .i64 64)] (fun v51 w=>
 condM v51
 (oM prog (.binOp .sub 3 (.tmp 0) (.tmp 1) 3) 3 [(l_47.getD 5 undef),(.int .i64 15)] (fun v56 w=>
 oM prog (.indexAddr 216 (.tmp 0) (.tmp 1)) 0 [(l_47.getD 4 undef),v56] (fun v57 w=>
 oM prog (.load 200 (.tmp 0)) 200 [v57] (fun v58 w=>
 oM prog (.binOp .sub 3 (.tmp 0) (.tmp 1) 3) 3 [(l_47.getD 5 undef),(.int .i64 2)] (fun v61 w=>
 oM prog (.indexAddr 216 (.tmp 0) (.tmp 1)) 0 [(l_47.getD 4 undef),v61] (fun v62 w=>
 oM prog (.load 200 (.tmp 0)) 200 [v62] (fun v63 w=>
 callM prog 219 #[v58,(.int .i64 7)] (fun v65 w=>
 callM prog 219 #[v58,(.int .i64 18)] (fun v67 w=>
 oM prog (.binOp .xor 200 (.tmp 0) (.tmp 1) 200) 200 [v65,v67] (fun v68 w=>
 oM prog (.binOp .shr 200 (.tmp 0) (.tmp 1) 174) 200 [v58,(.int .u64 3)] (fun v70 w=>
 oM prog (.binOp .xor 200 (.tmp 0) (.tmp 1) 200) 200 [v68,v70] (fun v71 w=>
 callM prog 219 #[v63,(.int .i64 17)] (fun v73 w=>
 callM prog 219 #[v63,(.int .i64 19)] (fun v75 w=>
 oM prog (.binOp .xor 200 (.tmp 0) (.tmp 1) 200) 200 [v73,v75] (fun v76 w=>
 oM prog (.binOp .shr 200 (.tmp 0) (.tmp 1) 174) 200 [v63,(.int .u64 10)] (fun v78 w=>
 oM prog (.binOp .xor 200 (.tmp 0) (.tmp 1) 200) 200 [v76,v78] (fun v79 w=>
 heldM w (fun C_65 w=>(((true:Bool) = true) ∧ (pureH (l_47.getD 4 undef) C_65 (fun v80=>
 pureH (l_47.getD 4 undef) C_65 (fun v81=>
 pureH (l_47.getD 5 undef) C_65 (fun v82=>
 oH prog (.binOp .sub 3 (.tmp 0) (.tmp 1) 3) 3 [v82,(.int .i64 16)] C_65 (fun v83=>
 oH prog (.indexAddr 216 (.tmp 0) (.tmp 1)) 0 [v81,v83] C_65 (fun v84=>
 oH prog (.load 200 (.tmp 0)) 200 [v84] C_65 (fun v85=>
 pureH v71 C_65 (fun v86=>
 oH prog (.binOp .add 200 (.tmp 0) (.tmp 1) 200) 200 [v85,v86] C_65 (fun v87=>
 pureH (l_47.getD 4 undef) C_65 (fun v88=>
 pureH (l_47.getD 5 undef) C_65 (fun v89=>
 oH prog (.binOp .sub 3 (.tmp 0) (.tmp 1) 3) 3 [v89,(.int .i64 7)] C_65 (fun v90=>
 oH prog (.indexAddr 216 (.tmp 0) (.tmp 1)) 0 [v88,v90] C_65 (fun v91=>
 oH prog (.load 200 (.tmp 0)) 200 [v91] C_65 (fun v92=>
 oH prog (.binOp .add 200 (.tmp 0) (.tmp 1) 200) 200 [v87,v92] C_65 (fun v93=>
 pureH v79 C_65 (fun v94=>
 oH prog (.binOp .add 200 (.tmp 0) (.tmp 1) 200) 200 [v93,v94] C_65 (fun v95=>
 ∃ S_82:World → World → Prop,∃ R_83:Value → World → Prop,(∀ v w w_1,S_82 w w_1 → R_83 v w → R_83 v w_1) ∧
 (∀ w,C_65 w → (oM prog (.buildSlice 216 1 #[(0,(.tmp 0))]) 216 [v95] (fun v w_1=>C_65 w_1 ∧ S_82 w w_1 ∧ R_83 v w_1) w)) ∧
 (∀ w,C_65 w → ∀ v96,R_83 v96 w → (
 oM prog (.call (Go.Call.mk (.builtin .append) #[(.tmp 0),(.tmp 1)] #[216,216])) 216 [v80,v96] (fun v97 w=>
 oM prog (.binOp .add 3 (.tmp 0) (.tmp 1) 3) 3 [(l_47.getD 5 undef),(.int .i64 1)] (fun v53 w=>
 J_45 [v58,v63,v71,v79,v97,v53] w ∧ m_46 [v58,v63,v71,v79,v97,v53] w < m_46 l_47 w0_l_47) w) w)))))))))))))))))))))) w) w) w) w) w) w) w) w) w) w) w) w) w) w) w) w)
 (K (l_47.getD 4 undef) w)) w)) w0_l_47))) w)) w0_l_3)
theorem sh_217_ok {a0:Value} {K:Value → World → Prop} {w:World} (h:sh_217 a0 K w):callM prog 217 #[a0] K w:=
 calls_of_code (fun i=>bif Nat.beq i 5 then .free [0,1,2,3,4,5,6,7,8,9,10,11,12,13,14,15,16,17,18,19,20,21,22,23,24,25,26,27,28,29,30,31,32,33] [34] [35,36] else bif Nat.beq i 13 then .free [0,1,2,3,4,5,6,7,8,9,10,11,12,13,14,15] [16] [17,18] else 0) (fn:=Tryz.f217) (rs:=[.tmp 2]) Tryz.func217 rfl rfl (by kernel_rfl) (Nat.le_of_ble_eq_true rfl) (Eq.mp (by kernel_rfl) h)
def sh_218 (K:Value → World → Prop) (w:World):Prop:=
 oM prog (.buildSlice 216 64 #[(0,(.tmp 0)),(1,(.tmp 1)),(2,(.tmp 2)),(3,(.tmp 3)),(4,(.tmp 4)),(5,(.tmp 5)),(6,(.tmp 6)),(7,(.tmp 7)),(8,(.tmp 8)),(9,(.tmp 9)),(10,(.tmp 10)),(11,(.tmp 11)),(12,(.tmp 12)),(13,(.tmp 13)),(14,(.tmp 14)),(15,(.tmp 15)),(16,(.tmp 16)),(17,(.tmp 17)),(18,(.tmp 18)),(19,(.tmp 19)),(20,(.tmp 20)),(21,(.tmp 21)),(22,(.tmp 22)),(23,(.tmp 23)),(24,(.tmp 24)),(25,(.tmp 25)),(26,(.tmp 26)),(27,(.tmp 27)),(28,(.tmp 28)),(29,(.tmp 29)),(30,(.tmp 30)),(31,(.tmp 31)),(32,(.tmp 32)),(33,(.tmp 33)),(34,(.tmp 34)),(35,(.tmp 35)),(36,(.tmp 36)),(37,(.tmp 37)),(38,(.tmp 38)),(39,(.tmp 39)),(40,(.tmp 40)),(41,(.tmp 41)),(42,(.tmp 42)),(43,(.tmp 43)),(44,(.tmp 44)),(45,(.tmp 45)),(46,(.tmp 46)),(47,(.tmp 47)),(48,(.tmp 48)),(49,(.tmp 49)),(50,(.tmp 50)),(51,(.tmp 51)),(52,(.tmp 52)),(53,(.tmp 53)),(54,(.tmp 54)),(55,(.tmp 55)),(56,(.tmp 56)),(57,(.tmp 57)),(58,(.tmp 58)),(59,(.tmp 59)),(60,(.tmp 60)),(61,(.tmp 61)),(62,(.tmp 62)),(63,(.tmp 63))]) 216 [(.int .u32 1116352408),(.int .u32 1899447441),(.int .u32 3049323471),(.int .u32 3921009573),(.int .u32 961987163),(.int .u32 1508970993),(.int .u32 2453635748),(.int .u32 2870763221),(.int .u32 3624381080),(.int .u32 310598401),(.int .u32 607225278),(.int .u32 1426881987),(.int .u32 1925078388),(.int .u32 2162078206),(.int .u32 2614888103),(.int .u32 3248222580),(.int .u32 3835390401),(.int .u32 4022224774),(.int .u32 264347078),(.int .u32 604807628),(.int .u32 770255983),(.int .u32 1249150122),(.int .u32 1555081692),(.int .u32 1996064986),(.int .u32 2554220882),(.int .u32 2821834349),(.int .u32 2952996808),(.int .u32 3210313671),(.int .u32 3336571891),(.int .u32 3584528711),(.int .u32 113926993),(.int .u32 338241895),(.int .u32 666307205),(.int .u32 773529912),(.int .u32 1294757372),(.int .u32 1396182291),(.int .u32 1695183700),(.int .u32 1986661051),(.int .u32 2177026350),(.int .u32 2456956037),(.int .u32 2730485921),(.int .u32 2820302411),(.int .u32 3259730800),(.int .u32 3345764771),(.int .u32 3516065817),(.int .u32 3600352804),(.int .u32 4094571909),(.int .u32 275423344),(.int .u32 430227734),(.int .u32 506948616),(.int .u32 659060556),(.int .u32 883997877),(.int .u32 958139571),(.int .u32 1322822218),(.int .u32 1537002063),(.int .u32 1747873779),(.int .u32 1955562222),(.int .u32 2024104815),(.int .u32 2227730452),(.int .u32 2361852424),(.int .u32 2428436474),(.int .u32 2756734187),(.int .u32 3204031479),(.int .u32 3329325298)] (fun v1 w=>
 K v1 w) w
theorem sh_218_ok {K:Value → World → Prop} {w:World} (h:sh_218 K w):callM prog 218 #[] K w:=
 calls_of_code (fun _=>0) (fn:=Tryz.f218) (rs:=[.tmp 0]) Tryz.func218 rfl rfl (by kernel_rfl) (Nat.le_of_ble_eq_true rfl) (Eq.mp (by kernel_rfl) h)
def sh_219 (a0 a1:Value) (K:Value → World → Prop) (w:World):Prop:=
 quietM w (fun C_1=>(oQ prog (.binOp .shr 200 (.tmp 0) (.tmp 1) 3) 200 [a0,a1] C_1 (fun v7=>
 oQ prog (.binOp .sub 3 (.tmp 0) (.tmp 1) 3) 3 [(.int .i64 32),a1] C_1 (fun v10=>
 oQ prog (.binOp .shl 200 (.tmp 0) (.tmp 1) 3) 200 [a0,v10] C_1 (fun v11=>
 oQ prog (.binOp .or 200 (.tmp 0) (.tmp 1) 200) 200 [v7,v11] C_1 (fun v12=>
 ∀ w,C_1 w → (K v12 w)))))))
theorem sh_219_ok {a0 a1:Value} {K:Value → World → Prop} {w:World} (h:sh_219 a0 a1 K w):callM prog 219 #[a0,a1] K w:=
 calls_of_code (fun _=>0) (fn:=Tryz.f219) (rs:=[.tmp 4]) Tryz.func219 rfl rfl (by kernel_rfl) (Nat.le_of_ble_eq_true rfl) (Eq.mp (by kernel_rfl) h)
end Go.Proofs
namespace Go.Proofs
open Go Go.Sh Go.RowKit FdSpec
section
variable {K:Value → World → Prop} {w:World}
theorem oM_shrI {P:Program} (t t' T:TypeId) (yk:IntKind) (x y:Int) (h0:0 ≤ y) (h1:y ≤ 64):oM P (.binOp .shr t (.tmp 0) (.tmp 1) t') T [.int .i64 x,.int yk y] = pureM (.int .i64 (x / 2 ^ y.toNat)):=by
 funext K w
 simp [oM,opM,xop,execOp,evalL,evE,binOp]
 rfl
theorem oM_andI {P:Program} (t t' T:TypeId) (x y:Int):oM P (.binOp .and t (.tmp 0) (.tmp 1) t') T [.int .i64 x,.int .i64 y] = pureM (.int .i64 (bits .and .i64 x y)):=by
 funext K w
 simp [oM,opM,xop,execOp,evalL,evE,binOp,go_sem]
theorem bits_andI (x:Int) (hx:0 ≤ x ∧ x < 9223372036854775808):bits .and .i64 x 3 = x % 4:=by
 obtain ⟨a,rfl⟩:=Int.eq_ofNat_of_zero_le hx.1
 simp only [bits]
 rw [show (3:Int) = ((3:Nat):Int) from rfl,BitVec.ofInt_natCast,BitVec.ofInt_natCast,BitVec.toNat_and]
 simp only [BitVec.toNat_ofNat]
 rw [show IntKind.i64.bits = 64 from rfl,Nat.mod_eq_of_lt (show a < 2 ^ 64 by omega),Nat.mod_eq_of_lt (show 3 < 2 ^ 64 by decide),show 3 = 2 ^ 2 - 1 from rfl,Nat.and_two_pow_sub_one_eq_mod]
 rw [wrapI64 _ (by omega) (by omega)]
 omega
theorem rValid_ok (n:Int) (h:K (.bool (decide (okN n))) w):callM Tryz.prog 154 #[.int .i64 n] K w:=by
 apply sh_154_ok
 unfold sh_154
 have e:decide (okN n) = (decide (1 ≤ n) && decide (n < 2305843009213693952)):=by
  by_cases h1:1 ≤ n <;> by_cases h2:n < 2305843009213693952 <;> simp [okN,h1,h2]
 rw [e] at h
 by_cases h1:1 ≤ n
 ·refine Xa @h1 ?_
  simpa [h1] using h
 ·refine Xa @h1 ?_
  simpa [h1] using h
theorem rResidue_ok (n a:Int) (hn:okN n) (h:K (.int .i64 (a % n)) w):callM Tryz.prog 155 #[.int .i64 n,.int .i64 a] K w:=by
 apply sh_155_ok
 unfold sh_155
 obtain ⟨h1,h2⟩:=hn
 have e:=residue_eq n a (by omega)
 have h3:=Int.emod_nonneg a (b:=n) (by omega)
 have h4:=Int.emod_lt_of_pos a (b:=n) (by omega)
 obtain ⟨r,hr⟩:∃ r,r = a.tmod n:=⟨_,rfl⟩
 rw [← hr] at e
 have hjm:∀ (l:List Value) (u:Env) (w':World),(fun l w'=>l = [Value.int .i64 (a % n)] ∧ w' = w) l w' → K (l.getD 0 undef) w':=by
  rintro l u w' ⟨rfl,rfl⟩; exact h
 refine Xa (Eq.symm @hr) ?_
 refine ⟨fun l w'=>l = [Value.int .i64 (a % n)] ∧ w' = w,?_,fun l u w' hl=>hjm l u w' hl⟩
 repeat (any_goals (first
 | (with_reducible ((refine idCond ?_); refine yP (fun hg=>?_) fun hg=>?_))
 | ((with_reducible refine oM_gen fun Kv hK=>?_); simp [go_sem]; (try simp (disch:=omega) only [wrapI64,wrapU8,wrapU64]); refine hK _ _ ?_; clear hK Kv)))
 ·rw [if_pos (by assumption)] at e; rw [e]; exact ⟨rfl,rfl⟩
 ·rw [if_neg (by assumption)] at e; rw [e]; exact ⟨rfl,rfl⟩
theorem rAdd_ok (n a b:Int) (h:K (.int .i64 (addM n a b)) w):callM Tryz.prog 109 #[.int .i64 n,.int .i64 a,.int .i64 b] K w:=by
 apply sh_109_ok
 unfold sh_109
 refine rValid_ok n ?_
 by_cases hn:okN n
 ·refine Xa0 ?_
  refine rResidue_ok n a hn ?_
  refine rResidue_ok n b hn ?_
  have a1:=Int.emod_nonneg a (show n ≠ 0 by have:=hn.1; omega)
  have a2:=Int.emod_lt_of_pos a (show 0 < n by have:=hn.1; omega)
  have b1:=Int.emod_nonneg b (show n ≠ 0 by have:=hn.1; omega)
  have b2:=Int.emod_lt_of_pos b (show 0 < n by have:=hn.1; omega)
  obtain ⟨h1,h2⟩:=hn
  have e:(a % n + b % n).tmod n = addM n a b:=by rw [Int.tmod_eq_emod_of_nonneg (by omega),addM_eq n a b ⟨h1,h2⟩]
  refine Xa @e ?_
  exact h
 ·unfold addM at h
  rw [if_neg hn] at h
  refine Xa0 ?_
  exact h
theorem rSub_ok (n a b:Int) (h:K (.int .i64 (subM n a b)) w):callM Tryz.prog 104 #[.int .i64 n,.int .i64 a,.int .i64 b] K w:=by
 apply sh_104_ok
 unfold sh_104
 refine rValid_ok n ?_
 by_cases hn:okN n
 ·refine Xa0 ?_
  refine rResidue_ok n a hn ?_
  have a1:=Int.emod_nonneg a (show n ≠ 0 by have:=hn.1; omega)
  have a2:=Int.emod_lt_of_pos a (show 0 < n by have:=hn.1; omega)
  have b1:=Int.emod_nonneg b (show n ≠ 0 by have:=hn.1; omega)
  have b2:=Int.emod_lt_of_pos b (show 0 < n by have:=hn.1; omega)
  have h1:=hn.1
  have h2:=hn.2
  refine Xa0 ?_
  refine rResidue_ok n b hn ?_
  have e:(a % n + n - b % n).tmod n = subM n a b:=by rw [Int.tmod_eq_emod_of_nonneg (by omega),subM_eq n a b hn]
  refine Xa @e ?_
  exact h
 ·unfold subM at h
  rw [if_neg hn] at h
  refine Xa0 ?_
  exact h
def MuJ (n x y:Int) (w0:World) (l:List Value) (w':World):Prop:=w' = w0 ∧ ∃ (o:Int) (u v:Value) (j:Nat),l = [.int .i64 o,u,v,.int .i64 (60 - 2 * (j:Int))] ∧ j ≤ 31 ∧ o = x * (y / 2 ^ (62 - 2 * j)) % n
def muMu (l:List Value) (_:World):Nat:=match l with | [_,_,_,.int _ k]=>(k + 2).toNat | _=>0
theorem muMu_eq (a b c:Value) (q:IntKind) (k:Int) (w:World):muMu [a,b,c,.int q k] w = (k + 2).toNat:=rfl
def MiJ (n x o:Int) (d:Int) (w0:World) (l:List Value) (w':World):Prop:=w' = w0 ∧ ∃ (p:Int) (i:Nat),l = [.int .i64 p,.int .i64 (i:Int)] ∧ (i:Int) ≤ d ∧ p = (o + (i:Int) * x) % n
def miMu (d:Int) (l:List Value) (_:World):Nat:=match l with | [_,.int _ k]=>(d - k).toNat | _=>0
theorem miMu_eq (d:Int) (a:Value) (q:IntKind) (k:Int) (w:World):miMu d [a,.int q k] w = (d - k).toNat:=rfl
theorem rMul_ok (n a b:Int) (h:K (.int .i64 (mulM n a b)) w):callM Tryz.prog 153 #[.int .i64 n,.int .i64 a,.int .i64 b] K w:=by
 apply sh_153_ok
 unfold sh_153
 refine rValid_ok n ?_
 by_cases hn:okN n
 ·refine Xa0 ?_
  refine rResidue_ok n a hn ?_
  refine rResidue_ok n b hn ?_
  rw [← mulM_eq n a b hn] at h
  have a1:=Int.emod_nonneg a (show n ≠ 0 by have:=hn.1; omega)
  have a2:=Int.emod_lt_of_pos a (show 0 < n by have:=hn.1; omega)
  have b1:=Int.emod_nonneg b (show n ≠ 0 by have:=hn.1; omega)
  have b2:=Int.emod_lt_of_pos b (show 0 < n by have:=hn.1; omega)
  obtain ⟨h1,h2⟩:=hn
  generalize a % n = x at *
  generalize b % n = y at *
  have hxy:0 ≤ x * y:=Int.mul_nonneg a1 b1
  by_cases hs:n ≤ 2147483648
  ·have hb:x * y ≤ 2147483648 * 2147483648:=Int.mul_le_mul (by omega) (by omega) b1 (by omega)
   have e:(x * y).tmod n = x * y % n:=Int.tmod_eq_emod_of_nonneg hxy
   refine Xa @e ?_
   exact h
  ·refine Xa0 ?_
   refine ⟨MuJ n x y w,muMu,⟨rfl,0,_,_,0,rfl,by omega,?_⟩,?_⟩
   ·rw [show y / 2 ^ (62 - 2 * 0) = 0 by omega]; simp
   rintro _ _ w1 ⟨rfl,o,u,v,j,rfl,hj,ho⟩
   by_cases hj31:j = 31
   ·subst hj31
    have:o = x * y % n:=by rw [ho]; simp
    refine Xa0 ?_
    rw [this]
    exact h
   ·have o1:0 ≤ o:=by rw [ho]; exact Int.emod_nonneg _ (by omega)
    have o2:o < n:=by rw [ho]; exact Int.emod_lt_of_pos _ (by omega)
    have e4:(4 * o).tmod n = 4 * o % n:=Int.tmod_eq_emod_of_nonneg (by omega)
    have sh:=fun t t' T=>oM_shrI (P:=Tryz.prog) t t' T .i64 y (60 - 2 * (j:Int)) (by omega) (by omega)
    have ek:(60 - 2 * (j:Int)).toNat = 60 - 2 * j:=by omega
    rw [ek] at sh
    have ey:y / 2 ^ (60 - 2 * j) = 4 * (y / 2 ^ (62 - 2 * j)) + y / 2 ^ (60 - 2 * j) % 4:=by
     have:y / 2 ^ (62 - 2 * j) = y / 2 ^ (60 - 2 * j) / 4:=by
      rw [show 62 - 2 * j = (60 - 2 * j) + 2 by omega,Int.pow_add]
      exact (Int.ediv_ediv_of_nonneg (Int.le_of_lt (Int.pow_pos (by omega)))).symm
     rw [this]; omega
    have q1:0 ≤ y / 2 ^ (60 - 2 * j):=Int.ediv_nonneg b1 (Int.le_of_lt (Int.pow_pos (by omega)))
    have q2:y / 2 ^ (60 - 2 * j) ≤ y:=Int.ediv_le_self _ b1
    obtain ⟨q,hq⟩:∃ q,q = y / 2 ^ (60 - 2 * j):=⟨_,rfl⟩
    rw [← hq] at sh ey q1 q2
    have eb:=bits_andI q (by omega)
    refine Xa (An4 @e4 @sh @oM_andI @eb) ?_
    generalize hd:q % 4 = d at *
    have d1:0 ≤ d:=by omega
    have d2:d < 4:=by omega
    refine ⟨MiJ n x (4 * o) d w1,miMu d,⟨rfl,_,0,rfl,by omega,by simp⟩,?_⟩
    rintro _ _ w2 ⟨rfl,p,i,rfl,hi,hp⟩
    have p1:0 ≤ p:=by rw [hp]; exact Int.emod_nonneg _ (by omega)
    have p2:p < n:=by rw [hp]; exact Int.emod_lt_of_pos _ (by omega)
    by_cases hid:(i:Int) < d
    ·have ep:(p + x).tmod n = (p + x) % n:=Int.tmod_eq_emod_of_nonneg (by omega)
     refine Xa @ep ?_
     refine ⟨⟨rfl,_,i + 1,rfl,by omega,?_⟩,?_⟩
     ·rw [hp,Int.emod_add_emod]; congr 1; rw [Int.natCast_add,Int.add_mul]; omega
     ·simp only [miMu_eq]; omega
    ·have hid2:(i:Int) = d:=by omega
     refine Xa0 ?_
     refine ⟨⟨rfl,_,_,_,j + 1,by rw [show 60 - 2 * (j:Int) - 2 = 60 - 2 * ((j + 1:Nat):Int) by omega]; rfl,by omega,?_⟩,?_⟩
     ·rw [hp,hid2,ho,show 62 - 2 * (j + 1) = 60 - 2 * j by omega]
      rw [← hq,ey]
      generalize y / 2 ^ (62 - 2 * j) = Y
      rw [Int.add_emod,Int.mul_emod,Int.emod_emod_of_dvd _ (Int.dvd_refl n),← Int.mul_emod,← Int.add_emod,Int.mul_add,Int.mul_comm d x]
      congr 2
      rw [← Int.mul_assoc,← Int.mul_assoc,Int.mul_comm 4 x]
     ·simp only [muMu_eq]; omega
 ·unfold mulM at h
  rw [if_neg hn] at h
  refine Xa0 ?_
  exact h
def RpJ (n R:Int) (w0:World) (l:List Value) (w':World):Prop:=w' = w0 ∧ ∃ (o a:Int) (b:Nat),l = [.int .i64 o,.int .i64 a,.int .i64 (b:Int)] ∧ (0 ≤ o ∧ o < n) ∧ (0 ≤ a ∧ a < n) ∧ b < 9223372036854775808 ∧ o * a ^ b % n = R
def rpMu (l:List Value) (_:World):Nat:=match l with | [_,_,.int _ k]=>k.toNat | _=>0
theorem rpMu_eq (a b:Value) (q:IntKind) (k:Int) (w:World):rpMu [a,b,.int q k] w = k.toNat:=rfl
theorem mulM_res (n a b:Int) (hn:okN n):mulM n a b = a * b % n:=by rw [mulM,if_pos hn]
theorem rpow_ok (n a:Int) (b:Nat) (hn:okN n) (hb:b < 9223372036854775808) (h:K (.int .i64 (pw n a b)) w):callM Tryz.prog 189 #[.int .i64 n,.int .i64 a,.int .i64 (b:Int)] K w:=by
 apply sh_189_ok
 unfold sh_189
 have hn1:=hn.1
 have hn2:=hn.2
 have e1:(1:Int).tmod n = 1 % n:=Int.tmod_eq_emod_of_nonneg (by omega)
 refine Xa @e1 ?_
 refine rResidue_ok n a hn ?_
 have m1:=Int.emod_nonneg 1 (show n ≠ 0 by omega)
 have m2:=Int.emod_lt_of_pos 1 (show 0 < n by omega)
 have a1:=Int.emod_nonneg a (show n ≠ 0 by omega)
 have a2:=Int.emod_lt_of_pos a (show 0 < n by omega)
 have hR0:1 % n * (a % n) ^ b % n = pw n a b:=by
  rw [Int.mul_emod,Int.emod_emod_of_dvd _ (Int.dvd_refl n),← Int.mul_emod,Int.one_mul]
  exact pw_emod n a b
 generalize pw n a b = R at h hR0
 refine ⟨RpJ n R w,rpMu,⟨rfl,_,_,b,rfl,⟨m1,m2⟩,⟨a1,a2⟩,hb,hR0⟩,?_⟩
 clear m1 m2 a1 a2 hb hR0
 rintro _ _ w1 ⟨rfl,o,c,b,rfl,ho,hc,hb,hR⟩
 by_cases hb0:b = 0
 ·subst hb0
  have:o = R:=by
   rw [← hR]; simp
   exact (Int.emod_eq_of_lt ho.1 ho.2).symm
  refine Xa0 ?_
  rw [this]; exact h
 ·have e2:(b:Int).tmod 2 = ((b % 2:Nat):Int):=by rw [Int.tmod_eq_emod_of_nonneg (by omega)]; omega
  have e3:(b:Int).tdiv 2 = ((b / 2:Nat):Int):=by rw [Int.tdiv_eq_ediv_of_nonneg (by omega)]; omega
  refine Xa0 ?_
  refine ⟨fun l w'=>w' = w1 ∧ ∃ o',l = [.int .i64 o'] ∧ (0 ≤ o' ∧ o' < n) ∧ o' * (c * c % n) ^ (b / 2) % n = R,?_,?_⟩
  ·rcases Nat.mod_two_eq_zero_or_one b with h2 | h2
   ·rw [h2] at e2
    refine Xa @e2 ?_
    exact ⟨rfl,o,rfl,ho,by rw [pw_even n c o b h2]; exact hR⟩
   ·rw [h2] at e2
    refine Xa @e2 ?_
    refine rMul_ok n o c ?_
    rw [mulM_res n o c hn]
    exact ⟨rfl,_,rfl,⟨Int.emod_nonneg _ (by omega),Int.emod_lt_of_pos _ (by omega)⟩,by rw [pw_odd n c o b h2]; exact hR⟩
  ·rintro _ _ w2 ⟨rfl,o',rfl,ho',hR'⟩
   refine rMul_ok n c c ?_
   rw [mulM_res n c c hn]
   refine Xa @e3 ?_
   refine ⟨⟨rfl,o',c * c % n,b / 2,by simp,ho',⟨Int.emod_nonneg _ (by omega),Int.emod_lt_of_pos _ (by omega)⟩,by omega,hR'⟩,?_⟩
   simp only [rpMu_eq]; omega
end
end Go.Proofs
namespace Go.Proofs
open Go Go.Sh Go.RowKit FdSpec TkSpec
section
variable {K:Value → World → Prop} {w:World}
def RiJ (n:Int) (E:Int × Int) (w:World) (l:List Value) (w':World):Prop:=w' = w ∧ ∃ (v1 v2 v3:Value) (r s x y:Int),l = [v1,v2,v3,.int .i64 r,.int .i64 s,.int .i64 x,.int .i64 y] ∧ (0 ≤ s ∧ s < n) ∧ (0 ≤ r ∧ r ≤ n) ∧ (0 ≤ x ∧ x < 2305843009213693952) ∧ (0 ≤ y ∧ y < 2305843009213693952) ∧ eucAll n r s x y = E
def riMu (l:List Value) (_:World):Nat:=match l with | [_,_,_,_,.int _ s,_,_]=>s.toNat | _=>0
theorem riMu_eq (a b c r x y:Value) (k:IntKind) (s:Int) (w:World):riMu [a,b,c,r,.int k s,x,y] w = s.toNat:=rfl
theorem rInv_ok (n a:Int) (k:K (.tuple #[.int .i64 ((invM n a).getD 0),.bool (invM n a).isSome]) w):callM Tryz.prog 152 #[.int .i64 n,.int .i64 a] K w:=by
 apply sh_152_ok
 unfold sh_152
 refine rValid_ok n ?_
 by_cases hn:okN n
 ·have hn':=hn
  obtain ⟨h1,h2⟩:=hn'
  have ha:=Int.emod_nonneg a (b:=n) (by omega)
  have ha2:=Int.emod_lt_of_pos a (b:=n) (by omega)
  have kk:∀ r x,(r,x) = eucAll n n (a % n) 0 1 → K (.tuple #[.int .i64 (if r = 1 then x % n else 0),.bool (decide (r = 1))]) w:=fun r x e=>by
   unfold invM at k
   rw [if_pos hn,← e] at k
   by_cases hr:r = 1
   ·simpa [hr] using k
   ·simpa [hr] using k
  clear k
  refine Xa0 ?_
  refine rResidue_ok n a hn ?_
  have m1:(1:Int).tmod n = 1 % n:=Int.tmod_eq_emod_of_nonneg (by omega)
  have m2:=Int.emod_nonneg 1 (b:=n) (by omega)
  have m3:=Int.emod_lt_of_pos 1 (b:=n) (by omega)
  have hy0:eucAll n n (a % n) 0 (1 % n) = eucAll n n (a % n) 0 1:=by
   by_cases hn1:n = 1
   ·subst hn1
    rw [show a % 1 = 0 by omega,eucAll_zero,eucAll_zero]
   ·rw [show (1:Int) % n = 1 from Int.emod_eq_of_lt (by omega) (by omega)]
  generalize a % n = s0 at *
  generalize hE:eucAll n n s0 0 1 = E at *
  refine Xa @m1 ?_
  refine ⟨RiJ n E w,riMu,⟨rfl,_,_,_,n,s0,0,1 % n,rfl,⟨ha,ha2⟩,⟨by omega,by omega⟩,⟨by omega,by omega⟩,⟨by omega,by omega⟩,hy0⟩,?_⟩
  clear hE ha ha2 hy0 m1 m2 m3 s0
  rintro _ _ w1 ⟨rfl,v,v2,v3,r,s,x,y,rfl,hs,hr,hx,hy,he⟩
  by_cases h0:s = 0
  ·subst h0
   rw [eucAll_zero] at he
   have kk:=kk r x he
   have e1:x.tmod n = x % n:=Int.tmod_eq_emod_of_nonneg hx.1
   by_cases hr1:r = 1
   ·simp only [hr1] at kk
    refine Xa (An2 @hr1 @e1) ?_
    simpa using kk
   ·simp only [hr1] at kk
    refine Xa @hr1 ?_
    simpa using kk
  ·rw [euc_step n r s x y (by omega)] at he
   have q1:r.tdiv s = r / s:=Int.tdiv_eq_ediv_of_nonneg hr.1
   have q2:=Int.emod_add_mul_ediv r s
   have q3:=Int.emod_nonneg r (b:=s) (by omega)
   have q4:=Int.emod_lt_of_pos r (b:=s) (by omega)
   have q5:0 ≤ r / s:=Int.ediv_nonneg hr.1 hs.1
   have q6:r / s ≤ r:=Int.ediv_le_self _ hr.1
   have q7:r / s * s = r - r % s:=by rw [Int.mul_comm]; omega
   have m1:=mulM_range n (r / s) y hn
   have m2:=subM_range n x (mulM n (r / s) y) hn
   generalize r % s = t at *
   generalize r / s = q at *
   clear q2
   have q8:r - (r - t) = t:=by omega
   refine Xa (An3 @q1 @q7 @q8) ?_
   refine rMul_ok n q y ?_
   refine rSub_ok n x _ ?_
   generalize subM n x (mulM n q y) = z at *
   refine ⟨⟨rfl,_,_,_,s,t,y,z,rfl,⟨q3,by omega⟩,⟨hs.1,by omega⟩,hy,⟨m2.1,by omega⟩,he⟩,?_⟩
   simp only [riMu_eq]
   omega
 ·unfold invM at k
  rw [if_neg hn] at k
  refine Xa0 ?_
  exact k
def TzJ (m:Nat) (w:World) (l:List Value) (w':World):Prop:=w' = w ∧ ∃ (d k:Nat),l = [.int .i64 (d:Int),.int .i64 (k:Int)] ∧ k ≤ tz 64 m ∧ m / 2 ^ k = d ∧ 0 < d
def tzMu (l:List Value) (_:World):Nat:=match l with | [.int _ d,_]=>d.toNat | _=>0
theorem tzMu_eq (a:Value) (q:IntKind) (d:Int) (w:World):tzMu [.int q d,a] w = d.toNat:=rfl
theorem tz_step (k:Nat):∀ (f m:Nat),0 < m → m < 2 ^ f → k ≤ tz f m → (m / 2 ^ k % 2 = 0 ↔ k < tz f m) ∧ 0 < m / 2 ^ k:=by
 induction k with
 | zero=>
  intro f m hm hf _
  cases f with
  | zero=>omega
  | succ f=>
   unfold tz
   split
   ·rename_i h; simp [h]; omega
   ·rename_i h; simp [h]; omega
 | succ k ih=>
  intro f m hm hf hk
  cases f with
  | zero=>simp [tz] at hk
  | succ f=>
   unfold tz at hk ⊢
   split at hk
   ·rename_i h
    rw [if_pos h]
    have:=ih f (m / 2) (by omega) (by rw [Nat.pow_succ] at hf; omega) (by omega)
    rw [Nat.div_div_eq_div_mul,← Nat.pow_succ'] at this
    exact ⟨by rw [this.1]; omega,this.2⟩
   ·omega
theorem rpasses_ok (n b:Int) (hn:okN n) (h2:2 ≤ n) (k:K (.bool (passes n b)) w):callM Tryz.prog 210 #[.int .i64 n,.int .i64 b] K w:=by
 apply sh_210_ok
 unfold sh_210
 have hn1:=hn.1
 have hn2:=hn.2
 obtain ⟨m,hm⟩:=natN (n - 1) (by omega)
 have hm2:(n - 1).toNat = m:=by omega
 unfold passes at k
 rw [hm2] at k
 have ht:=tz_lt 64 m (by omega) (by omega)
 refine Xa @hm ?_
 refine ⟨TzJ m w,tzMu,⟨rfl,m,0,rfl,by omega,by simp,by omega⟩,?_⟩
 rintro _ _ w1 ⟨rfl,d,t,rfl,hd,hmd,hd0⟩
 have hst:=tz_step t 64 m (by omega) (by omega) hd
 rw [hmd] at hst
 have hdm:d ≤ m:=by rw [← hmd]; exact Nat.div_le_self _ _
 have e2:(d:Int).tmod 2 = ((d % 2:Nat):Int):=by rw [Int.tmod_eq_emod_of_nonneg (by omega)]; omega
 have e3:(d:Int).tdiv 2 = ((d / 2:Nat):Int):=by rw [Int.tdiv_eq_ediv_of_nonneg (by omega)]; omega
 by_cases hev:d % 2 = 0
 ·have hlt:=hst.1.1 hev
  rw [hev] at e2
  refine Xa (An2 @e2 @e3) ?_
  refine ⟨⟨rfl,d / 2,t + 1,by simp,by omega,?_,by omega⟩,?_⟩
  ·rw [Nat.pow_succ,← Nat.div_div_eq_div_mul,hmd]
  ·simp only [tzMu_eq]; omega
 ·have htt:t = tz 64 m:=by have:=mt hst.1.2 hev; omega
  have hodd:d % 2 = 1:=by omega
  rw [hodd] at e2
  have k:K (.bool (if pw n b d = 1 then true else mrUp n t (pw n b d))) w1:=by rw [← hmd,htt]; exact k
  refine Xa @e2 ?_
  refine rpow_ok n b d hn (by omega) ?_
  have hp:=pw_nonneg n b d (by omega)
  generalize pw n b d = x at *
  by_cases hx1:x = 1
  ·simp only [if_pos hx1] at k
   refine Xa @hx1 ?_
   exact k
  ·simp only [if_neg hx1] at k
   refine Xa @hx1 ?_
   refine ⟨fun l w'=>w' = w1 ∧ ∃ (v:Value) (y:Int) (i:Nat),l = [v,.int .i64 y,.int .i64 (i:Int)] ∧ i ≤ t ∧ (0 ≤ y ∧ y < n) ∧ mrUp n (t - i) y = mrUp n t x,wiMu t,⟨rfl,_,x,0,rfl,by omega,hp,rfl⟩,?_⟩
   generalize mrUp n t x = R at *
   rintro _ _ w2 ⟨rfl,v,y,i,rfl,hi,hy,hR⟩
   by_cases hit:i = t
   ·subst hit
    rw [Nat.sub_self] at hR
    have hR2:R = false:=by rw [← hR]; rfl
    subst hR2
    refine Xa0 ?_
    exact k
   ·obtain ⟨j,hj⟩:∃ j,t - i = j + 1:=⟨t - i - 1,by omega⟩
    rw [hj] at hR
    unfold mrUp at hR
    by_cases hxn:y = n - 1
    ·rw [if_pos hxn] at hR
     subst hR
     rw [hm] at hxn
     refine Xa (An2 @hm @hxn) ?_
     exact k
    ·rw [if_neg hxn] at hR
     rw [hm] at hxn
     refine Xa (An2 @hm @hxn) ?_
     refine rMul_ok n y y ?_
     rw [mulM_res n y y hn]
     refine Xa0 ?_
     refine ⟨⟨rfl,_,_,i + 1,rfl,by omega,⟨Int.emod_nonneg _ (by omega),Int.emod_lt_of_pos _ (by omega)⟩,?_⟩,?_⟩
     ·rw [show t - (i + 1) = j by omega]; exact hR
     ·simp only [wiMu_eq]; omega
end
end Go.Proofs
namespace Go.Proofs
open Go Go.Sh Go.RowKit FdSpec TkSpec
section
variable {K:Value → World → Prop} {w:World}
theorem smallP_rng:∀ p ∈ smallP,(2:Int) ≤ p ∧ p ≤ 37:=by decide
theorem bases_ok (k:∀ v W,Below w.heap.size w W → Ints W v smallP → K v W):callM Tryz.prog 209 #[] K w:=by
 apply sh_209_ok
 unfold sh_209
 rw [rM_of (S:=Instr.buildSlice 22 12 (((List.range 12).zip smallV.toList)).toArray) (by kernel_rfl)]
 have e:(Instr.buildSlice 22 12 (((List.range 12).zip smallV.toList)).toArray).run Tryz.prog w = .ok (.slice (some ⟨w.heap.size,0,none⟩) 12 12) (w.alloc (.cells (smallP.map (Value.int .i64)).toArray 3)):=by kernel_rfl
 rw [e]
 exact k _ _ ((Below.refl _ w).alloc (Nat.le_refl _) _) (ints_alloc w smallP _ 12 (fun n hn=>by have:=smallP_rng n hn; unfold I64; omega) (by decide))
theorem big_of_none {n:Int} (hf:smallP.find? (fun p=>decide (n % p = 0)) = none) (h1:2 ≤ n):37 < n:=by
 have hnd:=List.find?_eq_none.1 hf
 have g:∀ p ∈ smallP,¬ n % p = 0:=fun p hp=>by simpa using hnd p hp
 have hs:∀ m:Nat,m < 38 → 2 ≤ m → ∃ p ∈ smallP,(m:Int) % p = 0:=by decide +kernel
 obtain ⟨m,rfl⟩:=natN n (by omega)
 by_cases hm:m < 38
 ·obtain ⟨p,hp,hp0⟩:=hs m hm (by omega)
  exact absurd hp0 (g p hp)
 ·omega
def RprJ (n:Int) (W:World) (l:List Value) (w':World):Prop:=w' = W ∧ ∃ (v:Value) (i:Nat),l = [v,.int .i64 (i:Int)] ∧ i ≤ 12 ∧ smallP.find? (fun p=>decide (n % p = 0)) = (smallP.drop i).find? (fun p=>decide (n % p = 0))
def RprJ2 (n:Int) (W:World) (l:List Value) (w':World):Prop:=w' = W ∧ ∃ (v:Value) (i:Nat),l = [v,.int .i64 (i:Int)] ∧ i ≤ 12 ∧ smallP.all (fun p=>passes n p) = (smallP.drop i).all (fun p=>passes n p)
def rprMu (l:List Value) (_:World):Nat:=match l with | [_,.int _ i]=>12 - i.toNat | _=>0
theorem rprMu_eq (x:Value) (q:IntKind) (i:Int) (w:World):rprMu [x,.int q i] w = 12 - i.toNat:=rfl
theorem rPrime_ok (n:Int) (k:∀ w',Below w.heap.size w w' → K (.bool (primeM n)) w'):callM Tryz.prog 188 #[.int .i64 n] K w:=by
 apply sh_188_ok
 unfold sh_188
 unfold primeM at k
 by_cases h1:n < 2
 ·rw [if_pos (.inl h1)] at k
  refine Xa @h1 ?_
  exact k _ (Below.refl _ _)
 by_cases h2:2305843009213693952 ≤ n
 ·rw [if_pos (.inr h2)] at k
  refine Xa (An2 @h1 @h2) ?_
  exact k _ (Below.refl _ _)
 rw [if_neg (by omega)] at k
 have hn:okN n:=⟨by omega,by omega⟩
 refine Xa (An2 @h1 @h2) ?_
 refine bases_ok (fun v W hb hi=>?_)
 have hlen:smallP.length = 12:=rfl
 obtain ⟨ad,c,rfl⟩:=hi.isSlice
 refine ⟨RprJ n W,rprMu,⟨rfl,_,0,rfl,by omega,rfl⟩,?_⟩
 rintro _ _ w1 ⟨rfl,u,i,rfl,hi12,hf⟩
 by_cases h12:i = 12
 ·subst h12
  rw [show smallP.drop 12 = [] from rfl,List.find?_nil] at hf
  rw [hf] at k
  simp only at k
  have hbig:=big_of_none hf (by omega)
  refine Xa0 ?_
  refine ⟨RprJ2 n w1,rprMu,⟨rfl,_,0,rfl,by omega,rfl⟩,?_⟩
  rintro _ _ w2 ⟨rfl,u2,i,rfl,hi2,hall⟩
  by_cases hi12:i = 12
  ·subst hi12
   rw [show smallP.drop 12 = [] from rfl,List.all_nil] at hall
   rw [hall] at k
   refine Xa0 ?_
   exact k _ hb
  ·rw [List.drop_eq_getElem_cons (by omega),List.all_cons] at hall
   have hr:=smallP_rng _ (List.getElem_mem (show i < smallP.length by omega))
   obtain ⟨b1,o1,rfl,hb1,ca,ra,_⟩:=hi.at (i:=i) (by omega)
   generalize smallP[i] = p at *
   refine Xa (ca _ (Below.refl _ _)) ?_
   refine rpasses_ok n p hn (by omega) ?_
   cases hps:passes n p with
   | false=>
    rw [hps,Bool.false_and] at hall
    rw [hall] at k
    refine Xa0 ?_
    exact k _ hb
   | true=>
    rw [hps,Bool.true_and] at hall
    refine Xa0 ?_
    refine ⟨⟨rfl,_,i + 1,rfl,by omega,hall⟩,?_⟩
    simp only [rprMu_eq]; omega
 ·rw [List.drop_eq_getElem_cons (by omega)] at hf
  have hr:=smallP_rng _ (List.getElem_mem (show i < smallP.length by omega))
  obtain ⟨b1,o1,rfl,hb1,ca,ra,_⟩:=hi.at (i:=i) (by omega)
  generalize smallP[i] = p at *
  have er:n.tmod p = n % p:=Int.tmod_eq_emod_of_nonneg (by omega)
  by_cases hd:n % p = 0
  ·rw [List.find?_cons_of_pos (by simpa using hd)] at hf
   rw [hf] at k
   have k:=k _ hb
   simp only at k
   refine Xa (An3 (ca _ (Below.refl _ _)) @er @hd) ?_
   exact k
  ·rw [List.find?_cons_of_neg (by simpa using hd)] at hf
   refine Xa (An3 (ca _ (Below.refl _ _)) @er @hd) ?_
   refine ⟨⟨rfl,_,i + 1,rfl,by omega,hf⟩,?_⟩
   simp only [rprMu_eq]; omega
set_option maxHeartbeats 1000000 in
theorem rValidGroup_ok (g:Grp) (hg:GrpR g) (k:∀ w',Below w.heap.size w w' → K (.bool (validG g)) w'):callM Tryz.prog 156 #[grpV g] K w:=by
 apply sh_156_ok
 unfold sh_156
 refine box_grp g fun b W hW hb c0 c1 c2=>?_
 have n1:=validG_not (g:=g)
 have n2:=validG_yes (g:=g)
 obtain ⟨P,Q,G⟩:=g
 obtain ⟨hP,hQ,hG⟩:=hg
 unfold I64 at hP hQ hG
 simp only at hP hQ hG n1 n2 c0 c1 c2
 have hr:=Below.refl W.heap.size W
 have k1:∀ w',validG ⟨P,Q,G⟩ = false → Below W.heap.size W w' → K (.bool false) w':=fun w' e hb=>by rw [e] at k; exact k w' (hW.on hb)
 have k2:∀ w' v,validG ⟨P,Q,G⟩ = v → Below W.heap.size W w' → K (.bool v) w':=fun w' v e hb=>by rw [e] at k; exact k w' (hW.on hb)
 clear k
 repeat (any_goals (first
 | (with_reducible first|((refine idGd ?_); first|refine zD ?_|((refine idGdD ?_); first|refine zI ?_|refine zJ ?_|refine zK (fun hg=>?_) fun hg=>?_)|((refine idGdN ?_); first|refine zO ?_|refine zP ?_|refine zQ (fun hg=>?_) fun hg=>?_))|((refine idPick ?_); first|refine yB ?_|refine yD ?_|refine yE ?_|refine yF ?_|refine yG ?_)|((refine idCond ?_); first|refine yL ?_|refine yP (fun hg=>?_) fun hg=>?_))
 | ((with_reducible refine oM_gen fun Kv hK=>?_); simp [go_sem,c0,c1,c2,hr]; (try simp (disch:=omega) only [wrapI64,wrapU8,wrapU64]); refine hK _ _ ?_; clear hK Kv)))
 all_goals try exact k1 _ (n1 (by omega)) hr
 refine rPrime_ok Q (fun w1 h1=>?_)
 have n2:=n2 (by omega)
 cases hq:primeM Q with
 | false=>
  have n2:validG ⟨P,Q,G⟩ = false:=by rw [n2,hq]; rfl
  refine Xa0 ?_
  exact k1 _ n2 h1
 | true=>
  rw [hq,Bool.true_and] at n2
  refine Xa (An2 @c0 @h1) ?_
  refine rPrime_ok P (fun w2 h2=>?_)
  have h2:=h1.on h2
  cases hp:primeM P with
  | false=>
   have n2:validG ⟨P,Q,G⟩ = false:=by rw [n2,hp]; rfl
   refine Xa0 ?_
   exact k1 _ n2 h2
  | true=>
   rw [hp,Bool.true_and] at n2
   obtain ⟨q,hq'⟩:=natN Q (by omega)
   subst hq'
   refine Xa (An4 @c0 @c1 @c2 @h2) ?_
   refine rpow_ok P G q ⟨by omega,by omega⟩ (by omega) ?_
   rw [Int.toNat_natCast] at n2
   generalize pw P G q = z at *
   refine Xa0 ?_
   exact k2 _ _ n2 h2
end
end Go.Proofs
namespace Go.Proofs
open Go Go.Sh Go.RowKit FdSpec TkSpec
section
variable {K:Value → World → Prop} {w:World}
@[reducible] def grpC (g:Grp):List Value:=[.int .i64 g.P,.int .i64 g.Q,.int .i64 g.G]
def memM (g:Grp) (x:Int):Bool:=decide (1 ≤ x) && decide (x < g.P) && decide (pw g.P x g.Q.toNat = 1)
theorem rMember_ok (g:Grp) (x:Int) (hP:okN g.P) (hQ:0 ≤ g.Q ∧ g.Q < 9223372036854775808) (k:∀ w',Below w.heap.size w w' → K (.bool (memM g x)) w'):callM Tryz.prog 163 #[grpV g,.int .i64 x] K w:=by
 apply sh_163_ok
 unfold sh_163
 refine box_kn (cs:=grpC g) rfl (.start w) fun b W hk hb1 hb=>?_
 have k:=k W hk.below
 unfold memM at k
 have hp1:=hP.1
 by_cases h1:1 ≤ x
 ·by_cases h2:x < g.P
  ·rw [decide_eq_true h1,decide_eq_true h2,Bool.true_and,Bool.true_and] at k
   obtain ⟨q,hq⟩:=natN g.Q hQ.1
   refine Xa (An3 hk.cells @h1 @h2) ?_
   have e:(Value.int .i64 g.Q) = .int .i64 (q:Int):=by rw [hq]
   rw [e]
   refine rpow_ok g.P x q hP (by omega) ?_
   rw [hq,Int.toNat_natCast] at k
   generalize pw g.P x q = z at *
   refine Xa0 ?_
   exact k
  ·rw [decide_eq_false h2] at k
   refine Xa (An3 hk.cells @h1 @h2) ?_
   simpa using k
 ·rw [decide_eq_false h1] at k
  refine Xa (An2 hk.cells @h1) ?_
  simpa using k
theorem validG_facts {g:Grp} (h:validG g = true):okN g.P ∧ okN g.Q ∧ 5 ≤ g.Q ∧ 2 ≤ g.G:=by
 unfold validG at h
 split at h
 ·cases h
 rename_i hn
 exact ⟨⟨by omega,by omega⟩,⟨by omega,by omega⟩,by omega,by omega⟩
theorem elemG_eq {g:Grp} (h:validG g = true) (x:Int):elemG g x = memM g x:=by
 unfold elemG memM; rw [h,Bool.and_true]
theorem rElement_ok (g:Grp) (x:Int) (hg:GrpR g) (k:∀ w',Below w.heap.size w w' → K (.bool (elemG g x)) w'):callM Tryz.prog 116 #[grpV g,.int .i64 x] K w:=by
 apply sh_116_ok
 unfold sh_116
 refine box_kn (cs:=grpC g) rfl (.start w) fun b W hk hb1 hb=>?_
 have e0:elemG g x = (decide (1 ≤ x) && decide (x < g.P) && validG g && decide (pw g.P x g.Q.toNat = 1)):=rfl
 by_cases h1:1 ≤ x
 ·by_cases h2:x < g.P
  ·refine Xa (An3 hk.cells @h1 @h2) ?_
   refine rValidGroup_ok g hg (fun w1 h=>?_)
   have hk:=hk.next h
   cases hv:validG g with
   | false=>
    refine Xa hk.cells ?_
    have k:=k _ hk.below
    rw [e0,hv] at k
    simpa using k
   | true=>
    have hf:=validG_facts hv
    have hq:=hf.2.1.1
    have hq2:=hf.2.1.2
    refine Xa hk.cells ?_
    refine rMember_ok g x hf.1 ⟨by omega,by omega⟩ (fun w2 h=>?_)
    have hk:=hk.next h
    refine Xa0 ?_
    have k:=k _ hk.below
    rw [elemG_eq hv] at k
    exact k
  ·have k:=k _ hk.below
   rw [e0,decide_eq_false h2] at k
   refine Xa (An3 hk.cells @h1 @h2) ?_
   simpa using k
 ·have k:=k _ hk.below
  rw [e0,decide_eq_false h1] at k
  refine Xa (An2 hk.cells @h1) ?_
  simpa using k
theorem rPower_ok (g:Grp) (x n:Int) (k:∀ w',Below w.heap.size w w' → K (.int .i64 (powerG g x n)) w'):callM Tryz.prog 164 #[grpV g,.int .i64 x,.int .i64 n] K w:=by
 apply sh_164_ok
 unfold sh_164
 refine box_kn (cs:=grpC g) rfl (.start w) fun b W hk hb1 hb=>?_
 unfold powerG at k
 refine Xa hk.cells ?_
 refine rValid_ok g.P ?_
 by_cases hp:okN g.P
 ·refine Xa hk.cells ?_
  refine rValid_ok g.Q ?_
  by_cases hq:okN g.Q
  ·rw [if_pos ⟨hp,hq⟩] at k
   refine Xa hk.cells ?_
   refine ⟨Kn w _,hk.drew,rfl,?_⟩
   repeat (any_goals (first
   | (with_reducible refine pureH_in ?_)
   | ((with_reducible refine idOH ?_); (with_reducible refine oH_of ⟨_,rfl⟩ (fun W0 hW0=>by (refine oM_gen (fun Kv hK=>?_)); simp [go_sem,hW0.cells]; (first | exact hK _ _ ⟨rfl,rfl⟩ | exact ⟨by omega,hK _ _ ⟨rfl,rfl⟩⟩)) ?_))))
   refine ⟨Nx,fun w1 hk=>?_⟩
   refine rResidue_ok g.Q n hq ?_
   have hq1:=hq.1
   have hq2:=hq.2
   have a3:=Int.emod_nonneg n (b:=g.Q) (by omega)
   have a4:=Int.emod_lt_of_pos n (b:=g.Q) (by omega)
   obtain ⟨m,hm⟩:=natN (n % g.Q) a3
   refine ⟨hk,?_⟩
   rw [hm] at k ⊢
   rw [Int.toNat_natCast] at k
   refine rpow_ok g.P x m hp (by omega) ?_
   exact ⟨hk,hk,k _ hk.below⟩
  ·rw [if_neg (fun h=>hq h.2)] at k
   refine Xa hk.cells ?_
   exact k _ hk.below
 ·rw [if_neg (fun h=>hp h.1)] at k
  refine Xa hk.cells ?_
  exact k _ hk.below
theorem rTimes_ok (g:Grp) (x n:Int) (k:∀ w',Below w.heap.size w w' → K (.int .i64 (timesG g x n)) w'):callM Tryz.prog 165 #[grpV g,.int .i64 x,.int .i64 n] K w:=by
 apply sh_165_ok
 unfold sh_165
 refine box_kn (cs:=grpC g) rfl (.start w) fun b W hk hb1 hb=>?_
 unfold timesG at k
 refine Xa hk.cells ?_
 refine rValid_ok g.Q ?_
 by_cases hq:okN g.Q
 ·rw [if_pos hq] at k
  refine Xa hk.cells ?_
  refine rMul_ok g.P x n ?_
  exact k _ hk.below
 ·rw [if_neg hq] at k
  refine Xa hk.cells ?_
  exact k _ hk.below
def RpdJ (g:Grp) (R:Int) (L:List (Addr × Value)) (ps:List (Int × Int)) (w0:World) (l:List Value) (w':World):Prop:=Kn w0 L w' ∧ ∃ (o:Int) (i:Nat),l = [.int .i64 o,.int .i64 (i:Int)] ∧ i ≤ ps.length ∧ prodL g o (ps.drop i) = R
def rpdMu (n:Nat) (l:List Value) (_:World):Nat:=match l with | [_,.int _ i]=>n - i.toNat | _=>0
theorem rpdMu_eq (n:Nat) (x:Value) (q:IntKind) (i:Int) (w:World):rpdMu n [x,.int q i] w = n - i.toNat:=rfl
theorem rProduct_ok (g:Grp) {bv ev:Value} {bs es:List Int} (hbs:Ints w bv bs) (hes:Ints w ev es) (k:∀ w',Below w.heap.size w w' → K (.tuple #[.int .i64 (prodG g bs es).1,.bool (prodG g bs es).2]) w'):callM Tryz.prog 166 #[grpV g,bv,ev] K w:=by
 apply sh_166_ok
 unfold sh_166
 refine box_kn (cs:=grpC g) rfl (.start w) fun b W hk hb1 hb=>?_
 obtain ⟨bad,bc,rfl⟩:=hbs.isSlice
 obtain ⟨ead,ec,rfl⟩:=hes.isSlice
 have l1:=hbs.len
 have l2:=hes.len
 unfold prodG at k
 refine Xa hk.cells ?_
 refine rValid_ok g.P ?_
 by_cases hp:okN g.P
 ·refine Xa hk.cells ?_
  refine rValid_ok g.Q ?_
  by_cases hq:okN g.Q
  ·by_cases hl:bs.length = es.length
   ·rw [if_pos ⟨hp,hq,hl⟩] at k
    have hp0:=hp.1
    have e1:(1:Int).tmod g.P = 1 % g.P:=Int.tmod_eq_emod_of_nonneg (by omega)
    have hzl:(bs.zip es).length = bs.length:=by rw [List.length_zip]; omega
    refine Xa (An3 hk.cells @hl @e1) ?_
    refine ⟨RpdJ g (prodL g (1 % g.P) (bs.zip es)) _ (bs.zip es) w,rpdMu es.length,⟨hk,_,0,rfl,by omega,rfl⟩,?_⟩
    generalize prodL g (1 % g.P) (bs.zip es) = R at *
    rintro _ _ w1 ⟨hk,o,i,rfl,hi,he⟩
    rw [hzl] at hi
    by_cases hin:i = es.length
    ·rw [List.drop_of_length_le (by omega)] at he
     unfold prodL at he
     refine Xa0 ?_
     rw [he]
     exact k _ hk.below
    ·rw [zip_drop bs es i (by omega) (by omega)] at he
     unfold prodL at he
     obtain ⟨b1,o1,rfl,hb1,ca,ra,_⟩:=hbs.at (i:=i) (by omega)
     obtain ⟨b2,o2,rfl,hb2,cb,rb,_⟩:=hes.at (i:=i) (by omega)
     refine Xa0 ?_
     refine ⟨Kn w _,hk.drew,?_⟩
     repeat (any_goals ((with_reducible refine idOQ ?_); (with_reducible refine oQ_of ⟨_,rfl⟩ (fun W0 hW0=>by (refine oM_gen (fun Kv hK=>?_)); simp [go_sem,hW0.cells,ca _ hW0.below,cb _ hW0.below]; (first | exact hK _ _ ⟨rfl,rfl⟩ | exact ⟨by omega,hK _ _ ⟨rfl,rfl⟩⟩)) ?_)))
     refine callQ_of (fun W0 hW0=>rPower_ok g _ _ (fun w' hw'=>⟨rfl,hW0.next hw'⟩)) ?_
     refine callQ_of (fun W0 hW0=>rMul_ok _ _ _ ⟨rfl,hW0⟩) ?_
     intro w2 hk
     refine Xa0 ?_
     refine ⟨⟨hk,_,i + 1,rfl,by rw [hzl]; omega,he⟩,?_⟩
     simp only [rpdMu_eq]; omega
   ·rw [if_neg (fun h=>hl h.2.2)] at k
    have hl':¬ (bs.length:Int) = es.length:=by omega
    refine Xa (An2 hk.cells @hl') ?_
    exact k _ hk.below
  ·rw [if_neg (fun h=>hq h.2.1)] at k
   refine Xa hk.cells ?_
   exact k _ hk.below
 ·rw [if_neg (fun h=>hp h.1)] at k
  refine Xa hk.cells ?_
  exact k _ hk.below
theorem rother_ok (g:Grp) (x:Int) (hv:validG g = true) (k:∀ w',Below w.heap.size w w' → K (.bool (otherM g x)) w'):callM Tryz.prog 157 #[grpV g,.int .i64 x] K w:=by
 apply sh_157_ok
 unfold sh_157
 refine box_kn (cs:=grpC g) rfl (.start w) fun b W hk hb1 hb=>?_
 unfold otherM at k
 by_cases hx:x = 1
 ·have k:=k _ hk.below
  refine Xa (An2 hk.cells @hx) ?_
  simpa [hx] using k
 ·have hf:=validG_facts hv
  have hq:=hf.2.1.1
  have hq2:=hf.2.1.2
  refine Xa (An2 hk.cells @hx) ?_
  refine rMember_ok g x hf.1 ⟨by omega,by omega⟩ (fun w2 h=>?_)
  have k:=k _ (hk.next h).below
  rw [elemG_eq hv] at k
  refine Xa0 ?_
  simpa [hx] using k
def RvsJ (s:Stp) (L:List (Addr × Value)) (R:Bool) (w0:World) (l:List Value) (w':World):Prop:=Kn w0 L w' ∧ ∃ (v:Value) (i:Nat),l = [v,.int .i64 (i:Int)] ∧ i ≤ s.bases.length ∧ (s.bases.drop i).all (otherM s.g) = R
theorem rValidSetup_ok (s:Stp) {v:Value} (hs:SetR w s v) (k:∀ w',Below w.heap.size w w' → K (.bool (validS s)) w'):callM Tryz.prog 106 #[stpV s v] K w:=by
 apply sh_106_ok
 unfold sh_106
 obtain ⟨ad,c,rfl⟩:=hs.ints.isSlice
 refine box_kn (cs:=stpC s (.slice ad s.bases.length c)) rfl (.start w) fun b W hk hb1 hb=>?_
 have k2:∀ w' r,validS s = r → Below w.heap.size w w' → K (.bool r) w':=fun w' r e hb=>by rw [← e]; exact k w' hb
 have e0:validS s = (validG s.g && decide (2 ≤ s.bases.length) && decide (s.bases.length ≤ 7) && s.bases.all (otherM s.g) && otherM s.g s.blind):=rfl
 have hl:=hs.ints.len
 clear k
 refine Xa hk.cells ?_
 refine rValidGroup_ok s.g hs.grp (fun w1 h1=>?_)
 have hk:=hk.next h1
 clear h1 hb1
 cases hv:validG s.g with
 | false=>
  refine Xa0 ?_
  exact k2 _ _ (by rw [e0,hv]; simp) hk.below
 | true=>
  repeat (any_goals (first
  | (with_reducible first|((refine idGd ?_); first|refine zC ?_|refine zD ?_|((refine idGdD ?_); first|refine zI ?_|refine zJ ?_|refine zK (fun hg=>?_) fun hg=>?_))|((refine idPick ?_); first|refine yB ?_|refine yC ?_|refine yD ?_|refine yE ?_)|refine yL ?_)
  | ((with_reducible refine oM_gen fun Kv hK=>?_); simp [go_sem,hk.cells]; refine hK _ _ ?_; clear hK Kv)))
  ·exact k2 _ _ (by rw [e0]; simp; omega) hk.below
  ·exact k2 _ _ (by rw [e0]; simp; omega) hk.below
  refine rother_ok s.g s.blind hv (fun w3 h3=>?_)
  have hk:=hk.next h3
  have e1:validS s = (s.bases.all (otherM s.g) && otherM s.g s.blind):=by
   rw [e0,hv,decide_eq_true (by omega:2 ≤ s.bases.length),decide_eq_true (by omega:s.bases.length ≤ 7)]; rfl
  cases ho:otherM s.g s.blind with
  | false=>
   refine Xa hk.cells ?_
   exact k2 _ _ (by rw [e1,ho,Bool.and_false]) hk.below
  | true=>
  rw [ho,Bool.and_true] at e1
  refine Xa0 ?_
  refine ⟨RvsJ s _ (s.bases.all (otherM s.g)) w,rpdMu s.bases.length,⟨hk,_,0,rfl,by omega,rfl⟩,?_⟩
  rw [e1] at k2
  generalize s.bases.all (otherM s.g) = R at *
  rintro _ _ w2 ⟨hk,u1,i,rfl,hi,hall⟩
  by_cases hin:i = s.bases.length
  ·rw [List.drop_of_length_le (by omega),List.all_nil] at hall
   refine Xa hk.cells ?_
   exact k2 _ _ hall.symm hk.below
  ·rw [List.drop_eq_getElem_cons (by omega),List.all_cons] at hall
   obtain ⟨b1,o1,rfl,hb1,ca,ra,_⟩:=hs.ints.at (i:=i) (by omega)
   refine Xa hk.cells ?_
   refine ⟨Kn w _,hk.drew,rfl,?_⟩
   repeat (any_goals (first
   | (with_reducible refine pureH_in ?_)
   | ((with_reducible refine idOH ?_); (with_reducible refine oH_of ⟨_,rfl⟩ (fun W0 hW0=>by (refine oM_gen (fun Kv hK=>?_)); simp [go_sem,hW0.cells,ca _ hW0.below]; (first | exact hK _ _ ⟨rfl,rfl⟩ | exact ⟨by omega,hK _ _ ⟨rfl,rfl⟩⟩)) ?_))))
   refine ⟨Nx,fun w1 hk=>?_⟩
   refine rother_ok s.g _ hv (fun w3 h3=>?_)
   have hk:=hk.next h3
   refine ⟨hk,?_⟩
   cases ho:otherM s.g s.bases[i] with
   | false=>
    rw [ho,Bool.false_and] at hall
    repeat (any_goals (first
    | (with_reducible refine And.intro hk ?_)
    | (with_reducible refine yL ?_)
    | ((with_reducible refine oM_gen fun Kv hK=>?_); simp [go_sem]; refine hK _ _ ?_; clear hK Kv)))
    exact k2 _ _ hall.symm hk.below
   | true=>
    rw [ho,Bool.true_and] at hall
    repeat (any_goals (first
    | (with_reducible refine And.intro hk ?_)
    | (with_reducible refine yM ?_)
    | ((with_reducible refine oM_gen fun Kv hK=>?_); simp [go_sem]; (try simp (disch:=omega) only [wrapI64,wrapU8,wrapU64]); refine hK _ _ ?_; clear hK Kv)))
    refine ⟨⟨hk,_,i + 1,rfl,by omega,hall⟩,?_⟩
    simp only [rpdMu_eq]; omega
end
end Go.Proofs
namespace Go.Proofs
open Go Go.Sh Go.RowKit ShaSpec
section
variable {K:Value → World → Prop} {w w0:World}
abbrev OwnW (w:World) (B:Nat) (v:Value) (l:List W):Prop:=w.ownsRow B 200 1 v l.length (ws l)
def WrdR (w:World) (v:Value) (l:List W):Prop:=∃ ad c,v = .slice ad l.length c ∧ (l = [] ∨ ∃ b o,ad = some ⟨b,o,none⟩ ∧ b < w.heap.size ∧ ∀ i,i < l.length → w.cell? ⟨b,o + i,none⟩ = some (w32 (at' l i)))
theorem WrdR.next {w':World} {v:Value} {l:List W} (h:WrdR w v l) (hb:Below w.heap.size w w'):WrdR w' v l:=by
 obtain ⟨ad,c,rfl,h⟩:=h
 refine ⟨ad,c,rfl,h.imp id ?_⟩
 rintro ⟨b,o,rfl,hlt,hc⟩
 exact ⟨b,o,rfl,Nat.lt_of_lt_of_le hlt hb.size,fun i hi=>by rw [hb.cell hlt]; exact hc i hi⟩
theorem WrdR.at {v:Value} {l:List W} (h:WrdR w v l) (hne:0 < l.length):∃ b o c,v = .slice (some ⟨b,o,none⟩) l.length c ∧ ∀ w',Below w.heap.size w w' → ∀ i,i < l.length → w'.cell? ⟨b,o + i,none⟩ = some (w32 (at' l i)):=by
 obtain ⟨ad,c,rfl,h⟩:=h
 rcases h with rfl | ⟨b,o,rfl,hlt,hc⟩
 ·simp at hne
 ·exact ⟨b,o,c,rfl,fun w' hb i hi=>by rw [hb.cell hlt]; exact hc i hi⟩
theorem OwnW.read {B:Nat} {v:Value} {l:List W} (h:OwnW w B v l):WrdR w v l:=by
 by_cases h0:l = []
 ·subst h0
  rcases h.2 with ⟨rfl,_⟩ | ⟨g,cap,cur,rfl,_⟩
  ·exact ⟨none,0,rfl,.inl rfl⟩
  ·exact ⟨_,cap,rfl,.inl rfl⟩
 ·obtain ⟨g,cap,cur,rfl,hlt,_,_,_,_,hc⟩:=owns_cells h (List.length_pos_iff.2 h0)
  refine ⟨_,cap,rfl,.inr ⟨g,0,rfl,hlt,fun i hi=>?_⟩⟩
  rw [Nat.zero_add]
  exact hc i _ (by simp [ws,at',List.getD_eq_getElem?_getD,hi])
theorem OwnW.keep {B:Nat} {v:Value} {l:List W} {w':World} (h:OwnW w B v l) (hb:Below w.heap.size w w'):OwnW w' B v l:=
 owns_keep h (fun i hi=>hb.block i (owns_own h hi).1)
@[go_sem] theorem idx_w32 (T:TypeId) (b o n c:Nat) (x:Int):oM Tryz.prog (.indexAddr 216 (.tmp 0) (.tmp 1)) T [.slice (some ⟨b,o,none⟩) n c,.int .i64 x] = onM (0 ≤ x ∧ x < n) (.pointer (some ⟨b,o + x.toNat,none⟩)):=by
 funext K w
 rw [oM_indexAddr,run_indexAt_slice (h:=by kernel_rfl)]
 have hs:(sizeOf (Tryz.prog.elem 216)).run Tryz.prog w = .ok 1 w:=by kernel_rfl
 by_cases hi:0 ≤ x ∧ x < n
 ·rw [if_pos hi,hs]
  simp only [Result.andThen,add_none,Nat.mul_one,rM_ok]
  exact propext ⟨fun h=>⟨hi,h⟩,fun h=>h.2⟩
 ·rw [if_neg hi]
  obtain ⟨e',w',he⟩:=halts Value Tryz.prog .i64 x n .index w
  rw [he]
  exact propext ⟨fun h=>h.elim,fun h=>hi h.1⟩
theorem mkW1 {T:TypeId} (x:W) (k:∀ g W,Below w.heap.size w W → g < W.heap.size → W.cell? ⟨g,0,none⟩ = some (w32 x) → K (.slice (some ⟨g,0,none⟩) 1 1) W):oM Tryz.prog (.buildSlice 216 1 #[(0,.tmp 0)]) T [w32 x] K w:=by
 rw [oM_buildSlice1]
 have e:(Instr.buildSlice 216 1 #[(0,w32 x)]).run Tryz.prog w = .ok (.slice (some ⟨w.heap.size,0,none⟩) 1 1) (w.alloc (.cells #[w32 x] 200)):=by kernel_rfl
 rw [e]
 refine k _ _ ((Below.refl _ w).alloc (Nat.le_refl _) _) (by simp) ?_
 have:=World.cell?_alloc_at (w:=w) #[w32 x] 200 w.heap.size 0 rfl
 rw [this]
 rfl
theorem appendW {B:Nat} {T:TypeId} {v:Value} {l:List W} {x:W} {g c:Nat} (ho:OwnW w B v l) (hB:B ≤ w.heap.size) (hx:w.cell? ⟨g,0,none⟩ = some (w32 x)) (hl:l.length < 1099511627776)
  (k:∀ v' w',OwnW w' B v' (l ++ [x]) → Below B w w' → K v' w'):oM Tryz.prog (.call { callee:=.builtin .append,args:=#[.tmp 0,.tmp 1],argTypes:=#[216,216] }) T [v,.slice (some ⟨g,0,none⟩) 1 c] K w:=by
 refine append_at 216 T 200 ((Tryz.prog.info? 200).getD default) (.int .u32 0) 1 4 (by kernel_rfl) (by kernel_rfl) (by kernel_rfl) (by kernel_rfl) (by kernel_rfl) (by kernel_rfl) (by omega) (owns_base ho (Nat.zero_le _)) [w32 x] (by simp) (by simp) ?_ ?_ (by simp only [maxLen]; omega) (by omega) ?_
 ·rintro a ha j u hj
  cases ha
  match j,hj with
  | 0,hj=>
   simp only [List.getElem?_cons_zero,Option.some.injEq] at hj
   subst hj
   rw [add_none]; exact hx
 ·intro u hu
  simp only [List.mem_singleton] at hu
  subst hu; rfl
 ·intro v' w' ho' hg hv
  have hbl:∀ i,v.ownBlock = some i → B ≤ i:=fun i hi=>(owns_own ho hi).2.1
  refine k v' w' ?_ ((Below.refl B w).grown hg hB hbl)
  have e2:ws (l ++ [x]) = ws l ++ [w32 x]:=by simp [ws]
  show w'.ownsRow B 200 1 v' (l ++ [x]).length (ws (l ++ [x]))
  rw [List.length_append,e2]
  exact owns_up ho' (fun i hi=>(hv i hi).elim (hbl i) (fun h=>Nat.le_trans hB h))
theorem turn_ok (x:W) (r:Nat) (h0:0 < r) (h1:r < 32) (k:∀ w',Below w.heap.size w w' → K (w32 (rotr x r)) w'):callM Tryz.prog 219 #[w32 x,.int .i64 (r:Int)] K w:=by
 apply sh_219_ok
 unfold sh_219
 have s1:=fun t t' T=>wshl (P:=Tryz.prog) t t' T .i64 x (32 - r) (by omega)
 have s2:=fun t t' T=>wshr (P:=Tryz.prog) t t' T .i64 x r (by omega)
 have e1:IntKind.i64.wrap (32 - (r:Int)) = ((32 - r:Nat):Int):=by rw [wrapI64 _ (by omega) (by omega)]; omega
 obtain ⟨m,hm⟩:∃ m,m = 32 - r:=⟨_,rfl⟩
 rw [← hm] at e1 s1
 refine ⟨Nx w,.drawn,?_⟩
 refine Xg (An4 @e1 @s1 @s2 @wor) ?_
 intro w' hw'
 have k:=k w' hw'
 unfold rotr at k
 rw [← hm] at k
 exact k
abbrev W':=BitVec 32
theorem tu6 {K:Value → World → Prop} {w:World} (x:W) (k:∀ w',Below w.heap.size w w' → K (w32 (rotr x 6)) w'):callM Tryz.prog 219 #[w32 x,.int .i64 6] K w:=turn_ok x 6 (by omega) (by omega) k
theorem tuQ6 {W:World} {KQ:Value → Prop} (x:W') (k:KQ (w32 (rotr x 6))):callQ Tryz.prog 219 #[w32 x,.int .i64 6] (Nx W) KQ:=callQ_of (v:=w32 (rotr x 6)) (fun w hw=>tu6 x (fun w' h=>⟨rfl,hw.on h⟩)) k
theorem tu11 {K:Value → World → Prop} {w:World} (x:W) (k:∀ w',Below w.heap.size w w' → K (w32 (rotr x 11)) w'):callM Tryz.prog 219 #[w32 x,.int .i64 11] K w:=turn_ok x 11 (by omega) (by omega) k
theorem tuQ11 {W:World} {KQ:Value → Prop} (x:W') (k:KQ (w32 (rotr x 11))):callQ Tryz.prog 219 #[w32 x,.int .i64 11] (Nx W) KQ:=callQ_of (v:=w32 (rotr x 11)) (fun w hw=>tu11 x (fun w' h=>⟨rfl,hw.on h⟩)) k
theorem tu25 {K:Value → World → Prop} {w:World} (x:W) (k:∀ w',Below w.heap.size w w' → K (w32 (rotr x 25)) w'):callM Tryz.prog 219 #[w32 x,.int .i64 25] K w:=turn_ok x 25 (by omega) (by omega) k
theorem tuQ25 {W:World} {KQ:Value → Prop} (x:W') (k:KQ (w32 (rotr x 25))):callQ Tryz.prog 219 #[w32 x,.int .i64 25] (Nx W) KQ:=callQ_of (v:=w32 (rotr x 25)) (fun w hw=>tu25 x (fun w' h=>⟨rfl,hw.on h⟩)) k
theorem tu2 {K:Value → World → Prop} {w:World} (x:W) (k:∀ w',Below w.heap.size w w' → K (w32 (rotr x 2)) w'):callM Tryz.prog 219 #[w32 x,.int .i64 2] K w:=turn_ok x 2 (by omega) (by omega) k
theorem tuQ2 {W:World} {KQ:Value → Prop} (x:W') (k:KQ (w32 (rotr x 2))):callQ Tryz.prog 219 #[w32 x,.int .i64 2] (Nx W) KQ:=callQ_of (v:=w32 (rotr x 2)) (fun w hw=>tu2 x (fun w' h=>⟨rfl,hw.on h⟩)) k
theorem tu13 {K:Value → World → Prop} {w:World} (x:W) (k:∀ w',Below w.heap.size w w' → K (w32 (rotr x 13)) w'):callM Tryz.prog 219 #[w32 x,.int .i64 13] K w:=turn_ok x 13 (by omega) (by omega) k
theorem tuQ13 {W:World} {KQ:Value → Prop} (x:W') (k:KQ (w32 (rotr x 13))):callQ Tryz.prog 219 #[w32 x,.int .i64 13] (Nx W) KQ:=callQ_of (v:=w32 (rotr x 13)) (fun w hw=>tu13 x (fun w' h=>⟨rfl,hw.on h⟩)) k
theorem tu22 {K:Value → World → Prop} {w:World} (x:W) (k:∀ w',Below w.heap.size w w' → K (w32 (rotr x 22)) w'):callM Tryz.prog 219 #[w32 x,.int .i64 22] K w:=turn_ok x 22 (by omega) (by omega) k
theorem tuQ22 {W:World} {KQ:Value → Prop} (x:W') (k:KQ (w32 (rotr x 22))):callQ Tryz.prog 219 #[w32 x,.int .i64 22] (Nx W) KQ:=callQ_of (v:=w32 (rotr x 22)) (fun w hw=>tu22 x (fun w' h=>⟨rfl,hw.on h⟩)) k
theorem tu7 {K:Value → World → Prop} {w:World} (x:W) (k:∀ w',Below w.heap.size w w' → K (w32 (rotr x 7)) w'):callM Tryz.prog 219 #[w32 x,.int .i64 7] K w:=turn_ok x 7 (by omega) (by omega) k
theorem tu18 {K:Value → World → Prop} {w:World} (x:W) (k:∀ w',Below w.heap.size w w' → K (w32 (rotr x 18)) w'):callM Tryz.prog 219 #[w32 x,.int .i64 18] K w:=turn_ok x 18 (by omega) (by omega) k
theorem tu17 {K:Value → World → Prop} {w:World} (x:W) (k:∀ w',Below w.heap.size w w' → K (w32 (rotr x 17)) w'):callM Tryz.prog 219 #[w32 x,.int .i64 17] K w:=turn_ok x 17 (by omega) (by omega) k
theorem tu19 {K:Value → World → Prop} {w:World} (x:W) (k:∀ w',Below w.heap.size w w' → K (w32 (rotr x 19)) w'):callM Tryz.prog 219 #[w32 x,.int .i64 19] K w:=turn_ok x 19 (by omega) (by omega) k
theorem row8 {T:TypeId} (s:St) (k:∀ v W,Below w.heap.size w W → OwnW W w.heap.size v s.list → K v W):oM Tryz.prog (.buildSlice 216 8 #[(0,(.tmp 0)),(1,(.tmp 1)),(2,(.tmp 2)),(3,(.tmp 3)),(4,(.tmp 4)),(5,(.tmp 5)),(6,(.tmp 6)),(7,(.tmp 7))]) T [w32 s.a,w32 s.b,w32 s.c,w32 s.d,w32 s.e,w32 s.f,w32 s.g,w32 s.h] K w:=by
 rw [rM_of (S:=Instr.buildSlice 216 8 (((List.range 8).zip (ws s.list))).toArray) (by kernel_rfl)]
 have e:(Instr.buildSlice 216 8 (((List.range 8).zip (ws s.list))).toArray).run Tryz.prog w = .ok (.slice (some ⟨w.heap.size,0,none⟩) 8 8) (w.alloc (.cells (ws s.list).toArray 200)):=by kernel_rfl
 rw [e]
 refine k _ _ ((Below.refl _ w).alloc (Nat.le_refl _) _) ⟨by simp,.inr ⟨w.heap.size,8,_,rfl,Nat.le_refl _,heap_alloc_new w _,Nat.le_refl _,by decide,rfl,?_⟩⟩
 rw [List.take_of_length_le (by simp [St.list])]
theorem firsts_ok (k:∀ v W,Below w.heap.size w W → OwnW W w.heap.size v first.list → K v W):callM Tryz.prog 197 #[] K w:=by
 apply sh_197_ok
 unfold sh_197
 exact row8 first k
theorem adds_ok (k:∀ v W,Below w.heap.size w W → WrdR W v consts → K v W):callM Tryz.prog 218 #[] K w:=by
 apply sh_218_ok
 unfold sh_218
 have e0:∀ K w,oM Tryz.prog (Go.Op.buildSlice 216 64 ((List.range 64).map fun i=>(i,Operand.tmp i)).toArray) 216 (ws consts) K w = K (.slice (some ⟨w.heap.size,0,none⟩) 64 64) (w.alloc (.cells (ws consts).toArray 200)):=by
  intro K w
  kernel_rfl
 refine (e0 _ w).symm ▸ ?_
 refine k _ _ ((Below.refl _ w).alloc (Nat.le_refl _) _) ⟨_,64,rfl,.inr ⟨w.heap.size,0,rfl,by simp,fun i hi=>?_⟩⟩
 rw [Nat.zero_add]
 have:=World.cell?_alloc_at (w:=w) (ws consts).toArray 200 w.heap.size i rfl
 rw [this]
 simp [ws,at',List.getD_eq_getElem?_getD,hi]
end
end Go.Proofs
namespace Go.Proofs
open Go Go.Sh Go.RowKit ShaSpec
section
variable {K:Value → World → Prop} {w w0:World}
def WoJ (w0:World) (b:List UInt8) (l:List Value) (w':World):Prop:=∃ (v:Value) (i:Nat),l = [v,.int .i64 (i:Int)] ∧ i ≤ 16 ∧ OwnW w' w0.heap.size v (sched b i) ∧ Below w0.heap.size w0 w'
def woMu (n:Nat) (l:List Value) (_:World):Nat:=match l with | [_,.int _ i]=>n - i.toNat | _=>0
theorem woMu_eq (n:Nat) (x:Value) (q:IntKind) (i:Int) (w:World):woMu n [x,.int q i] w = n - i.toNat:=rfl
def Wo2J (w0:World) (b:List UInt8) (l:List Value) (w':World):Prop:=∃ (v1 v2 v3 v4 v:Value) (i:Nat),l = [v1,v2,v3,v4,v,.int .i64 (i:Int)] ∧ 16 ≤ i ∧ i ≤ 64 ∧ OwnW w' w0.heap.size v (sched b i) ∧ Below w0.heap.size w0 w'
def One (x:W) (v:Value) (w':World):Prop:=∃ g,v = .slice (some ⟨g,0,none⟩) 1 1 ∧ g < w'.heap.size ∧ w'.cell? ⟨g,0,none⟩ = some (w32 x)
theorem One.next {x:W} {v:Value} {w w':World} (h:One x v w) (hb:Nx w w'):One x v w':=by
 obtain ⟨g,rfl,hlt,hc⟩:=h
 exact ⟨g,rfl,Nat.lt_of_lt_of_le hlt hb.size,by rw [hb.cell hlt]; exact hc⟩
theorem words_ok (b:List UInt8) {B o c:Nat} (hl:b.length = 64) (hb:ByR w B o b) (k:∀ v W,Below w.heap.size w W → WrdR W v (sched b 64) → K v W):callM Tryz.prog 217 #[.slice (some ⟨B,o,none⟩) 64 c] K w:=by
 apply sh_217_ok
 unfold sh_217
 refine ⟨WoJ w b,woMu 16,⟨_,0,rfl,by omega,⟨rfl,.inl ⟨rfl,rfl⟩⟩,Below.refl _ _⟩,?_⟩
 rintro _ _ w1 ⟨v,i,rfl,hi,ho,hB⟩
 by_cases h16:i < 16
 ·refine Xa0 ?_
  have ho:=ho.keep (.drawn (B:=w1.heap.size))
  have hB:=hB.on (.drawn (B:=w1.heap.size))
  refine ⟨Nx { w1 with drawn:=w1.drawn + 1 },Below.refl _ _,rfl,?_⟩
  generalize ({ w1 with drawn:=w1.drawn + 1 }:World) = w2 at ho hB ⊢
  have cb:∀ j,j < 64 → ∀ w',Nx w2 w' → w'.cell? ⟨B,o + j,none⟩ = some (.int .u8 ((b.getD j 0).toNat:Int)):=fun j hj w' hw=>(hb.next (hB.on hw)).2 j (by omega)
  have t1:(4 * (i:Int)).toNat = 4 * i:=by omega
  have t2:(4 * (i:Int) + 1).toNat = 4 * i + 1:=by omega
  have t3:(4 * (i:Int) + 2).toNat = 4 * i + 2:=by omega
  have t4:(4 * (i:Int) + 3).toNat = 4 * i + 3:=by omega
  have c1:=cb (4 * i) (by omega)
  have c2:=cb (4 * i + 1) (by omega)
  have c3:=cb (4 * i + 2) (by omega)
  have c4:=cb (4 * i + 3) (by omega)
  have q1:IntKind.i64.wrap (4 * (i:Int)) = 4 * i:=wrapI64 _ (by omega) (by omega)
  have q2:IntKind.i64.wrap (4 * (i:Int) + 1) = 4 * i + 1:=wrapI64 _ (by omega) (by omega)
  have q3:IntKind.i64.wrap (4 * (i:Int) + 2) = 4 * i + 2:=wrapI64 _ (by omega) (by omega)
  have q4:IntKind.i64.wrap (4 * (i:Int) + 3) = 4 * i + 3:=wrapI64 _ (by omega) (by omega)
  refine Xf (fun W0 hW0=>An4 (c1 _ hW0) (c2 _ hW0) (c3 _ hW0) (c4 _ hW0)) (An13 @q1 @q2 @q3 @q4 @t1 @t2 @t3 @t4 @conv_u8 @shl24 @shl16 @shl8 @wor) ?_
  have en:nextW b (sched b i) i = w8 (b[4 * i]?.getD 0) <<< 24 ||| w8 (b[4 * i + 1]?.getD 0) <<< 16 ||| w8 (b[4 * i + 2]?.getD 0) <<< 8 ||| w8 (b[4 * i + 3]?.getD 0):=by
   unfold nextW word
   rw [if_pos h16]
   simp only [List.getD_eq_getElem?_getD]
  rw [← en]
  refine ⟨Nx,monoR (One (nextW b (sched b i) i)) (fun v w w1 hS h=>h.next hS) ?_ ?_⟩
  ·intro w3 h3
   exact mkW1 _ (fun g w4 h4 hlt hc=>⟨h3.on h4,h4,g,rfl,hlt,hc⟩)
  rintro w3 h3 _ ⟨g,rfl,hlt,hc⟩
  refine appendW (ho.keep h3) (hB.on h3).size hc (by rw [sched_length]; omega) (fun v' w4 ho4 hb4=>?_)
  refine Xa0 ?_
  refine ⟨⟨_,i + 1,rfl,h16,ho4,(hB.on h3).trans hb4⟩,?_⟩
  simp only [woMu_eq]; omega
 ·obtain rfl:i = 16:=by omega
  refine Xa0 ?_
  refine ⟨Wo2J w b,schMu,⟨_,_,_,_,_,16,rfl,by omega,by omega,ho,hB⟩,?_⟩
  clear ho hB v
  rintro _ _ w1 ⟨v1,v2,v3,v4,v,i,rfl,hi1,hi,ho,hB⟩
  by_cases hi64:i < 64
  ·obtain ⟨g,og,cg,rfl,hr⟩:=ho.read.at (by rw [sched_length]; omega)
   rw [sched_length] at *
   have t1:((i:Int) - 15).toNat = i - 15:=by omega
   have t2:((i:Int) - 2).toNat = i - 2:=by omega
   have t3:((i:Int) - 16).toNat = i - 16:=by omega
   have t4:((i:Int) - 7).toNat = i - 7:=by omega
   have q3:IntKind.i64.wrap ((i:Int) - 16) = (i:Int) - 16:=wrapI64 _ (by omega) (by omega)
   have q4:IntKind.i64.wrap ((i:Int) - 7) = (i:Int) - 7:=wrapI64 _ (by omega) (by omega)
   have hz:=Below.refl w1.heap.size w1
   refine Xa (An4 @t1 @t2 (hr _ hz (i - 15) (by omega)) (hr _ hz (i - 2) (by omega))) ?_
   refine tu7 _ (fun w2 h2=>?_)
   refine tu18 _ (fun w3 h3=>?_)
   refine Xa (An2 @shr3 @wxor) ?_
   refine tu17 _ (fun w4 h4=>?_)
   refine tu19 _ (fun w5 h5=>?_)
   refine Xa (An2 @shr10 @wxor) ?_
   have h5:=(((h2.on h3).on h4).on h5).on (.drawn (B:=w5.heap.size))
   clear h2 h3 h4 hz
   refine ⟨Nx { w5 with drawn:=w5.drawn + 1 },Below.refl _ _,rfl,?_⟩
   generalize ({ w5 with drawn:=w5.drawn + 1 }:World) = w6 at h5 ⊢
   refine Xf (fun W0 hW0=>An2 (hr _ (h5.on hW0) (i - 16) (by omega)) (hr _ (h5.on hW0) (i - 7) (by omega))) (An5 @q3 @q4 @t3 @t4 @wadd) ?_
   have en:nextW b (sched b i) i = at' (sched b i) (i - 16) + sig0 (at' (sched b i) (i - 15)) + at' (sched b i) (i - 7) + sig1 (at' (sched b i) (i - 2)):=by
    unfold nextW
    rw [if_neg (by omega)]
   unfold sig0 sig1 at en
   rw [← en]
   refine ⟨Nx,monoR (One (nextW b (sched b i) i)) (fun v w w1 hS h=>h.next hS) ?_ ?_⟩
   ·intro w3 h3
    exact mkW1 _ (fun g w4 h4 hlt hc=>⟨h3.on h4,h4,g,rfl,hlt,hc⟩)
   rintro w3 h3 _ ⟨g2,rfl,hlt,hc⟩
   have h3:=h5.on h3
   refine appendW (ho.keep h3) (hB.on h3).size hc (by rw [sched_length]; omega) (fun v' w4 ho4 hb4=>?_)
   refine Xa0 ?_
   refine ⟨⟨_,_,_,_,_,i + 1,rfl,by omega,hi64,ho4,(hB.on h3).trans hb4⟩,?_⟩
   simp only [schMu_eq]; omega
  ·obtain rfl:i = 64:=by omega
   refine Xa0 ?_
   exact k _ _ hB ho.read
end
end Go.Proofs
namespace Go.Proofs
open Go Go.Sh Go.RowKit ShaSpec
section
variable {K:Value → World → Prop} {w w0:World}
theorem mkW0 {T:TypeId} (k:∀ v W,Below w.heap.size w W → OwnW W w.heap.size v [] → K v W):oM Tryz.prog (.buildSlice 216 0 #[]) T [] K w:=by
 rw [oM_buildSlice0]
 have e:(Instr.buildSlice 216 0 #[]).run Tryz.prog w = .ok (.slice (some ⟨w.heap.size,0,none⟩) 0 0) (w.alloc (.cells #[] 200)):=by kernel_rfl
 rw [e]
 exact k _ _ ((Below.refl _ w).alloc (Nat.le_refl _) _) ⟨rfl,.inr ⟨w.heap.size,0,#[],rfl,Nat.le_refl _,heap_alloc_new w _,Nat.le_refl _,by decide,rfl,rfl⟩⟩
theorem appendRow {B:Nat} {T:TypeId} {v hv:Value} {l m:List W} (ho:OwnW w B v l) (hB:B ≤ w.heap.size) (hx:WrdR w hv m) (hne:0 < m.length) (hl:l.length + m.length < 1099511627776)
  (k:∀ v' w',OwnW w' B v' (l ++ m) → Below B w w' → K v' w'):oM Tryz.prog (.call { callee:=.builtin .append,args:=#[.tmp 0,.tmp 1],argTypes:=#[216,216] }) T [v,hv] K w:=by
 obtain ⟨ad,c,rfl,hm⟩:=hx
 obtain ⟨b,o,rfl,hlt,hc⟩:=hm.resolve_left (fun h0=>by subst h0; simp at hne)
 refine append_at 216 T 200 ((Tryz.prog.info? 200).getD default) (.int .u32 0) 1 4 (by kernel_rfl) (by kernel_rfl) (by kernel_rfl) (by kernel_rfl) (by kernel_rfl) (by kernel_rfl) (by omega) (owns_base ho (Nat.zero_le _)) (ws m) (by simp) (by simp) ?_ ?_ (by simp only [maxLen]; omega) (by omega) ?_
 ·rintro a ha j u hj
  cases ha
  have hjl:j < m.length:=by have:=(List.getElem?_eq_some_iff.1 hj).1; simpa using this
  rw [add_none,hc j hjl,← hj]
  simp [ws,at',List.getD_eq_getElem?_getD,hjl]
 ·exact ws_one m
 ·intro v' w' ho' hg hv
  have hbl:∀ i,v.ownBlock = some i → B ≤ i:=fun i hi=>(owns_own ho hi).2.1
  refine k v' w' ?_ ((Below.refl B w).grown hg hB hbl)
  have e2:ws (l ++ m) = ws l ++ ws m:=by simp [ws]
  show w'.ownsRow B 200 1 v' (l ++ m).length (ws (l ++ m))
  rw [List.length_append,e2]
  exact owns_up ho' (fun i hi=>(hv i hi).elim (hbl i) (fun h=>Nat.le_trans hB h))
theorem setW {B i:Nat} {T:TypeId} {v:Value} {l:List W} (x:W) (ho:OwnW w B v l) (hi:i < l.length):∃ g c,v = .slice (some ⟨g,0,none⟩) l.length c ∧ B ≤ g ∧ ∀ K:Value → World → Prop,(∀ w',w.grownBy w' (some g) → OwnW w' B v (l.set i x) → K undef w') →
  oM Tryz.prog (.store 200 (.tmp 0) (.tmp 1)) T [ptr g i,w32 x] K w:=by
 rcases ho.2 with ⟨_,h0⟩ | ⟨g,cap,cur,rfl,hb,hg,hn,hm,hs,ht⟩
 ·omega
 ·refine ⟨g,cap,rfl,hb,fun K k=>?_⟩
  have hh:Holds w g 200 cur.toList:=by unfold Holds; simpa using hg
  have hcl:cur.toList.length = cap:=by simpa using hs
  refine arr_set (i:=i) sz_u32 rfl rfl hh (by omega) (fun w' hgr hh'=>k w' hgr ⟨by simp,.inr ⟨g,cap,(cur.toList.set i (w32 x)).toArray,by rw [List.length_set],hb,hh',by rw [List.length_set]; exact hn,hm,by simp; omega,?_⟩⟩)
  rw [List.length_set]
  rw [Nat.mul_one] at ht ⊢
  simp only [List.take_set,ht]
  unfold ws
  rw [List.map_set]
def RdJ (w0:World) (b:List UInt8) (s:St) (l:List Value) (w':World):Prop:=∃ (v1 v2 v3 v4 v5 v:Value) (i:Nat),l = [v1,v2,v3,v4,v5,v,.int .i64 (i:Int)] ∧ i ≤ 64 ∧ OwnW w' w0.heap.size v (rounds b s i).list ∧ Below w0.heap.size w0 w'
def rdMu (l:List Value) (_:World):Nat:=match l with | [_,_,_,_,_,_,.int _ i]=>64 - i.toNat | _=>0
theorem rdMu_eq (a b c d e f:Value) (q:IntKind) (i:Int) (w:World):rdMu [a,b,c,d,e,f,.int q i] w = 64 - i.toNat:=rfl
theorem words_ok' (b:List UInt8) {B o c:Nat} (hl:b.length = 64) (hb:ByR w B o b) (k:∀ sl v W,sl = sched b 64 → Below w.heap.size w W → WrdR W v sl → K v W):callM Tryz.prog 217 #[.slice (some ⟨B,o,none⟩) 64 c] K w:=
 words_ok b hl hb fun v W h1 h2=>k _ v W rfl h1 h2
theorem not32 {P:Program} (t T:TypeId) (x:W):oM P (.unOp .xor t (.tmp 0)) T [w32 x] = pureM (w32 (~~~ x)):=by
 funext K w
 have e:bits .xor .u32 4294967295 (x.toNat:Int) = ((~~~ x).toNat:Int):=by
  have:=bits32_xor (BitVec.allOnes 32) x
  rw [BitVec.allOnes_xor] at this
  exact this
 unfold w32
 rw [← e]
 simp [oM,opM,xop,execOp,evalL,evE,Op.unary,go_sem]
 exact Iff.rfl
theorem block_ok (s:St) (b:List UInt8) {hv:Value} {B o c:Nat} (hl:b.length = 64) (hb:ByR w B o b) (hs:WrdR w hv s.list) (k:∀ v W,Below w.heap.size w W → OwnW W w.heap.size v (mix s b).list → K v W):callM Tryz.prog 198 #[hv,.slice (some ⟨B,o,none⟩) 64 c] K w:=by
 apply sh_198_ok
 unfold sh_198
 refine words_ok' b hl hb fun sl v1 w1 hsl h1 hw1=>?_
 refine adds_ok fun v2 w2 h2 hw2=>?_
 refine mkW0 fun v3 w3 h3 ho3=>?_
 have hl64:sl.length = 64:=by rw [hsl]; exact sched_length b 64
 have hA:Nx w w2:=h1.on h2
 refine appendRow ho3 h3.size ((hs.next hA).next h3) (show 0 < 8 by decide) (by show 0 + 8 < _; omega) (fun v4 w4 ho5 h4=>?_)
 have ho4:OwnW w4 w2.heap.size v4 s.list:=ho5
 have hB4:Nx w2 w4:=h3.trans h4
 obtain ⟨bs,os,cs,rfl,hsr⟩:=(hw1.next h2).at (by omega)
 obtain ⟨bk,ok,ck,rfl,hkr⟩:=hw2.at (by rw [consts_length]; omega)
 obtain ⟨bh,oh,chh,rfl,hhr⟩:=(hs.next hA).at (show 0 < 8 by decide)
 refine ⟨RdJ w2 b s,rdMu,⟨_,_,_,_,_,_,0,rfl,by omega,ho4,hB4⟩,?_⟩
 clear hB4 ho4 ho5 h4 ho3 h3 w4 w3
 rintro _ _ w5 ⟨u1,u2,u3,u4,u5,v,i,rfl,hi,ho,hB⟩
 rw [consts_length,hl64] at *
 by_cases hi64:i < 64
 ·have e1:rounds b s (i + 1) = round (rounds b s i) (at' consts i) (at' sl i):=by rw [hsl]; rfl
  have kk:=fun w' (h:Nx w5 w')=>hkr w' (hB.on h) i hi64
  have ks:=fun w' (h:Nx w5 w')=>hsr w' (hB.on h) i hi64
  obtain ⟨q,hq⟩:∃ q,q = rounds b s i:=⟨_,rfl⟩
  rw [← hq] at e1 ho
  obtain ⟨bv,ov,cv,rfl,hvr⟩:=ho.read.at (show 0 < 8 by decide)
  have c0:∀ w',Nx w5 w' → w'.cell? ⟨bv,ov,none⟩ = some (w32 q.a):=fun w' h=>hvr w' h 0 (show 0 < 8 by decide)
  have c1:∀ w',Nx w5 w' → w'.cell? ⟨bv,ov + 1,none⟩ = some (w32 q.b):=fun w' h=>hvr w' h 1 (show 1 < 8 by decide)
  have c2:∀ w',Nx w5 w' → w'.cell? ⟨bv,ov + 2,none⟩ = some (w32 q.c):=fun w' h=>hvr w' h 2 (show 2 < 8 by decide)
  have c3:∀ w',Nx w5 w' → w'.cell? ⟨bv,ov + 3,none⟩ = some (w32 q.d):=fun w' h=>hvr w' h 3 (show 3 < 8 by decide)
  have c4:∀ w',Nx w5 w' → w'.cell? ⟨bv,ov + 4,none⟩ = some (w32 q.e):=fun w' h=>hvr w' h 4 (show 4 < 8 by decide)
  have c5:∀ w',Nx w5 w' → w'.cell? ⟨bv,ov + 5,none⟩ = some (w32 q.f):=fun w' h=>hvr w' h 5 (show 5 < 8 by decide)
  have c6:∀ w',Nx w5 w' → w'.cell? ⟨bv,ov + 6,none⟩ = some (w32 q.g):=fun w' h=>hvr w' h 6 (show 6 < 8 by decide)
  have c7:∀ w',Nx w5 w' → w'.cell? ⟨bv,ov + 7,none⟩ = some (w32 q.h):=fun w' h=>hvr w' h 7 (show 7 < 8 by decide)
  have l8:q.list.length = 8:=rfl
  rw [l8] at *
  refine Xa0 ?_
  refine ⟨Nx w5,.drawn,?_⟩
  repeat (any_goals (first
  | (with_reducible refine tuQ6 _ ?_) | (with_reducible refine tuQ11 _ ?_) | (with_reducible refine tuQ25 _ ?_) | (with_reducible refine tuQ2 _ ?_) | (with_reducible refine tuQ13 _ ?_) | (with_reducible refine tuQ22 _ ?_)
  | ((with_reducible refine idOQ ?_); (with_reducible refine oQ_of ⟨_,rfl⟩ (fun W0 hW0=>by (refine oM_gen (fun Kv hK=>?_)); simp [go_sem,c4 _ hW0,wxor]; (first | exact hK _ _ ⟨rfl,rfl⟩ | exact ⟨by omega,hK _ _ ⟨rfl,rfl⟩⟩)) ?_))))
  intro w6 h6
  refine ⟨Nx w5,h6.on .drawn,?_⟩
  clear h6 w6
  refine Xf (fun W0 hW0=>An3 (c4 _ hW0) (c5 _ hW0) (c6 _ hW0)) (An4 @wxor @wand @not32 @ch_eq) ?_
  intro w6 h6
  refine ⟨Nx w5,h6.on .drawn,?_⟩
  clear h6 w6
  refine Xf (fun W0 hW0=>An3 (c7 _ hW0) (kk _ hW0) (ks _ hW0)) @wadd ?_
  intro w6 h6
  refine ⟨Nx w5,h6.on .drawn,?_⟩
  clear h6 w6
  repeat (any_goals (first
  | (with_reducible refine tuQ6 _ ?_) | (with_reducible refine tuQ11 _ ?_) | (with_reducible refine tuQ25 _ ?_) | (with_reducible refine tuQ2 _ ?_) | (with_reducible refine tuQ13 _ ?_) | (with_reducible refine tuQ22 _ ?_)
  | ((with_reducible refine idOQ ?_); (with_reducible refine oQ_of ⟨_,rfl⟩ (fun W0 hW0=>by (refine oM_gen (fun Kv hK=>?_)); simp [go_sem,c0 _ hW0,wxor]; (first | exact hK _ _ ⟨rfl,rfl⟩ | exact ⟨by omega,hK _ _ ⟨rfl,rfl⟩⟩)) ?_))))
  intro w6 h6
  refine ⟨Nx w5,h6.on .drawn,?_⟩
  clear h6 w6
  refine Xf (fun W0 hW0=>An3 (c0 _ hW0) (c1 _ hW0) (c2 _ hW0)) (An3 @wxor @wand @maj_eq) ?_
  intro w6 h6
  refine ⟨Nx w5,h6.on .drawn,rfl,?_⟩
  clear h6 w6
  refine Xf (fun W0 hW0=>An7 (c0 _ hW0) (c1 _ hW0) (c2 _ hW0) (c3 _ hW0) (c4 _ hW0) (c5 _ hW0) (c6 _ hW0)) @wadd ?_
  refine ⟨Nx,fun w6 h6=>?_⟩
  refine row8 (round q (at' consts i) (at' sl i)) (fun v6 w7 h7 ho7=>?_)
  rw [← e1] at ho7
  have h67:=(hB.on h6)
  refine Xa0 ?_
  refine ⟨⟨_,_,_,_,_,_,i + 1,rfl,hi64,owns_base ho7 h67.size,h67.on h7⟩,?_⟩
  simp only [rdMu_eq]; omega
 ·obtain rfl:i = 64:=by omega
  have em:(mix s b).list = adL (rounds b s 64) s 8:=rfl
  rw [em] at k
  have ho:OwnW w5 w2.heap.size v (adL (rounds b s 64) s 0):=ho
  clear em
  generalize rounds b s 64 = q at *
  obtain ⟨g,cap,cur,rfl,hlt,hbg,_⟩:=owns_cells ho (show 0 < 8 by decide)
  refine Xa0 ?_
  refine ⟨fun l w'=>∃ j:Nat,l = [.int .i64 (j:Int)] ∧ j ≤ 8 ∧ OwnW w' w2.heap.size (.slice (some ⟨g,0,none⟩) 8 cap) (adL q s j) ∧ Nx w2 w',fun l _=>match l with | [.int _ j]=>8 - j.toNat | _=>0,⟨0,rfl,by omega,ho,hB⟩,?_⟩
  clear ho hB hlt
  rintro _ _ w6 ⟨j,rfl,hj,ho,hB⟩
  by_cases hj8:j < 8
  ·have h8:=adL_length q s j
   refine Xa0 ?_
   have hB:=hB.on (.drawn (B:=w6.heap.size))
   have ho:=ho.keep (.drawn (B:=w6.heap.size))
   refine ⟨Nx { w6 with drawn:=w6.drawn + 1 },Below.refl _ _,rfl,?_⟩
   generalize ({ w6 with drawn:=w6.drawn + 1 }:World) = w7 at ho hB ⊢
   obtain ⟨bv,ov,cv,hv,hvr⟩:=ho.read.at (by omega)
   rw [h8] at hv hvr
   cases hv
   have cv:=fun w' h=>hvr w' h j hj8
   have ch:=fun w' (h:Nx w7 w')=>hhr w' (hB.on h) j hj8
   rw [adL_at q s hj8] at cv
   simp only [Nat.zero_add] at cv
   have hs8:s.list.length = 8:=rfl
   refine Xf (fun W0 hW0=>An2 (cv _ hW0) (ch _ hW0)) (An3 @wadd @adL_length @hs8) ?_
   refine ⟨Nx,fun w8 h8'=>?_⟩
   obtain ⟨g2,c2,hv2,hb2,hset⟩:=setW (T:=0) (i:=j) (at' q.list j + at' s.list j) (ho.keep h8') (by rw [h8]; exact hj8)
   cases hv2
   refine hset _ (fun w9 hg9 ho9=>?_)
   rw [adL_set q s hj8] at ho9
   have hB9:=grown_below (hB.on h8') hg9 hb2
   refine Xa0 ?_
   refine ⟨⟨j + 1,rfl,hj8,ho9,hB9⟩,?_⟩
   show 8 - ((j:Int) + 1).toNat < 8 - (j:Int).toNat
   omega
  ·obtain rfl:j = 8:=by omega
   refine Xa0 ?_
   exact k _ _ (hA.trans (hB.mono hA.size)) (owns_base ho hA.size)
end
end Go.Proofs
namespace Go.Proofs
open Go Go.Sh Go.RowKit ShaSpec FdSpec TkSpec
section
variable {K:Value → World → Prop} {w w0:World}
theorem OwnB.keep {B:Nat} {v:Value} {l:List UInt8} {w':World} (h:OwnB w B v l) (hb:Below w.heap.size w w'):OwnB w' B v l:=
 owns_keep h (fun i hi=>hb.block i (owns_own h hi).1)
theorem OwnB.shape {B:Nat} {v:Value} {l:List UInt8} (h:OwnB w B v l):∃ ad c,v = .slice ad l.length c:=by
 rcases h.2 with ⟨rfl,h0⟩ | ⟨g,cap,cur,rfl,_⟩
 ·exact ⟨none,0,by rw [h0]⟩
 ·exact ⟨_,cap,rfl⟩
theorem mkB0 {T:TypeId} (k:∀ v W,Below w.heap.size w W → OwnB W w.heap.size v [] → K v W):oM Tryz.prog (.buildSlice 181 0 #[]) T [] K w:=by
 rw [oM_buildSlice0]
 have e:(Instr.buildSlice 181 0 #[]).run Tryz.prog w = .ok (.slice (some ⟨w.heap.size,0,none⟩) 0 0) (w.alloc (.cells #[] 5)):=by kernel_rfl
 rw [e]
 exact k _ _ ((Below.refl _ w).alloc (Nat.le_refl _) _) ⟨rfl,.inr ⟨w.heap.size,0,#[],rfl,Nat.le_refl _,heap_alloc_new w _,Nat.le_refl _,by decide,rfl,rfl⟩⟩
theorem appendBs {B:Nat} {T:TypeId} {v:Value} {l m:List UInt8} {g o n c:Nat} (ho:OwnB w B v l) (hB:B ≤ w.heap.size) (hn:n = m.length) (hx:∀ i,i < m.length → w.cell? ⟨g,o + i,none⟩ = some (.int .u8 ((m.getD i 0).toNat:Int))) (hl:l.length + m.length < 1099511627776)
  (k:∀ v' w',OwnB w' B v' (l ++ m) → Below B w w' → K v' w'):oM Tryz.prog (.call { callee:=.builtin .append,args:=#[.tmp 0,.tmp 1],argTypes:=#[181,181] }) T [v,.slice (some ⟨g,o,none⟩) n c] K w:=by
 subst hn
 refine append_at 181 T 5 ((Tryz.prog.info? 5).getD default) (.int .u8 0) 1 1 (by kernel_rfl) (by kernel_rfl) (by kernel_rfl) (by kernel_rfl) (by kernel_rfl) (by kernel_rfl) (by omega) (owns_base ho (Nat.zero_le _)) (Lib.byteCells m) (by simp [Lib.byteCells]) (by simp) ?_ ?_ (by simp only [maxLen]; omega) (by omega) ?_
 ·rintro a ha j u hj
  cases ha
  have hjl:j < m.length:=by have:=(List.getElem?_eq_some_iff.1 hj).1; simpa [Lib.byteCells] using this
  rw [add_none,hx j hjl,← hj]
  simp [Lib.byteCells,List.getD_eq_getElem?_getD,hjl]
 ·intro u hu
  simp only [Lib.byteCells,List.mem_map] at hu
  obtain ⟨x,_,rfl⟩:=hu
  rfl
 ·intro v' w' ho' hg hv
  have hbl:∀ i,v.ownBlock = some i → B ≤ i:=fun i hi=>(owns_own ho hi).2.1
  refine k v' w' ?_ ((Below.refl B w).grown hg hB hbl)
  have e2:Lib.byteCells (l ++ m) = Lib.byteCells l ++ Lib.byteCells m:=by simp [Lib.byteCells]
  show w'.ownsRow B 5 1 v' (l ++ m).length (Lib.byteCells (l ++ m))
  rw [List.length_append,e2]
  exact owns_up ho' (fun i hi=>(hv i hi).elim (hbl i) (fun h=>Nat.le_trans hB h))
theorem pushO {B:Nat} {T T':TypeId} {v:Value} {l:List UInt8} (x:UInt8) {n:Int} (hx:n = (x.toNat:Int)) (ho:OwnB w B v l) (hB:B ≤ w.heap.size) (hl:l.length + 1 < 1099511627776) (k:∀ v' w',OwnB w' B v' (l ++ [x]) → Below B w w' → K v' w') :
  oM Tryz.prog (.buildSlice 181 1 #[(0,.tmp 0)]) T [.int .u8 n] (fun u w=>oM Tryz.prog (.call { callee:=.builtin .append,args:=#[.tmp 0,.tmp 1],argTypes:=#[181,181] }) T' [v,u] K w) w:=by
 subst hx
 refine mkB1 x fun g W hb hc=>?_
 refine appendBs (m:=[x]) (ho.keep hb) (Nat.le_trans hB hb.size) rfl (fun i hi=>?_) hl (fun v' w' ho' hb'=>k v' w' ho' ((hb.mono hB).trans hb'))
 obtain rfl:i = 0:=by simp at hi; omega
 exact hc
def RzJ (w0:World) (s:List UInt8) (l:List Value) (w':World):Prop:=∃ v j,l = [v] ∧ j ≤ zeros s.length ∧ OwnB w' w0.heap.size v (s ++ [128] ++ List.replicate j 0) ∧ Below w0.heap.size w0 w'
def RlJ (w0:World) (s:List UInt8) (l:List Value) (w':World):Prop:=∃ (v:Value) (j:Nat),l = [v,.int .i64 (56 - 8 * (j:Int))] ∧ j ≤ 8 ∧ OwnB w' w0.heap.size v (s ++ [128] ++ List.replicate (zeros s.length) 0 ++ (lenBytes s.length).take j) ∧ Below w0.heap.size w0 w'
theorem padded_ok (s:List UInt8) (hs:s.length ≤ 1000000000) {v0:Value} (h0:BufM w 5 v0 s) (k:∀ v w',OwnB w' w.heap.size v (padded s) → Below w.heap.size w w' → K v w'):callM Tryz.prog 196 #[v0] K w:=by
 apply sh_196_ok
 unfold sh_196
 obtain ⟨g0,c0,rfl,hlt0⟩:=h0.shape
 have hby:=bufByR h0
 refine mkB0 fun v1 w1 h1 ho1=>?_
 refine appendBs (m:=s) ho1 h1.size rfl (fun i hi=>(hby.next h1).2 i hi) (by simp; omega) (fun v2 w2 ho2 h2=>?_)
 have h2:=h1.trans h2
 rw [List.nil_append] at ho2
 refine pushO 128 rfl ho2 h2.size (by omega) (fun v3 w3 ho3 h3=>?_)
 have h3:=h2.trans h3
 refine ⟨RzJ w s,zeMu (s.length + 1 + zeros s.length),⟨_,0,rfl,by omega,by simpa using ho3,h3⟩,?_⟩
 rintro _ _ w1 ⟨v1,j,rfl,hj,ho,hB⟩
 obtain ⟨ad1,c1,rfl⟩:=ho.shape
 have hz:zeros s.length < 64:=by unfold zeros; omega
 by_cases hjz:j < zeros s.length
 ·have hm:¬ ((s.length:Int) + 1 + (j:Int)).tmod 64 = 56:=by
   rw [Int.tmod_eq_emod_of_nonneg (by omega)]; unfold zeros at hjz; omega
  rw [sha_len] at *
  repeat (any_goals (first
  | ((with_reducible refine pushO 0 rfl ho hB.size (by rw [sha_len]; omega) ?_); intro v2 w2 ho2 h2)
  | (with_reducible refine yL ?_)
  | ((with_reducible refine oM_gen fun Kv hK=>?_); simp [go_sem,hm]; refine hK _ _ ?_; clear hK Kv)))
  have h2:=hB.trans h2
  have e:s ++ [(128:UInt8)] ++ List.replicate j 0 ++ [0] = s ++ [128] ++ List.replicate (j + 1) 0:=by
   simp [List.replicate_succ',List.append_assoc]
  rw [e] at ho2
  obtain ⟨ad2,c2,rfl⟩:=ho2.shape
  refine ⟨⟨_,j + 1,rfl,hjz,ho2,h2⟩,?_⟩
  rw [sha_len]
  simp only [zeMu_eq]; omega
 ·obtain rfl:j = zeros s.length:=by omega
  have hm:((s.length:Int) + 1 + (zeros s.length:Int)).tmod 64 = 56:=by
   rw [Int.tmod_eq_emod_of_nonneg (by omega)]; unfold zeros; omega
  rw [sha_len] at *
  have hq:IntKind.u64.wrap (s.length:Int) = (s.length:Int):=wrapU64 _ (by omega) (by omega)
  refine Xa (An2 @hm @hq) ?_
  refine ⟨RlJ w s,leMu,⟨_,0,rfl,by omega,by simpa using ho,hB⟩,?_⟩
  clear ho hB hm
  rintro _ _ w1 ⟨v1,j,rfl,hj,ho,hB⟩
  have hle:(s ++ [(128:UInt8)] ++ List.replicate (zeros s.length) 0 ++ (lenBytes s.length).take j).length = s.length + 1 + zeros s.length + j:=by
   rw [List.length_append,sha_len,List.length_take,lenBytes_length]; omega
  by_cases hj8:j < 8
  ·have hsh:=fun t t' T x=>oM_shr64 (P:=Tryz.prog) t t' T .i64 x (56 - 8 * (j:Int)) (by omega) (by omega)
   repeat (any_goals (first
   | ((with_reducible refine pushO ((lenBytes s.length).getD j 0) (lenByte _ _ hj8 (by omega)) ho hB.size (by omega) ?_); intro v2 w2 ho2 h2)
   | (with_reducible refine yN ?_)
   | ((with_reducible refine oM_gen fun Kv hK=>?_); simp [go_sem,hq,hsh]; (try simp (disch:=omega) only [wrapI64,wrapU8,wrapU64]); refine hK _ _ ?_; clear hK Kv)))
   refine ⟨⟨_,j + 1,by rw [show 56 - 8 * (j:Int) - 8 = 56 - 8 * ((j + 1:Nat):Int) by omega],hj8,?_,hB.trans h2⟩,?_⟩
   ·rw [take_next _ _ (by rw [lenBytes_length]; exact hj8),← List.append_assoc]
    exact ho2
   ·simp only [leMu_eq]; omega
  ·obtain rfl:j = 8:=by omega
   rw [List.take_of_length_le (by rw [lenBytes_length]; omega)] at ho
   refine Xa0 ?_
   exact k _ _ ho hB
end
end Go.Proofs
namespace Go.Proofs
open Go Go.Sh Go.RowKit ShaSpec FdSpec TkSpec
section
variable {K:Value → World → Prop} {w w0:World}
theorem slice64 {T:TypeId} {g n c t:Nat} {j:Int} (hj:j = ((64 * t + 64:Nat):Int)) (hn:64 * t + 64 ≤ c) (k:K (.slice (some ⟨g,64 * t,none⟩) 64 (c - 64 * t)) w) :
  oM Tryz.prog (.slice 181 (.tmp 0) (some (.tmp 1)) (some (.tmp 2)) none) T [.slice (some ⟨g,0,none⟩) n c,.int .i64 ((64 * t:Nat):Int),.int .i64 j] K w:=by
 subst hj
 have hs:∀ w,(sizeOf (Tryz.prog.elem 181)).run Tryz.prog w = .ok 1 w:=fun w=>by kernel_rfl
 rw [rM_of (S:=Instr.sliceAt 181 (.slice (some ⟨g,0,none⟩) n c) (some (.int .i64 ((64 * t:Nat):Int))) (some (.int .i64 ((64 * t + 64:Nat):Int))) none) rfl,
  run_sliceAt_slice w 181 _ _ _ _ (by kernel_rfl),run_slice_lh w 181 _ n c (by kernel_rfl) .i64 .i64 _ _ (by omega) (by omega) (by omega),hs]
 simp only [Result.andThen_ok,sliced,Int.toNat_natCast]
 rw [if_neg (by omega),show 64 * t + 64 - 64 * t = 64 by omega]
 simp only [Option.map_some,add_none,Nat.mul_one,Nat.zero_add,rM_ok]
 exact k
def RbJ (w0:World) (p:List UInt8) (m:Nat) (R:St) (l:List Value) (w':World):Prop:=
 ∃ (v:Value) (t:Nat) (st:St),l = [v,.int .i64 ((64 * t:Nat):Int)] ∧ t ≤ m ∧ WrdR w' v st.list ∧ Nx w0 w' ∧ blocks (m - t) st (p.drop (64 * t)) = R
def rbMu (n:Nat) (l:List Value) (_:World):Nat:=match l with | [_,.int _ i]=>n - i.toNat | _=>0
theorem rbMu_eq (n:Nat) (a:Value) (q:IntKind) (i:Int) (w:World):rbMu n [a,.int q i] w = n - i.toNat:=rfl
def shaL (st:St):List UInt8:=(st.list.map out1).flatten
theorem shaL_length (st:St):(shaL st).length = 32:=by simp [shaL,St.list,out1]
theorem shaL_at (st:St):∀ i,i < 32 → (shaL st).getD i 0 = lo8 (at' st.list (i / 4) >>> (24 - 8 * (i % 4))):=by
 intro i hi
 have e:shaL st = [out1 st.a,out1 st.b,out1 st.c,out1 st.d,out1 st.e,out1 st.f,out1 st.g,out1 st.h].flatten:=rfl
 rw [e]
 simp only [out1_eq]
 obtain ⟨q,r,rfl,hr⟩:∃ q r,i = 4 * q + r ∧ r < 4:=⟨i / 4,i % 4,by omega,by omega⟩
 rw [show (4 * q + r) / 4 = q by omega,show (4 * q + r) % 4 = r by omega]
 have hq:q < 8:=by omega
 rcases q with _ | _ | _ | _ | _ | _ | _ | _ | q
 all_goals first | omega | skip
 all_goals (rcases r with _ | _ | _ | _ | r <;> first | omega | rfl | (show lo8 _ = lo8 _; congr 1))
def RoJ (w0:World) (st:St) (l:List Value) (w':World):Prop:=∃ (v:Value) (i:Nat),l = [v,.int .i64 (i:Int)] ∧ i ≤ 32 ∧ OwnB w' w0.heap.size v ((shaL st).take i) ∧ Nx w0 w'
def roMu (l:List Value) (_:World):Nat:=match l with | [_,.int _ i]=>32 - i.toNat | _=>0
theorem roMu_eq (a:Value) (q:IntKind) (i:Int) (w:World):roMu [a,.int q i] w = 32 - i.toNat:=rfl
theorem rSha_ok (s:List UInt8) (hs:s.length ≤ 1000000000) (k:∀ w',Below w.heap.size w w' → K (.string ⟨(sha s).toArray⟩) w'):callM Tryz.prog 171 #[.string ⟨s.toArray⟩] K w:=by
 apply sh_171_ok
 unfold sh_171
 refine ofStr s fun v0 w1 h1=>?_
 have hN1:Nx w w1:=h1.below
 refine padded_ok s hs h1.row (fun v1 w2 ho2 h2=>?_)
 have hN2:Nx w w2:=hN1.on h2
 refine firsts_ok fun v2 w3 h3 ho3=>?_
 have hN3:Nx w w3:=hN2.on h3
 have ho1:=ho2.keep h3
 have hp64:=padded_length s
 obtain ⟨m,hm⟩:∃ m,(padded s).length = 64 * m:=⟨(padded s).length / 64,by omega⟩
 have hpl:(padded s).length = s.length + 1 + zeros s.length + 8:=by
  simp only [padded,List.length_append,List.length_replicate,lenBytes_length,List.length_singleton]
 have hpz:zeros s.length < 64:=by unfold zeros; omega
 obtain ⟨g,cap,cur,rfl,hlt,_,_,_,hcap,hc⟩:=owns_cells ho1 (by omega)
 have hby:ByR w3 g 0 (padded s):=⟨hlt,fun i hi=>by
  rw [Nat.zero_add]
  exact hc i _ (by simp [Lib.byteCells,List.getD_eq_getElem?_getD,hi])⟩
 have ef:sha s = shaL (blocks m first (padded s)):=by
  unfold sha shaL
  rw [hm,Nat.mul_div_cancel_left m (by omega)]
 refine ⟨RbJ w3 (padded s) m (blocks m first (padded s)),rbMu (64 * m),⟨_,0,first,rfl,by omega,ho3.read,Below.refl _ _,rfl⟩,?_⟩
 clear ho3 ho1 hc hlt ho2 h2 h1
 generalize blocks m first (padded s) = R at *
 rintro _ _ w4 ⟨hv,t,st,rfl,ht,hw,hN,hR⟩
 by_cases htm:t < m
 ·obtain ⟨r,hr⟩:∃ r,m - t = r + 1:=⟨m - t - 1,by omega⟩
  rw [hr] at hR
  have hlen:((padded s).length:Int) = 64 * (m:Int):=by omega
  have hlt64:(64 * t:Nat) < (64 * m:Nat):=by omega
  refine Xa @hlen ?_
  refine slice64 (t:=t) (by omega) (by omega) ?_
  have hpart:=(hby.next hN).part (64 * t) 64 (by omega)
  rw [Nat.zero_add] at hpart
  refine block_ok st _ (by rw [List.length_take,List.length_drop]; omega) hpart hw (fun v5 w5 h5 ho5=>?_)
  refine Xa0 ?_
  refine ⟨⟨v5,t + 1,_,by rw [show (64 * (t:Int) + 64) = ((64 * (t + 1):Nat):Int) by omega],by omega,ho5.read,hN.on h5,?_⟩,?_⟩
  ·rw [show m - (t + 1) = r by omega,← hR]
   show _ = blocks r (mix st ((List.drop (64 * t) (padded s)).take 64)) ((List.drop (64 * t) (padded s)).drop 64)
   rw [List.drop_drop,show 64 * t + 64 = 64 * (t + 1) by omega]
  ·simp only [rbMu_eq]; omega
 ·obtain rfl:t = m:=by omega
  rw [Nat.sub_self] at hR
  have hst:st = R:=hR
  subst hst
  have hlen:((padded s).length:Int) = 64 * (t:Int):=by omega
  repeat (any_goals (first
  | ((with_reducible refine mkB0 ?_); intro v5 w5 h5 ho5)
  | (with_reducible refine yM ?_)
  | ((with_reducible refine oM_gen fun Kv hK=>?_); simp [go_sem,hlen]; refine hK _ _ ?_; clear hK Kv)))
  obtain ⟨bh,oh,chh,rfl,hhr⟩:=hw.at (show 0 < 8 by decide)
  have hN5:Nx w4 w5:=h5
  refine ⟨RoJ w4 st,roMu,⟨_,0,rfl,by omega,ho5,hN5⟩,?_⟩
  clear ho5 h5 hN5
  rintro _ _ w6 ⟨v6,i,rfl,hi,ho6,hN6⟩
  by_cases hi32:i < 32
  ·have hl:=shaL_length st
   have e1:(i:Int).tdiv 4 = ((i / 4:Nat):Int):=by rw [Int.tdiv_eq_ediv_of_nonneg (by omega)]; omega
   have e2:(i:Int).tmod 4 = ((i % 4:Nat):Int):=by rw [Int.tmod_eq_emod_of_nonneg (by omega)]; omega
   have hs8:st.list.length = 8:=rfl
   have hcell:=hhr w6 hN6 (i / 4) (by rw [hs8]; omega)
   obtain ⟨q,hq⟩:∃ q,q = i / 4:=⟨_,rfl⟩
   obtain ⟨r,hr⟩:∃ r,r = i % 4:=⟨_,rfl⟩
   have hat:=shaL_at st i hi32
   rw [← hq] at e1 hcell hat
   rw [← hr] at e2 hat
   have hsh:∀ t t' T,oM Tryz.prog (.binOp .shr t (.tmp 0) (.tmp 1) t') T [w32 (at' st.list q),.int .i64 (24 - 8 * (r:Int))] = pureM (w32 (at' st.list q >>> (24 - 8 * r))):=fun t t' T=>by
    have:=wshr (P:=Tryz.prog) t t' T .i64 (at' st.list q) (24 - 8 * r) (by omega)
    rw [← this]
    congr 4
    omega
   repeat (any_goals (first
   | ((with_reducible refine pushO (lo8 (at' st.list q >>> (24 - 8 * r))) rfl ho6 hN6.size (by rw [List.length_take]; omega) ?_); intro v7 w7 ho7 h7)
   | (with_reducible refine yN ?_)
   | ((with_reducible refine oM_gen fun Kv hK=>?_); simp [go_sem,e1,e2,hcell,hs8,hsh,conv_w8]; (try simp (disch:=omega) only [wrapI64,wrapU8,wrapU64]); (first|refine hK _ _ ?_|refine And.intro (by omega) (hK _ _ ?_)); clear hK Kv)))
   rw [← hat,← take_next (shaL st) i (by omega)] at ho7
   refine ⟨⟨v7,i + 1,rfl,hi32,ho7,hN6.trans h7⟩,?_⟩
   simp only [roMu_eq]; omega
  ·obtain rfl:i = 32:=by omega
   rw [List.take_of_length_le (by rw [shaL_length]; omega)] at ho6
   repeat (any_goals (first
   | ((with_reducible refine toStrB ho6 (by rw [shaL_length]; omega) ?_))
   | (with_reducible refine yM ?_)
   | ((with_reducible refine oM_gen fun Kv hK=>?_); simp [go_sem]; refine hK _ _ ?_; clear hK Kv)))
   rw [← ef]
   exact k _ ((hN3.on hN).on hN6)
def RnJ (n R:Int) (d:List UInt8) (w0:World) (l:List Value) (w':World):Prop:=Below w0.heap.size w0 w' ∧ ∃ (o:Int) (i:Nat),l = [.int .i64 o,.int .i64 (i:Int)] ∧ i ≤ d.length ∧ (d.drop i).foldl (numStep n) o = R
theorem rNumber_ok (s:List UInt8) (n:Int) (hs:s.length ≤ 1000000000) (k:∀ w',Below w.heap.size w w' → K (.int .i64 (numberM s n)) w'):callM Tryz.prog 125 #[.string ⟨s.toArray⟩,.int .i64 n] K w:=by
 apply sh_125_ok
 unfold sh_125
 unfold numberM at k
 refine rValid_ok n ?_
 by_cases hn:okN n
 ·rw [if_pos hn] at k
  refine Xa0 ?_
  refine rSha_ok s hs (fun w1 h1=>?_)
  have hl:=ShaSpec.sha_length s
  generalize ShaSpec.sha s = d at *
  refine ⟨RnJ n (d.foldl (numStep n) 0) d w,rpdMu d.length,⟨h1,_,0,rfl,by omega,rfl⟩,?_⟩
  clear h1
  rintro _ _ w3 ⟨h3,o,i,rfl,hi,hf⟩
  have hds:(⟨d.toArray⟩:ByteArray).size = d.length:=rfl
  by_cases hin:i < d.length
  ·have hbt:byteAt ⟨d.toArray⟩ i = d[i]:=by
    unfold byteAt
    simp [hin]
   refine Xa @hds ?_
   refine ⟨Nx w3,.drawn,?_⟩
   refine callQ_of (fun W0 hW0=>rMul_ok n o 256 ⟨rfl,hW0⟩) ?_
   have hu:=(d[i]).toNat_lt
   have hw8:IntKind.i64.wrap ((d[i]).toNat:Int) = ((d[i]).toNat:Int):=wrapI64 _ (by omega) (by omega)
   refine Xg (An3 @hds @hbt @hw8) ?_
   refine callQ_of (fun W0 hW0=>rAdd_ok n _ _ ⟨rfl,hW0⟩) ?_
   intro w4 h4
   refine Xa0 ?_
   rw [List.drop_eq_getElem_cons hin,List.foldl_cons] at hf
   refine ⟨⟨h3.on h4,_,i + 1,rfl,by omega,hf⟩,?_⟩
   simp only [rpdMu_eq]; omega
  ·rw [List.drop_of_length_le (by omega),List.foldl_nil] at hf
   refine Xa @hds ?_
   rw [hf]
   exact k _ h3
 ·rw [if_neg hn] at k
  refine Xa0 ?_
  exact k _ (Below.refl _ _)
end
end Go.Proofs
namespace Go.Proofs.Cd
open Go Go.Sh Go.RowKit Go.Lib CodeSpec
theorem digits_ok (m:Nat) (hm:m ≤ 9223372036854775808) {K:Value → World → Prop} {w:World} (k:∀ w',Below w.heap.size w w' → K (.string ⟨(decDigits m).toArray⟩) w'):callM Tryz.prog 169 #[.int .i64 (-(m:Int))] K w:=by
 induction m using Nat.strongRecOn generalizing K w with
 | ind m ih=>
 apply sh_169_ok
 unfold sh_169
 have hr:(-(m:Int)).tmod 10 = -((m % 10:Nat):Int):=by rw [Int.neg_tmod,Int.tmod_eq_emod_of_nonneg (by omega)]; omega
 have hq:(-(m:Int)).tdiv 10 = -((m / 10:Nat):Int):=by rw [Int.neg_tdiv,Int.tdiv_eq_ediv_of_nonneg (by omega)]; omega
 obtain ⟨d,hd⟩:∃ d,d = m % 10:=⟨_,rfl⟩
 obtain ⟨q,hqq⟩:∃ q,q = m / 10:=⟨_,rfl⟩
 rw [← hd] at hr
 rw [← hqq] at hq
 have hd10:d < 10:=by omega
 have hconv:(convert 181 9 (.slice (some ⟨w.heap.size,0,none⟩) 1 1)).run Tryz.prog (w.alloc (.cells #[.int .u8 (48 + (d:Int))] 5)) = .ok (.string ⟨[UInt8.ofNat (48 + d)].toArray⟩) (w.alloc (.cells #[.int .u8 (48 + (d:Int))] 5)):=by
  refine run_convert_bytes_back (P:=Tryz.prog) _ 181 9 5 ⟨w.heap.size,0,none⟩ 1 [UInt8.ofNat (48 + d)] Tryz.underlying181 (by kernel_rfl) Tryz.underlying9 ?_
  intro j hj
  obtain rfl:j = 0:=by simpa using hj
  have hdn:=digit_toNat d hd10
  rw [addr_add]
  unfold World.cell?
  rw [heap_alloc_new]
  simp only [List.getElem_cons_zero,hdn]
  simp
 have hba:Below w.heap.size w (w.alloc (.cells #[.int .u8 (48 + (d:Int))] 5)):=(Below.refl _ _).alloc (Nat.le_refl _) _
 have hdl:=decDigits_len q 19 (by omega) (by omega)
 repeat (any_goals (first
 | (with_reducible ((refine idCond ?_); refine yP (fun hg=>?_) fun hg=>?_))
 | ((with_reducible refine oM_gen fun Kv hK=>?_); simp [go_sem,hr,hq,hconv]; (try simp (disch:=omega) only [wrapI64,wrapU8,wrapU64]); refine hK _ _ ?_; clear hK Kv)))
 ·refine K_eq (k _ hba) ?_
  have:m < 10:=by omega
  rw [decDigits,dif_pos this]
  have:d = m:=by omega
  rw [this]
  simp
 ·refine ih q (by omega) (by omega) ?_
  intro w' hb
  refine Xa0 ?_
  refine K_eq (k _ (hba.trans (hb.mono (by simp)))) ?_
  have:¬ m < 10:=by omega
  rw [decDigits.eq_def m,dif_neg this,hd,hqq]
  simp
theorem itoa_neg (n:Int) (h:n < 0):itoa n = 45 :: decDigits n.natAbs:=by rw [itoa,if_pos h]
theorem itoa_pos (n:Int) (h:¬ n < 0):itoa n = decDigits n.natAbs:=by
 rw [itoa,if_neg h]
 congr 1
 omega
theorem dig_len (n:Int) (h:InR n):(decDigits n.natAbs).length ≤ 19:=by
 obtain ⟨h1,h2⟩:=h
 exact decDigits_len n.natAbs 19 (by omega) (by omega)
theorem qInt_ok (n:Int) (hn:InR n) {K:Value → World → Prop} {w:World} (k:∀ w',Below w.heap.size w w' → K (.string ⟨(encInt n).toArray⟩) w'):callM Tryz.prog 170 #[.int .i64 n] K w:=by
 apply sh_170_ok
 unfold sh_170
 have hl:=dig_len n hn
 have hn':=hn
 obtain ⟨h1,h2⟩:=hn'
 by_cases hneg:n < 0
 ·have e:n = -(n.natAbs:Int):=by omega
  refine Xa0 ?_
  conv=>enter [3]; rw [e]
  refine digits_ok n.natAbs (by omega) ?_
  intro w' hb
  refine Xa0 ?_
  exact K_eq (k _ hb) (by rw [encInt,itoa_neg n hneg]; simp)
 ·have e:-n = -(n.natAbs:Int):=by omega
  refine Xa0 ?_
  rw [e]
  refine digits_ok n.natAbs (by omega) ?_
  intro w' hb
  refine Xa0 ?_
  exact K_eq (k _ hb) (by rw [encInt,itoa_pos n hneg])
theorem itoa_nat (m:Nat):itoa (m:Int) = decDigits m:=by
 rw [itoa,if_neg (by omega)]; simp
theorem qText_ok (s:List UInt8) (hs:s.length < 2^60) {K:Value → World → Prop} {w:World} (k:∀ w',Below w.heap.size w w' → K (.string ⟨(encText s).toArray⟩) w'):callM Tryz.prog 126 #[.string ⟨s.toArray⟩] K w:=by
 apply sh_126_ok
 unfold sh_126
 have hl:=decDigits_len s.length 19 (by omega) (by omega)
 refine Xa0 ?_
 refine digits_ok s.length (by omega) ?_
 intro w' hb
 refine Xa0 ?_
 exact K_eq (k _ hb) (by simp [encText,itoa_nat])
theorem qNums_ok (xs:List (Int)) (v:Value) {K:Value → World → Prop} {w:World} (hrow:RowOf intV w v xs) (hx:∀ x ∈ xs,InR x) (hlen:(encList (xs.map encInt)).length < 2^40)
  (k:∀ w',Below w.heap.size w w' → K (.string ⟨(encList (xs.map encInt)).toArray⟩) w'):callM Tryz.prog 124 #[v] K w:=by
 apply sh_124_ok
 unfold sh_124
 have hsz:(encList (xs.map encInt)).length = (itoa (xs.length:Nat)).length + 1 + ((xs.map encInt).flatten).length + 1:=by simp [encList]; omega
 have hxl:xs.length ≤ (xs.map encInt).flatten.length:=by
  rw [List.length_flatten]
  clear hrow hlen hsz k
  induction xs with
  | nil=>simp
  | cons x xs ih=>
   have:=ih (fun y hy=>hx y (List.mem_cons_of_mem _ hy))
   have h1:1 ≤ (encInt x).length:=by simp [encInt]; try omega
   simp only [List.length_cons,List.map_cons,List.sum_cons]
   omega
 have hdl:=decDigits_len xs.length 19 (by omega) (by omega)
 obtain ⟨ad,c,rfl,hcell⟩:=hrow
 refine Xa0 ?_
 refine digits_ok xs.length (by omega) ?_
 intro w1 hb1
 refine Xa0 ?_
 refine ⟨fun l w'=>∃ (k:Nat),l = [.string ⟨(itoa (xs.length:Nat) ++ 91 :: ((xs.take k).map encInt).flatten).toArray⟩,.int .i64 k] ∧ k ≤ xs.length ∧ Below w.heap.size w w',fun l _=>xs.length - (match l with | [_,.int _ n]=>n.toNat | _=>0),⟨0,by simp [itoa_nat],by omega,hb1⟩,?_⟩
 rintro _ _ w3 ⟨j,rfl,hj,hb3⟩
 have hz3:=hb3.size
 simp only [List.getD_cons_zero,List.getD_cons_succ]
 have hfl:=flat_le encInt xs j
 by_cases hlt:j < xs.length
 ·rcases hcell with rfl | ⟨b,o,rfl,hbw,hcells⟩
  ·simp at hlt
  have hc:=hcells j hlt
  rw [← hb3.cell hbw] at hc
  simp only [intV] at hc
  have hix:=idx22 (b:=b) (o:=o) (c:=c) hlt w3
  have hP:=hx xs[j] (List.getElem_mem hlt)
  have hfl1:=flat_le encInt xs (j + 1)
  rw [flat_snoc _ _ _ hlt,List.length_append] at hfl1
  have hgoal:∀ w4,Below w3.heap.size w3 w4 → ∃ k:Nat,([Value.string ⟨((itoa (xs.length:Nat) ++ 91 :: ((xs.take j).map encInt).flatten) ++ encInt xs[j]).toArray⟩,Value.int .i64 ((j:Int) + 1)] = [.string ⟨(itoa (xs.length:Nat) ++ 91 :: ((xs.take k).map encInt).flatten).toArray⟩,.int .i64 (k:Int)]) ∧ k ≤ xs.length ∧ Below w.heap.size w w4:=
   fun w4 hb4=>⟨j + 1,by rw [flat_snoc _ _ _ hlt]; simp,hlt,hb3.trans (hb4.mono hz3)⟩
  obtain ⟨F,hF⟩:∃ F,F = itoa (xs.length:Nat) ++ 91 :: ((xs.take j).map encInt).flatten:=⟨_,rfl⟩
  have hFl:F.length ≤ 2^41:=by rw [hF,List.length_append,List.length_cons]; omega
  obtain ⟨E,hE⟩:∃ E,E = encInt xs[j]:=⟨_,rfl⟩
  rw [← hF,← hE] at hgoal
  rw [← hE] at hfl1
  rw [← hF]
  repeat (any_goals (first
  | (rw [oM_indexAddr,hix,rM_ok])
  | (with_reducible refine yN ?_)
  | ((with_reducible refine oM_gen fun Kv hK=>?_); simp [go_sem,hc]; refine hK _ _ ?_; clear hK Kv)))
  refine qInt_ok _ hP ?_
  intro w4 hb4
  rw [← hE]
  refine Xa0 ?_
  exact ⟨hgoal w4 hb4,by simp; omega⟩
 ·obtain rfl:j = xs.length:=by omega
  rw [List.take_length] at hfl ⊢
  have hfin:∀ F,F = itoa (xs.length:Nat) ++ 91 :: ((xs.map encInt).flatten) → encList (xs.map encInt) = F ++ [93] ∧ F.length < 2^41:=by
   rintro F rfl
   refine ⟨by simp [encList],?_⟩
   rw [List.length_append,List.length_cons]; omega
  generalize itoa (xs.length:Nat) ++ 91 :: ((xs.map encInt).flatten) = F at *
  obtain ⟨hf1,hf2⟩:=hfin F rfl
  refine Xa0 ?_
  exact K_eq (k _ hb3) (by rw [hf1])
end Go.Proofs.Cd
namespace Go.Proofs
open Go Go.Sh Go.RowKit FdSpec TkSpec CodeSpec
section
variable {K:Value → World → Prop} {w w0:World} {L:List (Addr × Value)}
theorem in_ok (n lo hi:Int) (h:K (.bool (decide (lo ≤ n) && decide (n ≤ hi))) w):callM Tryz.prog 99 #[.int .i64 n,.int .i64 lo,.int .i64 hi] K w:=by
 apply sh_99_ok
 unfold sh_99
 by_cases h1:lo ≤ n
 ·refine Xa @h1 ?_
  simpa [h1] using h
 ·refine Xa @h1 ?_
  simpa [h1] using h
theorem qpower_ok (s:Stp) (x n:Int) {dv:Value} (hs:SetR w s dv) (k:∀ w',Below w.heap.size w w' → K (.int .i64 (powerG s.g x n)) w'):callM Tryz.prog 119 #[stpV s dv,.int .i64 x,.int .i64 n] K w:=by
 apply sh_119_ok
 unfold sh_119
 obtain ⟨ad,c,rfl⟩:=hs.ints.isSlice
 refine box_kn (cs:=stpC s (.slice ad s.bases.length c)) rfl (.start w) fun b W hk hb1 hb=>?_
 refine Xa hk.cells ?_
 refine rPower_ok s.g x n (fun w2 h2=>?_)
 exact k _ (hk.next h2).below
theorem qtimes_ok (s:Stp) (x y:Int) {dv:Value} (hs:SetR w s dv) (k:∀ w',Below w.heap.size w w' → K (.int .i64 (timesM s x [y])) w'):callM Tryz.prog 120 #[stpV s dv,.int .i64 x,.int .i64 y] K w:=by
 apply sh_120_ok
 unfold sh_120
 obtain ⟨ad,c,rfl⟩:=hs.ints.isSlice
 refine box_kn (cs:=stpC s (.slice ad s.bases.length c)) rfl (.start w) fun b W hk hb1 hb=>?_
 refine Xa hk.cells ?_
 refine rTimes_ok s.g x y (fun w2 h2=>?_)
 exact k _ (hk.next h2).below
theorem qmul_ok (s:Stp) (x y:Int) {dv:Value} (hs:SetR w s dv) (k:∀ w',Below w.heap.size w w' → K (.int .i64 (mulQ s x [y])) w'):callM Tryz.prog 102 #[stpV s dv,.int .i64 x,.int .i64 y] K w:=by
 apply sh_102_ok
 unfold sh_102
 obtain ⟨ad,c,rfl⟩:=hs.ints.isSlice
 refine box_kn (cs:=stpC s (.slice ad s.bases.length c)) rfl (.start w) fun b W hk hb1 hb=>?_
 refine Xa hk.cells ?_
 refine rMul_ok s.g.Q x y ?_
 exact k _ hk.below
theorem invM_powM (n y:Int):(invM n y).getD 0 = powM n y (-1):=by
 unfold powM
 by_cases hn:okN n
 ·rw [if_pos hn,if_neg (by decide)]
  cases hi:invM n y with
  | none=>rfl
  | some x=>
   have hx:0 ≤ x ∧ x < n:=by
    unfold invM at hi
    rw [if_pos hn] at hi
    split at hi
    ·cases hi
     exact ⟨Int.emod_nonneg _ (by have:=hn.1; omega),Int.emod_lt_of_pos _ (by have:=hn.1; omega)⟩
    ·cases hi
   show x = pw n x 1
   unfold pw
   have:x ^ 1 = x:=by rw [show (1:Nat) = 0 + 1 from rfl,Int.pow_succ,Int.pow_zero,Int.one_mul]
   rw [this,Int.emod_eq_of_lt hx.1 hx.2]
 ·unfold invM
  rw [if_neg hn,if_neg hn]; rfl
theorem qover_ok (s:Stp) (x y:Int) {dv:Value} (hs:SetR w s dv) (k:∀ w',Below w.heap.size w w' → K (.int .i64 (overQ s x y)) w'):callM Tryz.prog 101 #[stpV s dv,.int .i64 x,.int .i64 y] K w:=by
 apply sh_101_ok
 unfold sh_101
 obtain ⟨ad,c,rfl⟩:=hs.ints.isSlice
 refine box_kn (cs:=stpC s (.slice ad s.bases.length c)) rfl (.start w) fun b W hk hb1 hb=>?_
 unfold overQ at k
 rw [← invM_powM] at k
 refine Xa hk.cells ?_
 refine rInv_ok s.g.Q y ?_
 refine Xa hk.cells ?_
 refine qmul_ok s x _ (hs.next hk.below) (fun w2 h2=>?_)
 exact k _ (hk.next h2).below
theorem qproduct_ok (s:Stp) {dv ev:Value} {es:List Int} (hs:SetR w s dv) (he:Ints w ev es) (k:∀ w',Below w.heap.size w w' → K (.int .i64 (prodG s.g s.bases es).1) w'):callM Tryz.prog 122 #[stpV s dv,ev] K w:=by
 apply sh_122_ok
 unfold sh_122
 have hi:=hs.ints
 obtain ⟨ad,c,rfl⟩:=hs.ints.isSlice
 refine box_kn (cs:=stpC s (.slice ad s.bases.length c)) rfl (.start w) fun b W hk hb1 hb=>?_
 refine Xa hk.cells ?_
 refine rProduct_ok s.g (hi.next hk.below) (he.next hk.below) (fun w2 h2=>?_)
 refine Xa0 ?_
 exact k _ (hk.next h2).below
theorem mkI1 {T:TypeId} (x:Int) (k:∀ v W,Below w.heap.size w W → OwnI W w.heap.size v [x] → K v W):oM Tryz.prog (.buildSlice 22 1 #[(0,.tmp 0)]) T [.int .i64 x] K w:=by
 rw [oM_buildSlice1]
 have e:(Instr.buildSlice 22 1 #[(0,.int .i64 x)]).run Tryz.prog w = .ok (.slice (some ⟨w.heap.size,0,none⟩) 1 1) (w.alloc (.cells #[.int .i64 x] 3)):=by kernel_rfl
 rw [e]
 exact k _ _ ((Below.refl _ w).alloc (Nat.le_refl _) _) ⟨rfl,.inr ⟨w.heap.size,1,#[.int .i64 x],rfl,Nat.le_refl _,heap_alloc_new w _,Nat.le_refl _,by decide,rfl,rfl⟩⟩
theorem appendI {B:Nat} {T:TypeId} {v xv:Value} {l m:List Int} (ho:OwnI w B v l) (hB:B ≤ w.heap.size) (hx:Ints w xv m) (hl:l.length + m.length < 1099511627776)
  (k:∀ v' w',OwnI w' B v' (l ++ m) → Below B w w' → K v' w'):oM Tryz.prog (.call { callee:=.builtin .append,args:=#[.tmp 0,.tmp 1],argTypes:=#[22,22] }) T [v,xv] K w:=by
 obtain ⟨⟨ad,c,rfl,h0,hc⟩,hr,_⟩:=hx
 refine append_at 22 T 3 ((Tryz.prog.info? 3).getD default) (.int .i64 0) 1 8 (by kernel_rfl) (by kernel_rfl) (by kernel_rfl) (by kernel_rfl) (by kernel_rfl) (by kernel_rfl) (by omega) (owns_base ho (Nat.zero_le _)) (m.map (Value.int .i64)) (by simp) h0 ?_ ?_ (by simp only [maxLen]; omega) (by omega) ?_
 ·rintro a rfl j u hj
  rcases hc with rfl | ⟨b,o,hbo,hlt,hcell⟩
  ·simp at hj
  ·cases hbo
   rw [add_none]
   exact hcell j u (by rw [flat_int]; exact hj)
 ·intro u hu
  obtain ⟨x,_,rfl⟩:=List.mem_map.1 hu
  rfl
 ·intro v' w' ho' hg hv
  have hbl:∀ i,v.ownBlock = some i → B ≤ i:=fun i hi=>(owns_own ho hi).2.1
  refine k v' w' ?_ ((Below.refl B w).grown hg hB hbl)
  have e2:flat intC (l ++ m) = flat intC l ++ m.map (Value.int .i64):=by rw [flat_int,flat_int]; simp
  show w'.ownsRow B 3 1 v' (l ++ m).length (flat intC (l ++ m))
  rw [List.length_append,e2]
  exact owns_up ho' (fun i hi=>(hv i hi).elim (hbl i) (fun h=>Nat.le_trans hB h))
theorem Exps_ok {lv:Value} {l:List Int} (hl:Ints w lv l) (hll:l.length < 1000000) (k:∀ v w',Below w.heap.size w w' → Ints w' v (expsM l) → K v w'):callM Tryz.prog 105 #[lv] K w:=by
 apply sh_105_ok
 unfold sh_105
 refine mkI1 1 fun v W h1 ho=>?_
 refine appendI ho h1.size (hl.next h1) (by simp; omega) (fun v' w' ho' h2=>?_)
 exact k _ _ (h1.trans h2) (ho'.ints (by
  intro n hn
  rcases List.mem_cons.1 hn with rfl | hn
  ·exact ⟨by decide,by decide⟩
  ·exact hl.rng n hn) (by simp; omega))
def RsJ (s:Stp) (L:List (Addr × Value)) (R:Bool) (l:List Int) (w0:World) (vs:List Value) (w':World):Prop:=Kn w0 L w' ∧ ∃ (v:Value) (i:Nat),vs = [v,.int .i64 (i:Int)] ∧ i ≤ l.length ∧ numsM s 0 (l.drop i) = R
theorem numsM_cons (s:Stp) (m x:Int) (l:List Int):numsM s m (x :: l) = ((decide (m ≤ x) && decide (x < s.g.Q)) && numsM s m l):=rfl
theorem residues_ok (s:Stp) (n:Nat) {dv lv:Value} {l:List Int} (hQ:1 ≤ s.g.Q) (hs:SetR w s dv) (hl:Ints w lv l) (hn:n < 1000000) (k:∀ w',Below w.heap.size w w' → K (.bool (decide (l.length = n) && numsM s 0 l)) w'):callM Tryz.prog 121 #[stpV s dv,lv,.int .i64 (n:Int)] K w:=by
 apply sh_121_ok
 unfold sh_121
 obtain ⟨ad,c,rfl⟩:=hs.ints.isSlice
 refine box_kn (cs:=stpC s (.slice ad s.bases.length c)) rfl (.start w) fun b W hk hb1 hb=>?_
 obtain ⟨ad2,c2,rfl⟩:=hl.isSlice
 have hll:=hl.len
 have hQR:=hs.grp.2.1
 unfold I64 at hQR
 by_cases hln:l.length = n
 ·have hln':(l.length:Int) = (n:Int):=by omega
  rw [decide_eq_true hln,Bool.true_and] at k
  refine Xa @hln' ?_
  refine ⟨RsJ s _ (numsM s 0 l) l w,rpdMu l.length,⟨hk,_,0,rfl,by omega,rfl⟩,?_⟩
  generalize numsM s 0 l = R at *
  rintro _ _ w1 ⟨hk,u,i,rfl,hi,ha⟩
  by_cases hin:i = l.length
  ·rw [List.drop_of_length_le (by omega)] at ha
   refine Xa @hln' ?_
   rw [show R = true from ha.symm] at k
   exact k _ hk.below
  ·rw [List.drop_eq_getElem_cons (by omega),numsM_cons] at ha
   obtain ⟨b1,o1,rfl,hb1,ca,ra,_⟩:=hl.at (i:=i) (by omega)
   have hx:=ra
   generalize l[i] = x at *
   unfold I64 at hx
   have hin2:(decide ((0:Int) ≤ x) && decide (x ≤ s.g.Q - 1)) = (decide (0 ≤ x) && decide (x < s.g.Q)):=by
    congr 1
    exact decide_eq_decide.2 ⟨fun h=>by omega,fun h=>by omega⟩
   refine Xa @hln' ?_
   have qw:IntKind.i64.wrap (s.g.Q - 1) = s.g.Q - 1:=wrapI64 _ (by omega) (by omega)
   refine ⟨Kn w _,hk.drew,rfl,?_⟩
   clear hk
   repeat (any_goals (first
   | (with_reducible refine pureH_in ?_)
   | ((with_reducible refine idOH ?_); (with_reducible refine oH_of ⟨_,rfl⟩ (fun W0 hW0=>by (refine oM_gen (fun Kv hK=>?_)); simp [go_sem,ca _ hW0.below,hW0.cells,qw]; (first | exact hK _ _ ⟨rfl,rfl⟩ | exact ⟨by omega,hK _ _ ⟨rfl,rfl⟩⟩)) ?_))))
   refine ⟨Nx,fun w2 hk=>?_⟩
   refine in_ok x 0 _ ?_
   rw [hin2]
   cases hb:(decide ((0:Int) ≤ x) && decide (x < s.g.Q)) with
   | false=>
    rw [hb,Bool.false_and] at ha
    subst ha
    refine Xa0 ?_
    exact k _ hk.below
   | true=>
    rw [hb,Bool.true_and] at ha
    refine Xa0 ?_
    refine ⟨⟨hk,_,i + 1,rfl,by omega,ha⟩,?_⟩
    simp only [rpdMu_eq]; omega
 ·have hln':¬ (l.length:Int) = (n:Int):=by omega
  rw [decide_eq_false hln,Bool.false_and] at k
  refine Xa @hln' ?_
  exact k _ hk.below
theorem validS_Q {s:Stp} (h:validS s = true):5 ≤ s.g.Q ∧ validG s.g = true ∧ 2 ≤ s.bases.length ∧ s.bases.length ≤ 7:=by
 have hl:=validS_len h
 unfold validS at h
 simp only [Bool.and_eq_true,decide_eq_true_eq] at h
 have hg:=h.1.1.1.1
 exact ⟨(validG_facts hg).2.2.1,hg,hl⟩
theorem attributes_ok (s:Stp) {v lv:Value} {l:List Int} (hs:SetR w s v) (hl:Ints w lv l) (k:∀ w',Below w.heap.size w w' → K (.bool (markM s l).2) w'):callM Tryz.prog 151 #[stpV s v,lv] K w:=by
 apply sh_151_ok
 unfold sh_151
 obtain ⟨ad,c,rfl⟩:=hs.ints.isSlice
 refine box_kn (cs:=stpC s (.slice ad s.bases.length c)) rfl (.start w) fun b W hk hb1 hb=>?_
 have hll:=hl.len
 have hbl:=hs.ints.len
 have e0:(markM s l).2 = (validS s && decide (l.length + 1 = s.bases.length) && numsM s 0 l && !decide (l.headD 0 = 0)):=by
  unfold markM
  cases (validS s && decide (l.length + 1 = s.bases.length) && numsM s 0 l && !decide (l.headD 0 = 0)) <;> rfl
 have k2:∀ w' r,(validS s && decide (l.length + 1 = s.bases.length) && numsM s 0 l && !decide (l.headD 0 = 0)) = r → Below w.heap.size w w' → K (.bool r) w':=fun w' r e hb=>by rw [← e,← e0]; exact k w' hb
 clear k e0
 refine Xa hk.cells ?_
 refine rValidSetup_ok s (hs.next hk.below) (fun w1 h=>?_)
 have hk:=hk.next h
 clear h hb1
 cases hv:validS s with
 | false=>
  refine Xa0 ?_
  exact k2 _ _ (by rw [hv]; simp) hk.below
 | true=>
 have hq:=validS_Q hv
 refine Xa hk.cells ?_
 have en:(s.bases.length:Int) - 1 = ((s.bases.length - 1:Nat):Int):=by omega
 rw [en]
 refine residues_ok s _ (by omega) (hs.next hk.below) (hl.next hk.below) (by omega) (fun w2 h=>?_)
 have hk:=hk.next h
 clear h
 have ed:decide (l.length = s.bases.length - 1) = decide (l.length + 1 = s.bases.length):=decide_eq_decide.2 ⟨fun h=>by omega,fun h=>by omega⟩
 rw [ed]
 rw [hv,Bool.true_and] at k2
 cases hr:(decide (l.length + 1 = s.bases.length) && numsM s 0 l) with
 | false=>
  refine Xa0 ?_
  exact k2 _ _ (by rw [hr]; rfl) hk.below
 | true=>
 rw [hr,Bool.true_and] at k2
 simp only [Bool.and_eq_true,decide_eq_true_eq] at hr
 obtain ⟨ad2,c2,rfl⟩:=hl.isSlice
 obtain ⟨b1,o1,rfl,ca,ra⟩:=hl.headD (by omega)
 have hne:¬ l = []:=by intro h; rw [h] at hr; simp at hr; omega
 generalize l.headD 0 = h0 at *
 refine Xa (An3 hk.cells @hne (ca _ hk.below)) ?_
 exact k2 _ _ rfl hk.below
theorem qMark_ok (s:Stp) {v lv:Value} {l:List Int} (hs:SetR w s v) (hl:Ints w lv l) (k:∀ w',Below w.heap.size w w' → K (.int .i64 (markM s l).1) w'):callM Tryz.prog 147 #[stpV s v,lv] K w:=by
 apply sh_147_ok
 unfold sh_147
 obtain ⟨ad,c,rfl⟩:=hs.ints.isSlice
 refine box_kn (cs:=stpC s (.slice ad s.bases.length c)) rfl (.start w) fun b W hk hb1 hb=>?_
 refine Xa hk.cells ?_
 refine attributes_ok s (hs.next hk.below) (hl.next hk.below) (fun w1 h=>?_)
 have hk:=hk.next h
 clear h hb1
 unfold markM at k ⊢
 cases hc:(validS s && decide (l.length + 1 = s.bases.length) && numsM s 0 l && !decide (l.headD 0 = 0)) with
 | false=>
  rw [hc] at k
  refine Xa0 ?_
  exact k _ hk.below
 | true=>
 rw [hc] at k
 simp only [Bool.and_eq_true,decide_eq_true_eq] at hc
 have hq:=validS_Q hc.1.1.1
 refine Xa0 ?_
 have hk:=hk.drew
 refine ⟨Nx { w1 with drawn:=w1.drawn + 1 },Below.refl _ _,rfl,?_⟩
 generalize ({ w1 with drawn:=w1.drawn + 1 }:World) = W at hk ⊢
 refine Xc (fun W0 hW0=>(hk.next hW0).cells) ?_
 refine ⟨Nx,monoR (fun v w'=>Ints w' v (expsM l)) (fun v w w1 hS h=>h.next hS) ?_ ?_⟩
 ·intro w2 h2
  exact Exps_ok (hl.next (hk.next h2).below) (by omega) (fun v w3 h3 hi=>⟨h2.on h3,h3,hi⟩)
 intro w2 h2 v2 hi
 refine qproduct_ok s (hs.next (hk.next h2).below) hi (fun w3 h3=>?_)
 exact k _ ((hk.next h2).next h3).below
theorem qUsable_ok (s:Stp) {v lv:Value} {l:List Int} (hs:SetR w s v) (hl:Ints w lv l) (k:∀ w',Below w.heap.size w w' → K (.bool (usableM s l).2) w'):callM Tryz.prog 98 #[stpV s v,lv] K w:=by
 apply sh_98_ok
 unfold sh_98
 obtain ⟨ad,c,rfl⟩:=hs.ints.isSlice
 refine box_kn (cs:=stpC s (.slice ad s.bases.length c)) rfl (.start w) fun b W hk hb1 hb=>?_
 unfold usableM at k
 refine Xa hk.cells ?_
 refine attributes_ok s (hs.next hk.below) (hl.next hk.below) (fun w1 h=>?_)
 have hk:=hk.next h
 clear h hb1
 cases hm:(markM s l).2 with
 | false=>
  rw [hm] at k
  refine Xa0 ?_
  exact k _ hk.below
 | true=>
  rw [hm,Bool.true_and] at k
  refine Xa hk.cells ?_
  refine qMark_ok s (hs.next hk.below) (hl.next hk.below) (fun w2 h=>?_)
  have k:=k _ (hk.next h).below
  generalize (markM s l).1 = m at *
  refine Xa0 ?_
  exact k
theorem in_eq {s:Stp} (hQ:-9223372036854775808 < s.g.Q) (m x:Int):(decide (m ≤ x) && decide (x ≤ s.g.Q - 1)) = numsM s m [x]:=by
 show _ = ((decide (m ≤ x) && decide (x < s.g.Q)) && true)
 rw [Bool.and_true]
 congr 1
 exact decide_eq_decide.2 ⟨fun h=>by omega,fun h=>by omega⟩
theorem numsM_two (s:Stp) (m a b:Int):numsM s m [a,b] = (numsM s m [a] && numsM s m [b]):=by
 unfold numsM; simp
end
end Go.Proofs
namespace Go.Proofs
open Go Go.Sh Go.RowKit FdSpec TkSpec CodeSpec
end Go.Proofs
namespace Go.Proofs
open Go Go.Sh Go.RowKit FdSpec TkSpec CodeSpec
section
variable {K:Value → World → Prop} {w w0:World} {L:List (Addr × Value)}
theorem Equal_ok {v u:Value} {a b:List Int} (ha:Ints w v a) (hb:Ints w u b) (k:∀ w',Below w.heap.size w w' → K (.bool (decide (a = b))) w'):callM Tryz.prog 137 #[v,u] K w:=by
 apply sh_137_ok
 unfold sh_137
 obtain ⟨ad1,c1,rfl⟩:=ha.isSlice
 obtain ⟨ad2,c2,rfl⟩:=hb.isSlice
 have l1:=ha.len
 have l2:=hb.len
 by_cases hl:a.length = b.length
 ·refine Xa @hl ?_
  refine ⟨fun vs w'=>Below w.heap.size w w' ∧ ∃ (v v2:Value) (i:Nat),vs = [v,v2,.int .i64 (i:Int)] ∧ i ≤ a.length ∧ a.take i = b.take i,fun vs _=>match vs with | [_,_,.int _ i]=>b.length - i.toNat | _=>0,⟨Below.refl _ _,_,_,0,rfl,by omega,rfl⟩,?_⟩
  rintro _ _ w1 ⟨h1,u1,u2,i,rfl,hi,he⟩
  by_cases hin:i = b.length
  ·have e:a = b:=by
    rw [List.take_of_length_le (by omega),List.take_of_length_le (by omega)] at he
    exact he
   have k:=k _ h1
   rw [decide_eq_true e] at k
   refine Xa @hl ?_
   exact k
  ·obtain ⟨b1,o1,rfl,hb1,ca,ra,_⟩:=ha.at (i:=i) (by omega)
   obtain ⟨b2,o2,rfl,hb2,cb,rb,_⟩:=hb.at (i:=i) (by omega)
   refine Xa @hl ?_
   refine ⟨Below w.heap.size w,h1.trans .drawn,rfl,?_⟩
   by_cases hx:a[i] = b[i]
   ·refine Xf (fun W0 hW0=>An2 (ca _ hW0) (cb _ hW0)) (An2 @hl @hx) ?_
    refine ⟨Nx,fun w2 h2=>?_⟩
    refine Xa @hx ?_
    refine ⟨⟨h2,_,_,i + 1,rfl,by omega,?_⟩,by show b.length - (((i + 1:Nat):Int)).toNat < b.length - ((i:Nat):Int).toNat; omega⟩
    rw [List.take_succ_eq_append_getElem (by omega),List.take_succ_eq_append_getElem (by omega),he,hx]
   ·refine Xf (fun W0 hW0=>An2 (ca _ hW0) (cb _ hW0)) (An2 @hl @hx) ?_
    refine ⟨Nx,fun w2 h2=>?_⟩
    have k:=k _ h2
    rw [decide_eq_false (by rintro rfl; exact hx rfl)] at k
    refine Xa @hx ?_
    exact k
 ·have hl':¬ (a.length:Int) = b.length:=by omega
  have k:=k _ (Below.refl _ _)
  rw [decide_eq_false (by rintro rfl; exact hl rfl)] at k
  refine Xa @hl' ?_
  exact k
theorem Mirrors_ok (s:Stp) (m:Mir) {v mv:Value} (hs:SetR w s v) (hm:MirR w m mv) (k:∀ w',Below w.heap.size w w' → K (.bool (mirrorsM s m)) w'):callM Tryz.prog 73 #[stpV s v,mirV m mv] K w:=by
 apply sh_73_ok
 unfold sh_73
 obtain ⟨ad,c,rfl⟩:=hs.ints.isSlice
 have hms:=hm
 obtain ⟨mad,mc,rfl⟩:=hm.ints.isSlice
 refine box_kn (cs:=stpC s (.slice ad s.bases.length c)) rfl (.start w) fun b1 W hk hb1 hbb=>?_
 refine box_kn (cs:=mirC m (.slice mad m.bases.length mc)) rfl hk fun b2 W2 hk hb2 hbb=>?_
 clear hb1 hb2
 unfold mirrorsM at k
 refine Xa hk.cells ?_
 refine Make_ok s.g m hs.grp (hs.db.next hk.below) (hms.next hk.below) (fun w3 sv h3 hr _=>?_)
 have hk:=hk.next h3
 obtain ⟨sad,sc,rfl⟩:=hr.ints.isSlice
 generalize (makeM s.g m).1 = t at *
 generalize (makeM s.g m).2 = q at *
 refine Xb2_0 ?_
 refine local_stp t sad t.bases.length sc hk (fun b7 W7 hk hb7 hg7=>?_)
 cases q with
 | false=>
  rw [Bool.false_and,Bool.false_and] at k
  refine Xa0 ?_
  exact k _ hk.below
 | true=>
 rw [Bool.true_and] at k
 by_cases hbl:t.blind = s.blind
 ·rw [decide_eq_true hbl,Bool.true_and] at k
  refine Xa (An2 hk.cells @hbl) ?_
  refine Equal_ok (hr.ints.next hb7) (hs.ints.next hk.below) (fun w8 h8=>?_)
  have k:=k _ (hk.next h8).below
  generalize decide (t.bases = s.bases) = q at *
  refine Xa0 ?_
  exact k
 ·rw [decide_eq_false hbl,Bool.false_and] at k
  refine Xa (An2 hk.cells @hbl) ?_
  exact k _ hk.below
end
end Go.Proofs
namespace Go.Proofs
open Go Go.Sh Go.RowKit FdSpec TkSpec CodeSpec
section
variable {K:Value → World → Prop} {w w0:World} {L:List (Addr × Value)}
@[reducible] def sesV (x:Ses) (v:Value):Value:=.agg #[v,.int .i64 x.offer.z,.int .i64 x.offer.a,.int .i64 x.offer.b,.int .i64 x.c,.int .i64 x.r]
@[reducible] def sesC (x:Ses) (v:Value):List Value:=[v,.int .i64 x.offer.z,.int .i64 x.offer.a,.int .i64 x.offer.b,.int .i64 x.c,.int .i64 x.r]
structure SesR (w:World) (x:Ses) (v:Value):Prop where
 attrs:Ints w v x.attrs
 offer:OffR x.offer
 c:I64 x.c
 r:I64 x.r
theorem SesR.next {w1:World} {x:Ses} {v:Value} (h:SesR w x v) (hb:Below w.heap.size w w1):SesR w1 x v:=⟨h.attrs.next hb,h.offer,h.c,h.r⟩
theorem local_tktM {K:Value → World → Prop} {T' T2:TypeId} {g n:Nat} (t:Tkt) (hk:KnM w0 L g n w)
  (k:∀ b W,KnM w0 (cellsOf L b 0 (tktC t)) g n W → Below w.heap.size w W → w.heap.size ≤ b → K (.pointer (some ⟨b,0,none⟩)) W) :
  oM Tryz.prog (.alloc 41) T' [] (fun v w=>oM Tryz.prog (.store 41 (.tmp 0) (.tmp 1)) T2 [v,tktV t] (fun _ w=>K v w) w) w:=
 local_knm al_tkt rfl sz_tkt rfl rfl (tkt_one t) hk k
theorem obtained_ok (s:Stp) (key:Int) (x:Ses) (b:Bld) {v xv bv:Value} (hkey:I64 key) (hs:SetR w s v) (hx:SesR w x xv) (hb:BldR w b bv) (hL:Cd.Laid w)
  (k:∀ w',Below w.heap.size w w' → K (.tuple #[tktV (obtainedM s key x b).1,.bool (obtainedM s key x b).2]) w') :
  callM Tryz.prog 72 #[stpV s v,.int .i64 key,sesV x xv,bldV b bv] K w:=by
 apply sh_72_ok
 unfold sh_72
 obtain ⟨ad,cc,rfl⟩:=hs.ints.isSlice
 have ha:=hx.attrs
 obtain ⟨xad,xc,rfl⟩:=hx.attrs.isSlice
 have hb':=hb
 obtain ⟨yad,yc,rfl⟩:=hb.ys.isSlice
 have k2:∀ w' r,obtainedM s key x b = r → Below w.heap.size w w' → K (.tuple #[tktV r.1,.bool r.2]) w':=fun w' r e hb=>by rw [← e]; exact k w' hb
 clear k
 refine box_kn (cs:=stpC s (.slice ad s.bases.length cc)) rfl (.start w) fun b1 W hk hb1 hbb=>?_
 refine box_kn (cs:=sesC x (.slice xad x.attrs.length xc)) rfl hk fun b2 W2 hk hb2 hbb=>?_
 refine box_kn (cs:=bldC b (.slice yad b.ys.length yc)) rfl hk fun b3 W3 hk hb3 hbb=>?_
 refine alloc_mine (n:=6) al_tkt rfl hk fun g W hk hb4 hg=>?_
 clear hb1 hb2 hb3 hb4
 refine Xa hk.cells ?_
 refine Ask_ok s key x.offer b hkey hx.offer (hs.next hk.below) (ha.next hk.below) (hb'.next hk.below) (hL.below hk.below hL.size) (fun w4 h4=>?_)
 have hk:=hk.next h4
 clear h4
 have eo:obtainedM s key x b = if decide ((askM s key x.attrs x.offer b).2 = 0) && decide ((askM s key x.attrs x.offer b).1 = x.c) then
  ((finishM s key x.attrs x.offer b x.r).1,decide ((finishM s key x.attrs x.offer b x.r).2 = 0)) else (zT,false):=rfl
 generalize (askM s key x.attrs x.offer b).1 = c1 at *
 generalize (askM s key x.attrs x.offer b).2 = e1 at *
 by_cases he:e1 = 0
 rotate_left
 ·rw [decide_eq_false he,Bool.false_and,if_neg (by decide)] at eo
  refine Xa (An3 hk.cells @build_tkt0 @he) ?_
  exact store_tkt zT hk (fun W3 hk hc=>⟨_,by simp [go_sem,hc],k2 _ _ eo hk.below⟩)
 by_cases hc:c1 = x.c
 rotate_left
 ·rw [decide_eq_false hc,Bool.and_false,if_neg (by decide)] at eo
  refine Xa (An4 hk.cells @build_tkt0 @he @hc) ?_
  exact store_tkt zT hk (fun W3 hk hc=>⟨_,by simp [go_sem,hc],k2 _ _ eo hk.below⟩)
 rw [decide_eq_true he,decide_eq_true hc,Bool.true_and,if_pos rfl] at eo
 refine Xa (An3 hk.cells @he @hc) ?_
 refine Finish_ok s key x.r x.offer b hkey hx.r hx.offer (hs.next hk.below) (ha.next hk.below) (hb'.next hk.below) (hL.below hk.below hL.size) (fun w4 h4=>?_)
 have hk:=hk.next h4
 clear h4
 generalize (finishM s key x.attrs x.offer b x.r).1 = t at *
 generalize (finishM s key x.attrs x.offer b x.r).2 = e2 at *
 refine Xb2_0 ?_
 refine local_tktM t hk (fun g7 W7 hk hb7 hg7=>?_)
 by_cases he2:e2 = 0
 ·rw [decide_eq_true he2] at eo
  refine Xa (An2 hk.cells @he2) ?_
  exact store_tkt t hk (fun W3 hk hc=>⟨_,by simp [go_sem,hc],k2 _ _ eo hk.below⟩)
 ·rw [decide_eq_false he2] at eo
  refine Xa (An2 hk.cells @he2) ?_
  exact store_tkt t hk (fun W3 hk hc=>⟨_,by simp [go_sem,hc],k2 _ _ eo hk.below⟩)
end
end Go.Proofs
namespace Go.Proofs
open Go Go.Sh Go.RowKit FdSpec TkSpec CodeSpec
section
variable {K:Value → World → Prop} {w w0:World} {L:List (Addr × Value)}
def logF (s:Stp) (o:Int) (p:Int × Int):Int:=plusQ s o (mulQ s p.1 [p.2])
def LgJ (s:Stp) (ps:List (Int × Int)) (R:Int) (w0:World) (vs:List Value) (w':World):Prop:=Below w0.heap.size w0 w' ∧ ∃ (u1 u2:Value) (o:Int) (i:Nat),vs = [u1,u2,.int .i64 o,.int .i64 (i:Int)] ∧ i ≤ ps.length ∧ (ps.drop i).foldl (logF s) o = R
theorem log_ok (s:Stp) (m:Mir) {dv mv lv:Value} {l:List Int} (hs:SetR w s dv) (hm:MirR w m mv) (hl:Ints w lv l) (hne:0 < l.length) (hln:l.length < 1000) (hml:m.bases.length = l.length + 1)
  (k:∀ w',Below w.heap.size w w' → K (.int .i64 (logM s m l)) w'):callM Tryz.prog 75 #[stpV s dv,mirV m mv,lv] K w:=by
 apply sh_75_ok
 unfold sh_75
 obtain ⟨ad,c,rfl⟩:=hs.ints.isSlice
 have hms:=hm.ints
 obtain ⟨mad,mc,rfl⟩:=hm.ints.isSlice
 refine box_kn (cs:=stpC s (.slice ad s.bases.length c)) rfl (.start w) fun b1 W hk hb1 hbb=>?_
 refine box_kn (cs:=mirC m (.slice mad m.bases.length mc)) rfl hk fun b2 W2 hk hb2 hbb=>?_
 clear hb1 hb2
 have el:logM s m l = ((expsM l).zip m.bases).foldl (logF s) 0:=rfl
 rw [el] at k
 have hel:(expsM l).length = l.length + 1:=rfl
 refine exps_ok (hl.next hk.below) (by omega) (by omega) (fun ev w3 he h3 _=>?_)
 have hk:=hk.next h3
 clear h3
 obtain ⟨ead,ec,rfl⟩:=he.isSlice
 have hzl:((expsM l).zip m.bases).length = l.length + 1:=by rw [List.length_zip]; omega
 have hzd:=fun i h1 h2=>zip_drop (expsM l) m.bases i h1 h2
 refine Xa0 ?_
 refine ⟨LgJ s ((expsM l).zip m.bases) (((expsM l).zip m.bases).foldl (logF s) 0) w3,pdMu (expsM l).length,⟨Below.refl _ _,_,_,0,0,rfl,by omega,rfl⟩,?_⟩
 generalize ((expsM l).zip m.bases).foldl (logF s) 0 = R at *
 rintro _ _ w6 ⟨h6,u1,u2,o,i,rfl,hi,ha⟩
 have hk:=hk.next h6
 by_cases hin:i = (expsM l).length
 ·rw [List.drop_of_length_le (by omega)] at ha
  refine Xa0 ?_
  rw [show R = o from ha.symm] at k
  exact k _ hk.below
 ·rw [hzd i (by omega) (by omega)] at ha
  obtain ⟨b8,o8,rfl,hb8,ca,ra,_⟩:=he.at (i:=i) (by omega)
  obtain ⟨b9,o9,rfl,hb9,cb,rb,_⟩:=hms.at (i:=i) (by omega)
  generalize (expsM l)[i] = x at *
  generalize m.bases[i] = y at *
  refine Xa (ca _ h6) ?_
  have hk:=hk.drew
  have h6:=h6.on (.drawn (B:=w6.heap.size))
  refine ⟨Nx { w6 with drawn:=w6.drawn + 1 },Below.refl _ _,rfl,?_⟩
  generalize ({ w6 with drawn:=w6.drawn + 1 }:World) = W6 at hk h6 ⊢
  refine Xc (fun W0 hW0=>An2 ((hk.next hW0).cells) (cb _ (hk.next hW0).below)) ?_
  refine ⟨Nx,?_⟩
  refine monoR (fun v w'=>Ints w' v [y]) (fun v w w1 hS h=>h.next hS) ?_ ?_
  ·intro w1 h1
   exact mk1 _ rb (fun v w2 h2 hi=>⟨h1.on h2,h2,hi⟩)
  apply monoE
  ·rintro w1 h1 v1 hi1
   exact mul_ok s x (hs.next (hk.next h1).below) hi1 (fun w2 h2=>⟨h1.on h2,h2,rfl⟩)
  rintro w9 h9 v9 hi9 _ rfl
  refine plus_ok s o _ (hs.next (hk.next h9).below) (fun w10 h10=>?_)
  refine Xa0 ?_
  refine ⟨⟨(h6.on h9).on h10,_,_,_,i + 1,rfl,by omega,ha⟩,?_⟩
  simp only [pdMu_eq]; omega
end
end Go.Proofs
namespace Go.Proofs
open Go Go.Sh Go.RowKit FdSpec TkSpec CodeSpec
section
variable {K:Value → World → Prop} {w w0:World} {L:List (Addr × Value)}
theorem neq_tkt (T:TypeId) (a b:Tkt):oM Tryz.prog (.binOp .neq 41 (.tmp 0) (.tmp 1) 41) T [tktV a,tktV b] = pureM (.bool (!decide (a = b))):=by
 funext K w
 have h1:(eqGuard .neq 41 (.tmp 0) (.tmp 1) (tktV a) (tktV b)).run Tryz.prog w = .ok () w:=run_eqGuard_agg w _ _ _ _ _ _ (by kernel_rfl)
 have h2:(binOp .neq 41 (tktV a) (tktV b)).run Tryz.prog w = .ok (.bool (!decide (a = b))) w:=by
  rw [run_neq_struct,run_equalIn_agg w 9999 41 _ _ (by kernel_rfl) (by kernel_rfl)]
  have u3:=Tryz.underlying3
  have e:decide (a = b) = ((a.mark == b.mark) && (a.first == b.first) && (a.z == b.z) && (a.a == b.a) && (a.b == b.b) && (a.r == b.r)):=by
   obtain ⟨a1,a2,a3,a4,a5,a6⟩:=a
   obtain ⟨b1,b2,b3,b4,b5,b6⟩:=b
   simp [Tkt.mk.injEq,and_assoc,Bool.and_assoc]
   rfl
  rw [e]
  simp [go_sem,Program.fieldsOf,Tryz.underlying41,Op.eqFields,part,u3]
  repeat' split
  all_goals simp_all
 unfold oM opM
 simp [xop,execOp,evalL,evE,h1,h2]
 exact Iff.rfl
theorem local_spdM {K:Value → World → Prop} {T' T2:TypeId} {g n:Nat} (x:Spd) (ad:Option Addr) (m c:Nat) (hk:KnM w0 L g n w)
  (k:∀ b W,KnM w0 (cellsOf L b 0 (spdC x (.slice ad m c))) g n W → Below w.heap.size w W → w.heap.size ≤ b → K (.pointer (some ⟨b,0,none⟩)) W) :
  oM Tryz.prog (.alloc 49) T' [] (fun v w=>oM Tryz.prog (.store 49 (.tmp 0) (.tmp 1)) T2 [v,spdV x (.slice ad m c)] (fun _ w=>K v w) w) w:=
 local_knm al_spd rfl sz_spd rfl rfl (spd_one x ad m c) hk k
theorem build_bld2 (T:TypeId) (a b:Int):oM Tryz.prog (Go.Op.build 45 #[(0,(.tmp 0)),(1,(.tmp 1))]) T [.int .i64 a,.int .i64 b] = pureM (bldV ⟨a,b,0,[]⟩ (.slice none 0 0)):=by
 funext K w
 kernel_rfl
theorem store_bld {K:Value → World → Prop} {T':TypeId} {g:Nat} (s:Bld) (ad:Option Addr) (n c:Nat) (hk:KnM w0 L g 4 w)
  (k:∀ W,KnM w0 L g 4 W → cellsAre W (cellsOf [] g 0 (bldC s (.slice ad n c))) → w.grownBy W (some g) → K undef W):oM Tryz.prog (.store 45 (.tmp 0) (.tmp 1)) T' [.pointer (some ⟨g,0,none⟩),bldV s (.slice ad n c)] K w:=by
 obtain ⟨W,e,hg,hm,hc⟩:=store_run (P:=Tryz.prog) (W:=w) sz_bld (x:=bldV s (.slice ad n c)) rfl rfl (bld_one s ad n c) hk.mine
 rw [oM_store,e]
 exact k W ⟨hk.kn.wrote hg hk.base hk.off,hm,hk.base,hk.off⟩ hc hg
theorem logF_I64 (s:Stp) (ps:List (Int × Int)):∀ o,I64 o → I64 (ps.foldl (logF s) o):=by
 induction ps with
 | nil=>intro o h; exact h
 | cons p ps ih=>intro o h; exact ih _ (addM_I64 _ _ _)
theorem logM_I64 (s:Stp) (m:Mir) (l:List Int):I64 (logM s m l):=logF_I64 s _ 0 (by constructor <;> decide)
theorem use_len {s:Stp} {l:List Int} {b:Bld} {dare:Int} (h:(useM s l b dare).2 = true):(useM s l b dare).1.answers.length = s.bases.length ∧ (useM s l b dare).1.dare = dare ∧ l.length + 1 = s.bases.length:=by
 cases hu:(usableM s l).2 with
 | false=>rw [useM_no (.inl hu)] at h; cases h
 | true=>
 cases hb:blindsM s b with
 | false=>rw [useM_no (.inr (.inl hb))] at h; cases h
 | true=>
 cases hn:numsM s 1 [dare] with
 | false=>rw [useM_no (.inr (.inr hn))] at h; cases h
 | true=>
 rw [useM_yes hu hb hn]
 have:=usable_len hu
 have:=blinds_len hb
 refine ⟨?_,rfl,this ▸ by omega⟩
 show (ansL s l b dare).length = _
 unfold ansL
 rw [List.length_map,List.length_zip]
 show min (l.length + 1) _ = _
 omega
theorem mirrors_len {s:Stp} {m:Mir} (h:mirrorsM s m = true):m.bases.length = s.bases.length:=by
 unfold mirrorsM at h
 simp only [Bool.and_eq_true,decide_eq_true_eq] at h
 rw [← h.2]
 have h2:=h.1.1
 unfold makeM at h2 ⊢
 split at h2
 ·rename_i hc
  rw [if_pos hc]
  simp
 ·cases h2
theorem finish_R (s:Stp) (key:Int) (l:List Int) (o:Off) (b:Bld) (r:Int):TktR (finishM s key l o b r).1:=by
 have h0:TktR zT:=⟨by constructor <;> decide,by constructor <;> decide,by constructor <;> decide,by constructor <;> decide,by constructor <;> decide,by constructor <;> decide⟩
 unfold finishM
 split
 ·exact h0
 split
 ·exact h0
 split
 ·exact h0
 ·have h:=askTkt_R s l o b
  exact ⟨h.mark,h.first,h.z,h.a,h.b,addM_I64 _ _ _⟩
theorem obtained_R (s:Stp) (key:Int) (x:Ses) (b:Bld):TktR (obtainedM s key x b).1:=by
 unfold obtainedM
 split
 ·exact finish_R _ _ _ _ _ _
 ·exact ⟨by constructor <;> decide,by constructor <;> decide,by constructor <;> decide,by constructor <;> decide,by constructor <;> decide,by constructor <;> decide⟩
end
end Go.Proofs
namespace Go.Proofs
open Go Go.Sh Go.RowKit FdSpec TkSpec CodeSpec
section
variable {K:Value → World → Prop} {w w0:World} {L:List (Addr × Value)}
def GrJ3 (Wl:World) (g:Nat) (T:TypeId) (cs:Value → List Value) (al:List Int) (vs:List Value) (w':World):Prop:=∃ (u v ov:Value) (i:Nat),vs = [u,v,.int .i64 (i:Int)] ∧ i ≤ al.length ∧ GrI Wl w' g T (cs ov) ov (al.take i)
def exYs (s:Stp) (dare S:Int) (l xs:List Int):List Int:=((expsM l).zip xs).map fun p=>lessQ s p.2 (mulQ s dare [S,p.1])
theorem exYs_len {s:Stp} {dare S:Int} {l xs:List Int} (h:l.length + 1 = xs.length):(exYs s dare S l xs).length = xs.length:=by
 unfold exYs
 rw [List.length_map,List.length_zip]
 show min (l.length + 1) _ = _
 omega
theorem exYs_at {s:Stp} {dare S:Int} {l xs:List Int} (i:Nat) (h1:i < (expsM l).length) (h2:i < xs.length):(exYs s dare S l xs)[i]? = some (lessQ s xs[i] (mulQ s dare [S,(expsM l)[i]])):=by
 simp [exYs,h1,h2,List.getElem?_zip_eq_some]
 exact ⟨_,_,⟨rfl,rfl⟩,rfl⟩
theorem take_snoc' {al:List Int} {i:Nat} {x:Int} (h:al[i]? = some x):al.take i ++ [x] = al.take (i + 1):=by
 rw [List.take_add_one,h]; rfl
theorem exYs_rng {s:Stp} {dare S:Int} {l xs:List Int}:∀ n ∈ exYs s dare S l xs,I64 n:=by
 intro n hn
 obtain ⟨m,_,rfl⟩:=List.mem_map.1 hn
 exact subM_I64 _ _ _
set_option maxHeartbeats 1000000 in
theorem Explain_ok (s:Stp) (m:Mir) (key dare:Int) (x:Ses) (b:Bld) (y:Ses) {v mv xv bv yv:Value} (hkey:I64 key) (hd:I64 dare) (hs:SetR w s v) (hm:MirR w m mv) (hx:SesR w x xv) (hb:BldR w b bv) (hy:SesR w y yv) (hL:Cd.Laid w)
  (k:∀ w' ov,Below w.heap.size w w' → BldR w' (explainM s m key x b y dare).1 ov → K (.tuple #[bldV (explainM s m key x b y dare).1 ov,.bool (explainM s m key x b y dare).2]) w') :
  callM Tryz.prog 16 #[stpV s v,mirV m mv,.int .i64 key,sesV x xv,bldV b bv,sesV y yv,.int .i64 dare] K w:=by
 apply sh_16_ok
 unfold sh_16
 obtain ⟨ad,cc,rfl⟩:=hs.ints.isSlice
 have hm':=hm
 obtain ⟨mad,mc,rfl⟩:=hm.ints.isSlice
 have hx':=hx
 obtain ⟨xad,xc,rfl⟩:=hx.attrs.isSlice
 have hb':=hb
 obtain ⟨bad,bc,rfl⟩:=hb.ys.isSlice
 have hy':=hy
 obtain ⟨yad,yc,rfl⟩:=hy.attrs.isSlice
 have k2:∀ w' ov r,explainM s m key x b y dare = r → Below w.heap.size w w' → BldR w' r.1 ov → K (.tuple #[bldV r.1 ov,.bool r.2]) w':=fun w' ov r e hb hr=>by
  rw [← e] at hr ⊢
  exact k w' ov hb hr
 clear k
 refine box_kn (cs:=stpC s (.slice ad s.bases.length cc)) rfl (.start w) fun b1 W hk hb1 hbb=>?_
 refine box_kn (cs:=mirC m (.slice mad m.bases.length mc)) rfl hk fun b2 W2 hk hb2 hbb=>?_
 refine box_kn (cs:=sesC x (.slice xad x.attrs.length xc)) rfl hk fun b3 W3 hk hb3 hbb=>?_
 refine box_kn (cs:=bldC b (.slice bad b.ys.length bc)) rfl hk fun b4 W4 hk hb4 hbb=>?_
 refine box_kn (cs:=sesC y (.slice yad y.attrs.length yc)) rfl hk fun b5 W5 hk hb5 hbb=>?_
 refine alloc_mine (n:=4) al_bld rfl hk fun g W hk hb6 hg=>?_
 clear hb1 hb2 hb3 hb4 hb5 hb6
 have zB_R:∀ w',BldR w' zB (.slice none 0 0):=fun w'=>⟨by constructor <;> decide,by constructor <;> decide,by constructor <;> decide,Ints.nil _⟩
 have ebad:explFine s m key x b y dare = false → explainM s m key x b y dare = (zB,false):=fun h=>by unfold explainM; rw [h,if_neg (by decide)]
 have hbad:explainM s m key x b y dare = (zB,false) → ∀ L w2 (hk:KnM w L g 4 w2),
   oM Tryz.prog (Go.Op.store 45 (.tmp 0) (.tmp 1)) 0 [.pointer (some ⟨g,0,none⟩),bldV zB (.slice none 0 0)] (fun _ w=>
    ∃ r_29,(do loadVar 45 (← asAddr (.pointer (some ⟨g,0,none⟩))):Sem Value).run Tryz.prog w = .ok r_29 w ∧ K (.tuple #[r_29,(.bool false)]) w) w2:=fun e L w2 hk=>
  store_bld zB none 0 0 hk (fun W3 hk hc _=>⟨_,by simp [go_sem,hc],k2 _ _ _ e hk.below (zB_R _)⟩)
 refine Xa hk.cells ?_
 refine obtained_ok s key x b hkey (hs.next hk.below) (hx'.next hk.below) (hb'.next hk.below) (hL.below hk.below hL.size) (fun w7 h7=>?_)
 have hk:=hk.next h7
 clear h7
 have ht:=obtained_R s key x b
 have eF:explFine s m key x b y dare = ((obtainedM s key x b).2 && (useM s x.attrs b dare).2 && (usableM s y.attrs).2 && mirrorsM s m && numsM s 1 [y.c] && numsM s 0 [y.r]):=rfl
 have eE:explainM s m key x b y dare = if explFine s m key x b y dare then
   (if (obtainedM s key y (explB s m x b y dare (obtainedM s key x b).1 (useM s x.attrs b dare).1)).2 && decide ((obtainedM s key y (explB s m x b y dare (obtainedM s key x b).1 (useM s x.attrs b dare).1)).1 = (obtainedM s key x b).1) then (explB s m x b y dare (obtainedM s key x b).1 (useM s x.attrs b dare).1,true) else (zB,false)) else (zB,false):=rfl
 generalize (obtainedM s key x b).1 = t at *
 generalize (obtainedM s key x b).2 = one at *
 refine Xb2_0 ?_
 refine local_tktM t hk (fun g1 W8 hk hb8 hg1=>?_)
 clear hb8
 refine Xa hk.cells ?_
 refine Use_ok s b dare hd (hs.next hk.below) (hx'.attrs.next hk.below) (hb'.next hk.below) (fun w9 uv h9 hu=>?_)
 have hk:=hk.next h9
 clear h9
 have hul:=use_len (s:=s) (l:=x.attrs) (b:=b) (dare:=dare)
 generalize (useM s x.attrs b dare).1 = us at *
 generalize (useM s x.attrs b dare).2 = two at *
 obtain ⟨uad,uc,rfl⟩:=hu.isSlice
 refine Xb2_0 ?_
 refine local_spdM us uad us.answers.length uc hk (fun g2 W10 hk hb10 hg2=>?_)
 have hu:=hu.next hb10
 clear hb10
 refine Xa hk.cells ?_
 refine usable_ok s (hs.next hk.below) (hy'.attrs.next hk.below) (fun w11 h11=>?_)
 have hk:=hk.next h11
 have hu:=hu.next h11
 clear h11
 have hyl:=usable_len (s:=s) (l:=y.attrs)
 generalize (usableM s y.attrs).2 = three at *
 generalize (usableM s y.attrs).1 = mk at *
 refine Xb3_0 ?_
 refine local_desk s ad s.bases.length cc hk (fun g3 W12 hk hb12 hg3=>?_)
 have hu:=hu.next hb12
 clear hb12
 cases one with
 | false=>
  refine Xa hk.cells ?_
  exact hbad (ebad (by rw [eF]; simp)) _ _ hk
 | true=>
 cases two with
 | false=>
  refine Xa hk.cells ?_
  exact hbad (ebad (by rw [eF]; simp)) _ _ hk
 | true=>
 cases three with
 | false=>
  refine Xa hk.cells ?_
  exact hbad (ebad (by rw [eF]; simp)) _ _ hk
 | true=>
 refine Xa hk.cells ?_
 refine Mirrors_ok s m (hs.next hk.below) (hm'.next hk.below) (fun w13 h13=>?_)
 have hk:=hk.next h13
 have hu:=hu.next h13
 clear h13
 cases hmi:mirrorsM s m with
 | false=>
  refine Xa hk.cells ?_
  exact hbad (ebad (by rw [eF,hmi]; simp)) _ _ hk
 | true=>
 repeat (any_goals (first
 | ((with_reducible refine mk1 y.c hy'.c ?_); intro v8 W8 hb8 hi)
 | (with_reducible first|refine zC ?_|refine yC ?_)
 | ((with_reducible refine oM_gen fun Kv hK=>?_); simp [go_sem,hk.cells]; refine hK _ _ ?_; clear hK Kv)))
 have hk:=hk.next hb8
 have hu:=hu.next hb8
 clear hb8
 refine nums_ok s 1 (hs.next hk.below) hi (fun w14 h14=>?_)
 have hk:=hk.next h14
 have hu:=hu.next h14
 clear h14 hi
 cases hn1:numsM s 1 [y.c] with
 | false=>
  refine Xa hk.cells ?_
  exact hbad (ebad (by rw [eF,hn1]; simp)) _ _ hk
 | true=>
 repeat (any_goals (first
 | ((with_reducible refine mk1 y.r hy'.r ?_); intro v8 W8 hb8 hi)
 | (with_reducible first|refine zC ?_|refine yC ?_)
 | ((with_reducible refine oM_gen fun Kv hK=>?_); simp [go_sem,hk.cells]; refine hK _ _ ?_; clear hK Kv)))
 have hk:=hk.next hb8
 have hu:=hu.next hb8
 clear hb8
 refine nums_ok s 0 (hs.next hk.below) hi (fun w14 h14=>?_)
 have hk:=hk.next h14
 have hu:=hu.next h14
 clear h14 hi
 cases hn2:numsM s 0 [y.r] with
 | false=>
  refine Xa hk.cells ?_
  exact hbad (ebad (by rw [eF,hn2]; simp)) _ _ hk
 | true=>
 have eF:explFine s m key x b y dare = true:=by rw [eF,hmi,hn1,hn2]; rfl
 rw [eF,if_pos rfl] at eE
 clear ebad eF hn1 hn2
 obtain ⟨hul1,hul2,hul3⟩:=hul rfl
 obtain ⟨hyl,hv⟩:=hyl rfl
 have hml:=mirrors_len hmi
 have hv7:=validS_len hv
 clear hmi hv
 refine Xa hk.cells ?_
 have hk:=hk.drew
 have hu:=hu.next (.drawn (B:=w14.heap.size))
 refine ⟨Nx { w14 with drawn:=w14.drawn + 1 },Below.refl _ _,rfl,?_⟩
 generalize ({ w14 with drawn:=w14.drawn + 1 }:World) = W at hk hu ⊢
 refine Xc (fun W0 hW0=>(hk.next hW0).cells) ?_
 refine ⟨Nx,?_⟩
 apply monoE
 ·intro w1 h1
  exact log_ok s m (hs.next (hk.next h1).below) (hm'.next (hk.next h1).below) (hx'.attrs.next (hk.next h1).below) (by omega) (by omega) (by omega) (fun w2 h2=>⟨h1.on h2,h2,rfl⟩)
 refine monoR (fun v w'=>Ints w' v [logM s m x.attrs]) (fun v w w1 hS h=>h.next hS) ?_ ?_
 ·rintro w1 h1 _ rfl
  exact mk1 _ (logM_I64 _ _ _) (fun v w2 h2 hi=>⟨h1.on h2,h2,hi⟩)
 apply monoE
 ·rintro w1 h1 v1 hi1
  exact mul_ok s b.s (hs.next (hk.next h1).below) hi1 (fun w2 h2=>⟨h1.on h2,h2,rfl⟩)
 apply monoE
 ·intro w1 h1
  exact log_ok s m (hs.next (hk.next h1).below) (hm'.next (hk.next h1).below) (hy'.attrs.next (hk.next h1).below) (by omega) (by omega) (by omega) (fun w2 h2=>⟨h1.on h2,h2,rfl⟩)
 apply monoE
 ·rintro w1 h1 _ rfl _ rfl
  exact over_ok s _ _ (hs.next (hk.next h1).below) (fun w2 h2=>⟨h1.on h2,h2,rfl⟩)
 apply monoE
 ·intro w1 h1
  exact inner_ok s t ht (hs.next (hk.next h1).below) (hL.below (hk.next h1).below hL.size) (fun w2 h2=>⟨h1.on h2,h2,rfl⟩)
 apply monoE
 ·rintro w1 h1 _ rfl
  exact over_ok s _ _ (hs.next (hk.next h1).below) (fun w2 h2=>⟨h1.on h2,h2,rfl⟩)
 repeat (apply monoE; focus (intro w9 h9; (repeat (intro v9 e9; try (obtain rfl:=e9))); (repeat (any_goals ((with_reducible refine oM_gen fun Kv hK=>?_); simp [go_sem,build_bld2]; refine hK _ _ ?_; clear hK Kv))); exact ⟨h9,Below.refl _ _,rfl⟩))
 refine monoR (fun v w'=>∃ g2,v = ptr g2 0 ∧ W.heap.size ≤ g2 ∧ Holds w' g2 45 (bldC zB (.slice none 0 0))) (fun v w w1 hS h=>h.imp fun g2 h=>⟨h.1,h.2.1,h.2.2.next hS⟩) ?_ ?_
 ·intro w1 h1
  exact arr_alloc al_bld (fun g2 w2 h2 hg2 hh=>⟨h1.on h2,h2,g2,rfl,Nat.le_trans h1.size hg2,hh⟩)
 rintro w9 h9 _ rfl v2 - _ rfl _ rfl _ rfl _ rfl _ rfl _ rfl v9 ⟨g9,rfl,hg9,hh⟩
 have eS:overQ s (mulQ s b.s [logM s m x.attrs]) (logM s m y.attrs) = explS s m x b y:=rfl
 rw [eS]
 have hSI:I64 (explS s m x b y):=mulQ_I64 _ _ _ (by simp)
 have hUI:I64 (overQ s (innerQ s t) y.c):=mulQ_I64 _ _ _ (by simp)
 have eB:explB s m x b y dare t us = ⟨explS s m x b y,overQ s (innerQ s t) y.c,lessQ s t.r (mulQ s y.r [overQ s (innerQ s t) y.c]),exYs s dare (explS s m x b y) y.attrs us.answers⟩:=rfl
 rw [eB] at eE
 clear eB eS
 generalize explS s m x b y = S at *
 generalize overQ s (innerQ s t) y.c = U at *
 refine arr_store sz_bld (xs:=bldC ⟨S,U,0,[]⟩ (.slice none 0 0)) rfl rfl (bld_one ⟨S,U,0,[]⟩ none 0 0) hh rfl (fun w10 hg10 hh=>?_)
 have hgW:g < W.heap.size:=mine_lt hk.mine
 have hoffL:=cells_lt hk.cells
 have h10:=grown_below h9 hg10 hg9
 clear hg10 h9
 have h10:=h10.on (.drawn (B:=w10.heap.size))
 have hh:=hh.next (.drawn (B:=w10.heap.size))
 refine ⟨Nx { w10 with drawn:=w10.drawn + 1 },Below.refl _ _,rfl,?_⟩
 generalize ({ w10 with drawn:=w10.drawn + 1 }:World) = W10 at h10 hh ⊢
 refine Xc (fun W0 hW0=>An2 ((hk.next (h10.on hW0)).cells) ((hh.next hW0).are)) ?_
 refine ⟨Nx,?_⟩
 refine monoR (fun v w'=>Ints w' v [U]) (fun v w w1 hS h=>h.next hS) ?_ ?_
 ·intro w1 h1
  exact mk1 _ hUI (fun v w2 h2 hi=>⟨h1.on h2,h2,hi⟩)
 apply monoE
 ·rintro w1 h1 v1 hi1
  exact mul_ok s y.r (hs.next (hk.next (h10.on h1)).below) hi1 (fun w2 h2=>⟨h1.on h2,h2,rfl⟩)
 rintro w1 h1 v1 - _ rfl
 refine less_ok s _ _ (hs.next (hk.next (h10.on h1)).below) (fun w2 h2=>?_)
 have hh:=(hh.next h1).next h2
 have h10:=(h10.on h1).on h2
 clear h1 h2
 have hVI:I64 (lessQ s t.r (mulQ s y.r [U])):=subM_I64 _ _ _
 generalize lessQ s t.r (mulQ s y.r [U]) = V at *
 refine Xa0 ?_
 refine arr_set (i:=2) sz_int rfl rfl hh (show 2 < 4 by decide) (fun w10 hg10 hh=>?_)
 have hh:Holds w10 g9 45 (bldC ⟨S,U,V,[]⟩ (.slice none 0 0)):=hh
 have h10:=grown_below h10 hg10 hg9
 clear hg10
 have hkW:=hk
 have hk:=hk.next h10
 refine Xa hk.cells ?_
 have hgl:g9 < w10.heap.size:=hh.lt
 refine exps_ok (hy'.attrs.next hk.below) (by omega) (by omega) (fun ev w11 he h11 hff=>?_)
 have hh:=hh.next h11
 have h10:=h10.on h11
 have hk:=hk.next h11
 have hs11:=h11.size
 clear h11
 obtain ⟨ead,ec,rfl⟩:=he.isSlice
 have hing:∀ i,Value.inBlock (.slice ead (expsM y.attrs).length ec) = some i → i ≠ g9:=fun i hi=>by
  have:=hff i hi
  omega
 have hel:(expsM y.attrs).length = y.attrs.length + 1:=rfl
 have hal:=exYs_len (s:=s) (dare:=dare) (S:=S) (l:=y.attrs) (xs:=us.answers) (by omega)
 have hat:=exYs_at (s:=s) (dare:=dare) (S:=S) (l:=y.attrs) (xs:=us.answers)
 have hrng:=exYs_rng (s:=s) (dare:=dare) (S:=S) (l:=y.attrs) (xs:=us.answers)
 generalize exYs s dare S y.attrs us.answers = al at *
 refine Xa0 ?_
 have hne:g ≠ g9:=by omega
 have hoff:=fun p hp=>Nat.ne_of_lt (Nat.lt_of_lt_of_le (hoffL p hp) hg9)
 have hbase:w.heap.size ≤ g9:=Nat.le_trans hkW.base (by omega)
 refine ⟨GrJ3 w11 g9 45 (fun ov=>bldC ⟨S,U,V,[]⟩ ov) al,vsMu (expsM y.attrs).length,⟨_,_,.slice none 0 0,0,rfl,by omega,.start hh.lt hh⟩,?_⟩
 have hk0:=hk
 have hh0:=hh
 have h100:=h10
 rintro _ _ w6 ⟨u1,u2,ov,i,rfl,hi,hgr⟩
 have hk:=hk0.fr hgr.fr hoff hne hbase
 have hW6:Below W.heap.size W w6:=FrG.below h100 hgr.fr hg9
 by_cases hin:i = (expsM y.attrs).length
 ·have hgr':=hgr
  rw [List.take_of_length_le (by omega)] at hgr'
  have ho:=hgr'.own
  have hints:=ho.ints hrng (by omega)
  obtain ⟨g',oc,cur,rfl,hlt,hB,_,_,_,_⟩:=owns_cells ho (by omega)
  refine Xa (An2 hk.cells hgr.holds.are) ?_
  refine obtained_ok s key y ⟨S,U,V,al⟩ hkey (hs.next hk.below) (hy'.next hk.below) ⟨hSI,hUI,hVI,hints⟩ (hL.below hk.below hL.size) (fun w7 h7=>?_)
  have hk:=hk.next h7
  have hgr:=hgr'.next h7
  have hints:=hints.next h7
  clear h7
  generalize (obtainedM s key y ⟨S,U,V,al⟩).1 = t2 at *
  generalize (obtainedM s key y ⟨S,U,V,al⟩).2 = ok2 at *
  refine Xb2_0 ?_
  refine local_tktM t2 hk (fun g8 W8 hk hb8 hg8=>?_)
  have hgr:=hgr.next hb8
  have hints:=hints.next hb8
  clear hb8
  cases ok2 with
  | false=>
   rw [Bool.false_and,if_neg (by decide)] at eE
   refine Xa hk.cells ?_
   exact hbad eE _ _ hk
  | true=>
  rw [Bool.true_and] at eE
  by_cases htt:t2 = t
  ·rw [decide_eq_true htt,if_pos rfl] at eE
   have en:=fun T=>neq_tkt T t2 t
   simp only [htt,decide_true,Bool.not_true] at en
   subst htt
   refine Xa (An3 hk.cells @en hgr.holds.are) ?_
   refine store_bld ⟨S,U,V,al⟩ (some ⟨g',0,none⟩) al.length oc hk (fun W3 hk hc hg3=>⟨bldV ⟨S,U,V,al⟩ (.slice (some ⟨g',0,none⟩) al.length oc),by simp [go_sem,hc],k2 W3 (.slice (some ⟨g',0,none⟩) al.length oc) _ eE hk.below ⟨hSI,hUI,hVI,⟨hints.row.keep hg3.size (fun i hi hlt=>hg3.block i hlt ?_),hrng,by show al.length ≤ _; omega⟩⟩⟩)
   cases hi
   intro e
   have e2:g' = g:=Option.some.inj e
   omega
  ·rw [decide_eq_false htt,if_neg (by decide)] at eE
   have en:=fun T=>neq_tkt T t2 t
   simp only [decide_eq_false htt,Bool.not_false] at en
   refine Xa (An2 hk.cells @en) ?_
   exact hbad eE _ _ hk
 ·have hev:=Ints.fr he hgr.fr hing
  obtain ⟨b8,o8,rfl,hb8,ca,ra,_⟩:=hev.at (i:=i) (by omega)
  obtain ⟨b9,o9,rfl,hb9,cb,rb,_⟩:=hu.at (i:=i) (by omega)
  have hat:=hat i (by omega) (by omega)
  have htk:=take_snoc' hat
  generalize (expsM y.attrs)[i] = e at *
  generalize us.answers[i] = a at *
  refine Xa (ca _ (Below.refl _ _)) ?_
  have hk:=hk.drew
  have hgr:=hgr.next (.drawn (B:=w6.heap.size))
  have hW6:=hW6.on (.drawn (B:=w6.heap.size))
  refine ⟨Nx { w6 with drawn:=w6.drawn + 1 },Below.refl _ _,rfl,?_⟩
  generalize ({ w6 with drawn:=w6.drawn + 1 }:World) = W6 at hk hgr hW6 ⊢
  refine Xc (fun W0 hW0=>An3 ((hk.next hW0).cells) ((hgr.next hW0).holds.are) (cb _ (hW6.on hW0))) ?_
  refine ⟨Nx,?_⟩
  refine monoR (fun v w'=>Ints w' v [S,e]) (fun v w w1 hS h=>h.next hS) ?_ ?_
  ·intro w1 h1
   exact mk2 _ _ hSI ra (fun v w2 h2 hi=>⟨h1.on h2,h2,hi⟩)
  apply monoE
  ·rintro w1 h1 v1 hi1
   exact mul_ok s dare (hs.next (hk.next h1).below) hi1 (fun w2 h2=>⟨h1.on h2,h2,rfl⟩)
  apply monoE
  ·rintro w1 h1 _ rfl
   exact less_ok s a _ (hs.next (hk.next h1).below) (fun w2 h2=>⟨h1.on h2,h2,rfl⟩)
  refine monoR (fun v w'=>Ints w' v [lessQ s a (mulQ s dare [S,e])]) (fun v w w1 hS h=>h.next hS) ?_ ?_
  ·rintro w1 h1 _ rfl
   exact mk1 _ (subM_I64 _ _ _) (fun v w2 h2 hi=>⟨h1.on h2,h2,hi⟩)
  rintro w9 h9 v1 - _ rfl _ rfl v9 hi9
  refine gr_append (hgr.next h9) hi9 (by rw [List.length_take]; omega) (fun ad n c w11 hgr=>?_)
  refine Xa0 ?_
  refine gr_store (i:=3) hgr (show 3 < 4 by decide) (fun w12 hgr=>?_)
  refine Xa0 ?_
  rw [htk] at hgr
  refine ⟨⟨_,_,_,i + 1,rfl,by omega,hgr⟩,?_⟩
  simp only [vsMu_eq]; omega
end
end Go.Proofs
namespace Go.Proofs
open Go Go.Sh Go.RowKit FdSpec TkSpec CodeSpec
end Go.Proofs
namespace Go.Proofs
open Go Go.Sh Go.RowKit FdSpec TkSpec CodeSpec
end Go.Proofs
namespace Go.Proofs
open Go Go.Sh Go.RowKit FdSpec TkSpec CodeSpec
end Go.Proofs
namespace Go.Proofs
open Go Go.Sh Go.RowKit FdSpec TkSpec CodeSpec
end Go.Proofs
namespace Go.Proofs
open Go Go.Sh Go.RowKit FdSpec TkSpec CodeSpec
end Go.Proofs
namespace Go.Proofs
open Go Go.Sh Go.RowKit FdSpec TkSpec CodeSpec
end Go.Proofs
namespace TkSpec
open FdSpec
end TkSpec
namespace TkSpec
open FdSpec
end TkSpec
namespace TkSpec
open FdSpec
end TkSpec
namespace TkSpec
open FdSpec
end TkSpec
namespace TkSpec
open FdSpec
end TkSpec
namespace TkSpec
open FdSpec
namespace Cg
variable {n:Nat} {a b c d:Int}
end Cg
end TkSpec
namespace Go.Proofs
open Go Go.Sh Go.RowKit FdSpec TkSpec CodeSpec
end Go.Proofs
namespace Go.Proofs
open Go Go.Sh Go.RowKit FdSpec TkSpec CodeSpec
end Go.Proofs
namespace Go.Proofs
open Go Go.Sh Go.RowKit FdSpec TkSpec CodeSpec
end Go.Proofs
namespace TkSpec
open FdSpec
end TkSpec
namespace TkSpec
open FdSpec
end TkSpec
namespace Go.Proofs
open FdSpec TkSpec
end Go.Proofs
namespace Go.Proofs
open Go Go.Sh Go.RowKit FdSpec TkSpec CodeSpec
end Go.Proofs
namespace Go.Proofs
open Go Go.Sh Go.RowKit FdSpec TkSpec CodeSpec
section
variable {K:Value → World → Prop} {w w0:World} {L:List (Addr × Value)}
@[reducible] def lnkC (x:Lnk) (v:Value):List Value:=[.int .i64 x.ticket.mark,.int .i64 x.ticket.first,.int .i64 x.ticket.z,.int .i64 x.ticket.a,.int .i64 x.ticket.b,.int .i64 x.ticket.r,.int .i64 x.spend.dare,v,.string ⟨x.terms.toArray⟩]
@[reducible] def lnkV (x:Lnk) (v:Value):Value:=.agg #[.int .i64 x.ticket.mark,.int .i64 x.ticket.first,.int .i64 x.ticket.z,.int .i64 x.ticket.a,.int .i64 x.ticket.b,.int .i64 x.ticket.r,.int .i64 x.spend.dare,v,.string ⟨x.terms.toArray⟩]
def LnkAt (w:World) (b p:Nat) (x:Lnk) (v:Value):Prop:=
 w.cell? ⟨b,p,none⟩ = some (.int .i64 x.ticket.mark) ∧ w.cell? ⟨b,p + 1,none⟩ = some (.int .i64 x.ticket.first) ∧ w.cell? ⟨b,p + 2,none⟩ = some (.int .i64 x.ticket.z) ∧ w.cell? ⟨b,p + 3,none⟩ = some (.int .i64 x.ticket.a) ∧
 w.cell? ⟨b,p + 4,none⟩ = some (.int .i64 x.ticket.b) ∧ w.cell? ⟨b,p + 5,none⟩ = some (.int .i64 x.ticket.r) ∧ w.cell? ⟨b,p + 6,none⟩ = some (.int .i64 x.spend.dare) ∧ w.cell? ⟨b,p + 7,none⟩ = some v ∧ w.cell? ⟨b,p + 8,none⟩ = some (.string ⟨x.terms.toArray⟩)
theorem LnkAt.next {w':World} {b p:Nat} {x:Lnk} {v:Value} (h:LnkAt w b p x v) (hb:Below w.heap.size w w') (hlt:b < w.heap.size):LnkAt w' b p x v:=by
 have e:∀ k,w'.cell? ⟨b,k,none⟩ = w.cell? ⟨b,k,none⟩:=fun k=>by rw [hb.cell hlt]
 unfold LnkAt at h ⊢
 simp only [e]
 exact h
structure LnkRow (w:World) (v:Value) (l:List Lnk):Prop where
 row:∃ ad c,v = .slice ad l.length c ∧ (l = [] ∨ ∃ b o,ad = some ⟨b,o,none⟩ ∧ b < w.heap.size ∧ ∀ (i:Nat) (h:i < l.length),∃ av,SpdR w l[i].spend av ∧ LnkAt w b (o + i * 9) l[i] av)
 tk:∀ x ∈ l,TktR x.ticket
 tx:∀ x ∈ l,x.terms.length ≤ 9223372036854775807
 len:l.length ≤ 9223372036854775807
theorem LnkRow.next {w':World} {v:Value} {l:List Lnk} (h:LnkRow w v l) (hb:Below w.heap.size w w'):LnkRow w' v l:=by
 obtain ⟨⟨ad,c,rfl,h1⟩,h2,h3,h4⟩:=h
 refine ⟨⟨ad,c,rfl,h1.imp id ?_⟩,h2,h3,h4⟩
 rintro ⟨b,o,rfl,hlt,hc⟩
 refine ⟨b,o,rfl,Nat.lt_of_lt_of_le hlt hb.size,fun i hi=>?_⟩
 obtain ⟨av,h5,h6⟩:=hc i hi
 exact ⟨av,h5.next hb,h6.next hb hlt⟩
theorem LnkRow.isSlice {v:Value} {l:List Lnk} (h:LnkRow w v l):∃ ad c,v = .slice ad l.length c:=by
 obtain ⟨⟨ad,c,rfl,_⟩,_⟩:=h; exact ⟨ad,c,rfl⟩
theorem LnkRow.at {ad:Option Addr} {n c:Nat} {l:List Lnk} (h:LnkRow w (.slice ad n c) l) {i:Nat} (hi:i < l.length) :
  ∃ b o av,ad = some ⟨b,o,none⟩ ∧ (∀ w',Below w.heap.size w w' → LnkAt w' b (o + i * 9) l[i] av) ∧ SpdR w l[i].spend av ∧ TktR l[i].ticket ∧ l[i].terms.length ≤ 9223372036854775807:=by
 obtain ⟨⟨ad',c',hv,h1⟩,h2,h3,h4⟩:=h
 cases hv
 rcases h1 with rfl | ⟨b,o,rfl,hlt,hc⟩
 ·simp at hi
 ·obtain ⟨av,h5,h6⟩:=hc i hi
  exact ⟨b,o,av,rfl,fun w' hb=>h6.next hb hlt,h5,h2 _ (List.getElem_mem hi),h3 _ (List.getElem_mem hi)⟩
@[go_sem] theorem idx_lnk (T:TypeId) (b o n c:Nat) (x:Int):oM Tryz.prog (.indexAddr 85 (.tmp 0) (.tmp 1)) T [.slice (some ⟨b,o,none⟩) n c,.int .i64 x] = onM (0 ≤ x ∧ x < n) (.pointer (some ⟨b,o + x.toNat * 9,none⟩)):=by
 funext K w
 rw [oM_indexAddr,run_indexAt_slice (h:=by kernel_rfl)]
 have hs:(sizeOf (Tryz.prog.elem 85)).run Tryz.prog w = .ok 9 w:=by kernel_rfl
 by_cases hi:0 ≤ x ∧ x < n
 ·rw [if_pos hi,hs]
  simp only [Result.andThen,add_none,rM_ok]
  exact propext ⟨fun h=>⟨hi,h⟩,fun h=>h.2⟩
 ·rw [if_neg hi]
  obtain ⟨e',w',he⟩:=halts Value Tryz.prog .i64 x n .index w
  rw [he]
  exact propext ⟨fun h=>h.elim,fun h=>hi h.1⟩
theorem sz_lnk (w:World):(sizeOf 91).run Tryz.prog w = .ok 9 w:=by kernel_rfl
theorem al_lnk (w:World):(Instr.alloc 91 true (.tuple #[])).run Tryz.prog w = .ok (.pointer (some ⟨w.heap.size,0,none⟩)) (w.alloc (.cells [.int .i64 0,.int .i64 0,.int .i64 0,.int .i64 0,.int .i64 0,.int .i64 0,.int .i64 0,.slice none 0 0,.string ByteArray.empty].toArray 91)):=by kernel_rfl
theorem lnk_one (x:Lnk) (ad:Option Addr) (n c:Nat):∀ u ∈ lnkC x (.slice ad n c),u.oneCell' = true:=by
 intro u hu
 simp only [lnkC,List.mem_cons,List.not_mem_nil,or_false] at hu
 rcases hu with rfl | rfl | rfl | rfl | rfl | rfl | rfl | rfl | rfl <;> rfl
theorem local_lnk {K:Value → World → Prop} {T' T2:TypeId} (x:Lnk) (ad:Option Addr) (m c:Nat) (hk:Kn w0 L w)
  (k:∀ g W,Kn w0 (cellsOf L g 0 (lnkC x (.slice ad m c))) W → Below w.heap.size w W → w.heap.size ≤ g → K (.pointer (some ⟨g,0,none⟩)) W) :
  oM Tryz.prog (.alloc 91) T' [] (fun v w=>oM Tryz.prog (.store 91 (.tmp 0) (.tmp 1)) T2 [v,lnkV x (.slice ad m c)] (fun _ w=>K v w) w) w:=
 local_kn al_lnk rfl sz_lnk rfl rfl (lnk_one x ad m c) hk k
theorem validF_ok (s:Stp) (key:Int) (x:Lnk) {v:Value} {d g7 g:Nat} {ad:Option Addr} {c:Nat} (hkey:I64 key) (hs:SetR w s (.slice ad s.bases.length c)) (ht:TktR x.ticket) (hL:Cd.Laid w)
  (hk:Kn w0 (cellsOf (cellsOf (cellsOf [] d 0 (stpC s (.slice ad s.bases.length c))) g7 0 (stpC s (.slice ad s.bases.length c))) g 0 (lnkC x v)) w) (k:∀ w',Below w.heap.size w w' → K (.bool (validM s key x.ticket)) w') :
  callM Tryz.prog 93 #[.int .i64 key,.pointer (some ⟨d,0,none⟩),.pointer (some ⟨g,0,none⟩)] K w:=by
 apply sh_93_ok
 unfold sh_93
 refine Xa hk.cells ?_
 exact Valid_ok s key x.ticket hkey ht hs hL k
end
end Go.Proofs
namespace Go.Proofs
open Go Go.Sh Go.RowKit FdSpec TkSpec CodeSpec
section
variable {K:Value → World → Prop} {w w0:World} {L:List (Addr × Value)}
def FlJ (s:Stp) (keys:List Int) (dare:Int) (ls:List Lnk) (R:Bool) (L:List (Addr × Value)) (w0:World) (vs:List Value) (w':World):Prop:=
 Kn w0 L w' ∧ ∃ (u1 u2 u3 u4:Value) (i:Nat),vs = [u1,u2,u3,u4,.int .i64 (i:Int)] ∧ i ≤ ls.length ∧ (i < ls.length → chainM s keys dare (ls.drop i) = R) ∧ (i = ls.length → ∀ x,ls[ls.length - 1]? = some x → decide (x.terms = []) = R)
def flMu (n:Nat) (l:List Value) (_:World):Nat:=match l with | [_,_,_,_,.int _ i]=>n - i.toNat | _=>0
theorem flMu_eq (n:Nat) (a b c d:Value) (k:IntKind) (i:Int) (w:World):flMu n [a,b,c,d,.int k i] w = n - i.toNat:=rfl
theorem Follows_ok (s:Stp) (dare:Int) {v kv lv:Value} {keys:List Int} {ls:List Lnk} (hs:SetR w s v) (hkeys:Ints w kv keys) (hl:LnkRow w lv ls) (hL:Cd.Laid w) (k:∀ w',Below w.heap.size w w' → K (.bool (followsM s keys ls dare)) w') :
  callM Tryz.prog 38 #[stpV s v,kv,lv,.int .i64 dare] K w:=by
 apply sh_38_ok
 unfold sh_38
 obtain ⟨ad,c,rfl⟩:=hs.ints.isSlice
 obtain ⟨lad,lc,rfl⟩:=hl.isSlice
 refine box_kn (cs:=stpC s (.slice ad s.bases.length c)) rfl (.start w) fun b W hk hb1 hb=>?_
 unfold followsM at k
 have hll:=hl.len
 refine Xa hk.cells ?_
 refine open_ok s (hs.next hk.below) (fun w2 h=>?_)
 have hk:=hk.next h
 clear h hb1
 refine Xb2_0 ?_
 refine local_desk' s ad s.bases.length c hk (fun b7 W7 hk hb7 hg7=>?_)
 clear hb7
 cases hv:validS s with
 | false=>
  rw [hv,Bool.false_and,Bool.false_and,Bool.false_and] at k
  refine Xa0 ?_
  exact k _ hk.below
 | true=>
 rw [hv,Bool.true_and] at k
 by_cases h1:(ls.length:Int) < 1
 ·rw [decide_eq_false (by omega:¬ 1 ≤ ls.length),Bool.false_and,Bool.false_and] at k
  refine Xa @h1 ?_
  exact k _ hk.below
 rw [decide_eq_true (by omega:1 ≤ ls.length),Bool.true_and] at k
 by_cases h5:(5:Int) < ls.length
 ·rw [decide_eq_false (by omega:¬ ls.length ≤ 5),Bool.false_and] at k
  refine Xa (An2 @h1 @h5) ?_
  exact k _ hk.below
 rw [decide_eq_true (by omega:ls.length ≤ 5),Bool.true_and] at k
 refine Xa (An2 @h1 @h5) ?_
 refine ⟨FlJ s keys dare ls (chainM s keys dare ls) _ w,flMu ls.length,⟨hk,_,_,_,_,0,rfl,by omega,fun _=>by rw [List.drop_zero],fun h=>by omega⟩,?_⟩
 generalize chainM s keys dare ls = R at *
 rintro _ _ w6 ⟨hk,u1,u2,u3,u4,i,rfl,hi,ha,hz⟩
 by_cases hin:i = ls.length
 ·obtain ⟨b8,o8,av,rfl,ca,_,_,hlen⟩:=hl.at (i:=ls.length - 1) (by omega)
  have hz:=hz hin _ (List.getElem?_eq_getElem (by omega))
  have ca:=ca _ hk.below
  unfold LnkAt at ca
  have et:((ls.length:Int) - 1).toNat = ls.length - 1:=by omega
  refine Xa (An2 @ca @et) ?_
  rw [hz]
  exact k _ hk.below
 ·have ha:=ha (by omega)
  rw [List.drop_eq_getElem_cons (by omega)] at ha
  obtain ⟨b8,o8,av,rfl,ca,hsp,htk,hlen⟩:=hl.at (i:=i) (by omega)
  have ca:=ca _ hk.below
  have hsp:=hsp.next hk.below
  unfold LnkAt at ca
  obtain ⟨aad,ac,rfl⟩:=hsp.answers.isSlice
  repeat (any_goals (first
  | ((with_reducible refine local_lnk ls[i] aad ls[i].spend.answers.length ac hk ?_); intro g13 W13 hk hb13 hg13)
  | (with_reducible refine yN ?_)
  | ((with_reducible refine oM_gen fun Kv hK=>?_); simp [go_sem,ca]; (first|refine hK _ _ ?_|refine And.intro (by omega) (hK _ _ ?_)); clear hK Kv)))
  have hsp:=hsp.next hb13
  clear hb13 ca
  have hlast:i + 1 = ls.length → ls[ls.length - 1]? = some ls[i]:=fun h=>by
   rw [show ls.length - 1 = i by omega]; exact List.getElem?_eq_getElem (by omega)
  generalize ls[i] = x at *
  refine ContainsFunc_ok (fun q=>validM s q x.ticket) (hkeys.next hk.below) ?_ ?_
  ·intro w' q K' T hb hq h'
   refine oM_callv1 (by kernel_rfl) ?_
   have hk:=hk.next hb
   exact validF_ok s q x hq (hs.next hk.below) htk (hL.below hk.below hL.size) hk h'
  intro w3 h3
  have hk:=hk.next h3
  have hsp:=hsp.next h3
  clear h3
  have elk:linkM s keys x = (keys.any (fun q=>validM s q x.ticket) && decide (x.terms.length ≤ 8000) && acceptsM s x.ticket x.spend):=rfl
  have hno:linkM s keys x = false → K (.bool false) = K (.bool R):=fun h=>by
   rw [← ha]
   cases hr:List.drop (i + 1) ls with
   | nil=>rw [chainM,h]; rfl
   | cons y l=>rw [chainM,h]; rfl
  generalize (keys.any fun q=>validM s q x.ticket) = va at *
  cases va with
  | false=>
   rw [Bool.false_and,Bool.false_and] at elk
   refine Xa hk.cells ?_
   rw [hno elk]
   exact k _ hk.below
  | true=>
  by_cases h8:(8000:Int) < x.terms.length
  ·rw [decide_eq_false (by omega:¬ x.terms.length ≤ 8000)] at elk
   refine Xa (An2 hk.cells @h8) ?_
   rw [hno elk]
   exact k _ hk.below
  rw [decide_eq_true (by omega:x.terms.length ≤ 8000),Bool.true_and,Bool.true_and] at elk
  refine Xa (An2 hk.cells @h8) ?_
  refine Accepts_ok s x.ticket x.spend htk (hs.next hk.below) hsp (fun w4 h4=>?_)
  have hk:=hk.next h4
  have hsp:=hsp.next h4
  clear h4
  cases hac:acceptsM s x.ticket x.spend with
  | false=>
   rw [hac] at elk
   refine Xa hk.cells ?_
   rw [hno elk]
   exact k _ hk.below
  | true=>
  rw [hac] at elk
  clear hac hno
  refine Xa hk.cells ?_
  have hll':x.terms.length ≤ 8000:=by omega
  by_cases hnx:i + 1 < ls.length
  ·rw [List.drop_eq_getElem_cons hnx,chainM,elk,Bool.true_and,← List.drop_eq_getElem_cons hnx] at ha
   obtain ⟨b9,o9,av9,e9,cb,_,hyt,_⟩:=hl.at (i:=i + 1) hnx
   cases e9
   unfold LnkAt at cb
   have hx1:(i:Int) + 1 < ls.length:=by omega
   have et:((i:Int) + 1).toNat = i + 1:=by omega
   have ew:IntKind.i64.wrap ((i:Int) + 1) = (i:Int) + 1:=wrapI64 _ (by omega) (by omega)
   generalize ls[i + 1] = y at *
   refine ⟨fun l w'=>Kn w (cellsOf (cellsOf (cellsOf [] b 0 (stpC s (.slice ad s.bases.length c))) b7 0 (stpC s (.slice ad s.bases.length c))) g13 0 (lnkC x (.slice aad x.spend.answers.length ac))) w' ∧ l = [.int .i64 (lendM s y.ticket x.terms)],?_,?_⟩
   ·refine Xa @hx1 ?_
    refine ⟨Kn w _,hk.drew,rfl,?_⟩
    clear hk
    repeat (any_goals (first
    | (with_reducible refine pureH_in ?_)
    | ((with_reducible refine idOH ?_); (with_reducible refine oH_of ⟨_,rfl⟩ (fun W0 hW0=>by (refine oM_gen (fun Kv hK=>?_)); simp [go_sem,hW0.cells,cb _ hW0.below,et,ew]; (first | exact hK _ _ ⟨rfl,rfl⟩ | exact ⟨by omega,hK _ _ ⟨rfl,rfl⟩⟩)) ?_))))
    refine ⟨Nx,fun w5 hk=>?_⟩
    exact LendDare_ok s y.ticket x.terms (by omega) hyt (hs.next hk.below) (hL.below hk.below hL.size) (fun w6 h6=>⟨hk.next h6,rfl⟩)
   ·rintro _ _ w7 ⟨hk,rfl⟩
    by_cases hd:x.spend.dare = lendM s y.ticket x.terms
    ·rw [decide_eq_true hd,Bool.true_and] at ha
     refine Xa (An2 hk.cells @hd) ?_
     refine ⟨⟨⟨hk.below,hk.cells.2.2.2.2.2.2.2.2.2⟩,_,_,_,_,i + 1,rfl,by omega,fun _=>ha,fun h=>by omega⟩,?_⟩
     simp only [flMu_eq]; omega
    ·rw [decide_eq_false hd,Bool.false_and] at ha
     subst ha
     refine Xa (An2 hk.cells @hd) ?_
     exact k _ hk.below
  ·have hi1:i + 1 = ls.length:=by omega
   rw [List.drop_of_length_le (by omega),chainM,elk,Bool.true_and] at ha
   have hx1:¬ ((i:Int) + 1 < ls.length):=by omega
   refine ⟨fun l w'=>Kn w (cellsOf (cellsOf (cellsOf [] b 0 (stpC s (.slice ad s.bases.length c))) b7 0 (stpC s (.slice ad s.bases.length c))) g13 0 (lnkC x (.slice aad x.spend.answers.length ac))) w' ∧ l = [.int .i64 dare],?_,?_⟩
   ·refine Xa @hx1 ?_
    exact ⟨hk,rfl⟩
   ·rintro _ _ w7 ⟨hk,rfl⟩
    by_cases hd:x.spend.dare = dare
    ·rw [decide_eq_true hd,Bool.true_and] at ha
     refine Xa (An2 hk.cells @hd) ?_
     refine ⟨⟨⟨hk.below,hk.cells.2.2.2.2.2.2.2.2.2⟩,_,_,_,_,i + 1,rfl,by omega,fun h=>by omega,fun _ x' hx'=>?_⟩,?_⟩
     ·rw [hlast hi1] at hx'
      cases hx'
      exact ha
     simp only [flMu_eq]; omega
    ·rw [decide_eq_false hd,Bool.false_and] at ha
     subst ha
     refine Xa (An2 hk.cells @hd) ?_
     exact k _ hk.below
end
end Go.Proofs
namespace FdPoly
def U (q a:Int):Prop:=∃ u,q ∣ u * a - 1
theorem U.cancel {q a b:Int} (h:U q a) (hd:q ∣ a * b):q ∣ b:=by
 obtain ⟨u,k,hk⟩:=h
 obtain ⟨m,hm⟩:=hd
 exact ⟨u * m - k * b,by grind⟩
end FdPoly
namespace FdPoly
open FdSpec
theorem mulM_dvd {n a b:Int} (hn:okN n):n ∣ mulM n a b - a * b:=by
 unfold mulM; rw [if_pos hn]
 have:=Int.emod_add_mul_ediv (a * b) n
 exact ⟨-(a * b / n),by grind⟩
theorem mod_dvd (n a:Int):n ∣ a % n - a:=by
 have:=Int.emod_add_mul_ediv a n
 exact ⟨-(a / n),by grind⟩
end FdPoly
namespace FdPoly
open FdSpec
theorem res_eq {q a b:Int} (h:q ∣ a - b) (ha:0 ≤ a ∧ a < q) (hb:0 ≤ b ∧ b < q):a = b:=by
 obtain ⟨k,hk⟩:=h
 have h1:k < 1:=by
  refine Classical.byContradiction fun hn=>?_
  have:q * 1 ≤ q * k:=Int.mul_le_mul_of_nonneg_left (by omega) (by omega)
  omega
 have h2:-1 < k:=by
  refine Classical.byContradiction fun hn=>?_
  have:q * k ≤ q * (-1):=Int.mul_le_mul_of_nonneg_left (by omega) (by omega)
  omega
 have:k = 0:=by omega
 subst this
 omega
theorem U.cong {q a b:Int} (h:U q a) (e:q ∣ b - a):U q b:=by
 obtain ⟨u,k,hk⟩:=h
 obtain ⟨m,hm⟩:=e
 exact ⟨u,k + u * m,by grind⟩
end FdPoly
namespace FdPoly
open FdSpec
theorem prime_small {q:Int} (h:primeM q = true):q ∈ smallP ∨ ∀ p ∈ smallP,q % p ≠ 0:=by
 unfold primeM at h
 split at h
 ·cases h
 ·cases hf:smallP.find? (fun p=>decide (q % p = 0)) with
  | some p=>
   rw [hf] at h
   have hm:=List.mem_of_find?_eq_some hf
   have:q = p:=by simpa using h
   rw [this]; exact .inl hm
  | none=>
   rw [List.find?_eq_none] at hf
   exact .inr (fun p hp=>by simpa using hf p hp)
end FdPoly
namespace GrLaw
open FdSpec FdPoly TkSpec
def Cg (P a b:Int):Prop:=P ∣ a - b
section
variable {P a b c d x y:Int}
theorem Cg.refl (P a:Int):Cg P a a:=⟨0,by omega⟩
theorem Cg.symm (h:Cg P a b):Cg P b a:=by obtain ⟨k,hk⟩:=h; exact ⟨-k,by grind⟩
theorem Cg.trans (h:Cg P a b) (h2:Cg P b c):Cg P a c:=by obtain ⟨k,hk⟩:=h; obtain ⟨m,hm⟩:=h2; exact ⟨k + m,by grind⟩
theorem Cg.mul (h:Cg P a b) (h2:Cg P c d):Cg P (a * c) (b * d):=by obtain ⟨k,hk⟩:=h; obtain ⟨m,hm⟩:=h2; exact ⟨k * c + b * m,by grind⟩
theorem Cg.pow (h:Cg P a b):∀ n:Nat,Cg P (a ^ n) (b ^ n)
 | 0=>by rw [Int.pow_zero,Int.pow_zero]; exact Cg.refl _ _
 | n + 1=>by rw [Int.pow_succ,Int.pow_succ]; exact (Cg.pow h n).mul h
theorem Cg.mod (P a:Int):Cg P (a % P) a:=mod_dvd P a
theorem Cg.emod (h:Cg P a b):a % P = b % P:=by
 obtain ⟨k,hk⟩:=h
 have:a = b + P * k:=by omega
 rw [this,Int.add_mul_emod_self_left]
theorem Cg.of_emod (h:a % P = b % P):Cg P a b:=(Cg.mod P a).symm.trans (by rw [h]; exact Cg.mod P b)
theorem Cg.eq (h:Cg P a b) (ha:0 ≤ a ∧ a < P) (hb:0 ≤ b ∧ b < P):a = b:=res_eq h ha hb
theorem U.of_cg (h:Cg P (b * a) 1):U P a:=⟨b,h⟩
theorem Cg.cancel (hu:U P c) (h:Cg P (a * c) (b * c)):Cg P a b:=by
 refine hu.cancel ?_
 obtain ⟨k,hk⟩:=h
 exact ⟨k,by grind⟩
theorem pow_mod {n:Nat} (h:Cg P (x ^ n) 1) (k:Nat):Cg P (x ^ k) (x ^ (k % n)):=by
 have e:x ^ k = (x ^ n) ^ (k / n) * x ^ (k % n):=by
  rw [← Int.pow_mul,← Int.pow_add,Nat.div_add_mod]
 rw [e]
 have h1:=h.pow (k / n)
 rw [Int.one_pow] at h1
 have:=h1.mul (Cg.refl P (x ^ (k % n)))
 rwa [Int.one_mul] at this
theorem pow_same {n:Nat} (h:Cg P (x ^ n) 1) {j k:Nat} (e:j % n = k % n):Cg P (x ^ j) (x ^ k):=by
 have h1:=pow_mod h j
 rw [e] at h1
 exact h1.trans (pow_mod h k).symm
end
structure Gv (g:Grp):Prop where
 q0:5 ≤ g.Q
 q1:g.Q < 1152921504606846976
 p:g.P = 2 * g.Q + 1
 g0:2 ≤ g.G
 g1:g.G < g.P
 pq:primeM g.Q = true
 gq:pw g.P g.G g.Q.toNat = 1
theorem gv_of {g:Grp} (h:validG g = true):Gv g:=by
 unfold validG at h
 split at h
 ·cases h
 ·simp only [Bool.and_eq_true,decide_eq_true_eq] at h
  exact ⟨by omega,by omega,by omega,by omega,by omega,h.1.1,h.2⟩
def Ex (g:Grp) (x k:Int):Int:=x ^ (k % g.Q).toNat
def El (g:Grp) (x:Int):Prop:=Cg g.P (x ^ g.Q.toNat) 1
section
variable {g:Grp} {x y a b:Int}
theorem Gv.okP (h:Gv g):okN g.P:=by have:=h.q0; have:=h.q1; have:=h.p; exact ⟨by omega,by omega⟩
theorem Gv.okQ (h:Gv g):okN g.Q:=by have:=h.q0; have:=h.q1; exact ⟨by omega,by omega⟩
theorem El.of_pw (h:Gv g) (hx:pw g.P x g.Q.toNat = 1):El g x:=by
 refine Cg.of_emod ?_
 have e:x ^ g.Q.toNat % g.P = 1:=hx
 rw [e,Int.emod_eq_of_lt (by omega) (by have:=h.q0; have:=h.p; omega)]
theorem El.of_elem (h:Gv g) (hx:elemG g x = true):El g x ∧ 1 ≤ x ∧ x < g.P:=by
 unfold elemG at hx
 simp only [Bool.and_eq_true,decide_eq_true_eq] at hx
 exact ⟨El.of_pw h hx.2,hx.1.1.1,hx.1.1.2⟩
theorem El.gen (h:Gv g):El g g.G:=El.of_pw h h.gq
theorem El.cg (hx:El g x) (h:Cg g.P y x):El g y:=(h.pow _).trans hx
theorem El.pow (hx:El g x) (n:Nat):El g (x ^ n):=by
 unfold El
 rw [← Int.pow_mul,Nat.mul_comm,Int.pow_mul]
 have:=Cg.pow hx n
 rwa [Int.one_pow] at this
theorem El.unit (h:Gv g) (hx:El g x):U g.P x:=by
 refine U.of_cg (b:=x ^ (g.Q.toNat - 1)) ?_
 have e:x ^ (g.Q.toNat - 1) * x = x ^ g.Q.toNat:=by
  rw [← Int.pow_succ]; congr 1; have:=h.q0; omega
 rw [e]; exact hx
theorem toNat_mod {Q k:Int} (hQ:0 < Q):(((k % Q).toNat:Nat):Int) = k % Q:=Int.toNat_of_nonneg (Int.emod_nonneg _ (by omega))
theorem nat_mod {Q:Int} (hQ:0 < Q) {m n:Nat} (h:(m:Int) % Q = (n:Int) % Q):m % Q.toNat = n % Q.toNat:=by
 have hq:((Q.toNat:Nat):Int) = Q:=Int.toNat_of_nonneg (by omega)
 have:((m % Q.toNat:Nat):Int) = ((n % Q.toNat:Nat):Int):=by
  rw [Int.natCast_emod,Int.natCast_emod,hq]; exact h
 omega
theorem Ex_add (h:Gv g) (hx:El g x) (a b:Int):Cg g.P (Ex g x (a + b)) (Ex g x a * Ex g x b):=by
 unfold Ex
 rw [← Int.pow_add]
 have hQ:0 < g.Q:=by have:=h.q0; omega
 refine pow_same hx (nat_mod hQ ?_)
 push_cast
 rw [toNat_mod hQ,toNat_mod hQ,toNat_mod hQ]
 rw [Int.emod_emod_of_dvd _ (Int.dvd_refl _),← Int.add_emod]
theorem Ex_mul (h:Gv g) (hx:El g x) (a b:Int):Cg g.P (Ex g x (a * b)) (Ex g x a ^ (b % g.Q).toNat):=by
 unfold Ex
 rw [← Int.pow_mul]
 have hQ:0 < g.Q:=by have:=h.q0; omega
 refine pow_same hx (nat_mod hQ ?_)
 push_cast
 rw [toNat_mod hQ,toNat_mod hQ,toNat_mod hQ]
 rw [Int.emod_emod_of_dvd _ (Int.dvd_refl _),← Int.mul_emod]
theorem Ex_cong (e:a % g.Q = b % g.Q):Ex g x a = Ex g x b:=by unfold Ex; rw [e]
theorem Ex_zero (x:Int):Ex g x 0 = 1:=by simp [Ex]
theorem Ex_cg (h:Cg g.P x y) (a:Int):Cg g.P (Ex g x a) (Ex g y a):=h.pow _
theorem El.ex (hx:El g x) (a:Int):El g (Ex g x a):=hx.pow _
theorem powerG_eq (h:Gv g) (x k:Int):powerG g x k = Ex g x k % g.P:=by
 unfold powerG
 rw [if_pos ⟨h.okP,h.okQ⟩]; rfl
theorem powerG_cg (h:Gv g) (x k:Int):Cg g.P (powerG g x k) (Ex g x k):=by rw [powerG_eq h]; exact Cg.mod _ _
theorem powerG_range (h:Gv g) (x k:Int):0 ≤ powerG g x k ∧ powerG g x k < g.P:=by
 rw [powerG_eq h]
 have:=h.okP.1
 exact ⟨Int.emod_nonneg _ (by omega),Int.emod_lt_of_pos _ (by omega)⟩
theorem timesG_cg (h:Gv g) (a b:Int):Cg g.P (timesG g a b) (a * b):=by
 unfold timesG
 rw [if_pos h.okQ]
 exact mulM_dvd h.okP
theorem timesG_range (h:Gv g) (a b:Int):0 ≤ timesG g a b ∧ timesG g a b < g.P:=by
 unfold timesG
 rw [if_pos h.okQ]
 exact mulM_range _ _ _ h.okP
def PX (g:Grp):List (Int × Int) → Int
 | []=>1
 | (b,e) :: l=>Ex g b e * PX g l
theorem prodL_cg (h:Gv g):∀ (l:List (Int × Int)) (out:Int),Cg g.P (prodL g out l) (out * PX g l)
 | [],out=>by simp [prodL,PX]; exact Cg.refl _ _
 | (b,e) :: l,out=>by
  rw [prodL,PX]
  refine (prodL_cg h l _).trans ?_
  have h1:Cg g.P (mulM g.P out (powerG g b e)) (out * Ex g b e):=(show Cg g.P _ _ from mulM_dvd h.okP).trans ((Cg.refl _ out).mul (powerG_cg h b e))
  have:=h1.mul (Cg.refl g.P (PX g l))
  have e2:out * Ex g b e * PX g l = out * (Ex g b e * PX g l):=Int.mul_assoc _ _ _
  rwa [e2] at this
theorem prodL_range (h:Gv g):∀ (l:List (Int × Int)) (out:Int),0 ≤ out ∧ out < g.P → 0 ≤ prodL g out l ∧ prodL g out l < g.P
 | [],out,ho=>ho
 | (b,e) :: l,out,_=>by rw [prodL]; exact prodL_range h l _ (mulM_range _ _ _ h.okP)
end
end GrLaw
