/- Parts of the proof of the seat's statements (HTk, HPu, FdSpec, FdPow, FdDiv, ShMap5, ShRow, ShRow2, ShBuf, ShBuf2, ShBit, ShBox, ShGo, FdA, FdB, FdC, FdE, FdF, FdG, FdH, FdI, FdJ, FdK, FdL, ShKn, TkSpec, TkA, TkB, ShKn2, TkC, ShelfI, TkD, TkE, TkF, TkG, TkH, TkI, TkM, HTd, TkN, ShApp, ShArr, ShMn, ShGr, ShGr3, HTc): lemmas about the given translation and plain laws. No condition of their own. -/
import Derived.Test.YtnbokkoppdnllaaGreatDoorPba
import Derived.Test.YtnbokkoppdnllaaGreatDoorProg
import Derived.Lib.BufferWrite
import Derived.Lib.SliceRun
import Derived.Laws.MakeOwn
import Derived.Laws.OwnMore
import Derived.Great.BuildSlice
import Derived.Laws.IdiomStrings
import Derived.Lib.Mul64
import Derived.Lib.TrailingZeros
import Derived.Shelf.Spec.SlicesInsertGrow
import Derived.Deep.Upon
set_option linter.all false
set_option maxRecDepth 100000
namespace Go.Proofs
open Go.Sh Tryz
variable {a0 a1 a2:Value} {K:VK} {w:World}
def sh_124 (a0 a1:Value) (K:VK) (w:World):Prop:=
 kC .neq 3 1 4 a0 (fun v5 w=>
 gT v5 (kF 50 0 a1) (fun v7 w=>
 gT v5 (kL 48 v7) (fun v8 w=>
 gT v5 (pureM a0) (fun v9 w=>
 gT v5 (callM prog 125 #[v8,v9]) (fun v10=>
 kP v5 v10 (.bool false) fun v11=>
 K v11) w) w) w) w) w
theorem sh_124_ok (h:sh_124 a0 a1 K w):callM prog 124 #[a0,a1] K w:=
 cZ (fun _=>0) func124 h
def sh_77 (a0:Value) (K:VK) (w:World):Prop:=
 oM prog (.box 50 (.tmp 0)) 0 [a0] (fun v1=>
 kF 50 0 v1 fun v6=>
 kL 48 v6 fun v7=>
 callM prog 123 #[v7] fun v8=>
 kU v8 fun v9 w=>
 gF v9 (kF 50 1 v1) (fun v11 w=>
 gF v9 (kL 22 v11) (fun v12 w=>
 gF v9 (kN 22 v12) (fun v13 w=>
 gF v9 (kB .lss 3 4 v13 (.int .i64 2)) (fun v14=>
 kP v9 (.bool true) v14 fun v15 w=>
 gF v15 (kF 50 1 v1) (fun v17 w=>
 gF v15 (kL 22 v17) (fun v18 w=>
 gF v15 (kN 22 v18) (fun v19 w=>
 gF v15 (kB .gtr 3 4 v19 (.int .i64 7)) (fun v20=>
 kP v15 (.bool true) v20 fun v21=>
 kO v21 (K (.bool false))
 (oM prog (.makeFunc (Go.Fn.func 124) #[] #[(.tmp 0)]) 128 [v1] fun v22=>
 kF 50 1 v1 fun v23=>
 kL 22 v23 fun v24=>
 kN 22 v24 fun v25=>
 kQ [undef,(.bool false),(.int .i64 0)] fun J_20 m_21 l_22 u_l_22 w0_l_22=>(fun w=>(
 kB .lss 3 0 (l_22.getD 2 undef) v25 (fun v27=>
 kO v27 (kI 22 v24 (l_22.getD 2 undef) fun v28=>
 kL 3 v28 fun v29=>
 oM prog (.call (Go.Call.mk (.value (.tmp 0)) #[(.tmp 1)] #[3])) 4 [v22,v29] fun v32=>
 kU v32 fun v33=>
 kO v33 (K (.bool false))
 (kB .add 3 3 (l_22.getD 2 undef) (.int .i64 1) fun v34=>
 kJ J_20 m_21 l_22 w0_l_22 [v29,(l_22.getD 1 undef),v34]))
 (kF 50 2 v1 fun v36=>
 kL 3 v36 fun v37=>
 oM prog (.call (Go.Call.mk (.value (.tmp 0)) #[(.tmp 1)] #[3])) 4 [v22,v37] fun v38=>
 K v38)) w)) w0_l_22)) w) w) w) w) w) w) w) w) w
theorem sh_77_ok (h:sh_77 a0 K w):callM prog 77 #[a0] K w:=
 cZ (fun _=>0) func77 h
def sh_173 (a0 a1:Value) (K:VK) (w:World):Prop:=
 kN 22 a0 (fun v7=>
 kQ [undef,(.int .i64 0),(.int .i64 0)] fun J_2 m_3 l_4 u_l_4 w0_l_4=>(fun w=>(
 kB .lss 3 0 (l_4.getD 2 undef) v7 (fun v9=>
 kO v9 (kI 22 a0 (l_4.getD 2 undef) fun v14=>
 kL 3 v14 fun v15=>
 oM prog (.call (Go.Call.mk (.value (.tmp 0)) #[(.tmp 1)] #[3])) 4 [a1,v15] fun v16=>
 kO v16 (K (l_4.getD 2 undef))
 (kB .add 3 3 (l_4.getD 2 undef) (.int .i64 1) fun v18=>
 kJ J_2 m_3 l_4 w0_l_4 [(l_4.getD 2 undef),(l_4.getD 1 undef),v18]))
 (K (.int .i64 (-1)))) w)) w0_l_4) w
theorem sh_173_ok (h:sh_173 a0 a1 K w):callM prog 173 #[a0,a1] K w:=
 cZ (fun _=>0) func173 h
def sh_136 (a0 a1:Value) (K:VK) (w:World):Prop:=
 callM prog 173 #[a0,a1] (fun v7=>
 kB .geq 3 4 v7 (.int .i64 0) fun v8=>
 K v8) w
theorem sh_136_ok (h:sh_136 a0 a1 K w):callM prog 136 #[a0,a1] K w:=
 cZ (fun _=>0) func136 h
def sh_137 (a0 a1 a2:Value) (K:VK) (w:World):Prop:=
 kL 3 a1 (fun v6=>
 kB .lss 3 4 a0 v6 fun v7 w=>
 gF v7 (pureM a0) (fun v9 w=>
 gF v7 (kF 164 0 a2) (fun v10 w=>
 gF v7 (kF 50 0 v10) (fun v11 w=>
 gF v7 (kF 48 1 v11) (fun v12 w=>
 gF v7 (kL 3 v12) (fun v13 w=>
 gF v7 (kB .geq 3 4 v9 v13) (fun v14=>
 kP v7 (.bool true) v14 fun v15=>
 K v15) w) w) w) w) w) w) w
theorem sh_137_ok (h:sh_137 a0 a1 a2 K w):callM prog 137 #[a0,a1,a2] K w:=
 cZ (fun _=>2) func137 h
def sh_87 (a0 a1 a2:Value) (K:VK) (w:World):Prop:=
 oM prog (.box 164 (.tmp 0)) 0 [a0] (fun v3=>
 oM prog (.box 3 (.tmp 0)) 0 [a1] fun v4=>
 oM prog (.makeFunc (Go.Fn.func 137) #[] #[(.tmp 0),(.tmp 1)]) 128 [v4,v3] fun v8=>
 callM prog 136 #[a2,v8] fun v9=>
 kU v9 fun v10=>
 K v10) w
theorem sh_87_ok (h:sh_87 a0 a1 a2 K w):callM prog 87 #[a0,a1,a2] K w:=
 cZ (fun _=>2) func87 h
def sh_172 (a0 a1:Value) (K:VK) (w:World):Prop:=
 kF 164 0 a1 (fun v4=>
 kF 50 0 v4 fun v5=>
 kL 48 v5 fun v6=>
 callM prog 125 #[v6,a0] fun v8=>
 kU v8 fun v9=>
 K v9) w
theorem sh_172_ok (h:sh_172 a0 a1 K w):callM prog 172 #[a0,a1] K w:=
 cZ (fun _=>2) func172 h
def sh_135 (a0 a1:Value) (K:VK) (w:World):Prop:=
 oM prog (.box 164 (.tmp 0)) 0 [a0] (fun v2=>
 oM prog (.makeFunc (Go.Fn.func 172) #[] #[(.tmp 0)]) 128 [v2] fun v6=>
 callM prog 136 #[a1,v6] fun v7=>
 kU v7 fun v8=>
 K v8) w
theorem sh_135_ok (h:sh_135 a0 a1 K w):callM prog 135 #[a0,a1] K w:=
 cZ (fun _=>2) func135 h
def sh_88 (a0 a1:Value) (K:VK) (w:World):Prop:=
 oM prog (.box 164 (.tmp 0)) 0 [a0] (fun v2=>
 kF 164 0 v2 fun v8=>
 kF 50 0 v8 fun v9=>
 kL 48 v9 fun v10=>
 kF 164 0 v2 fun v11=>
 kF 50 1 v11 fun v12=>
 kL 22 v12 fun v13=>
 callM prog 138 #[v10,v13,a1] fun v15=>
 kE 0 3 v15 fun v16=>
 kE 1 4 v15 fun v17=>
 K v16) w
theorem sh_88_ok (h:sh_88 a0 a1 K w):callM prog 88 #[a0,a1] K w:=
 cZ (fun _=>2) func88 h
def sh_179 (a0 a1 a2:Value) (K:VK) (w:World):Prop:=
 oM prog (.box 164 (.tmp 0)) 0 [a0] (fun v3=>
 kF 164 0 v3 fun v7=>
 kF 50 0 v7 fun v8=>
 kF 48 1 v8 fun v9=>
 kL 3 v9 fun v10=>
 callM prog 144 #[v10,a1,a2] fun v13=>
 K v13) w
theorem sh_179_ok (h:sh_179 a0 a1 a2 K w):callM prog 179 #[a0,a1,a2] K w:=
 cZ (fun _=>2) func179 h
def sh_180 (a0 a1 a2:Value) (K:VK) (w:World):Prop:=
 oM prog (.box 164 (.tmp 0)) 0 [a0] (fun v3=>
 kN 22 a2 fun v10=>
 kQ [undef,a1,(.int .i64 0)] fun J_3 m_4 l_5 u_l_5 w0_l_5=>(fun w=>(
 kB .lss 3 0 (l_5.getD 2 undef) v10 (fun v12=>
 kO v12 (kI 22 a2 (l_5.getD 2 undef) fun v13=>
 kL 3 v13 fun v14=>
 kF 164 0 v3 fun v15=>
 kF 50 0 v15 fun v16=>
 kF 48 1 v16 fun v17=>
 kL 3 v17 fun v18=>
 callM prog 145 #[v18,(l_5.getD 1 undef),v14] fun v21=>
 kB .add 3 3 (l_5.getD 2 undef) (.int .i64 1) fun v22=>
 kJ J_3 m_4 l_5 w0_l_5 [v14,v21,v22])
 (K (l_5.getD 1 undef))) w)) w0_l_5) w
theorem sh_180_ok (h:sh_180 a0 a1 a2 K w):callM prog 180 #[a0,a1,a2] K w:=
 cZ (fun _=>2) func180 h
def sh_92 (a0:Value) (K:VK) (w:World):Prop:=
 oM prog (.box 50 (.tmp 0)) 0 [a0] (fun v1=>
 kA 164 fun v2=>
 kH fun C_3 w=>(jL 50 v1 C_3 fun v4=>
 jL 50 v1 C_3 fun v6=>
 (oM prog (.build 164 #[(0,(.tmp 0))]) 164 [v4] (fun v5 w=>C_3 w ∧ (
 callM prog 77 #[v6] (fun v7 w=>C_3 w ∧ (
 kS 164 v2 v5 (fun _ w=>C_3 w ∧ (
 C_3 w ∧ (∃ r_9,(do loadVar 164 (← asAddr v2):Sem Value).run prog w = .ok r_9 w ∧ K (.tuple #[r_9,v7]) w))) w)) w)) w) ∧
 (callM prog 77 #[v6] (fun v7 w=>C_3 w ∧ (
 oM prog (.build 164 #[(0,(.tmp 0))]) 164 [v4] (fun v5 w=>C_3 w ∧ (
 kS 164 v2 v5 (fun _ w=>C_3 w ∧ (
 C_3 w ∧ (∃ r_13,(do loadVar 164 (← asAddr v2):Sem Value).run prog w = .ok r_13 w ∧ K (.tuple #[r_13,v7]) w))) w)) w)) w))) w
theorem sh_92_ok (h:sh_92 a0 K w):callM prog 92 #[a0] K w:=
 cZ (fun _=>.tree (.look 0 (.look 2 (.alt 1 (.only 3 (.only 4 (.only 5 (.done)))) (.only 3 (.only 1 (.only 4 (.only 5 (.done))))))))) func92 h
def sh_81 (a0:Value) (K:VK) (w:World):Prop:=
 oM prog (.binOp .eql 22 (.tmp 0) (.const (.slice none 0 0)) 22) 4 [a0] (fun v4=>
 kO v4 (K (.slice none 0 0))
 (oM prog (.buildSlice 22 0 #[]) 22 [] fun v5=>
 oM prog (.call (Go.Call.mk (.builtin .append) #[(.tmp 0),(.tmp 1)] #[22,22])) 22 [v5,a0] fun v7=>
 K v7)) w
theorem sh_81_ok (h:sh_81 a0 K w):callM prog 81 #[a0] K w:=
 cZ (fun _=>0) func81 h
def sh_178 (a0:Value) (K:VK) (w:World):Prop:=
 callM prog 81 #[a0] (fun v4=>
 oM prog (.buildSlice 22 1 #[(0,(.tmp 0))]) 22 [(.int .i64 1)] fun v5=>
 callM prog 208 #[v4,(.int .i64 0),v5] fun v6=>
 K v6) w
theorem sh_178_ok (h:sh_178 a0 K w):callM prog 178 #[a0] K w:=
 cZ (fun _=>2) func178 h
def sh_187 (a0 a1:Value) (K:VK) (w:World):Prop:=
 oM prog (.box 50 (.tmp 0)) 0 [a0] (fun v2=>
 kA 164 fun v4=>
 kL 50 v2 fun v10=>
 callM prog 92 #[v10] fun v11=>
 kE 0 164 v11 fun v12=>
 kE 1 4 v11 fun v13=>
 kA 164 fun v7=>
 kS 164 v7 v12 fun _=>
 kU v13 fun v15 w=>
 gF v15 (pureM a1) (fun v17 w=>
 gF v15 (kN 22 v17) (fun v18 w=>
 gF v15 (kF 50 1 v2) (fun v19 w=>
 gF v15 (kL 22 v19) (fun v20 w=>
 gF v15 (kN 22 v20) (fun v21 w=>
 gF v15 (kB .sub 3 3 v21 (.int .i64 1)) (fun v22 w=>
 gF v15 (kB .neq 3 4 v18 v22) (fun v23=>
 kP v15 (.bool true) v23 fun v24 w=>
 gF v24 (kL 164 v7) (fun v26 w=>
 gF v24 (pureM a1) (fun v27 w=>
 gF v24 (callM prog 87 #[v26,(.int .i64 0),v27]) (fun v28 w=>
 gF v24 (kU v28) (fun v29=>
 kP v24 (.bool true) v29 fun v30 w=>
 gF v30 (pureM a1) (fun v32 w=>
 gF v30 (kI 22 v32 (.int .i64 0)) (fun v33 w=>
 gF v30 (kL 3 v33) (fun v34 w=>
 gF v30 (kC .eql 3 0 4 v34) (fun v35=>
 kP v30 (.bool true) v35 fun v36=>
 kO v36 (kL 164 v7 fun v37=>
 kS 164 v4 v37 fun _ w=>
 ∃ r_28,(do loadVar 164 (← asAddr v4):Sem Value).run prog w = .ok r_28 w ∧ K (.tuple #[r_28,(.int .i64 0),(.bool false)]) w)
 (kH fun C_29 w=>(jL 164 v7 C_29 fun v38=>
 jL 164 v7 C_29 fun v39=>
 pureH a1 C_29 fun v40=>
 callM prog 178 #[v40] (fun v41 w=>C_29 w ∧ (
 callM prog 88 #[v39,v41] (fun v42 w=>C_29 w ∧ (
 kS 164 v4 v38 (fun _ w=>C_29 w ∧ (
 C_29 w ∧ (C_29 w ∧ (∃ r_37,(do loadVar 164 (← asAddr v4):Sem Value).run prog w = .ok r_37 w ∧ K (.tuple #[r_37,v42,(.bool true)]) w)))) w)) w)) w))) w) w) w) w) w) w) w) w) w) w) w) w) w) w) w) w
theorem sh_187_ok (h:sh_187 a0 a1 K w):callM prog 187 #[a0,a1] K w:=
 cZ (fun _=>2) func187 h
def sh_176 (a0 a1:Value) (K:VK) (w:World):Prop:=
 oM prog (.box 50 (.tmp 0)) 0 [a0] (fun v2=>
 kA 164 fun v4=>
 kL 50 v2 fun v11=>
 callM prog 187 #[v11,a1] fun v13=>
 kE 0 164 v13 fun v14=>
 kE 1 3 v13 fun v15=>
 kE 2 4 v13 fun v16=>
 kA 164 fun v7=>
 kS 164 v7 v14 fun _=>
 kL 164 v7 fun v17 w=>
 gT v16 (pureM v15) (fun v21 w=>
 gT v16 (kC .neq 3 1 4 v21) (fun v22=>
 kP v16 v22 (.bool false) fun v23=>
 kS 164 v4 v17 fun _ w=>
 ∃ r_13,(do loadVar 164 (← asAddr v4):Sem Value).run prog w = .ok r_13 w ∧ K (.tuple #[r_13,v15,v23]) w) w) w) w
theorem sh_176_ok (h:sh_176 a0 a1 K w):callM prog 176 #[a0,a1] K w:=
 cZ (fun _=>2) func176 h
def sh_149 (a0 a1:Value) (K:VK) (w:World):Prop:=
 oM prog (.box 50 (.tmp 0)) 0 [a0] (fun v2=>
 kL 50 v2 fun v9=>
 callM prog 187 #[v9,a1] fun v11=>
 kE 0 164 v11 fun v12=>
 kE 1 3 v11 fun v13=>
 kE 2 4 v11 fun v14=>
 kA 164 fun v5=>
 kS 164 v5 v12 fun _=>
 K v13) w
theorem sh_149_ok (h:sh_149 a0 a1 K w):callM prog 149 #[a0,a1] K w:=
 cZ (fun _=>2) func149 h
def sh_177 (a0 a1:Value) (K:VK) (w:World):Prop:=
 oM prog (.box 164 (.tmp 0)) 0 [a0] (fun v2=>
 oM prog (.box 24 (.tmp 0)) 0 [a1] fun v3=>
 kL 164 v2 fun v5=>
 kF 24 0 v3 fun v6=>
 kL 3 v6 fun v7=>
 kF 24 1 v3 fun v8=>
 kL 3 v8 fun v9=>
 oM prog (.buildSlice 22 2 #[(0,(.tmp 0)),(1,(.tmp 1))]) 22 [v7,v9] fun v10=>
 callM prog 87 #[v5,(.int .i64 1),v10] fun v11 w=>
 gT v11 (kL 164 v2) (fun v13 w=>
 gT v11 (kF 24 2 v3) (fun v14 w=>
 gT v11 (kL 3 v14) (fun v15 w=>
 gT v11 (oM prog (.buildSlice 22 1 #[(0,(.tmp 0))]) 22 [v15]) (fun v16 w=>
 gT v11 (callM prog 87 #[v13,(.int .i64 0),v16]) (fun v17=>
 kP v11 v17 (.bool false) fun v18 w=>
 gT v18 (kF 24 3 v3) (fun v20 w=>
 gT v18 (kL 22 v20) (fun v21 w=>
 gT v18 (kN 22 v21) (fun v22 w=>
 gT v18 (kF 164 0 v2) (fun v23 w=>
 gT v18 (kF 50 1 v23) (fun v24 w=>
 gT v18 (kL 22 v24) (fun v25 w=>
 gT v18 (kN 22 v25) (fun v26 w=>
 gT v18 (kB .eql 3 4 v22 v26) (fun v27=>
 kP v18 v27 (.bool false) fun v28 w=>
 gT v28 (kL 164 v2) (fun v30 w=>
 gT v28 (kF 24 3 v3) (fun v31 w=>
 gT v28 (kL 22 v31) (fun v32 w=>
 gT v28 (callM prog 87 #[v30,(.int .i64 0),v32]) (fun v33=>
 kP v28 v33 (.bool false) fun v34=>
 K v34) w) w) w) w) w) w) w) w) w) w) w) w) w) w) w) w) w) w
theorem sh_177_ok (h:sh_177 a0 a1 K w):callM prog 177 #[a0,a1] K w:=
 cZ (fun _=>2) func177 h
def sh_86 (a0 a1:Value) (K:VK) (w:World):Prop:=
 oM prog (.box 50 (.tmp 0)) 0 [a0] (fun v2=>
 oM prog (.box 26 (.tmp 0)) 0 [a1] fun v3=>
 kA 164 fun v4=>
 kL 50 v2 fun v9=>
 callM prog 92 #[v9] fun v10=>
 kE 0 164 v10 fun v11=>
 kE 1 4 v10 fun v12=>
 kA 164 fun v6=>
 kS 164 v6 v11 fun _=>
 kH fun C_9 w=>(jL 164 v6 C_9 fun v13=>
 pureH v12 C_9 fun v14=>
 pureH v14 C_9 fun v15=>
 jT v15 (jF 26 0 v3) C_9 fun v16=>
 jT v15 (jL 3 v16) C_9 fun v17=>
 jT v15 (jC .neq 3 1 4 v17) C_9 fun v18=>
 jP v15 v18 (.bool false) C_9 fun v19=>
 pureH v19 C_9 fun v20=>
 jT v20 (jL 164 v6) C_9 fun v21=>
 jT v20 (jF 26 0 v3) C_9 fun v22=>
 jT v20 (jL 3 v22) C_9 fun v23=>
 jT v20 (jF 26 1 v3) C_9 fun v24=>
 jT v20 (jL 3 v24) C_9 fun v25=>
 jT v20 (jF 26 2 v3) C_9 fun v26=>
 jT v20 (jL 3 v26) C_9 fun v27=>
 jT v20 (jF 26 3 v3) C_9 fun v28=>
 jT v20 (jL 3 v28) C_9 fun v29=>
 jT v20 (jF 26 4 v3) C_9 fun v30=>
 jT v20 (jL 3 v30) C_9 fun v31=>
 gT v20 (oM prog (.buildSlice 22 5 #[(0,(.tmp 0)),(1,(.tmp 1)),(2,(.tmp 2)),(3,(.tmp 3)),(4,(.tmp 4))]) 22 [v23,v25,v27,v29,v31]) (fun v32 w=>C_9 w ∧ (
 gT v20 (callM prog 135 #[v21,v32]) (fun v33 w=>C_9 w ∧ (
 jP v20 v33 (.bool false) C_9 fun v34=>
 pureH v34 C_9 fun v35=>
 jT v35 (jL 164 v6) C_9 fun v36=>
 jT v35 (jF 26 5 v3) C_9 fun v37=>
 jT v35 (jL 3 v37) C_9 fun v38=>
 gT v35 (oM prog (.buildSlice 22 1 #[(0,(.tmp 0))]) 22 [v38]) (fun v39 w=>C_9 w ∧ (
 gT v35 (callM prog 87 #[v36,(.int .i64 0),v39]) (fun v40 w=>C_9 w ∧ (
 jP v35 v40 (.bool false) C_9 fun v41=>
 kS 164 v4 v13 (fun _ w=>C_9 w ∧ (
 C_9 w ∧ (∃ r_40,(do loadVar 164 (← asAddr v4):Sem Value).run prog w = .ok r_40 w ∧ K (.tuple #[r_40,v41]) w))) w)) w)) w)) w)) w)) w
theorem sh_86_ok (h:sh_86 a0 a1 K w):callM prog 86 #[a0,a1] K w:=
 cZ (fun _=>.tree (.look 0 (.look 1 (.look 2 (.look 3 (.look 4 (.look 5 (.look 6 (.look 7 (.look 8 (.look 9 (.look 10 (.look 11 (.look 12 (.look 13 (.look 14 (.look 15 (.look 16 (.look 17 (.look 18 (.only 19 (.only 20 (.look 21 (.look 22 (.look 23 (.look 24 (.look 25 (.only 26 (.only 27 (.look 28 (.only 29 (.only 30 (.done))))))))))))))))))))))))))))))))) func86 h
def sh_150 (a0 a1:Value) (K:VK) (w:World):Prop:=
 oM prog (.box 50 (.tmp 0)) 0 [a0] (fun v2=>
 oM prog (.box 26 (.tmp 0)) 0 [a1] fun v3=>
 kL 50 v2 fun v8=>
 kL 26 v3 fun v9=>
 callM prog 86 #[v8,v9] fun v10=>
 kE 0 164 v10 fun v11=>
 kE 1 4 v10 fun v12=>
 kA 164 fun v5=>
 kS 164 v5 v11 fun _=>
 K v12) w
theorem sh_150_ok (h:sh_150 a0 a1 K w):callM prog 150 #[a0,a1] K w:=
 cZ (fun _=>2) func150 h
variable {a0 a1 a2:Value} {K:VK} {w:World}
def sh_68 (a0 a1 a2:Value) (K:VK) (w:World):Prop:=
 kB .geq 3 4 a0 a1 (fun v9 w=>
 gT v9 (pureM a0) (fun v11 w=>
 gT v9 (pureM a2) (fun v12 w=>
 gT v9 (kB .leq 3 4 v11 v12) (fun v13=>
 kP v9 v13 (.bool false) fun v14=>
 K v14) w) w) w) w
theorem sh_68_ok (h:sh_68 a0 a1 a2 K w):callM prog 68 #[a0,a1,a2] K w:=
 cZ (fun _=>0) func68 h
def sh_65 (a0:Value) (K:VK) (w:World):Prop:=
 callM prog 68 #[a0,(.int .i64 0),(.int .i64 2147483648)] (fun v4=>
 K v4) w
theorem sh_65_ok (h:sh_65 a0 K w):callM prog 65 #[a0] K w:=
 cZ (fun _=>0) func65 h
def sh_19 (a0:Value) (K:VK) (w:World):Prop:=
 oM prog (.box 41 (.tmp 0)) 0 [a0] (fun v1=>
 kF 41 0 v1 fun v3=>
 kL 3 v3 fun v4=>
 callM prog 68 #[v4,(.int .i64 1),(.int .i64 4096)] fun v5 w=>
 gT v5 (kF 41 1 v1) (fun v7 w=>
 gT v5 (kL 3 v7) (fun v8 w=>
 gT v5 (callM prog 65 #[v8]) (fun v9=>
 kP v5 v9 (.bool false) fun v10 w=>
 gT v10 (kF 41 2 v1) (fun v12 w=>
 gT v10 (kL 3 v12) (fun v13 w=>
 gT v10 (callM prog 68 #[v13,(.int .i64 (-1)),(.int .i64 23)]) (fun v14=>
 kP v10 v14 (.bool false) fun v15=>
 K v15) w) w) w) w) w) w) w
theorem sh_19_ok (h:sh_19 a0 K w):callM prog 19 #[a0] K w:=
 cZ (fun _=>0) func19 h
def sh_20 (a0 a1:Value) (K:VK) (w:World):Prop:=
 oM prog (.box 41 (.tmp 0)) 0 [a0] (fun v2=>
 kL 41 v2 fun v6=>
 callM prog 19 #[v6] fun v7=>
 kU v7 fun v8 w=>
 gF v8 (pureM a1) (fun v10 w=>
 gF v8 (callM prog 65 #[v10]) (fun v11 w=>
 gF v8 (kU v11) (fun v12=>
 kP v8 (.bool true) v12 fun v13=>
 kO v13 (K (.int .i64 (-1)))
 (kF 41 1 v2 fun v15=>
 kL 3 v15 fun v16=>
 kC .eql 3 0 4 v16 fun v17=>
 kO v17 (K (.int .i64 0))
 (kF 41 1 v2 fun v19=>
 kL 3 v19 fun v20=>
 kB .quo 3 3 a1 v20 fun v21=>
 K v21))) w) w) w) w
theorem sh_20_ok (h:sh_20 a0 a1 K w):callM prog 20 #[a0,a1] K w:=
 cZ (fun _=>0) func20 h
def sh_21 (a0 a1:Value) (K:VK) (w:World):Prop:=
 oM prog (.box 41 (.tmp 0)) 0 [a0] (fun v2=>
 kL 41 v2 fun v5=>
 callM prog 19 #[v5] fun v6=>
 kU v6 fun v7 w=>
 gF v7 (pureM a1) (fun v9 w=>
 gF v7 (callM prog 65 #[v9]) (fun v10 w=>
 gF v7 (kU v10) (fun v11=>
 kP v7 (.bool true) v11 fun v12 w=>
 gF v12 (pureM a1) (fun v14 w=>
 gF v12 (kF 41 1 v2) (fun v15 w=>
 gF v12 (kL 3 v15) (fun v16 w=>
 gF v12 (kB .mul 3 3 v14 v16) (fun v17 w=>
 gF v12 (callM prog 65 #[v17]) (fun v18 w=>
 gF v12 (kU v18) (fun v19=>
 kP v12 (.bool true) v19 fun v20=>
 kO v20 (K (.int .i64 (-1)))
 (kF 41 1 v2 fun v22=>
 kL 3 v22 fun v23=>
 kB .mul 3 3 a1 v23 fun v24=>
 K v24)) w) w) w) w) w) w) w) w) w) w
theorem sh_21_ok (h:sh_21 a0 a1 K w):callM prog 21 #[a0,a1] K w:=
 cZ (fun _=>0) func21 h
def sh_42 (a0 a1:Value) (K:VK) (w:World):Prop:=
 oM prog (.box 26 (.tmp 0)) 0 [a0] (fun v2=>
 oM prog (.box 26 (.tmp 0)) 0 [a1] fun v3=>
 kL 26 v2 fun v5=>
 kL 26 v3 fun v6=>
 kB .eql 26 4 v5 v6 fun v7=>
 K v7) w
theorem sh_42_ok (h:sh_42 a0 a1 K w):callM prog 42 #[a0,a1] K w:=
 cZ (fun _=>0) func42 h
def sh_148 (a0 a1:Value) (K:VK) (w:World):Prop:=
 oM prog (.box 3 (.tmp 0)) 0 [a0] (fun v2=>
 oM prog (.makeFunc (Go.Fn.func 186) #[] #[(.tmp 0)]) 128 [v2] fun v6=>
 callM prog 136 #[a1,v6] fun v7=>
 kU v7 fun v8=>
 K v8) w
theorem sh_148_ok (h:sh_148 a0 a1 K w):callM prog 148 #[a0,a1] K w:=
 cZ (fun _=>0) func148 h
def sh_186 (a0 a1:Value) (K:VK) (w:World):Prop:=
 kB .lss 3 4 a0 (.int .i64 0) (fun v5 w=>
 gF v5 (pureM a0) (fun v7 w=>
 gF v5 (kL 3 a1) (fun v8 w=>
 gF v5 (kB .geq 3 4 v7 v8) (fun v9=>
 kP v5 (.bool true) v9 fun v10=>
 K v10) w) w) w) w
theorem sh_186_ok (h:sh_186 a0 a1 K w):callM prog 186 #[a0,a1] K w:=
 cZ (fun _=>0) func186 h
def sh_184 (a0 a1:Value) (K:VK) (w:World):Prop:=
 callM prog 214 #[a0,a1] (fun v7=>
 kB .geq 3 4 v7 (.int .i64 0) fun v8=>
 K v8) w
theorem sh_184_ok (h:sh_184 a0 a1 K w):callM prog 184 #[a0,a1] K w:=
 cZ (fun _=>0) func184 h
def sh_214 (a0 a1:Value) (K:VK) (w:World):Prop:=
 kN 27 a0 (fun v7=>
 kQ [undef,(.int .i64 0),(.int .i64 0)] fun J_2 m_3 l_4 u_l_4 w0_l_4=>(fun w=>(
 kB .lss 3 0 (l_4.getD 2 undef) v7 (fun v9=>
 kO v9 (kI 27 a0 (l_4.getD 2 undef) fun v14=>
 kL 86 v14 fun v15=>
 oM prog (.call (Go.Call.mk (.value (.tmp 0)) #[(.tmp 1)] #[86])) 4 [a1,v15] fun v16=>
 kO v16 (K (l_4.getD 2 undef))
 (kB .add 3 3 (l_4.getD 2 undef) (.int .i64 1) fun v18=>
 kJ J_2 m_3 l_4 w0_l_4 [(l_4.getD 2 undef),(l_4.getD 1 undef),v18]))
 (K (.int .i64 (-1)))) w)) w0_l_4) w
theorem sh_214_ok (h:sh_214 a0 a1 K w):callM prog 214 #[a0,a1] K w:=
 cZ (fun _=>0) func214 h
def sh_147 (a0:Value) (K:VK) (w:World):Prop:=
 kN 27 a0 (fun v4=>
 kB .leq 3 4 v4 (.int .i64 4) fun v5 w=>
 gT v5 (pureM a0) (fun v7 w=>
 gT v5 (callM prog 184 #[v7,(.func (.func 185) #[] #[])]) (fun v8 w=>
 gT v5 (kU v8) (fun v9=>
 kP v5 v9 (.bool false) fun v10=>
 K v10) w) w) w) w
theorem sh_147_ok (h:sh_147 a0 K w):callM prog 147 #[a0] K w:=
 cZ (fun _=>0) func147 h
def sh_185 (a0:Value) (K:VK) (w:World):Prop:=
 oM prog (.box 86 (.tmp 0)) 0 [a0] (fun v1=>
 kF 86 2 v1 fun v3=>
 kL 9 v3 fun v4=>
 kN 9 v4 fun v5=>
 kB .gtr 3 4 v5 (.int .i64 200) fun v6 w=>
 gF v6 (kF 86 1 v1) (fun v8 w=>
 gF v6 (kF 84 1 v8) (fun v9 w=>
 gF v6 (kL 22 v9) (fun v10 w=>
 gF v6 (kN 22 v10) (fun v11 w=>
 gF v6 (kB .gtr 3 4 v11 (.int .i64 7)) (fun v12=>
 kP v6 (.bool true) v12 fun v13=>
 K v13) w) w) w) w) w) w
theorem sh_185_ok (h:sh_185 a0 K w):callM prog 185 #[a0] K w:=
 cZ (fun _=>0) func185 h
def sh_78 (a0 a1:Value) (K:VK) (w:World):Prop:=
 callM prog 126 #[a0,a1] (fun v7=>
 kB .geq 3 4 v7 (.int .i64 0) fun v8=>
 K v8) w
theorem sh_78_ok (h:sh_78 a0 a1 K w):callM prog 78 #[a0,a1] K w:=
 cZ (fun _=>0) func78 h
def sh_126 (a0 a1:Value) (K:VK) (w:World):Prop:=
 kN 51 a0 (fun v7=>
 kQ [undef,(.int .i64 0),(.int .i64 0)] fun J_2 m_3 l_4 u_l_4 w0_l_4=>(fun w=>(
 kB .lss 3 0 (l_4.getD 2 undef) v7 (fun v9=>
 kO v9 (kI 51 a0 (l_4.getD 2 undef) fun v14=>
 kL 41 v14 fun v15=>
 oM prog (.call (Go.Call.mk (.value (.tmp 0)) #[(.tmp 1)] #[41])) 4 [a1,v15] fun v16=>
 kO v16 (K (l_4.getD 2 undef))
 (kB .add 3 3 (l_4.getD 2 undef) (.int .i64 1) fun v18=>
 kJ J_2 m_3 l_4 w0_l_4 [(l_4.getD 2 undef),(l_4.getD 1 undef),v18]))
 (K (.int .i64 (-1)))) w)) w0_l_4) w
theorem sh_126_ok (h:sh_126 a0 a1 K w):callM prog 126 #[a0,a1] K w:=
 cZ (fun _=>0) func126 h
def sh_154 (a0 a1:Value) (K:VK) (w:World):Prop:=
 callM prog 121 #[a0,a1] (fun v7=>
 kB .geq 3 4 v7 (.int .i64 0) fun v8=>
 K v8) w
theorem sh_154_ok (h:sh_154 a0 a1 K w):callM prog 154 #[a0,a1] K w:=
 cZ (fun _=>0) func154 h
def sh_121 (a0 a1:Value) (K:VK) (w:World):Prop:=
 kN 59 a0 (fun v7=>
 kQ [undef,(.int .i64 0),(.int .i64 0)] fun J_2 m_3 l_4 u_l_4 w0_l_4=>(fun w=>(
 kB .lss 3 0 (l_4.getD 2 undef) v7 (fun v9=>
 kO v9 (kI 59 a0 (l_4.getD 2 undef) fun v14=>
 kL 67 v14 fun v15=>
 oM prog (.call (Go.Call.mk (.value (.tmp 0)) #[(.tmp 1)] #[67])) 4 [a1,v15] fun v16=>
 kO v16 (K (l_4.getD 2 undef))
 (kB .add 3 3 (l_4.getD 2 undef) (.int .i64 1) fun v18=>
 kJ J_2 m_3 l_4 w0_l_4 [(l_4.getD 2 undef),(l_4.getD 1 undef),v18]))
 (K (.int .i64 (-1)))) w)) w0_l_4) w
theorem sh_121_ok (h:sh_121 a0 a1 K w):callM prog 121 #[a0,a1] K w:=
 cZ (fun _=>0) func121 h
end Go.Proofs
namespace FdSpec
def okN (n:Int):Prop:=1 ≤ n ∧ n < 2305843009213693952
instance (n:Int):Decidable (okN n):=inferInstanceAs (Decidable (_ ∧ _))
def addM (n a b:Int):Int:=if okN n then (a + b) % n else 0
def subM (n a b:Int):Int:=if okN n then (a - b) % n else 0
def mulM (n a b:Int):Int:=if okN n then a * b % n else 0
def pw (n a:Int) (b:Nat):Int:=a ^ b % n
def euc (n:Int):Nat → Int → Int → Int → Int → Int × Int
 | 0,r,_,x,_=>(r,x)
 | k + 1,r,s,x,y=>if s = 0 then (r,x) else euc n k s (r % s) y (subM n x (mulM n (r / s) y))
def eucAll (n r s x y:Int):Int × Int:=euc n (s.toNat + 1) r s x y
def invM (n a:Int):Option Int:=if okN n then (if (eucAll n n (a % n) 0 1).1 = 1 then some ((eucAll n n (a % n) 0 1).2 % n) else none) else none
def powM (n a b:Int):Int:=
 if okN n then (if 0 ≤ b then pw n a b.toNat else match invM n a with | some x=>pw n x (-b).toNat | none=>0) else 0
theorem euc_zero (n:Int) (k:Nat) (r x y:Int):euc n k r 0 x y = (r,x):=by
 cases k <;> simp [euc]
theorem euc_more (n:Int) (k:Nat) (r s x y:Int) (hs:0 ≤ s) (hk:s.toNat + 1 ≤ k):euc n k r s x y = eucAll n r s x y:=by
 unfold eucAll
 induction k using Nat.strongRecOn generalizing r s x y with
 | _ k ih=>
  cases k with
  | zero=>omega
  | succ k=>
   by_cases h0:s = 0
   ·subst h0; simp [euc]
   ·have h1:=Int.emod_nonneg r h0
    have h2:=Int.emod_lt_of_pos r (b:=s) (by omega)
    have e1:euc n (k + 1) r s x y = euc n k s (r % s) y (subM n x (mulM n (r / s) y)):=by
     rw [euc,if_neg h0]
    have e2:euc n (s.toNat + 1) r s x y = euc n s.toNat s (r % s) y (subM n x (mulM n (r / s) y)):=by
     rw [euc,if_neg h0]
    rw [e1,e2]
    have h3:(r % s).toNat + 1 ≤ s.toNat:=by omega
    rw [ih k (by omega) s (r % s) _ _ h1 (by omega)]
    by_cases hks:s.toNat = k
    ·rw [hks,ih k (by omega) s (r % s) _ _ h1 (by omega)]
    ·rw [ih s.toNat (by omega) s (r % s) _ _ h1 h3]
theorem euc_step (n r s x y:Int) (hs:0 < s):eucAll n r s x y = eucAll n s (r % s) y (subM n x (mulM n (r / s) y)):=by
 have h1:=Int.emod_nonneg r (b:=s) (by omega)
 have h2:=Int.emod_lt_of_pos r (b:=s) hs
 rw [← euc_more n s.toNat s (r % s) _ _ h1 (by omega)]
 unfold eucAll
 rw [euc,if_neg (by omega)]
def tz:Nat → Nat → Nat
 | 0,_=>0
 | k + 1,m=>if m % 2 = 0 then tz k (m / 2) + 1 else 0
def mrUp (n:Int):Nat → Int → Bool
 | 0,_=>false
 | k + 1,x=>if x = n - 1 then true else mrUp n k (x * x % n)
def passes (n b:Int):Bool:=
 let k:=tz 64 (n - 1).toNat
 let x:=pw n b ((n - 1).toNat / 2 ^ k)
 if x = 1 then true else mrUp n k x
def smallP:List Int:=[2,3,5,7,11,13,17,19,23,29,31,37]
def primeM (n:Int):Bool:=
 if n < 2 ∨ 2305843009213693952 ≤ n then false
 else match smallP.find? (fun p=>decide (n % p = 0)) with
  | some p=>decide (n = p)
  | none=>smallP.all (fun p=>passes n p)
structure Grp where
 P:Int
 Q:Int
 G:Int
deriving DecidableEq
def validG (g:Grp):Bool:=
 if g.Q < 5 ∨ 1152921504606846976 ≤ g.Q ∨ g.P ≠ 2 * g.Q + 1 ∨ g.G < 2 ∨ g.P ≤ g.G then false
 else primeM g.Q && primeM g.P && decide (pw g.P g.G g.Q.toNat = 1)
def elemG (g:Grp) (x:Int):Bool:=decide (1 ≤ x) && decide (x < g.P) && validG g && decide (pw g.P x g.Q.toNat = 1)
def powerG (g:Grp) (x k:Int):Int:=if okN g.P ∧ okN g.Q then pw g.P x (k % g.Q).toNat else 0
def timesG (g:Grp) (a b:Int):Int:=if okN g.Q then mulM g.P a b else 0
def overG (g:Grp) (a b:Int):Int:=timesG g a (powM g.P b (-1))
def prodL (g:Grp):Int → List (Int × Int) → Int
 | out,[]=>out
 | out,(b,e) :: l=>prodL g (mulM g.P out (powerG g b e)) l
def prodG (g:Grp) (bases exps:List Int):Int × Bool:=
 if okN g.P ∧ okN g.Q ∧ bases.length = exps.length then (prodL g (1 % g.P) (bases.zip exps),true) else (0,false)
end FdSpec
namespace FdSpec
theorem emod_pow (a n:Int) (k:Nat):(a % n) ^ k % n = a ^ k % n:=by
 induction k with
 | zero=>rw [Int.pow_zero,Int.pow_zero]
 | succ k ih=>rw [Int.pow_succ,Int.pow_succ,Int.mul_emod,ih,Int.emod_emod_of_dvd a (Int.dvd_refl n),← Int.mul_emod]
theorem pow_half (a:Int) (b:Nat):a ^ b = (a * a) ^ (b / 2) * a ^ (b % 2):=by
 have h1:b = 2 * (b / 2) + b % 2:=(Nat.div_add_mod b 2).symm
 have h2:∀ k,a ^ (2 * k) = (a * a) ^ k:=by
  intro k
  induction k with
  | zero=>rw [Nat.mul_zero,Int.pow_zero,Int.pow_zero]
  | succ k ih=>rw [Nat.mul_succ,Int.pow_succ,Int.pow_succ,Int.pow_succ,ih,Int.mul_assoc]
 conv=>lhs; rw [h1]
 rw [Int.pow_add,h2]
theorem pw_even (n a out:Int) (b:Nat) (hb:b % 2 = 0):out * (a * a % n) ^ (b / 2) % n = out * a ^ b % n:=by
 rw [pow_half a b,hb,Int.pow_zero,Int.mul_one,Int.mul_emod,emod_pow,← Int.mul_emod]
theorem pw_odd (n a out:Int) (b:Nat) (hb:b % 2 = 1):out * a % n * (a * a % n) ^ (b / 2) % n = out * a ^ b % n:=by
 have e:a ^ (1:Nat) = a:=by rw [show (1:Nat) = 0 + 1 from rfl,Int.pow_succ,Int.pow_zero,Int.one_mul]
 rw [pow_half a b,hb,e,Int.mul_emod,Int.emod_emod_of_dvd _ (Int.dvd_refl n),emod_pow,← Int.mul_emod]
 congr 1
 rw [Int.mul_comm ((a * a) ^ (b / 2)) a,← Int.mul_assoc]
theorem pw_emod (n a:Int) (b:Nat):pw n (a % n) b = pw n a b:=emod_pow a n b
theorem pw_nonneg (n a:Int) (b:Nat) (hn:0 < n):0 ≤ pw n a b ∧ pw n a b < n:=⟨Int.emod_nonneg _ (by omega),Int.emod_lt_of_pos _ hn⟩
theorem tz_lt (k m:Nat) (hm:0 < m) (h:m < 2 ^ k):tz k m < k ∧ ∃ j,m = 2 ^ tz k m * (2 * j + 1):=by
 induction k generalizing m with
 | zero=>omega
 | succ k ih=>
  unfold tz
  split
  ·rename_i h2
   obtain ⟨h3,j,h4⟩:=ih (m / 2) (by omega) (by rw [Nat.pow_succ] at h; omega)
   refine ⟨by omega,j,?_⟩
   have h5:m = 2 * (m / 2):=by omega
   rw [Nat.pow_succ,Nat.mul_comm (2 ^ _) 2,Nat.mul_assoc,← h4]
   exact h5
  ·exact ⟨by omega,m / 2,by rw [Nat.pow_zero]; omega⟩
theorem addM_eq (n a b:Int) (hn:okN n):(a % n + b % n) % n = addM n a b:=by
 rw [addM,if_pos hn,← Int.add_emod]
theorem subM_eq (n a b:Int) (hn:okN n):(a % n + n - b % n) % n = subM n a b:=by
 rw [subM,if_pos hn,Int.sub_emod,Int.add_emod,Int.emod_self,Int.add_zero,Int.emod_emod_of_dvd _ (Int.dvd_refl n),Int.emod_emod_of_dvd _ (Int.dvd_refl n),Int.emod_emod_of_dvd _ (Int.dvd_refl n),← Int.sub_emod]
theorem mulM_eq (n a b:Int) (hn:okN n):a % n * (b % n) % n = mulM n a b:=by
 rw [mulM,if_pos hn,← Int.mul_emod]
theorem mulM_range (n a b:Int) (hn:okN n):0 ≤ mulM n a b ∧ mulM n a b < n:=by
 rw [mulM,if_pos hn]; exact ⟨Int.emod_nonneg _ (by have:=hn.1; omega),Int.emod_lt_of_pos _ (by have:=hn.1; omega)⟩
theorem subM_range (n a b:Int) (hn:okN n):0 ≤ subM n a b ∧ subM n a b < n:=by
 rw [subM,if_pos hn]; exact ⟨Int.emod_nonneg _ (by have:=hn.1; omega),Int.emod_lt_of_pos _ (by have:=hn.1; omega)⟩
theorem addM_range (n a b:Int) (hn:okN n):0 ≤ addM n a b ∧ addM n a b < n:=by
 rw [addM,if_pos hn]; exact ⟨Int.emod_nonneg _ (by have:=hn.1; omega),Int.emod_lt_of_pos _ (by have:=hn.1; omega)⟩
theorem residue_eq (n a:Int) (hn:0 < n):(if a.tmod n < 0 then a.tmod n + n else a.tmod n) = a % n:=by
 have h1:=Int.emod_nonneg a (b:=n) (by omega)
 have h2:=Int.emod_lt_of_pos a hn
 have h3:=Int.tmod_add_mul_tdiv a n
 have h4:=Int.emod_add_mul_ediv a n
 have h5:a.tmod n < n:=by have:=Int.tmod_lt_of_pos a hn; omega
 have h6:-n < a.tmod n:=by
  have:=Int.lt_tmod_of_pos a hn
  omega
 have h7:n ∣ a.tmod n - a % n:=by
  refine ⟨a / n - a.tdiv n,?_⟩
  rw [Int.mul_sub]; omega
 obtain ⟨k,hk⟩:=h7
 have hk2:k = 0 ∨ k = -1 ∨ 1 ≤ k ∨ k ≤ -2:=by omega
 rcases hk2 with rfl | rfl | hk2 | hk2
 ·simp at hk; split <;> omega
 ·rw [Int.mul_neg,Int.mul_one] at hk; split <;> omega
 ·have:=Int.mul_le_mul_of_nonneg_left hk2 (by omega:0 ≤ n); omega
 ·have:=Int.mul_le_mul_of_nonneg_left hk2 (by omega:0 ≤ n); omega
end FdSpec
namespace FdSpec
structure Digit (h l u d q r:Nat):Prop where
 sum:q * h + r = u
 up:u * 4294967296 + d < (q + 1) * (h * 4294967296 + l)
 le:q ≤ 4294967297
section
variable {h l u d q r:Nat}
theorem digit_start (hh:2147483648 ≤ h) (hh2:h < 4294967296) (hl:l < 4294967296) (hd:d < 4294967296) (hu:u < h * 4294967296 + l):Digit h l u d (u / h) (u - u / h * h):=by
 have h1:u / h * h ≤ u:=Nat.div_mul_le_self u h
 have h2:u < (u / h + 1) * h:=by rw [Nat.add_mul,Nat.one_mul]; have:=Nat.mod_lt u (show h > 0 by omega); have:=Nat.div_add_mod u h; rw [Nat.mul_comm] at this; omega
 have h3:u / h < 4294967298:=by
  rw [Nat.div_lt_iff_lt_mul (by omega)]
  omega
 refine ⟨by omega,?_,by omega⟩
 have h4:(u + 1) * 4294967296 ≤ (u / h + 1) * h * 4294967296:=Nat.mul_le_mul_right _ h2
 have h5:(u / h + 1) * (h * 4294967296 + l) = (u / h + 1) * h * 4294967296 + (u / h + 1) * l:=by rw [Nat.mul_add,Nat.mul_assoc]
 rw [h5]
 omega
theorem digit_test (D:Digit h l u d q r):(4294967296 * r + d < q * l) ↔ u * 4294967296 + d < q * (h * 4294967296 + l):=by
 have h5:q * (h * 4294967296 + l) = q * h * 4294967296 + q * l:=by rw [Nat.mul_add,Nat.mul_assoc]
 have:=D.sum
 rw [h5]
 generalize q * h = a at *
 generalize q * l = b at *
 omega
theorem digit_big (hu:u < h * 4294967296 + l) (hd:d < 4294967296) (hq:4294967296 ≤ q):u * 4294967296 + d < q * (h * 4294967296 + l):=by
 have h1:4294967296 * (h * 4294967296 + l) ≤ q * (h * 4294967296 + l):=Nat.mul_le_mul_right _ hq
 have h2:(u + 1) * 4294967296 ≤ (h * 4294967296 + l) * 4294967296:=Nat.mul_le_mul_right _ hu
 omega
theorem digit_pos (D:Digit h l u d q r) (ht:u * 4294967296 + d < q * (h * 4294967296 + l)):0 < q:=by
 rcases Nat.eq_zero_or_pos q with rfl | h
 ·simp at ht
 ·exact h
theorem digit_step (D:Digit h l u d q r) (ht:u * 4294967296 + d < q * (h * 4294967296 + l)):Digit h l u d (q - 1) (r + h):=by
 have hq:=digit_pos D ht
 have:=D.sum
 refine ⟨?_,?_,by have:=D.le; omega⟩
 ·obtain ⟨p,rfl⟩:∃ p,q = p + 1:=⟨q - 1,by omega⟩
  rw [Nat.add_mul] at this
  simp only [Nat.add_sub_cancel]
  omega
 ·rw [show q - 1 + 1 = q by omega]; exact ht
theorem digit_end (D:Digit h l u d q r) (ht:¬ u * 4294967296 + d < q * (h * 4294967296 + l)):q = (u * 4294967296 + d) / (h * 4294967296 + l):=
 (Nat.div_eq_of_lt_le (by omega) D.up).symm
theorem digit_break (D:Digit h l u d q r) (hl:l < 4294967296) (hq:q ≤ 4294967296) (hr:4294967296 ≤ r):¬ u * 4294967296 + d < q * (h * 4294967296 + l):=by
 rw [← digit_test D]
 have h1:q * l ≤ 4294967296 * 4294967295:=Nat.mul_le_mul hq (by omega)
 omega
end
theorem div_total (x y s:Nat):x * 2 ^ s % (y * 2 ^ s) / 2 ^ s = x % y:=by
 rw [Nat.mul_mod_mul_right,Nat.mul_div_cancel _ (Nat.pow_pos (by omega))]
theorem two_digits (N d y:Nat):(N * 4294967296 + d) % y = ((N % y) * 4294967296 + d) % y:=by
 have h:N * 4294967296 % y = N % y * 4294967296 % y:=by simp
 rw [Nat.add_mod,h,← Nat.add_mod]
theorem split32 (X D:Nat):(X * 4294967296 + D / 4294967296) * 4294967296 + D % 4294967296 = X * 18446744073709551616 + D:=by
 rw [Nat.add_mul,Nat.mul_assoc,Nat.add_assoc,Nat.mul_comm (D / 4294967296),Nat.div_add_mod]
theorem norm_gen (a c M y s:Nat) (h:a * 4294967296 + c = M * 2 ^ s):(a % (y * 2 ^ s) * 4294967296 + c) % (y * 2 ^ s) / 2 ^ s = M % y:=by
 have t:=two_digits a c (y * 2 ^ s)
 have u:=div_total M y s
 rw [h] at t
 rw [← t,u]
theorem norm_rest (hi lo y s X D:Nat) (hN:X * 18446744073709551616 + D = (hi * 18446744073709551616 + lo) * 2 ^ s):(((X * 4294967296 + D / 4294967296) % (y * 2 ^ s)) * 4294967296 + D % 4294967296) % (y * 2 ^ s) / 2 ^ s = (hi * 18446744073709551616 + lo) % y:=by
 rw [← split32 X D] at hN
 exact norm_gen _ _ _ y s hN
end FdSpec
namespace Go.Sh
open Go Go.RowKit
section
variable {P:Program} {K:VK} {w:World}
@[go_sem] theorem oM_lookup (t T:TypeId) (x i:Value):oM P (.lookup t (.tmp 0) (.tmp 1) false) T [x,i] K w = rM ((Instr.lookup t x i false).run P w) K:=rM_of rfl
@[go_sem] theorem oM_mapUpdate (t T:TypeId) (m k x:Value):oM P (.mapUpdate t (.tmp 0) (.tmp 1) (.tmp 2)) T [m,k,x] K w = uM ((Instr.mapUpdate t m k x).run P w) K:=by
 rw [oM_unit (S:=Instr.mapUpdate t m k x) rfl]
@[go_sem] theorem oM_mapEntry (t T:TypeId) (m k:Value):oM P (.mapEntry t (.tmp 0) (.tmp 1)) T [m,k] K w = rM ((Instr.mapEntry t m k).run P w) K:=rM_of rfl
@[go_sem] theorem oM_entryStore (t T:TypeId) (m s x:Value):oM P (.entryStore t (.tmp 0) (.tmp 1) (.tmp 2)) T [m,s,x] K w = uM ((Instr.entryStore t m s x).run P w) K:=by
 rw [oM_unit (S:=Instr.entryStore t m s x) rfl]
@[go_sem] theorem oM_makeMap (t T:TypeId):oM P (.makeMap t none) T [] K w = K (.map (some w.heap.size)) (w.alloc (.map #[] 0)):=by
 rw [rM_of (S:=Instr.makeMap t none) rfl,run_makeMap]
 rfl
@[go_sem] theorem oM_range (t T:TypeId) (x:Value):oM P (.range t (.tmp 0)) T [x] K w = rM ((Instr.range t x).run P w) K:=rM_of rfl
@[go_sem] theorem oM_next (T:TypeId) (s:Bool) (x:Value):oM P (.next (.tmp 0) s) T [x] K w = rM ((Instr.next x s T).run P w) K:=rM_of rfl
@[go_sem] theorem oM_entry (T:TypeId) (x:Value):oM P (.entry (.tmp 0)) T [x] K w = rM ((Instr.entry x).run P w) K:=rM_of rfl
@[go_sem] theorem oM_delete (T:TypeId) (ts:Array TypeId) (x y:Value):oM P (.call { callee:=.builtin .delete,args:=#[.tmp 0,.tmp 1],argTypes:=ts }) T [x,y] K w = rM ((Builtin.delete_ ts T #[x,y]).run P w) K:=
 rM_of (by simp [xop,execOp,evalL,evE,resolve,invoke,builtin])
@[go_sem] theorem oM_clear (T:TypeId) (ts:Array TypeId) (x:Value):oM P (.call { callee:=.builtin .clear,args:=#[.tmp 0],argTypes:=ts }) T [x] K w = rM ((Builtin.clear_ ts T #[x]).run P w) K:=
 rM_of (by simp [xop,execOp,evalL,evE,resolve,invoke,builtin])
@[go_sem] theorem oM_copy (T:TypeId) (ts:Array TypeId) (x y:Value):oM P (.call { callee:=.builtin .copy,args:=#[.tmp 0,.tmp 1],argTypes:=ts }) T [x,y] K w = rM ((Builtin.copy_ ts T #[x,y]).run P w) K:=
 rM_of (by simp [xop,execOp,evalL,evE,resolve,invoke,builtin])
theorem oM_append (T:TypeId) (ts:Array TypeId) (x y:Value):oM P (.call { callee:=.builtin .append,args:=#[.tmp 0,.tmp 1],argTypes:=ts }) T [x,y] K w = rM ((Builtin.append_ ts T #[x,y]).run P w) K:=
 rM_of (by simp [xop,execOp,evalL,evE,resolve,invoke,builtin])
@[go_sem] theorem oM_makeSlice (t T:TypeId) (x y:Value):oM P (.makeSlice t (.tmp 0) (.tmp 1)) T [x,y] K w = rM ((Instr.makeSlice t x y).run P w) K:=rM_of rfl
@[go_sem] theorem oM_typeAssert (t u T:TypeId) (x:Value):oM P (.typeAssert (.tmp 0) t u false) T [x] K w = rM ((Instr.typeAssert x t u false).run P w) K:=rM_of rfl
@[go_sem] theorem oM_makeInterface (t T:TypeId) (x:Value):oM P (.makeInterface t (.tmp 0)) T [x] K w = rM ((Instr.makeInterface t x).run P w) K:=rM_of rfl
@[go_sem] theorem oM_buildSlice0 (T t:Nat) (n:Nat):oM P (.buildSlice t n #[]) T [] K w = rM ((Instr.buildSlice t n #[]).run P w) K:=rM_of (by simp [xop,execOp,evalL,evE])
theorem oM_sliceFrom (t T:TypeId) (x i:Value):oM P (.slice t (.tmp 0) (some (.tmp 1)) none none) T [x,i] K w = rM ((Instr.sliceAt t x (some i) none none).run P w) K:=rM_of rfl
theorem oM_sliceTo (t T:TypeId) (x i:Value):oM P (.slice t (.tmp 0) none (some (.tmp 1)) none) T [x,i] K w = rM ((Instr.sliceAt t x none (some i) none).run P w) K:=rM_of rfl
theorem low_bits (n:Nat) (hn:n < 60) (x:Int):IntKind.i64.wrap ((BitVec.ofInt 64 x &&& BitVec.ofInt 64 (2 ^ n - 1)).toNat:Int) = x % 2 ^ n:=by
 have hp:(0:Int) < 2 ^ n:=Int.pow_pos (by omega)
 have hp':(2:Nat) ^ n ≤ 2 ^ 59:=Nat.pow_le_pow_right (by omega) (by omega)
 have hpc:((2:Int) ^ n) = ((2 ^ n:Nat):Int):=by simp
 have hb:(BitVec.ofInt 64 (2 ^ n - 1)).toNat = 2 ^ n - 1:=by
  rw [BitVec.toNat_ofInt,hpc]
  omega
 have ha:(BitVec.ofInt 64 x).toNat = (x % 2 ^ 64).toNat:=by rw [BitVec.toNat_ofInt]; rfl
 rw [BitVec.toNat_and,hb,ha,Nat.and_two_pow_sub_one_eq_mod]
 have hdv:((2:Int) ^ n) ∣ 2 ^ 64:=⟨2 ^ (64 - n),by rw [← Int.pow_add]; congr 1; omega⟩
 have h1:(((x % 2 ^ 64).toNat % 2 ^ n:Nat):Int) = x % 2 ^ n:=by
  rw [Int.natCast_emod,Int.toNat_of_nonneg (Int.emod_nonneg _ (by omega)),← hpc,Int.emod_emod_of_dvd _ hdv]
 rw [h1]
 have h2:=Int.emod_nonneg x (b:=2 ^ n) (by omega)
 have h3:=Int.emod_lt_of_pos x hp
 exact wrapI64 _ (by omega) (by omega)
theorem oM_low (n:Nat) (hn:n < 60) (t t' T:TypeId) (x m:Int) (hm:m = 2 ^ n - 1):oM P (.binOp .and t (.tmp 0) (.tmp 1) t') T [.int .i64 x,.int .i64 m] K w = K (.int .i64 (x % 2 ^ n)) w:=by
 subst hm
 rw [← low_bits n hn x]
 exact oM_of_run rfl
@[go_sem] theorem oM_and1 (t t' T:TypeId) (x:Int):oM P (.binOp .and t (.tmp 0) (.tmp 1) t') T [.int .i64 x,.int .i64 1] K w = K (.int .i64 (x % 2)) w:=oM_low 1 (by omega) t t' T x 1 rfl
@[go_sem] theorem oM_and3 (t t' T:TypeId) (x:Int):oM P (.binOp .and t (.tmp 0) (.tmp 1) t') T [.int .i64 x,.int .i64 3] K w = K (.int .i64 (x % 4)) w:=oM_low 2 (by omega) t t' T x 3 rfl
@[go_sem] theorem oM_and7 (t t' T:TypeId) (x:Int):oM P (.binOp .and t (.tmp 0) (.tmp 1) t') T [.int .i64 x,.int .i64 7] K w = K (.int .i64 (x % 8)) w:=oM_low 3 (by omega) t t' T x 7 rfl
end
end Go.Sh
namespace Go.Sh
open Go Go.RowKit
section
variable {w:World} {B:Nat} {e:TypeId} {sz:Nat} {v:Value} {n:Nat} {xs:List Value}
theorem owns_cells (h:w.ownsRow B e sz v n xs) (hn:0 < n):∃ g cap cur,v = .slice (some ⟨g,0,none⟩) n cap ∧ g < w.heap.size ∧ B ≤ g ∧ w.heap[g]? = some (.cells cur e (0,0)) ∧ cur.size = cap * sz ∧ n ≤ cap ∧ ∀ (k:Nat) (x:Value),xs[k]? = some x → w.cell? ⟨g,k,none⟩ = some x:=by
 rcases h.2 with ⟨_,h0⟩ | ⟨g,cap,cur,hv,hb,hg,hc,hm,hs,ht⟩
 ·omega
 ·refine ⟨g,cap,cur,hv,(Array.getElem?_eq_some_iff.1 hg).1,hb,hg,hs,hc,fun k x hk=>?_⟩
  have hlt:k < n * sz:=by have:=(gS hk).1; rw [h.1] at this; exact this
  rw [← ht,List.getElem?_take_of_lt hlt] at hk
  unfold World.cell?
  rw [hg]
  simpa using hk
theorem owns_own (h:w.ownsRow B e sz v n xs) {i:Nat} (hi:v.ownBlock = some i):i < w.heap.size ∧ B ≤ i ∧ ∃ cur,w.heap[i]? = some (.cells cur e (0,0)):=by
 rcases h.2 with ⟨rfl,h0⟩ | ⟨g,cap,cur,rfl,hb,hg,hc,hm,hs,ht⟩
 ·cases hi
 ·cases hi
  exact ⟨(Array.getElem?_eq_some_iff.1 hg).1,hb,cur,hg⟩
theorem owns_keep {w':World} (h:w.ownsRow B e sz v n xs) (hk:∀ i,v.ownBlock = some i → w'.heap[i]? = w.heap[i]?):w'.ownsRow B e sz v n xs:=by
 refine ⟨h.1,?_⟩
 rcases h.2 with h0 | ⟨g,cap,cur,rfl,hb,hg,hr⟩
 ·exact .inl h0
 ·exact .inr ⟨g,cap,cur,rfl,hb,by rw [hk g rfl]; exact hg,hr⟩
theorem owns_len (h:w.ownsRow B e sz v n xs):∃ a c,v = .slice a n c:=by
 rcases h.2 with ⟨rfl,rfl⟩ | ⟨g,cap,cur,rfl,_⟩
 ·exact ⟨none,0,rfl⟩
 ·exact ⟨_,cap,rfl⟩
end
def flat {α:Type} (mk:α → List Value) (l:List α):List Value:=l.flatMap mk
section
variable {α:Type} {mk:α → List Value} {sz:Nat}
theorem flat_cons (x:α) (l:List α):flat mk (x :: l) = mk x ++ flat mk l:=rfl
theorem flat_append (l m:List α):flat mk (l ++ m) = flat mk l ++ flat mk m:=by simp [flat]
theorem flat_snoc (l:List α) (x:α):flat mk (l ++ [x]) = flat mk l ++ mk x:=by simp [flat]
theorem flat_length (hm:∀ x,(mk x).length = sz) (l:List α):(flat mk l).length = l.length * sz:=by
 induction l with
 | nil=>simp [flat]
 | cons x l ih=>rw [flat_cons,List.length_append,hm,ih,List.length_cons,Nat.succ_mul,Nat.add_comm]
theorem flat_at (hm:∀ x,(mk x).length = sz) (l:List α) (i j:Nat) {x:α} (hi:l[i]? = some x) (hj:j < sz):(flat mk l)[i * sz + j]? = (mk x)[j]?:=by
 induction l generalizing i with
 | nil=>simp at hi
 | cons y l ih=>
  rw [flat_cons]
  cases i with
  | zero=>
   simp only [List.getElem?_cons_zero,Option.some.injEq] at hi
   subst hi
   rw [Nat.zero_mul,Nat.zero_add,List.getElem?_append_left (by rw [hm]; exact hj)]
  | succ i=>
   simp only [List.getElem?_cons_succ] at hi
   rw [Nat.succ_mul,List.getElem?_append_right (by rw [hm]; omega),hm,← ih i hi]
   congr 1
   omega
end
structure Fr (S:Nat → Prop) (w w':World):Prop where
 os:w'.os = w.os
 tape:w'.tape = w.tape
 output:w'.output = w.output
 size:w.heap.size ≤ w'.heap.size
 block:∀ i,i < w.heap.size → ¬ S i → w'.heap[i]? = w.heap[i]?
section
variable {S S':Nat → Prop} {w w1 w2:World}
theorem Fr.refl (S:Nat → Prop) (w:World):Fr S w w:=⟨rfl,rfl,rfl,rL,fun _ _ _=>rfl⟩
theorem Fr.trans (h:Fr S w w1) (k:Fr S' w1 w2) (hs:∀ i,S' i → S i ∨ w.heap.size ≤ i):Fr S w w2:=
 ⟨k.os.trans h.os,k.tape.trans h.tape,k.output.trans h.output,Nat.le_trans h.size k.size,fun i hi hn=>(k.block i (lL hi h.size) (fun hx=>(hs i hx).elim hn (by omega))).trans (h.block i hi hn)⟩
theorem Fr.by (h:Fr S w w1) {b:Option Nat} (k:w1.grownBy w2 b) (hs:∀ i,b = some i → S i ∨ w.heap.size ≤ i):Fr S w w2:=
 ⟨k.os.trans h.os,k.tape.trans h.tape,k.output.trans h.output,Nat.le_trans h.size k.size,fun i hi hn=>(k.block i (lL hi h.size) (fun hx=>(hs i hx.symm).elim hn (by omega))).trans (h.block i hi hn)⟩
theorem Fr.none_by (h:Fr S w w1) (k:w1.grownBy w2 none):Fr S w w2:=h.by k (fun _ h=>by cases h)
theorem Fr.alloc (h:Fr S w w1) (o:Obj):Fr S w (w1.alloc o):=h.none_by (World.grownBy_alloc w1 o none)
theorem Fr.drew (h:Fr S w w1):Fr S w { w1 with drawn:=w1.drawn + 1 }:=⟨h.os,h.tape,h.output,h.size,h.block⟩
theorem Fr.mono (h:Fr S w w1) (hs:∀ i,i < w.heap.size → S i → S' i):Fr S' w w1:=⟨h.os,h.tape,h.output,h.size,fun i hi hn=>h.block i hi (fun hx=>hn (hs i hi hx))⟩
theorem setCell_heap_ne (w:World) (a:Addr) (u:Value) (i:Nat) (h:i ≠ a.block):(w.setCell a u).heap[i]? = w.heap[i]?:=by
 simp only [World.setCell,Array.getElem?_modify]
 rw [if_neg (Ne.symm h)]
theorem grown_setCell (w:World) (a:Addr) (u:Value):w.grownBy (w.setCell a u) (some a.block):=
 ⟨rfl,rfl,rfl,by simp [World.setCell],fun i _ hi=>setCell_heap_ne w a u i (fun e=>hi (by rw [e]))⟩
theorem Fr.set (h:Fr S w w1) (a:Addr) (u:Value) (hs:S a.block ∨ w.heap.size ≤ a.block):Fr S w (w1.setCell a u):=h.by (grown_setCell w1 a u) (fun i e=>by cases e; exact hs)
end
theorem cell_of_block {w:World} {b:Nat} {cs:Array Value} {T:TypeId} {f:Nat × Nat} (h:w.heap[b]? = some (.cells cs T f)) (i:Nat):w.cell? ⟨b,i,none⟩ = cs[i]?:=by
 simp [World.cell?,h]
theorem frozen_of_block {w:World} {b:Nat} {cs:Array Value} {T:TypeId} (h:w.heap[b]? = some (.cells cs T (0,0))) (i:Nat):w.frozen? ⟨b,i,none⟩ = false:=by
 simp [World.frozen?,h]
theorem block_set {w:World} {b i:Nat} {cs:Array Value} {T:TypeId} {f:Nat × Nat} (h:w.heap[b]? = some (.cells cs T f)) (u:Value):(w.setCell ⟨b,i,none⟩ u).heap[b]? = some (.cells (cs.setIfInBounds i u) T f):=by
 simp [World.setCell,Array.getElem?_modify,h]
end Go.Sh
namespace Go.Sh
open Go Go.RowKit
section
variable {P:Program} {w:World} {K:VK}
theorem owns_base {B C:Nat} {e:TypeId} {sz:Nat} {v:Value} {n:Nat} {xs:List Value} (h:w.ownsRow B e sz v n xs) (hc:C ≤ B):w.ownsRow C e sz v n xs:=
 ⟨h.1,h.2.imp id (fun ⟨g,cap,cur,a,b,r⟩=>⟨g,cap,cur,a,Nat.le_trans hc b,r⟩)⟩
theorem run_append_more (t ty e:TypeId) (i:TypeInfo) (z:Value) (size bytes:Nat) (ht:P.underlying t = some (.slice e)) (hi:P.info? e = some i) (hz:i.zero = some z)
  (hsize:i.size = size) (hby:i.bytes = bytes) (hzs:z.cells.size = size) (hsz:0 < size)
  (v:Value) (n:Nat) (xs:List Value) (hown:w.ownsRow 0 e size v n xs)
  (a:Addr) (m c:Nat) (news:List Value) (hl:news.length = m * size) (hnews:∀ j u,news[j]? = some u → w.cell? (a.add j) = some u) (h1:∀ u ∈ news,u.oneCell' = true)
  (h63:n + m ≤ maxLen) (hbytes:(n + m) * bytes ≤ 140737488355328) :
  ∃ v' w',(Builtin.append_ #[t,t] ty #[v,.slice (some a) m c]).run P w = .ok v' w' ∧ w'.ownsRow 0 e size v' (n + m) (xs ++ news) ∧ w.grownBy w' v.ownBlock ∧
   (∀ i,v'.ownBlock = some i → v.ownBlock = some i ∨ w.heap.size ≤ i):=by
 rcases hown.2 with ⟨hv,hn⟩ | ⟨g,cap,cur,hv,hb,hg,hnc,hm,hcs,htk⟩
 ·have h':w.ownsRow w.heap.size e size v n xs:=⟨hown.1,.inl ⟨hv,hn⟩⟩
  obtain ⟨v',w',hr,ho,hgr,_⟩:=run_append_own (P:=P) (w:=w) w.heap.size t ty e i z size bytes ht hi hz hsize hby hzs hsz v n xs h' a m c news hl hnews h1 h63 hbytes (rL)
  exact ⟨v',w',hr,owns_base ho (Nat.zero_le _),hgr,fun j hj=>.inr (owns_own ho hj).2.1⟩
 ·by_cases hroom:n + m ≤ cap
  ·subst hv
   obtain ⟨w',hr,ho,hgr⟩:=run_append_fits (P:=P) (w:=w) 0 t ty e i size ht hi hsize g n cap xs hown a m c news hl hnews h1 hroom
   exact ⟨_,w',hr,ho,hgr,fun j hj=>.inl hj⟩
  ·obtain ⟨v',w',hr,ho,hgr,_⟩:=run_append_own (P:=P) (w:=w) 0 t ty e i z size bytes ht hi hz hsize hby hzs hsz v n xs hown a m c news hl hnews h1 h63 hbytes (Nat.zero_le _)
   subst hsize
   subst hv
   have holds:∀ j u,xs[j]? = some u → w.cell? ((⟨g,0,none⟩:Addr).add j) = some u:=hown.cells (g:=g) rfl
   have hr2:=run_append_grow (P:=P) (w:=w) t ty e i z ht hi hz ⟨g,0,none⟩ n cap xs hown.1 holds a m c news hl hnews (by omega) (by simp only [maxLen] at h63; omega) (growslice_fits (by omega) (by rw [hby]; exact hbytes))
   rw [hr] at hr2
   cases hr2
   exact ⟨_,_,hr,ho,hgr,fun j hj=>by cases hj; exact .inr (rL)⟩
theorem append_at (t T e:TypeId) (i:TypeInfo) (z:Value) (size bytes:Nat) (ht:P.underlying t = some (.slice e)) (hi:P.info? e = some i) (hz:i.zero = some z)
  (hsize:i.size = size) (hby:i.bytes = bytes) (hzs:z.cells.size = size) (hsz:0 < size)
  {v:Value} {n:Nat} {xs:List Value} (hown:w.ownsRow 0 e size v n xs)
  {ad:Option Addr} {m c:Nat} (news:List Value) (hl:news.length = m * size) (had:ad = none → m = 0 ∧ c = 0) (hnews:∀ a,ad = some a → ∀ j u,news[j]? = some u → w.cell? (a.add j) = some u) (h1:∀ u ∈ news,u.oneCell' = true)
  (h63:n + m ≤ maxLen) (hbytes:(n + m) * bytes ≤ 140737488355328)
  (k:∀ v' w',w'.ownsRow 0 e size v' (n + m) (xs ++ news) → w.grownBy w' v.ownBlock → (∀ i,v'.ownBlock = some i → v.ownBlock = some i ∨ w.heap.size ≤ i) → K v' w') :
  oM P (.call { callee:=.builtin .append,args:=#[.tmp 0,.tmp 1],argTypes:=#[t,t] }) T [v,.slice ad m c] K w:=by
 rw [oM_append]
 cases ad with
 | some a=>
  obtain ⟨v',w',hr,h2,h3,h4⟩:=run_append_more (P:=P) (w:=w) t T e i z size bytes ht hi hz hsize hby hzs hsz v n xs hown a m c news hl (hnews a rfl) h1 h63 hbytes
  rw [hr]
  exact k v' w' h2 h3 h4
 | none=>
  obtain ⟨rfl,rfl⟩:=had rfl
  have hn:news = []:=List.eq_nil_of_length_eq_zero (by simpa using hl)
  subst hn
  rw [run_append_owned_none (P:=P) (w:=w) 0 t T e i size ht hi v n xs hown]
  refine k v w ?_ ⟨rfl,rfl,rfl,rL,fun _ _ _=>rfl⟩ (fun i h=>.inl h)
  simpa using hown
end
def RowR {α:Type} (mk:α → List Value) (sz:Nat) (w:World) (v:Value) (l:List α):Prop:=
 ∃ ad c,v = .slice ad l.length c ∧ (ad = none → l.length = 0 ∧ c = 0) ∧ (l = [] ∨ ∃ b o,ad = some ⟨b,o,none⟩ ∧ b < w.heap.size ∧ ∀ (k:Nat) (x:Value),(flat mk l)[k]? = some x → w.cell? ⟨b,o + k,none⟩ = some x)
section
variable {α:Type} {mk:α → List Value} {sz:Nat} {w w':World} {v:Value} {l:List α}
theorem RowR.of_owns {B:Nat} {e:TypeId} (h:w.ownsRow B e sz v l.length (flat mk l)):RowR mk sz w v l:=by
 rcases h.2 with ⟨rfl,h0⟩ | ⟨g,cap,cur,rfl,hb,hg,hn,hm,hcs,ht⟩
 ·exact ⟨none,0,by rw [h0],fun _=>⟨h0,rfl⟩,.inl (List.eq_nil_of_length_eq_zero h0)⟩
 ·refine ⟨_,cap,rfl,by simp,?_⟩
  by_cases h0:l = []
  ·exact .inl h0
  ·obtain ⟨g',cap',cur',hv,hlt,_,_,_,_,hc⟩:=owns_cells h (List.length_pos_iff.2 h0)
   cases hv
   exact .inr ⟨g,0,rfl,hlt,fun k x hk=>by rw [Nat.zero_add]; exact hc k x hk⟩
def Value.inBlock:Value → Option Nat
 | .slice (some a) _ _=>some a.block
 | _=>none
theorem RowR.keep (h:RowR mk sz w v l) (hs:w.heap.size ≤ w'.heap.size) (hk:∀ i,Value.inBlock v = some i → i < w.heap.size → w'.heap[i]? = w.heap[i]?):RowR mk sz w' v l:=by
 obtain ⟨ad,c,rfl,h0,h⟩:=h
 refine ⟨ad,c,rfl,h0,h.imp id ?_⟩
 rintro ⟨b,o,rfl,hlt,hc⟩
 refine ⟨b,o,rfl,lL hlt hs,fun k x hx=>?_⟩
 have:=hc k x hx
 unfold World.cell? at this ⊢
 rw [hk b rfl hlt]
 exact this
end
theorem add_none (b o k:Nat):(⟨b,o,none⟩:Addr).add k = ⟨b,o + k,none⟩:=by
 unfold Addr.add
 split
 ·rename_i h0; rw [h0]; simp
 ·rfl
theorem clone_at {P:Program} {α:Type} {mk:α → List Value} {w:World} {K:VK} (t T e:TypeId) (i:TypeInfo) (z:Value) (size bytes:Nat) (ht:P.underlying t = some (.slice e)) (hi:P.info? e = some i) (hz:i.zero = some z)
  (hsize:i.size = size) (hby:i.bytes = bytes) (hzs:z.cells.size = size) (hsz:0 < size) (hm:∀ x,(mk x).length = size) (h1:∀ x,∀ u ∈ mk x,u.oneCell' = true)
  {v u:Value} {l:List α} (hr:RowR mk size w v l) (hu:w.ownsRow 0 e size u 0 []) {B:Nat} (hB:B ≤ w.heap.size) (hf:∀ i,u.ownBlock = some i → B ≤ i) (hll:l.length ≤ 4611686018427387904) (hb:l.length * bytes ≤ 140737488355328)
  (k:∀ v' w',w'.ownsRow 0 e size v' l.length (flat mk l) → w.grownBy w' u.ownBlock → (∀ i,v'.ownBlock = some i → B ≤ i) → K v' w') :
  oM P (.call { callee:=.builtin .append,args:=#[.tmp 0,.tmp 1],argTypes:=#[t,t] }) T [u,v] K w:=by
 obtain ⟨ad,c,rfl,h0,hc⟩:=hr
 refine append_at t T e i z size bytes ht hi hz hsize hby hzs hsz hu (flat mk l) (flat_length hm l) h0 ?_ ?_ (by simp only [maxLen]; omega) (by rw [Nat.zero_add]; exact hb) ?_
 ·rintro a rfl j x hj
  rcases hc with rfl | ⟨b,o,hbo,hlt,hc⟩
  ·simp [flat] at hj
  ·cases hbo
   rw [add_none]; exact hc j x hj
 ·intro x hx
  unfold flat at hx
  obtain ⟨y,_,hy⟩:=List.mem_flatMap.1 hx
  exact h1 y x hy
 ·intro v' w' ho hg hv
  rw [Nat.zero_add] at ho
  exact k v' w' ho hg (fun i hi=>(hv i hi).elim (hf i) (Nat.le_trans hB))
end Go.Sh
namespace Go.Sh
open Go Go.RowKit
def BufIs (w:World) (g:Nat) (e:TypeId) (l:List UInt8):Prop:=w.heap[g]? = some (.cells (Lib.byteCells l).toArray e (0,0))
theorem alloc_size (w:World) (o:Obj):(w.alloc o).heap.size = w.heap.size + 1:=by
 show (w.heap.push o).size = _
 simp
theorem grown_setRow (w:World) (g:Nat) (cs:Array Value):w.grownBy (w.setRow g cs) (some g):=
 ⟨rfl,rfl,rfl,by simp [World.setRow],fun i _ hi=>setRow_other w g i cs (fun e=>hi (by rw [e]))⟩
section
variable {P:Program} {w:World} {K:VK}
theorem makeBytes_at {t T e:TypeId} {i:TypeInfo} (ht:P.underlying t = some (.slice e)) (hi:P.info? e = some i) (hz:i.zero = some (.int .u8 0)) (hs:i.size = 1) (hb:i.bytes = 1) (n:Nat) (hn:n ≤ 1099511627776)
  (k:BufIs (w.alloc (.cells (Lib.byteCells (List.replicate n 0)).toArray e)) w.heap.size e (List.replicate n 0) → K (.slice (some ⟨w.heap.size,0,none⟩) n n) (w.alloc (.cells (Lib.byteCells (List.replicate n 0)).toArray e))) :
  oM P (.makeSlice t (.tmp 0) (.tmp 1)) T [.int .i64 n,.int .i64 n] K w:=by
 rw [oM_makeSlice,run_make w t e i (.int .u8 0) ht hi hz .i64 .i64 n n (by omega) (Int.le_refl _) (by rw [hb]; omega) (by omega),hs]
 have e1:madeCells (Value.int .u8 0).cells ((n:Int).toNat * 1) = (Lib.byteCells (List.replicate n 0)).toArray:=by
  unfold madeCells Lib.byteCells
  apply Array.ext'
  simp only [Int.toNat_natCast,Nat.mul_one,Array.toList_map,Array.toList_range,List.map_replicate]
  apply List.ext_getElem
  ·simp
  ·intro j h1 h2
   simp [Value.cells,Nat.mod_one]
 rw [e1,Int.toNat_natCast]
 exact k (heap_alloc_new w _)
theorem copyStr_at {t t' T e:TypeId} {g o n c:Nat} {l:List UInt8} (ht:P.underlying t = some (.slice e)) (hs:(P.info? e).map (·.size) = some 1) (hg:BufIs w g e l) (s:List UInt8) (hn:s.length ≤ n) (hfit:o + s.length ≤ l.length)
  (k:∀ w',BufIs w' g e (l.take o ++ s ++ l.drop (o + s.length)) → w.grownBy w' (some g) → K (.int .i64 s.length) w') :
  oM P (.call { callee:=.builtin .copy,args:=#[.tmp 0,.tmp 1],argTypes:=#[t,t'] }) T [.slice (some ⟨g,o,none⟩) n c,.string ⟨s.toArray⟩] K w:=by
 rw [oM_copy,Lib.run_copy_row_string w t t' T e g o n c ⟨s.toArray⟩ _ e ht hs hg hn (by simp [Lib.byteCells]; exact hfit)]
 refine k _ ?_ (grown_setRow _ _ _)
 have:=setRow_heap w g _ ((Lib.byteCells l).toArray.toList.take o ++ Lib.byteCells (⟨s.toArray⟩:ByteArray).data.toList ++ (Lib.byteCells l).toArray.toList.drop (o + (⟨s.toArray⟩:ByteArray).size)).toArray e (0,0) hg
 unfold BufIs
 rw [this]
 have e2:(⟨s.toArray⟩:ByteArray).size = s.length:=rfl
 simp [Lib.byteCells,List.map_take,List.map_drop,e2]
theorem toStr_at {t d T e:TypeId} {g n c:Nat} {l:List UInt8} (hs:P.underlying t = some (.slice e)) (he:P.underlying e = some (.int .u8)) (hd:P.underlying d = some .string) (hg:BufIs w g e l) (hn:n = l.length) (k:K (.string ⟨l.toArray⟩) w) :
  oM P (.convert t d (.tmp 0)) T [.slice (some ⟨g,0,none⟩) n c] K w:=by
 subst hn
 have:=run_convert_bytes_back (P:=P) w t d e ⟨g,0,none⟩ c l hs he hd (fun j hj=>by
  rw [add_none,Nat.zero_add,cell_of_block hg]
  simp [Lib.byteCells,hj])
 rw [rM_of (S:=convert t d (.slice (some ⟨g,0,none⟩) l.length c)) rfl,this]
 exact k
theorem sliceFrom_at {t T:TypeId} {g o n c:Nat} {sz:Nat} (ht:P.underlying t = some (.slice (P.elem t))) (hs:∀ w,(sizeOf (P.elem t)).run P w = .ok sz w) (i:Nat) (hi:i ≤ n) (hc:i < c) (k:K (.slice (some ⟨g,o + i * sz,none⟩) (n - i) (c - i)) w) :
  oM P (.slice t (.tmp 0) (some (.tmp 1)) none none) T [.slice (some ⟨g,o,none⟩) n c,.int .i64 i] K w:=by
 rw [oM_sliceFrom,run_sliceAt_slice w t _ _ _ _ ht,run_slice_l w t _ n c ht .i64 i (by omega) (by omega),hs]
 have:¬ c = i:=by omega
 simp only [Result.andThen_ok,sliced,Int.toNat_natCast,if_neg this,Option.map_some,add_none]
 exact k
theorem sliceTo_at {t T:TypeId} {a:Option Addr} {n c:Nat} {sz:Nat} (ht:P.underlying t = some (.slice (P.elem t))) (hs:∀ w,(sizeOf (P.elem t)).run P w = .ok sz w) (i:Nat) (hi:i ≤ c) (k:K (.slice a i c) w) :
  oM P (.slice t (.tmp 0) none (some (.tmp 1)) none) T [.slice a n c,.int .i64 i] K w:=by
 rw [oM_sliceTo,run_sliceAt_slice w t _ _ _ _ ht,run_slice_h w t _ n c ht .i64 i (by omega) (by omega),hs]
 have e:a.map (fun x=>x.add (0 * sz)) = a:=by
  cases a with
  | none=>rfl
  | some a=>simp [Addr.add]
 simp only [Result.andThen_ok,sliced,Int.toNat_natCast,Nat.sub_zero,e,ite_self]
 exact k
end
end Go.Sh
namespace Go.Sh
open Go Go.RowKit
def BufM (w:World) (e:TypeId) (v:Value) (l:List UInt8):Prop:=
 ∃ g cap cur fz,v = .slice (some ⟨g,0,none⟩) l.length cap ∧ w.heap[g]? = some (.cells cur e fz) ∧ (∀ i,i < cur.size → ¬ (fz.1 ≤ i ∧ i < fz.2)) ∧ cur.size = cap ∧ l.length ≤ cap ∧ ∀ j (h:j < l.length),cur[j]? = some (.int .u8 (l[j].toNat:Int))
section
variable {P:Program} {w w':World} {e:TypeId} {v:Value} {l:List UInt8} {K:VK}
theorem BufM.shape (h:BufM w e v l):∃ g c,v = .slice (some ⟨g,0,none⟩) l.length c ∧ g < w.heap.size:=by
 obtain ⟨g,cap,cur,fz,rfl,hg,_⟩:=h
 exact ⟨g,cap,rfl,(Array.getElem?_eq_some_iff.1 hg).1⟩
theorem BufM.keep (h:BufM w e v l) (hk:∀ i,v.ownBlock = some i → w'.heap[i]? = w.heap[i]?):BufM w' e v l:=by
 obtain ⟨g,cap,cur,fz,rfl,hg,r⟩:=h
 exact ⟨g,cap,cur,fz,rfl,by rw [hk g rfl]; exact hg,r⟩
theorem BufM.set (h:BufM w e v l) {j:Nat} (hj:j < l.length) (x:UInt8):∃ g c,v = .slice (some ⟨g,0,none⟩) l.length c ∧ w.frozen? ⟨g,j,none⟩ = false ∧ (w.cell? ⟨g,j,none⟩).isSome = true ∧ BufM (w.setCell ⟨g,j,none⟩ (.int .u8 (x.toNat:Int))) e v (l.set j x):=by
 obtain ⟨g,cap,cur,fz,rfl,hg,hfz,hcs,hlc,hcell⟩:=h
 refine ⟨g,cap,rfl,?_,?_,⟨g,cap,cur.setIfInBounds j (.int .u8 (x.toNat:Int)),fz,by rw [List.length_set],block_set hg _,by simpa using hfz,by simpa using hcs,by simpa using hlc,fun k hk=>?_⟩⟩
 ·unfold World.frozen?
  rw [hg]
  have:=hfz j (by omega)
  simp only [Bool.and_eq_false_iff,decide_eq_false_iff_not]
  omega
 ·rw [cell_of_block hg,hcell j hj]; rfl
 ·rw [List.length_set] at hk
  by_cases hkj:k = j
  ·subst hkj
   rw [Array.getElem?_setIfInBounds_self_of_lt (by omega)]
   simp
  ·rw [Array.getElem?_setIfInBounds_ne (Ne.symm hkj),hcell k hk,List.getElem_set_ne (Ne.symm hkj)]
theorem BufM.cell (h:BufM w e v l) {j:Nat} (hj:j < l.length):∃ g c,v = .slice (some ⟨g,0,none⟩) l.length c ∧ w.cell? ⟨g,j,none⟩ = some (.int .u8 (l[j].toNat:Int)):=by
 obtain ⟨g,cap,cur,fz,rfl,hg,hfz,hcs,hlc,hcell⟩:=h
 exact ⟨g,cap,rfl,by rw [cell_of_block hg]; exact hcell j hj⟩
end
end Go.Sh
namespace Go.Sh
open Go Go.RowKit
section
variable {P:Program} {K:VK} {w:World}
@[go_sem] theorem oM_shr64 (t t' T:TypeId) (yk:IntKind) (x y:Int) (h0:0 ≤ y) (h1:y ≤ 64):oM P (.binOp .shr t (.tmp 0) (.tmp 1) t') T [.int .u64 x,.int yk y] = pureM (.int .u64 (x / 2 ^ y.toNat)):=by
 funext K w
 simp [oM,opM,xop,execOp,evalL,evE,binOp]
 rfl
@[go_sem] theorem oM_shl64 (t t' T:TypeId) (yk:IntKind) (x y:Int) (h0:0 ≤ y) (h1:y ≤ 64):oM P (.binOp .shl t (.tmp 0) (.tmp 1) t') T [.int .u64 x,.int yk y] = pureM (.int .u64 (x * 2 ^ y.toNat % 18446744073709551616)):=by
 funext K w
 simp [oM,opM,xop,execOp,evalL,evE,binOp]
 rfl
@[go_sem] theorem oM_shr32 (t t' T:TypeId) (yk:IntKind) (x y:Int) (h0:0 ≤ y) (h1:y ≤ 32):oM P (.binOp .shr t (.tmp 0) (.tmp 1) t') T [.int .u32 x,.int yk y] = pureM (.int .u32 (x / 2 ^ y.toNat)):=by
 funext K w
 simp [oM,opM,xop,execOp,evalL,evE,binOp]
 rfl
@[go_sem] theorem oM_shl32 (t t' T:TypeId) (yk:IntKind) (x y:Int) (h0:0 ≤ y) (h1:y ≤ 32):oM P (.binOp .shl t (.tmp 0) (.tmp 1) t') T [.int .u32 x,.int yk y] = pureM (.int .u32 (x * 2 ^ y.toNat % 4294967296)):=by
 funext K w
 simp [oM,opM,xop,execOp,evalL,evE,binOp]
 rfl
@[go_sem] theorem oM_and64 (t t' T:TypeId) (x y:Int):oM P (.binOp .and t (.tmp 0) (.tmp 1) t') T [.int .u64 x,.int .u64 y] = pureM (.int .u64 (bits .and .u64 x y)):=by
 funext K w
 simp [oM,opM,xop,execOp,evalL,evE,binOp,go_sem]
@[go_sem] theorem oM_or64 (t t' T:TypeId) (x y:Int):oM P (.binOp .or t (.tmp 0) (.tmp 1) t') T [.int .u64 x,.int .u64 y] = pureM (.int .u64 (bits .or .u64 x y)):=by
 funext K w
 simp [oM,opM,xop,execOp,evalL,evE,binOp,go_sem]
end
theorem bits_and64 (x y:Int) (hx:0 ≤ x ∧ x < 18446744073709551616) (hy:0 ≤ y ∧ y < 18446744073709551616):bits .and .u64 x y = ((x.toNat &&& y.toNat:Nat):Int):=by
 obtain ⟨a,rfl⟩:=Int.eq_ofNat_of_zero_le hx.1
 obtain ⟨b,rfl⟩:=Int.eq_ofNat_of_zero_le hy.1
 have ha:a < 2 ^ 64:=by omega
 have hb:b < 2 ^ 64:=by omega
 simp only [bits,Int.toNat_natCast]
 rw [BitVec.ofInt_natCast,BitVec.ofInt_natCast,BitVec.toNat_and]
 simp only [BitVec.toNat_ofNat]
 rw [show IntKind.u64.bits = 64 from rfl,Nat.mod_eq_of_lt ha,Nat.mod_eq_of_lt hb]
 have:a &&& b ≤ a:=Nat.and_le_left
 exact wrapU64 _ (by omega) (by omega)
theorem bits_or64 (x y:Int) (hx:0 ≤ x ∧ x < 18446744073709551616) (hy:0 ≤ y ∧ y < 18446744073709551616):bits .or .u64 x y = ((x.toNat ||| y.toNat:Nat):Int):=by
 obtain ⟨a,rfl⟩:=Int.eq_ofNat_of_zero_le hx.1
 obtain ⟨b,rfl⟩:=Int.eq_ofNat_of_zero_le hy.1
 have ha:a < 2 ^ 64:=by omega
 have hb:b < 2 ^ 64:=by omega
 simp only [bits,Int.toNat_natCast]
 rw [BitVec.ofInt_natCast,BitVec.ofInt_natCast,BitVec.toNat_or]
 simp only [BitVec.toNat_ofNat]
 rw [show IntKind.u64.bits = 64 from rfl,Nat.mod_eq_of_lt ha,Nat.mod_eq_of_lt hb]
 have:=Nat.or_lt_two_pow ha hb
 exact wrapU64 _ (by omega) (by omega)
theorem mask64 (n:Nat) (x m:Int) (hn:n ≤ 64) (hm:m = 2 ^ n - 1) (hx:0 ≤ x ∧ x < 18446744073709551616):bits .and .u64 x m = x % 2 ^ n:=by
 have hp:(0:Int) < 2 ^ n:=Int.pow_pos (by omega)
 have hp':(2:Nat) ^ n ≤ 2 ^ 64:=Nat.pow_le_pow_right (by omega) hn
 have hpc:((2:Int) ^ n) = ((2 ^ n:Nat):Int):=by simp
 rw [bits_and64 x m hx (by rw [hm,hpc]; omega)]
 have:m.toNat = 2 ^ n - 1:=by rw [hm,hpc]; omega
 rw [this,Nat.and_two_pow_sub_one_eq_mod,Int.natCast_emod,Int.toNat_of_nonneg hx.1,hpc]
theorem or_add64 (s:Nat) (x y:Int) (hs:s ≤ 64) (hx:0 ≤ x) (hy:0 ≤ y ∧ y < 2 ^ s) (h:x * 2 ^ s < 18446744073709551616):bits .or .u64 (x * 2 ^ s) y = x * 2 ^ s + y:=by
 obtain ⟨a,rfl⟩:=Int.eq_ofNat_of_zero_le hx
 obtain ⟨b,rfl⟩:=Int.eq_ofNat_of_zero_le hy.1
 have hpc:((2:Int) ^ s) = ((2 ^ s:Nat):Int):=by simp
 rw [hpc] at hy h ⊢
 have hp':(2:Nat) ^ s ≤ 2 ^ 64:=Nat.pow_le_pow_right (by omega) hs
 have hb:b < 2 ^ s:=by omega
 have e:((a:Int) * ((2 ^ s:Nat):Int)) = ((2 ^ s * a:Nat):Int):=by rw [Int.natCast_mul]; exact Int.mul_comm _ _
 rw [e] at h ⊢
 rw [bits_or64 _ _ (by omega) (by omega),Int.toNat_natCast,Int.toNat_natCast,← Nat.two_pow_add_eq_or_of_lt hb]
 simp
end Go.Sh
namespace Go.Sh
open Go Go.RowKit
abbrev Next (w w':World):Prop:=Below w.heap.size w w'
theorem _root_.Go.RowKit.Below.on {a b c:World} (h:Below a.heap.size a b) (k:Below b.heap.size b c):Below a.heap.size a c:=h.trans (k.mono h.size)
theorem _root_.Go.RowKit.Below.drawn {B:Nat} {w:World}:Below B w { w with drawn:=w.drawn + 1 }:=⟨rfl,rfl,rfl,rL,fun _ _=>rfl⟩
def BoxIs (w:World) (g:Nat) (cs:List Value):Prop:=∀ w',Below w.heap.size w w' → ∀ (i:Nat) (v:Value),cs[i]? = some v → w'.cell? ⟨g,i,none⟩ = some v
theorem BoxIs.next {w w':World} {g:Nat} {cs:List Value} (h:BoxIs w g cs) (hb:Below w.heap.size w w'):BoxIs w' g cs:=
 fun w2 h2=>h w2 (Below.on hb h2)
theorem box_in {P:Program} {w:World} {K:VK} {T T':TypeId} {x:Value} {cs:List Value} (hx:x.cells = cs.toArray)
  (k:∀ g W,Below w.heap.size w W → w.heap.size ≤ g → BoxIs W g cs → K (.pointer (some ⟨g,0,none⟩)) W):oM P (.box T (.tmp 0)) T' [x] K w:=by
 rw [oM_box]
 have e:(Instr.box T x).run P w = .ok (.pointer (some ⟨w.heap.size,0,none⟩)) (w.alloc (.cells cs.toArray T)):=by
  rw [← hx]; rfl
 rw [e]
 refine k _ _ ((Below.refl _ w).alloc (rL) _) (rL) (fun w' hb i v hi=>?_)
 have hlt:w.heap.size < (w.alloc (.cells cs.toArray T)).heap.size:=by simp
 rw [hb.cell hlt]
 have:=World.cell?_alloc_at (w:=w) cs.toArray T w.heap.size i rfl
 rw [this]
 simpa using hi
def I64 (n:Int):Prop:=-9223372036854775808 ≤ n ∧ n < 9223372036854775808
def intC (n:Int):List Value:=[.int .i64 n]
structure Ints (w:World) (v:Value) (l:List Int):Prop where
 row:RowR intC 1 w v l
 rng:∀ n ∈ l,I64 n
 len:l.length ≤ 9223372036854775807
theorem Ints.next {w w':World} {v:Value} {l:List Int} (h:Ints w v l) (hb:Below w.heap.size w w'):Ints w' v l:=
 ⟨h.row.keep hb.size (fun i _ hi=>hb.block i hi),h.rng,h.len⟩
theorem Ints.nil (w:World):Ints w (.slice none 0 0) []:=⟨⟨none,0,rfl,fun _=>⟨rfl,rfl⟩,.inl rfl⟩,by simp,by simp⟩
theorem Ints.isSlice {w:World} {v:Value} {l:List Int} (h:Ints w v l):∃ ad c,v = .slice ad l.length c:=by
 obtain ⟨⟨ad,c,hv,_⟩,_⟩:=h; exact ⟨ad,c,hv⟩
theorem flat_int (l:List Int):flat intC l = l.map (fun n=>Value.int .i64 n):=by
 induction l with
 | nil=>rfl
 | cons a l ih=>rw [flat_cons,ih]; rfl
theorem Ints.at {w:World} {ad:Option Addr} {n c:Nat} {l:List Int} (h:Ints w (.slice ad n c) l) {i:Nat} (hi:i < l.length) :
  ∃ b o,ad = some ⟨b,o,none⟩ ∧ b < w.heap.size ∧ (∀ w',Below w.heap.size w w' → w'.cell? ⟨b,o + i,none⟩ = some (.int .i64 l[i])) ∧ I64 l[i] ∧ n = l.length:=by
 obtain ⟨⟨ad',c',hv,h0,hc⟩,hr,_⟩:=h
 cases hv
 rcases hc with rfl | ⟨b,o,rfl,hlt,hc⟩
 ·simp at hi
 ·refine ⟨b,o,rfl,hlt,fun w' hb=>?_,hr _ (List.getElem_mem hi),rfl⟩
  rw [hb.cell hlt]
  exact hc i _ (by rw [flat_int]; simp [hi])
theorem Ints.of_owns {w:World} {B:Nat} {e:TypeId} {v:Value} {l:List Int} (h:w.ownsRow B e 1 v l.length (flat intC l)) (hr:∀ n ∈ l,I64 n) (hl:l.length ≤ 9223372036854775807):Ints w v l:=
 ⟨RowR.of_owns h,hr,hl⟩
@[go_sem] theorem oM_makeFunc2 {P:Program} {K:VK} {w:World} (fn:Fn) (T:TypeId) (x y:Value):oM P (.makeFunc fn #[] #[.tmp 0,.tmp 1]) T [x,y] K w = K (.func fn #[] #[x,y]) w:=oM_of_run (by simp [xop,execOp,evalL,evE,Instr.makeFunc])
@[go_sem] theorem oM_makeFunc01 {P:Program} {K:VK} {w:World} (fn:Fn) (T:TypeId) (x:Value):oM P (.makeFunc fn #[] #[.tmp 0]) T [x] K w = K (.func fn #[] #[x]) w:=oM_of_run (by simp [xop,execOp,evalL,evE,Instr.makeFunc])
end Go.Sh
namespace Go.Sh
open Go
section
variable {P:Program} {K:VK} {w:World} {A B:Prop} {p:Prop} [Decidable p] {b c:Bool} {m:(VK) → WK} {T:TypeId} {x y v:Value} {C:WK} {KQ:Value → Prop}
theorem idGd {g:Bool} (h:gdM g m K w):gdM g m K w:=h
theorem idGdD {q:Prop} {d:Decidable q} (h:gdM (gd (.bool (@decide q d)) c) m K w):gdM (gd (.bool (@decide q d)) c) m K w:=h
theorem idGdN {q:Prop} {d:Decidable q} (h:gdM (gd (.bool (!@decide q d)) c) m K w):gdM (gd (.bool (!@decide q d)) c) m K w:=h
theorem idPick (h:oM P (.pick (.tmp 0) (.tmp 1) (.tmp 2)) T [v,x,y] K w):oM P (.pick (.tmp 0) (.tmp 1) (.tmp 2)) T [v,x,y] K w:=h
theorem idCond (h:condM v A B):condM v A B:=h
theorem idO {o:Op} {l:List Value} (h:oM P o T l K w):oM P o T l K w:=h
theorem idOQ {o:Op} {l:List Value} (h:oQ P o T l C KQ):oQ P o T l C KQ:=h
theorem idGdQ {g:Bool} {n:(WK) → (Value → Prop) → Prop} (h:gdQ g n C KQ):gdQ g n C KQ:=h
theorem zF (k:m K w) (h:p:=by first|assumption|omega):gdM (gd (.bool (decide p)) true) m K w:=gdt_pos h k
theorem zG (k:K undef w) (h:¬p:=by first|assumption|omega):gdM (gd (.bool (decide p)) true) m K w:=gdt_neg h k
theorem zI (k:m K w) (h:¬p:=by first|assumption|omega):gdM (gd (.bool (decide p)) false) m K w:=gdf_pos h k
theorem zJ (k:K undef w) (h:p:=by first|assumption|omega):gdM (gd (.bool (decide p)) false) m K w:=gdf_neg h k
theorem zL (k:m K w) (h:¬p:=by first|assumption|omega):gdM (gd (.bool (!decide p)) true) m K w:=gdtn_pos h k
theorem zM (k:K undef w) (h:p:=by first|assumption|omega):gdM (gd (.bool (!decide p)) true) m K w:=gdtn_neg h k
theorem zO (k:m K w) (h:p:=by first|assumption|omega):gdM (gd (.bool (!decide p)) false) m K w:=gdfn_pos h k
theorem zP (k:K undef w) (h:¬p:=by first|assumption|omega):gdM (gd (.bool (!decide p)) false) m K w:=gdfn_neg h k
theorem zV (k:m K w) (h:b = true:=by assumption):gdM (gd (.bool b) true) m K w:=gdtb_pos h k
theorem zW (k:K undef w) (h:b = false:=by assumption):gdM (gd (.bool b) true) m K w:=gdtb_neg h k
theorem zY (k:m K w) (h:b = false:=by assumption):gdM (gd (.bool b) false) m K w:=gdfb_pos h k
theorem zZ (k:K undef w) (h:b = true:=by assumption):gdM (gd (.bool b) false) m K w:=gdfb_neg h k
theorem zA (k:m K w):gdM (gd (.bool true) true) m K w:=gdtT k
theorem zB (k:K undef w):gdM (gd (.bool false) true) m K w:=gdtF k
theorem zC (k:m K w):gdM (gd (.bool false) false) m K w:=gdfF k
theorem zD (k:K undef w):gdM (gd (.bool true) false) m K w:=gdfT k
theorem zE (k:K undef w):gdM (gd undef c) m K w:=gdu k c
theorem zH (h1:p → m K w) (h2:¬p → K undef w):gdM (gd (.bool (decide p)) true) m K w:=gdt_split h1 h2
theorem zK (h1:p → K undef w) (h2:¬p → m K w):gdM (gd (.bool (decide p)) false) m K w:=gdf_split h1 h2
theorem zQ (h1:p → m K w) (h2:¬p → K undef w):gdM (gd (.bool (!decide p)) false) m K w:=gdfn_split h1 h2
theorem zX (h1:b = true → m K w) (h2:b = false → K undef w):gdM (gd (.bool b) true) m K w:=gdtb_split h1 h2
theorem yA (h1:b = true → K undef w) (h2:b = false → m K w):gdM (gd (.bool b) false) m K w:=gdfb_split h1 h2
theorem yB (k:K x w):oM P (.pick (.tmp 0) (.tmp 1) (.tmp 2)) T [.bool true,x,y] K w:=pickT k
theorem yC (k:K y w):oM P (.pick (.tmp 0) (.tmp 1) (.tmp 2)) T [.bool false,x,y] K w:=pickF k
theorem yD (k:K x w) (h:p:=by first|assumption|omega):oM P (.pick (.tmp 0) (.tmp 1) (.tmp 2)) T [.bool (decide p),x,y] K w:=pick_pos h k
theorem yE (k:K y w) (h:¬p:=by first|assumption|omega):oM P (.pick (.tmp 0) (.tmp 1) (.tmp 2)) T [.bool (decide p),x,y] K w:=pick_neg h k
theorem yF (k:K x w) (h:¬p:=by first|assumption|omega):oM P (.pick (.tmp 0) (.tmp 1) (.tmp 2)) T [.bool (!decide p),x,y] K w:=pickn_pos h k
theorem yG (k:K y w) (h:p:=by first|assumption|omega):oM P (.pick (.tmp 0) (.tmp 1) (.tmp 2)) T [.bool (!decide p),x,y] K w:=pickn_neg h k
theorem yJ (k:K x w) (h:b = true:=by assumption):oM P (.pick (.tmp 0) (.tmp 1) (.tmp 2)) T [.bool b,x,y] K w:=pickb_pos h k
theorem yK (k:K y w) (h:b = false:=by assumption):oM P (.pick (.tmp 0) (.tmp 1) (.tmp 2)) T [.bool b,x,y] K w:=pickb_neg h k
theorem yL (k:A):condM (.bool true) A B:=condT k
theorem yM (k:B):condM (.bool false) A B:=condF k
theorem yN (k:A) (h:p:=by first|assumption|omega):condM (.bool (decide p)) A B:=cond_pos h k
theorem yO (k:B) (h:¬p:=by first|assumption|omega):condM (.bool (decide p)) A B:=cond_neg h k
theorem yQ (k:A) (h:¬p:=by first|assumption|omega):condM (.bool (!decide p)) A B:=condn_pos h k
theorem yR (k:B) (h:p:=by first|assumption|omega):condM (.bool (!decide p)) A B:=condn_neg h k
theorem yP (h1:p → A) (h2:¬p → B):condM (.bool (decide p)) A B:=condM_dec h1 h2
theorem yS (h1:p → B) (h2:¬p → A):condM (.bool (!decide p)) A B:=condM_ndec h1 h2
theorem yV (h1:b = true → B) (h2:b = false → A):condM (.bool (!b)) A B:=condbn_split h1 h2
theorem yY (h1:b = true → A) (h2:b = false → B):condM (.bool b) A B:=condM_b h1 h2
theorem wA (k:KQ x):oQ P (.pick (.tmp 0) (.tmp 1) (.tmp 2)) T [.bool true,x,y] C KQ:=pickQT k
theorem wB (k:KQ y):oQ P (.pick (.tmp 0) (.tmp 1) (.tmp 2)) T [.bool false,x,y] C KQ:=pickQF k
theorem wE (k:KQ x) (h:¬p:=by first|assumption|omega):oQ P (.pick (.tmp 0) (.tmp 1) (.tmp 2)) T [.bool (!decide p),x,y] C KQ:=pickQn_pos h k
theorem wF (k:KQ y) (h:p:=by first|assumption|omega):oQ P (.pick (.tmp 0) (.tmp 1) (.tmp 2)) T [.bool (!decide p),x,y] C KQ:=pickQn_neg h k
end
end Go.Sh
namespace Go.Proofs
open Go Go.Sh Go.RowKit FdSpec
section
variable {K:VK} {w:World}
theorem K_eq {a b:Value} (h:K a w) (e:b = a):K b w:=e ▸ h
@[reducible] def u64V (n:Int):Value:=.int .u64 n
theorem valid_ok (n:Int) (h:K (.bool (decide (okN n))) w):callM Tryz.prog 142 #[.int .i64 n] K w:=by
 apply sh_142_ok
 unfold sh_142
 have e:decide (okN n) = (decide (1 ≤ n) && decide (n < 2305843009213693952)):=by
  by_cases h1:1 ≤ n <;> by_cases h2:n < 2305843009213693952 <;> simp [okN,h1,h2]
 rw [e] at h
 by_cases h1:1 ≤ n
 ·repeat (any_goals (first
  | (with_reducible first|refine pureM_in ?_|refine zA ?_|refine yB ?_)
  | ((with_reducible refine oG fun X Y=>?_); simp [go_sem,h1]; apply Y; clear Y X)))
  simpa [h1] using h
 ·repeat (any_goals (first
  | (with_reducible first|refine zB ?_|refine yC ?_)
  | ((with_reducible refine oG fun X Y=>?_); simp [go_sem,h1]; apply Y; clear Y X)))
  simpa [h1] using h
theorem residue_ok (n a:Int) (hn:okN n) (h:K (.int .u64 (a % n)) w):callM Tryz.prog 175 #[.int .i64 n,.int .i64 a] K w:=by
 apply sh_175_ok
 unfold sh_175
 obtain ⟨h1,h2⟩:=hn
 have e:=residue_eq n a (by omega)
 have h3:=Int.emod_nonneg a (b:=n) (by omega)
 have h4:=Int.emod_lt_of_pos a (b:=n) (by omega)
 obtain ⟨r,hr⟩:∃ r,r = a.tmod n:=⟨_,rfl⟩
 rw [← hr] at e
 repeat (any_goals (first
 | (with_reducible ((refine idCond ?_); refine yP (fun hg=>?_) fun hg=>?_))
 | ((with_reducible refine oG fun X Y=>?_); simp [go_sem,← hr]; (try simp (disch:=omega) only [wrapI64,wrapU8,wrapU32,wrapU64]); (first|refine Y _ _ ?_|refine And.intro (by omega) (Y _ _ ?_)); clear Y X)))
 ·rw [if_pos (by assumption)] at e; rw [e]; exact h
 ·rw [if_neg (by assumption)] at e; rw [e]; exact h
theorem natN (x:Int) (h:0 ≤ x):∃ a:Nat,x = a:=⟨x.toNat,by omega⟩
theorem maskU (a:Nat) (ha:a < 18446744073709551616):bits .and .u64 (a:Int) 4294967295 = ((a % 4294967296:Nat):Int):=by
 rw [mask64 32 a 4294967295 (by omega) (by decide) (by omega)]; omega
theorem divU (a:Nat):(a:Int) / 4294967296 = ((a / 4294967296:Nat):Int):=by omega
theorem modU (a:Nat):(a:Int) % 4294967296 = ((a % 4294967296:Nat):Int):=by omega
theorem mulU (a b:Nat):(a:Int) * (b:Int) = ((a * b:Nat):Int):=(Int.natCast_mul a b).symm
theorem addU (a b:Nat):(a:Int) + (b:Int) = ((a + b:Nat):Int):=(Int.natCast_add a b).symm
theorem wrapU (a:Nat) (ha:a < 18446744073709551616):IntKind.u64.wrap (a:Int) = (a:Int):=wrapU64 _ (by omega) (by omega)
theorem wrapUM (a:Nat):IntKind.u64.wrap (a:Int) = ((a % 18446744073709551616:Nat):Int):=by rw [IntKind.wrap_u64]; omega
theorem mul64_ok (x y:Int) (hx:0 ≤ x ∧ x < 18446744073709551616) (hy:0 ≤ y ∧ y < 18446744073709551616) (h:K (.tuple #[.int .u64 (x * y / 18446744073709551616),.int .u64 (x * y % 18446744073709551616)]) w):callM Tryz.prog 212 #[.int .u64 x,.int .u64 y] K w:=by
 apply sh_212_ok
 unfold sh_212
 have mx:=mask64 32 x 4294967295 (by omega) (by decide) hx
 have my:=mask64 32 y 4294967295 (by omega) (by decide) hy
 obtain ⟨a,rfl⟩:=natN x hx.1
 obtain ⟨b,rfl⟩:=natN y hy.1
 repeat (any_goals ((with_reducible refine oG fun X Y=>?_); simp [go_sem,mx,my]; apply Y; clear Y X))
 clear mx my
 have hx:a < 18446744073709551616:=by omega
 have hy:b < 18446744073709551616:=by omega
 obtain ⟨bd,bt,bw,hhi⟩:=Lib.mul64_hi a b hx hy
 have ba:=Lib.half_mul_le (a:=a / 4294967296) (b:=b / 4294967296) (by omega) (by omega)
 have bb:=Lib.half_mul_le (a:=a / 4294967296) (b:=b % 4294967296) (by omega) (by omega)
 have bc:=Lib.half_mul_le (a:=a % 4294967296) (b:=b / 4294967296) (by omega) (by omega)
 have ba':a / 4294967296 * (b / 4294967296) < 18446744073709551616:=by omega
 have bb':a / 4294967296 * (b % 4294967296) < 18446744073709551616:=by omega
 have bc':a % 4294967296 * (b / 4294967296) < 18446744073709551616:=by omega
 have bh1:a / 4294967296 * (b / 4294967296) + (a / 4294967296 * (b % 4294967296) + a % 4294967296 * (b % 4294967296) / 4294967296) / 4294967296 < 18446744073709551616:=by omega
 have bh:a / 4294967296 * (b / 4294967296) + (a / 4294967296 * (b % 4294967296) + a % 4294967296 * (b % 4294967296) / 4294967296) / 4294967296 + ((a / 4294967296 * (b % 4294967296) + a % 4294967296 * (b % 4294967296) / 4294967296) % 4294967296 + a % 4294967296 * (b / 4294967296)) / 4294967296 < 18446744073709551616:=by omega
 simp only [modU,divU,mulU,addU,wrapU _ bd,wrapU _ bb',wrapU _ bt,maskU _ bt,wrapU _ bc',wrapU _ bw,wrapU _ ba',wrapU _ bh1,wrapU _ bh,wrapUM (a * b)]
 rw [hhi]
 exact K_eq h (by simp)
def len8:ByteArray:=⟨#[0,1,2,2,3,3,3,3,4,4,4,4,4,4,4,4,5,5,5,5,5,5,5,5,5,5,5,5,5,5,5,5,6,6,6,6,6,6,6,6,6,6,6,6,6,6,6,6,6,6,6,6,6,6,6,6,6,6,6,6,6,6,6,6,7,7,7,7,7,7,7,7,7,7,7,7,7,7,7,7,7,7,7,7,7,7,7,7,7,7,7,7,7,7,7,7,7,7,7,7,7,7,7,7,7,7,7,7,7,7,7,7,7,7,7,7,7,7,7,7,7,7,7,7,7,7,7,7,8,8,8,8,8,8,8,8,8,8,8,8,8,8,8,8,8,8,8,8,8,8,8,8,8,8,8,8,8,8,8,8,8,8,8,8,8,8,8,8,8,8,8,8,8,8,8,8,8,8,8,8,8,8,8,8,8,8,8,8,8,8,8,8,8,8,8,8,8,8,8,8,8,8,8,8,8,8,8,8,8,8,8,8,8,8,8,8,8,8,8,8,8,8,8,8,8,8,8,8,8,8,8,8,8,8,8,8,8,8,8,8,8,8,8,8,8,8,8,8,8,8,8,8,8,8,8,8]⟩
theorem len8_size:len8.size = 256:=by decide +kernel
theorem len_bits (x:Nat) (hx:x < 256):x < 2 ^ (byteAt len8 x).toNat ∧ (x ≠ 0 → 1 ≤ (byteAt len8 x).toNat ∧ 2 ^ ((byteAt len8 x).toNat - 1) ≤ x) ∧ (byteAt len8 x).toNat ≤ 8 ∧ (x = 0 → (byteAt len8 x).toNat = 0):=by
 have:∀ x,x < 256 → x < 2 ^ (byteAt len8 x).toNat ∧ (x ≠ 0 → 1 ≤ (byteAt len8 x).toNat ∧ 2 ^ ((byteAt len8 x).toNat - 1) ≤ x) ∧ (byteAt len8 x).toNat ≤ 8 ∧ (x = 0 → (byteAt len8 x).toNat = 0):=by decide +kernel
 exact this x hx
theorem oM_index_len8 (i:Int) (T:TypeId):oM Tryz.prog (.index 9 (.tmp 0) (.tmp 1)) T [.string len8,.int .u8 i] = onM (0 ≤ i ∧ i < 256) (.int .u8 (byteAt len8 i.toNat).toNat):=by
 funext K w
 rw [oM_value (S:=Instr.index 9 (.string len8) (.int .u8 i)) rfl,run_index_string (P:=Tryz.prog) (w:=w) 9 len8 .u8 i (by kernel_rfl)]
 have e:=len8_size
 by_cases hi:0 ≤ i ∧ i < len8.size
 ·rw [dif_pos hi,ok_iff,← byteAt_get]
  exact propext ⟨fun hk=>⟨⟨hi.1,by omega⟩,hk⟩,fun ⟨_,hk⟩=>hk⟩
 ·rw [dif_neg hi]
  obtain ⟨e',w',he⟩:=halts Value Tryz.prog .u8 i len8.size .index w
  rw [he,halt_iff]
  exact propext ⟨fun h=>h.elim,fun ⟨h,_⟩=>hi ⟨h.1,by omega⟩⟩
theorem stage (x k s:Nat) (h:2 ^ s ≤ x / 2 ^ k):x / 2 ^ (k + s) = x / 2 ^ k / 2 ^ s ∧ 2 ^ (k + s) ≤ x:=by
 refine ⟨by rw [Nat.pow_add,Nat.div_div_eq_div_mul],?_⟩
 rw [Nat.pow_add,Nat.mul_comm]
 exact (Nat.le_div_iff_mul_le (Nat.pow_pos (by omega))).1 h
structure BitLen (x L:Nat):Prop where
 lt:x < 2 ^ L
 ge:x ≠ 0 → 1 ≤ L ∧ 2 ^ (L - 1) ≤ x
 le:L ≤ 64
def BlM (x B m:Nat) (w:World) (l:List Value) (w':World):Prop:=w' = w ∧ ∃ k:Nat,l = [.int .u64 ((x / 2 ^ k:Nat):Int),.int .i64 (k:Int)] ∧ x / 2 ^ k < B ∧ (k = 0 ∨ 2 ^ k ≤ x) ∧ k ≤ m
theorem len64_ok (x:Nat) (hx:x < 18446744073709551616) (h:∀ L,BitLen x L → K (.int .i64 (L:Nat)) w):callM Tryz.prog 197 #[.int .u64 (x:Int)] K w:=by
 apply sh_197_ok
 unfold sh_197
 rw [show (⟨#[0,1,2,2,3,3,3,3,4,4,4,4,4,4,4,4,5,5,5,5,5,5,5,5,5,5,5,5,5,5,5,5,6,6,6,6,6,6,6,6,6,6,6,6,6,6,6,6,6,6,6,6,6,6,6,6,6,6,6,6,6,6,6,6,7,7,7,7,7,7,7,7,7,7,7,7,7,7,7,7,7,7,7,7,7,7,7,7,7,7,7,7,7,7,7,7,7,7,7,7,7,7,7,7,7,7,7,7,7,7,7,7,7,7,7,7,7,7,7,7,7,7,7,7,7,7,7,7,8,8,8,8,8,8,8,8,8,8,8,8,8,8,8,8,8,8,8,8,8,8,8,8,8,8,8,8,8,8,8,8,8,8,8,8,8,8,8,8,8,8,8,8,8,8,8,8,8,8,8,8,8,8,8,8,8,8,8,8,8,8,8,8,8,8,8,8,8,8,8,8,8,8,8,8,8,8,8,8,8,8,8,8,8,8,8,8,8,8,8,8,8,8,8,8,8,8,8,8,8,8,8,8,8,8,8,8,8,8,8,8,8,8,8,8,8,8,8,8,8,8,8,8,8,8,8,8]⟩:ByteArray) = len8 from rfl]
 refine ⟨BlM x 4294967296 32 w,?_,?_⟩
 ·repeat (any_goals (first
  | (with_reducible ((refine idCond ?_); refine yP (fun hg=>?_) fun hg=>?_))
  | ((with_reducible refine oG fun X Y=>?_); simp [go_sem]; apply Y; clear Y X)))
  ·exact ⟨rfl,32,by simp,by omega,by omega,by omega⟩
  ·exact ⟨rfl,0,by simp,by simp; omega,by omega,by omega⟩
 rintro _ _ w1 ⟨e1,k,rfl,h1,h2,h3⟩
 rw [e1]
 clear e1 w1
 refine ⟨BlM x 65536 48 w,?_,?_⟩
 ·have hs:=stage x k 16
  obtain ⟨y,hy⟩:∃ y,y = x / 2 ^ k:=⟨_,rfl⟩
  rw [← hy] at hs h1 ⊢
  repeat (any_goals (first
  | (with_reducible ((refine idCond ?_); refine yP (fun hg=>?_) fun hg=>?_))
  | ((with_reducible refine oG fun X Y=>?_); simp [go_sem]; (try simp (disch:=omega) only [wrapI64,wrapU8,wrapU32,wrapU64]); apply Y; clear Y X)))
  ·have hs:=hs (by omega)
   exact ⟨rfl,k + 16,by rw [hs.1]; simp,by rw [hs.1]; omega,.inr hs.2,by omega⟩
  ·exact ⟨rfl,k,by rw [hy]; rfl,by omega,h2,by omega⟩
 clear h1 h2 h3 k
 rintro _ _ w1 ⟨e1,k,rfl,h1,h2,h3⟩
 rw [e1]
 clear e1 w1
 refine ⟨BlM x 256 56 w,?_,?_⟩
 ·have hs:=stage x k 8
  obtain ⟨y,hy⟩:∃ y,y = x / 2 ^ k:=⟨_,rfl⟩
  rw [← hy] at hs h1 ⊢
  repeat (any_goals (first
  | (with_reducible ((refine idCond ?_); refine yP (fun hg=>?_) fun hg=>?_))
  | ((with_reducible refine oG fun X Y=>?_); simp [go_sem]; (try simp (disch:=omega) only [wrapI64,wrapU8,wrapU32,wrapU64]); apply Y; clear Y X)))
  ·have hs:=hs (by omega)
   exact ⟨rfl,k + 8,by rw [hs.1]; simp,by rw [hs.1]; omega,.inr hs.2,by omega⟩
  ·exact ⟨rfl,k,by rw [hy]; rfl,by omega,h2,by omega⟩
 clear h1 h2 h3 k
 rintro _ _ w1 ⟨e1,k,rfl,h1,h2,h3⟩
 rw [e1]
 clear e1 w1
 obtain ⟨l1,l2,l3,l4⟩:=len_bits (x / 2 ^ k) h1
 have hL:BitLen x (k + (byteAt len8 (x / 2 ^ k)).toNat):=by
  generalize (byteAt len8 (x / 2 ^ k)).toNat = L at *
  have hp:0 < 2 ^ k:=Nat.pow_pos (by omega)
  refine ⟨?_,?_,by omega⟩
  ·rw [Nat.pow_add,Nat.mul_comm]
   exact (Nat.div_lt_iff_lt_mul hp).1 l1
  ·intro h0
   by_cases hy:x / 2 ^ k = 0
   ·rw [Nat.div_eq_zero_iff] at hy
    rcases h2 with rfl | h2 <;> simp at hy <;> omega
   ·obtain ⟨a,b⟩:=l2 hy
    refine ⟨by omega,?_⟩
    rw [show k + L - 1 = k + (L - 1) by omega,Nat.pow_add,Nat.mul_comm]
    exact (Nat.le_div_iff_mul_le hp).1 b
 obtain ⟨y,hy⟩:∃ y,y = x / 2 ^ k:=⟨_,rfl⟩
 have hk:=h _ hL
 simp only [← hy] at hk h1 l3 ⊢
 repeat (any_goals ((with_reducible refine oG fun X Y=>?_); simp [go_sem,oM_index_len8]; (try simp (disch:=omega) only [wrapI64,wrapU8,wrapU32,wrapU64]); (first|refine Y _ _ ?_|refine And.intro (by omega) (Y _ _ ?_)); clear Y X))
 exact K_eq hk (by simp)
def dgLoop (vh vl vd:Value) (M:List Value → World → Prop) (x:List Value) (w:World):Prop:=
 (loopM x w (fun J_30 m_31 l u_l w0_l=>(fun w=>(
 oM Tryz.prog (Go.Op.binOp Go.BinOp.geq 249 (.tmp 0) (.tmp 1) 249) 4 [(l.getD 0 undef),(.int .u64 4294967296)] (fun v68_33 w=>
 gdM (gd v68_33 false) (pureM (l.getD 0 undef)) (fun v70_34 w=>
 gdM (gd v68_33 false) (pureM vl) (fun v71_35 w=>
 gdM (gd v68_33 false) (oM Tryz.prog (Go.Op.binOp Go.BinOp.mul 249 (.tmp 0) (.tmp 1) 249) 249 [v70_34,v71_35]) (fun v72_36 w=>
 gdM (gd v68_33 false) (pureM (l.getD 1 undef)) (fun v73_37 w=>
 gdM (gd v68_33 false) (oM Tryz.prog (Go.Op.binOp Go.BinOp.mul 249 (.tmp 0) (.tmp 1) 249) 249 [(.int .u64 4294967296),v73_37]) (fun v74_38 w=>
 gdM (gd v68_33 false) (pureM vd) (fun v75_39 w=>
 gdM (gd v68_33 false) (oM Tryz.prog (Go.Op.binOp Go.BinOp.add 249 (.tmp 0) (.tmp 1) 249) 249 [v74_38,v75_39]) (fun v76_40 w=>
 gdM (gd v68_33 false) (oM Tryz.prog (Go.Op.binOp Go.BinOp.gtr 249 (.tmp 0) (.tmp 1) 249) 4 [v72_36,v76_40]) (fun v77_41 w=>
 oM Tryz.prog (Go.Op.pick (.tmp 0) (.tmp 1) (.tmp 2)) 4 [v68_33,(.bool true),v77_41] (fun v78_42 w=>
 condM v78_42
 (oM Tryz.prog (Go.Op.binOp Go.BinOp.sub 249 (.tmp 0) (.tmp 1) 249) 249 [(l.getD 0 undef),(.int .u64 1)] (fun v80_43 w=>
 oM Tryz.prog (Go.Op.binOp Go.BinOp.add 249 (.tmp 0) (.tmp 1) 249) 249 [(l.getD 1 undef),vh] (fun v83_44 w=>
 oM Tryz.prog (Go.Op.binOp Go.BinOp.geq 249 (.tmp 0) (.tmp 1) 249) 4 [v83_44,(.int .u64 4294967296)] (fun v85_45 w=>
 condM v85_45
 (M [v80_43,v83_44] w)
 (J_30 [v80_43,v83_44] w ∧ m_31 [v80_43,v83_44] w < m_31 l w0_l)) w) w) w)
 (M [(l.getD 0 undef),(l.getD 1 undef)] w)) w) w) w) w) w) w) w) w) w) w)) w0_l))
def DgJ (h l u d:Nat) (w:World) (x:List Value) (w':World):Prop:=w' = w ∧ ∃ q r:Nat,x = [.int .u64 (q:Int),.int .u64 (r:Int)] ∧ Digit h l u d q r ∧ r < 4294967296
theorem dg_ok (h l u d:Nat) (M:List Value → World → Prop) (hh:2147483648 ≤ h) (hh2:h < 4294967296) (hl:l < 4294967296) (hd:d < 4294967296) (hu:u < h * 4294967296 + l)
  (hM:∀ r:Nat,M [.int .u64 (((u * 4294967296 + d) / (h * 4294967296 + l):Nat):Int),.int .u64 (r:Int)] w):dgLoop (.int .u64 (h:Int)) (.int .u64 (l:Int)) (.int .u64 (d:Int)) M [.int .u64 ((u / h:Nat):Int),.int .u64 ((u - u / h * h:Nat):Int)] w:=by
 unfold dgLoop
 refine ⟨DgJ h l u d w,fun x _=>match x with | [.int _ q,_]=>q.toNat | _=>0,⟨rfl,_,_,rfl,digit_start hh hh2 hl hd hu,?_⟩,?_⟩
 ·have h1:=Nat.mod_lt u (show h > 0 by omega)
  have h2:=Nat.div_add_mod u h
  rw [Nat.mul_comm] at h2
  omega
 rintro _ _ w1 ⟨e1,q,r,rfl,D,hr⟩
 rw [e1]
 clear e1 w1
 have hq:=D.le
 have ht:=digit_test D
 have hbig:=fun hb:4294967296 ≤ q=>digit_big hu hd hb
 have hstep:=fun hb=>digit_step D hb
 have hpos:=fun hb=>digit_pos D hb
 have hend:=fun hb=>digit_end D hb
 have hbr:∀ hb,4294967296 ≤ r + h → q - 1 = (u * 4294967296 + d) / (h * 4294967296 + l):=fun hb hg=>digit_end (hstep hb) (digit_break (hstep hb) hl (by omega) hg)
 have hql:q < 4294967296 → q * l < 18446744073709551616:=fun hb=>by
  have:=Nat.mul_le_mul (show q ≤ 4294967295 by omega) (show l ≤ 4294967295 by omega)
  omega
 generalize (u * 4294967296 + d) / (h * 4294967296 + l) = Q at *
 generalize (u * 4294967296 + d < q * (h * 4294967296 + l)) = T at *
 have hmul:(q:Int) * (l:Int) = ((q * l:Nat):Int):=(Int.natCast_mul q l).symm
 generalize q * l = ql at *
 have fin1:(4294967296 ≤ r + h → q - 1 = Q) → 0 < q → 4294967296 ≤ r + h → M [.int .u64 ((q:Int) - 1),.int .u64 ((r:Int) + h)] w:=fun a b c=>by
  rw [show (q:Int) - 1 = ((q - 1:Nat):Int) by omega,show (r:Int) + h = ((r + h:Nat):Int) by omega,a c]; exact hM _
 have fin2:Digit h l u d (q - 1) (r + h) → 0 < q → ¬ 4294967296 ≤ r + h → DgJ h l u d w [.int .u64 ((q:Int) - 1),.int .u64 ((r:Int) + h)] w ∧ ((q:Int) - 1).toNat < (q:Int).toNat:=fun a b c=>by
  rw [show (q:Int) - 1 = ((q - 1:Nat):Int) by omega,show (r:Int) + h = ((r + h:Nat):Int) by omega]
  exact ⟨⟨rfl,_,_,rfl,a,by omega⟩,by omega⟩
 by_cases hb:4294967296 ≤ q
 ·have hT:=hbig hb
  have hst:=hstep hT
  have hps:=hpos hT
  have hbr:=hbr hT
  repeat (any_goals (first
  | (with_reducible first|((refine idGd ?_); ((refine idGdD ?_); refine zJ ?_))|refine yD ?_|((refine idCond ?_); first|refine yL ?_|refine yP (fun hg=>?_) fun hg=>?_))
  | ((with_reducible refine oG fun Kv hK=>?_); simp [go_sem,hb]; (try simp (disch:=omega) only [wrapI64,wrapU8,wrapU32,wrapU64]); apply hK; clear hK Kv)))
  ·exact fin1 hbr hps (by omega)
  ·exact fin2 hst hps (by omega)
 ·have hql:=hql (by omega)
  by_cases hT:T
  ·have hst:=hstep hT
   have hps:=hpos hT
   have hbr:=hbr hT
   have htt:=ht.2 hT
   repeat (any_goals (first
   | (with_reducible first|refine pureM_in ?_|((refine idGd ?_); ((refine idGdD ?_); refine zI ?_))|refine yE ?_|((refine idCond ?_); first|refine yN ?_|refine yP (fun hg=>?_) fun hg=>?_))
   | ((with_reducible refine oG fun Kv hK=>?_); simp [go_sem,hb,hmul]; (try simp (disch:=omega) only [wrapI64,wrapU8,wrapU32,wrapU64]); apply hK; clear hK Kv)))
   ·exact fin1 hbr hps (by omega)
   ·exact fin2 hst hps (by omega)
  ·have he:=hend hT
   have htt:¬ _:=fun h=>hT (ht.1 h)
   repeat (any_goals (first
   | (with_reducible first|refine pureM_in ?_|((refine idGd ?_); ((refine idGdD ?_); refine zI ?_))|refine yE ?_|refine yO ?_)
   | ((with_reducible refine oG fun Kv hK=>?_); simp [go_sem,hb,hmul]; (try simp (disch:=omega) only [wrapI64,wrapU8,wrapU32,wrapU64]); apply hK; clear hK Kv)))
   simp only [List.getD_cons_zero,List.getD_cons_succ]
   rw [he]
   exact hM _
theorem lead64_ok (x:Nat) (hx:x < 18446744073709551616) (h:∀ L,BitLen x L → K (.int .i64 (64 - (L:Int))) w):callM Tryz.prog 245 #[.int .u64 (x:Int)] K w:=by
 apply sh_245_ok
 unfold sh_245
 refine len64_ok x hx ?_
 intro L hL
 have:=hL.le
 repeat (any_goals ((with_reducible refine oG fun Kv hK=>?_); simp [go_sem]; (try simp (disch:=omega) only [wrapI64,wrapU8,wrapU32,wrapU64]); apply hK; clear hK Kv))
 exact h L hL
theorem norm_len (y L:Nat) (hy:0 < y) (hL:BitLen y L):9223372036854775808 ≤ y * 2 ^ (64 - L) ∧ y * 2 ^ (64 - L) < 18446744073709551616:=by
 obtain ⟨a,b⟩:=hL.ge (by omega)
 have h64:=hL.le
 have h1:2 ^ (L - 1) * 2 ^ (64 - L) = 9223372036854775808:=by
  rw [← Nat.pow_add,show L - 1 + (64 - L) = 63 by omega]
 have h2:2 ^ L * 2 ^ (64 - L) = 18446744073709551616:=by
  rw [← Nat.pow_add,show L + (64 - L) = 64 by omega]
 have hp:0 < 2 ^ (64 - L):=Nat.pow_pos (by omega)
 exact ⟨by rw [← h1]; exact Nat.mul_le_mul_right _ b,by rw [← h2]; exact (Nat.mul_lt_mul_right hp).2 hL.lt⟩
theorem norm_top (hi lo s:Nat) (hs:s ≤ 64) (hlo:lo < 18446744073709551616):(hi * 2 ^ s + lo / 2 ^ (64 - s)) * 18446744073709551616 + lo * 2 ^ s % 18446744073709551616 = (hi * 18446744073709551616 + lo) * 2 ^ s ∧ lo / 2 ^ (64 - s) < 2 ^ s:=by
 have h2:2 ^ (64 - s) * 2 ^ s = 18446744073709551616:=by rw [← Nat.pow_add,show 64 - s + s = 64 by omega]
 have hp:0 < 2 ^ s:=Nat.pow_pos (by omega)
 have hq:0 < 2 ^ (64 - s):=Nat.pow_pos (by omega)
 have h3:lo * 2 ^ s / 18446744073709551616 = lo / 2 ^ (64 - s):=by
  rw [← h2,Nat.mul_div_mul_right _ _ hp]
 have h4:=Nat.div_add_mod (lo * 2 ^ s) 18446744073709551616
 refine ⟨?_,?_⟩
 ·rw [h3] at h4
  rw [Nat.add_mul,Nat.add_mul,Nat.mul_right_comm hi,Nat.add_assoc,Nat.mul_comm (lo / _) 18446744073709551616,h4]
 ·rw [Nat.div_lt_iff_lt_mul hq,Nat.mul_comm,h2]; exact hlo
def EqW (w:World) (l:List Value) (w':World):Prop:=w' = w
def DgE (Q:Nat) (w:World) (l:List Value) (w':World):Prop:=w' = w ∧ ∃ r:Nat,l = [.int .u64 (Q:Int),.int .u64 (r:Int)]
theorem left_wrap (X d Y Q U:Nat) (hs:Q * Y + U = X * 4294967296 + d) (hU:U < 18446744073709551616):IntKind.u64.wrap (IntKind.u64.wrap (IntKind.u64.wrap ((X:Int) * 4294967296) + (d:Int)) - IntKind.u64.wrap ((Q:Int) * (Y:Int))) = (U:Int):=by
 have hm:(Q:Int) * (Y:Int) = ((Q * Y:Nat):Int):=(Int.natCast_mul Q Y).symm
 rw [hm]
 generalize Q * Y = P at *
 simp only [IntKind.wrap_u64]
 omega
theorem half_div (X h:Nat) (hX:X < 18446744073709551616) (hh:2147483648 ≤ h):∃ q p r:Nat,X / h = q ∧ q * h = p ∧ X - p = r ∧ p ≤ X ∧ q < 18446744073709551616 ∧ (X:Int).tdiv (h:Int) = (q:Int) ∧ (q:Int) * (h:Int) = (p:Int) ∧ (X:Int) - (p:Int) = (r:Int):=by
 have h1:=Nat.div_mul_le_self X h
 have h2:=Nat.div_le_self X h
 refine ⟨_,_,_,rfl,rfl,rfl,h1,by omega,?_,(Int.natCast_mul _ _).symm,by omega⟩
 rw [Int.tdiv_eq_ediv_of_nonneg (by omega)]; rfl
set_option maxHeartbeats 1000000 in
theorem div64_ok (hi lo y:Nat) (hlt:hi < y) (hy:y < 18446744073709551616) (hlo:lo < 18446744073709551616) (k:∀ (q:Int) w',Below w.heap.size w w' → K (.tuple #[.int .u64 q,.int .u64 (((hi * 18446744073709551616 + lo) % y:Nat):Int)]) w'):callM Tryz.prog 235 #[.int .u64 (hi:Int),.int .u64 (lo:Int),.int .u64 (y:Int)] K w:=by
 apply sh_235_ok
 unfold sh_235
 refine ⟨EqW w,?_,?_⟩
 ·repeat (any_goals (first
  | (with_reducible refine yO ?_)
  | ((with_reducible refine oG fun Kv hK=>?_); simp [go_sem]; apply hK; clear hK Kv)))
  exact rfl
 rintro _ _ w1 e1
 rw [show w1 = w from e1]
 clear e1 w1
 refine ⟨EqW w,?_,?_⟩
 ·repeat (any_goals (first
  | (with_reducible refine yO ?_)
  | ((with_reducible refine oG fun Kv hK=>?_); simp [go_sem]; apply hK; clear hK Kv)))
  exact rfl
 rintro _ _ w1 e1
 rw [show w1 = w from e1]
 clear e1 w1
 by_cases h0:hi = 0
 ·subst h0
  have k0:=k ((lo / y:Nat):Int) _ (Below.drew (Below.refl _ w))
  have t1:((lo:Int).tdiv (y:Int)) = ((lo / y:Nat):Int):=by rw [Int.tdiv_eq_ediv_of_nonneg (by omega)]; rfl
  have t2:((lo:Int).tmod (y:Int)) = ((lo % y:Nat):Int):=by rw [Int.tmod_eq_emod_of_nonneg (by omega)]; rfl
  have t3:=Nat.div_le_self lo y
  simp only [Nat.zero_mul,Nat.zero_add] at k0
  generalize lo / y = a at *
  generalize lo % y = b at *
  repeat (any_goals (first
  | (with_reducible refine yL ?_)
  | ((with_reducible refine oG fun Kv hK=>?_); simp [go_sem,t1,t2]; apply hK; clear hK Kv)))
  refine quietM_one ?_
  repeat (any_goals (first
  | (with_reducible first|refine And.intro (Eq.refl (α:=World) _) ?_|refine forall_one ?_)
  | ((with_reducible refine idOQ ?_); ((with_reducible refine oQ_one ?_ ?_); exact ⟨_,rfl⟩))
  | ((with_reducible refine oG fun Kv hK=>?_); simp [go_sem,t1,t2]; (try simp (disch:=omega) only [wrapI64,wrapU8,wrapU32,wrapU64]); refine And.intro (by omega) (hK _ _ ?_); clear hK Kv)))
  exact k0
 obtain ⟨s,hs⟩:∃ s,s = 64:=⟨_,rfl⟩
 repeat (any_goals (first
 | (with_reducible refine yO ?_)
 | ((with_reducible refine oG fun Kv hK=>?_); simp [go_sem]; apply hK; clear hK Kv)))
 refine lead64_ok y hy ?_
 intro L hL
 clear s hs
 have hn:=norm_len y L (by omega) hL
 have hL64:=hL.le
 obtain ⟨s,hs⟩:∃ s,s = 64 - L:=⟨_,rfl⟩
 rw [← hs] at hn
 have hs64:s ≤ 64:=by omega
 obtain ⟨hN,hB⟩:=norm_top hi lo s hs64 hlo
 have hres:=norm_rest hi lo y s _ _ hN
 have hAB:hi * 2 ^ s + lo / 2 ^ (64 - s) < y * 2 ^ s:=by
  have:=Nat.mul_le_mul_right (2 ^ s) (show hi + 1 ≤ y by omega)
  rw [Nat.add_mul,Nat.one_mul] at this
  omega
 have hsub:(64:Int) - (L:Int) = (s:Int):=by omega
 have hpow:∀ a:Nat,(a:Int) * 2 ^ s = ((a * 2 ^ s:Nat):Int):=fun a=>by rw [Int.natCast_mul,Int.natCast_pow]; rfl
 have hdiv:∀ a:Nat,(a:Int) / 2 ^ (64 - s) = ((a / 2 ^ (64 - s):Nat):Int):=fun a=>by rw [Int.natCast_ediv,Int.natCast_pow]; rfl
 have hBi:((lo / 2 ^ (64 - s):Nat):Int) < 2 ^ s:=by
  have:=Int.ofNat_lt.2 hB
  rw [Int.natCast_pow] at this
  exact this
 have hor:=or_add64 s (hi:Int) ((lo / 2 ^ (64 - s):Nat):Int) hs64 (Int.natCast_nonneg _) ⟨Int.natCast_nonneg _,hBi⟩
 have hD:lo * 2 ^ s % 18446744073709551616 < 18446744073709551616:=Nat.mod_lt _ (by omega)
 have hDi:((lo * 2 ^ s:Nat):Int) % 18446744073709551616 = ((lo * 2 ^ s % 18446744073709551616:Nat):Int):=by rw [Int.natCast_emod]; rfl
 have hsub2:((64:Int) - (s:Int)).toNat = 64 - s:=by omega
 rw [hpow] at hor
 clear hN hB hBi hL
 generalize lo * 2 ^ s % 18446744073709551616 = D at *
 generalize hlo2:lo * 2 ^ s = lo2 at *
 generalize hA:hi * 2 ^ s = A at *
 generalize hB:lo / 2 ^ (64 - s) = B at *
 generalize hY:y * 2 ^ s = Y at *
 have hor:=hor (by omega)
 have hAm:(A:Int) % 18446744073709551616 = (A:Int):=by omega
 have hYm:(Y:Int) % 18446744073709551616 = (Y:Int):=by omega
 have hpa:=hpow hi
 have hpl:=hpow lo
 have hpy:=hpow y
 have hdl:=hdiv lo
 rw [hA] at hpa
 rw [hlo2] at hpl
 rw [hY] at hpy
 rw [hB] at hdl
 rw [hsub]
 obtain ⟨t,ht⟩:∃ t,t = 64 - s:=⟨_,rfl⟩
 have ht2:(64:Int) - (s:Int) = (t:Int):=by omega
 rw [← ht] at hdl
 have rl:=fun x=>oM_shl64 (P:=Tryz.prog) 249 231 249 .u64 x (s:Int) (by omega) (by omega)
 have rr:=fun x=>oM_shr64 (P:=Tryz.prog) 249 231 249 .u64 x (s:Int) (by omega) (by omega)
 have rt:=fun x=>oM_shr64 (P:=Tryz.prog) 249 231 249 .u64 x (t:Int) (by omega) (by omega)
 simp only [Int.toNat_natCast] at rl rr rt
 obtain ⟨h,hh⟩:∃ h,h = Y / 4294967296:=⟨_,rfl⟩
 obtain ⟨l,hl⟩:∃ l,l = Y % 4294967296:=⟨_,rfl⟩
 obtain ⟨d1,hd1⟩:∃ d1,d1 = D / 4294967296:=⟨_,rfl⟩
 obtain ⟨d0,hd0⟩:∃ d0,d0 = D % 4294967296:=⟨_,rfl⟩
 obtain ⟨X,hX⟩:∃ X,X = A + B:=⟨_,rfl⟩
 have hhi:(Y:Int) / 4294967296 = (h:Int):=by omega
 have hli:bits .and .u64 (Y:Int) 4294967295 = (l:Int):=by rw [maskU Y (by omega),← hl]
 have hd1i:(D:Int) / 4294967296 = (d1:Int):=by omega
 have hd0i:bits .and .u64 (D:Int) 4294967295 = (d0:Int):=by rw [maskU D (by omega),← hd0]
 have hXi:(A:Int) + (B:Int) = (X:Int):=by omega
 have hhl:h * 4294967296 + l = Y:=by omega
 rw [← hX,← hd1,← hd0] at hres
 obtain ⟨q1,p1,r1,e1,e2,e3,e4,e5,e6,e7,e8⟩:=half_div X h (by omega) (by omega)
 obtain ⟨Q,hQ⟩:∃ Q,Q = (X * 4294967296 + d1) / Y:=⟨_,rfl⟩
 obtain ⟨U,hU⟩:∃ U,U = (X * 4294967296 + d1) % Y:=⟨_,rfl⟩
 have hUY:U < Y:=by rw [hU]; exact Nat.mod_lt _ (by omega)
 have dg:=dg_ok (w:=w) h l X d1 (DgE Q w) (by omega) (by omega) (by omega) (by omega) (by omega) (fun r=>⟨rfl,r,by rw [hhl,← hQ]⟩)
 have lw:=left_wrap X d1 Y Q U (by rw [hQ,hU]; exact Nat.div_add_mod' _ _) (by omega)
 obtain ⟨q2,p2,r2,f1,f2,f3,f4,f5,f6,f7,f8⟩:=half_div U h (by omega) (by omega)
 obtain ⟨Q2,hQ2⟩:∃ Q2,Q2 = (U * 4294967296 + d0) / Y:=⟨_,rfl⟩
 obtain ⟨R,hR⟩:∃ R,R = (U * 4294967296 + d0) % Y:=⟨_,rfl⟩
 have hRY:R < Y:=by rw [hR]; exact Nat.mod_lt _ (by omega)
 have dg2:=dg_ok (w:=w) h l U d0 (DgE Q2 w) (by omega) (by omega) (by omega) (by omega) (by omega) (fun r=>⟨rfl,r,by rw [hhl,← hQ2]⟩)
 have lw2:=left_wrap U d0 Y Q2 R (by rw [hQ2,hR]; exact Nat.div_add_mod' _ _) (by omega)
 rw [← hU,← hR] at hres
 rw [e1,e2,e3] at dg
 rw [f1,f2,f3] at dg2
 have hRi:(R:Int) / 2 ^ s = ((R / 2 ^ s:Nat):Int):=by rw [Int.natCast_ediv,Int.natCast_pow]; rfl
 rw [hres] at hRi
 clear hres hR hU hQ hQ2 e1 e2 e3 f1 f2 f3 hh hl hd1 hd0 hX
 repeat (any_goals ((with_reducible refine oG fun Kv hK=>?_); simp [go_sem,rl,rr,rt,ht2,hpa,hpl,hpy,hdl,hor,hAm,hYm,hDi,hXi,hhi,hli,hd1i,hd0i,e6,e7,e8]; (try simp (disch:=omega) only [wrapI64,wrapU8,wrapU32,wrapU64]); (first|refine hK _ _ ?_|refine And.intro (by omega) (hK _ _ ?_)); clear hK Kv))
 refine ⟨DgE Q w,dg,?_⟩
 rintro _ _ w1 ⟨e1,r,rfl⟩
 rw [e1]
 clear e1 w1
 repeat (any_goals ((with_reducible refine oG fun Kv hK=>?_); simp [go_sem,rl,rr,rt,lw,f6,f7,f8]; (try simp (disch:=omega) only [wrapI64,wrapU8,wrapU32,wrapU64]); (first|refine hK _ _ ?_|refine And.intro (by omega) (hK _ _ ?_)); clear hK Kv))
 refine ⟨DgE Q2 w,dg2,?_⟩
 rintro _ _ w1 ⟨e1,r',rfl⟩
 rw [e1]
 clear e1 w1
 repeat (any_goals ((with_reducible refine oG fun Kv hK=>?_); simp [go_sem,rl,rr,rt,lw2,hRi]; apply hK; clear hK Kv))
 exact k _ _ (Below.refl _ _)
theorem rem64_ok (hi lo y:Nat) (hhi:hi < 18446744073709551616) (hy0:0 < y) (hy:y < 18446744073709551616) (hlo:lo < 18446744073709551616) (k:∀ w',Below w.heap.size w w' → K (.int .u64 (((hi * 18446744073709551616 + lo) % y:Nat):Int)) w'):callM Tryz.prog 213 #[.int .u64 (hi:Int),.int .u64 (lo:Int),.int .u64 (y:Int)] K w:=by
 apply sh_213_ok
 unfold sh_213
 have e1:(hi:Int).tmod (y:Int) = ((hi % y:Nat):Int):=by rw [Int.tmod_eq_emod_of_nonneg (by omega)]; rfl
 have e2:(hi % y * 18446744073709551616 + lo) % y = (hi * 18446744073709551616 + lo) % y:=by
  rw [Nat.add_mod,Nat.mul_mod,Nat.mod_mod,← Nat.mul_mod,← Nat.add_mod]
 have hlt:=Nat.mod_lt hi hy0
 rw [← e2] at k
 generalize hi % y = r at *
 repeat (any_goals ((with_reducible refine oG fun X Y=>?_); simp [go_sem,e1]; refine And.intro (by omega) (Y _ _ ?_); clear Y X))
 refine div64_ok r lo y hlt hy hlo ?_
 intro q w1 hb
 repeat (any_goals ((with_reducible refine oG fun X Y=>?_); simp [go_sem]; apply Y; clear Y X))
 exact k _ hb
theorem product_ok (n a b:Int) (hn:okN n) (ha:0 ≤ a ∧ a < n) (hb:0 ≤ b ∧ b < n) (k:∀ w',Below w.heap.size w w' → K (.int .u64 (a * b % n)) w'):callM Tryz.prog 183 #[.int .i64 n,.int .u64 a,.int .u64 b] K w:=by
 apply sh_183_ok
 unfold sh_183
 obtain ⟨h1,h2⟩:=hn
 skip
 refine mul64_ok a b ⟨ha.1,by omega⟩ ⟨hb.1,by omega⟩ ?_
 obtain ⟨a,rfl⟩:=natN a ha.1
 obtain ⟨b,rfl⟩:=natN b hb.1
 obtain ⟨n,rfl⟩:=natN n (by omega)
 rw [mulU]
 have hab:a * b < 18446744073709551616 * 18446744073709551616:=Nat.mul_lt_mul'' (by omega) (by omega)
 have e1:((a * b:Nat):Int) / 18446744073709551616 = ((a * b / 18446744073709551616:Nat):Int):=by omega
 have e2:((a * b:Nat):Int) % 18446744073709551616 = ((a * b % 18446744073709551616:Nat):Int):=by omega
 have e3:((a * b % n:Nat):Int) = (a:Int) * (b:Int) % (n:Int):=by rw [Int.natCast_emod,Int.natCast_mul]
 rw [e1,e2]
 have h5:a * b / 18446744073709551616 * 18446744073709551616 + a * b % 18446744073709551616 = a * b:=Nat.div_add_mod' _ _
 have h3:a * b / 18446744073709551616 < 18446744073709551616:=by omega
 have h4:a * b % 18446744073709551616 < 18446744073709551616:=by omega
 rw [← e3,← h5] at k
 generalize a * b / 18446744073709551616 = hi at *
 generalize a * b % 18446744073709551616 = lo at *
 repeat (any_goals ((with_reducible refine oG fun X Y=>?_); simp [go_sem]; (try simp (disch:=omega) only [wrapI64,wrapU8,wrapU32,wrapU64]); apply Y; clear Y X))
 exact rem64_ok hi lo n h3 (by omega) (by omega) h4 k
def PwJ (n R:Int) (w:World) (l:List Value) (w':World):Prop:=Below w.heap.size w w' ∧ ∃ (out a:Int) (b:Nat),l = [.int .u64 out,.int .u64 a,.int .u64 (b:Int)] ∧ (0 ≤ out ∧ out < n) ∧ (0 ≤ a ∧ a < n) ∧ b < 18446744073709551616 ∧ out * a ^ b % n = R
def PwM (n R a:Int) (b:Nat) (w:World) (l:List Value) (w':World):Prop:=Below w.heap.size w w' ∧ ∃ out:Int,l = [.int .u64 out] ∧ (0 ≤ out ∧ out < n) ∧ out * (a * a % n) ^ (b / 2) % n = R
def pwMu (l:List Value) (_:World):Nat:=match l with | [_,_,.int _ b]=>b.toNat | _=>0
theorem pwMu_eq (x y:Value) (k:IntKind) (b:Int) (w:World):pwMu [x,y,.int k b] w = b.toNat:=rfl
theorem power_ok (n a:Int) (b:Nat) (hn:okN n) (ha:0 ≤ a ∧ a < n) (hb:b < 18446744073709551616) (k:∀ w',Below w.heap.size w w' → K (.int .u64 (pw n a b)) w'):callM Tryz.prog 174 #[.int .i64 n,.int .u64 a,.int .u64 (b:Int)] K w:=by
 apply sh_174_ok
 unfold sh_174
 have hn':=hn
 obtain ⟨h1,h2⟩:=hn
 have e1:(1:Int).tmod n = 1 % n:=Int.tmod_eq_emod_of_nonneg (by omega)
 have e2:=Int.emod_nonneg 1 (b:=n) (by omega)
 have e3:=Int.emod_lt_of_pos 1 (b:=n) (by omega)
 have e4:1 % n * a ^ b % n = pw n a b:=by
  rw [Int.mul_emod,Int.emod_emod_of_dvd _ (Int.dvd_refl n),← Int.mul_emod,Int.one_mul]; rfl
 generalize 1 % n = o at *
 repeat (any_goals ((with_reducible refine oG fun X Y=>?_); simp [go_sem,e1]; (try simp (disch:=omega) only [wrapI64,wrapU8,wrapU32,wrapU64]); (first|refine Y _ _ ?_|refine And.intro (by omega) (Y _ _ ?_)); clear Y X))
 refine ⟨PwJ n (pw n a b) w,pwMu,⟨Below.refl _ _,o,a,b,rfl,⟨e2,e3⟩,ha,hb,e4⟩,?_⟩
 generalize hR:pw n a b = R at *
 clear e1 e2 e3 e4 o hb ha
 rintro _ _ w1 ⟨hb1,out,x,c,rfl,ho,hx,hc,hinv⟩
 have hz:=hb1.size
 by_cases h0:c = 0
 ·subst h0
  rw [Int.pow_zero,Int.mul_one,Int.emod_eq_of_lt ho.1 ho.2] at hinv
  repeat (any_goals (first
  | (with_reducible refine yM ?_)
  | ((with_reducible refine oG fun X Y=>?_); simp [go_sem]; apply Y; clear Y X)))
  rw [hinv]
  exact k _ hb1
 ·have hm:bits .and .u64 (c:Int) 1 = ((c % 2:Nat):Int):=by
   rw [mask64 1 c 1 (by omega) (by decide) (by omega)]; omega
  have hsh:(c:Int) / 2 = ((c / 2:Nat):Int):=by omega
  have h1:=pw_even n x out c
  have h3:=pw_odd n x out c
  obtain ⟨m,hm2⟩:∃ m,m = c % 2:=⟨_,rfl⟩
  rw [← hm2] at hm h1 h3
  obtain ⟨d,hd⟩:∃ d,d = c / 2:=⟨_,rfl⟩
  rw [← hd] at hsh h1 h3
  repeat (any_goals (first
  | (with_reducible refine yN ?_)
  | ((with_reducible refine oG fun X Y=>?_); simp [go_sem]; apply Y; clear Y X)))
  refine ⟨PwM n R x c w,?_,?_⟩
  ·repeat (any_goals (first
   | (with_reducible ((refine idCond ?_); refine yP (fun hg=>?_) fun hg=>?_))
   | ((with_reducible refine oG fun X Y=>?_); simp [go_sem,hm]; apply Y; clear Y X)))
   ·refine product_ok n out x hn' ho hx ?_
    intro w2 hb2
    skip
    refine ⟨hb1.trans (hb2.mono hz),_,rfl,⟨Int.emod_nonneg _ (by omega),Int.emod_lt_of_pos _ (by omega)⟩,?_⟩
    rw [← hd,h3 (by omega)]; exact hinv
   ·refine ⟨hb1,_,rfl,ho,?_⟩
    rw [← hd,h1 (by omega)]; exact hinv
  ·rintro _ _ w2 ⟨hb2,out',rfl,ho',hi'⟩
   have hz2:=hb2.size
   refine product_ok n x x hn' hx hx ?_
   intro w3 hb3
   repeat (any_goals ((with_reducible refine oG fun X Y=>?_); simp [go_sem,hsh]; apply Y; clear Y X))
   refine ⟨⟨hb2.trans (hb3.mono hz2),_,_,_,rfl,ho',⟨Int.emod_nonneg _ (by omega),Int.emod_lt_of_pos _ (by omega)⟩,by omega,by rw [hd]; exact hi'⟩,?_⟩
   simp only [pwMu_eq]
   omega
theorem Add_ok (n a b:Int) (h:K (.int .i64 (addM n a b)) w):callM Tryz.prog 144 #[.int .i64 n,.int .i64 a,.int .i64 b] K w:=by
 apply sh_144_ok
 unfold sh_144
 refine valid_ok n ?_
 by_cases hn:okN n
 ·have hn':=hn
  obtain ⟨h1,h2⟩:=hn'
  have ha:=Int.emod_nonneg a (b:=n) (by omega)
  have ha2:=Int.emod_lt_of_pos a (b:=n) (by omega)
  have hb:=Int.emod_nonneg b (b:=n) (by omega)
  have hb2:=Int.emod_lt_of_pos b (b:=n) (by omega)
  have e:=addM_eq n a b hn
  have e2:=addM_range n a b hn
  have e1:(a % n + b % n).tmod n = (a % n + b % n) % n:=Int.tmod_eq_emod_of_nonneg (by omega)
  rw [e] at e1
  repeat (any_goals (first
  | (with_reducible refine yM ?_)
  | ((with_reducible refine oG fun X Y=>?_); simp [go_sem,hn]; apply Y; clear Y X)))
  refine residue_ok n a hn ?_
  refine residue_ok n b hn ?_
  generalize a % n = x at *
  generalize b % n = y at *
  generalize addM n a b = z at *
  repeat (any_goals ((with_reducible refine oG fun X Y=>?_); simp [go_sem,e1]; (try simp (disch:=omega) only [wrapI64,wrapU8,wrapU32,wrapU64]); (first|refine Y _ _ ?_|refine And.intro (by omega) (Y _ _ ?_)); clear Y X))
  exact h
 ·rw [addM,if_neg hn] at h
  repeat (any_goals (first
  | (with_reducible refine yL ?_)
  | ((with_reducible refine oG fun X Y=>?_); simp [go_sem,hn]; apply Y; clear Y X)))
  exact h
theorem Sub_ok (n a b:Int) (h:K (.int .i64 (subM n a b)) w):callM Tryz.prog 232 #[.int .i64 n,.int .i64 a,.int .i64 b] K w:=by
 apply sh_232_ok
 unfold sh_232
 refine valid_ok n ?_
 by_cases hn:okN n
 ·have hn':=hn
  obtain ⟨h1,h2⟩:=hn'
  have ha:=Int.emod_nonneg a (b:=n) (by omega)
  have ha2:=Int.emod_lt_of_pos a (b:=n) (by omega)
  have hb:=Int.emod_nonneg b (b:=n) (by omega)
  have hb2:=Int.emod_lt_of_pos b (b:=n) (by omega)
  have e:=subM_eq n a b hn
  have e2:=subM_range n a b hn
  have e1:(a % n + n - b % n).tmod n = (a % n + n - b % n) % n:=Int.tmod_eq_emod_of_nonneg (by omega)
  rw [e] at e1
  repeat (any_goals (first
  | (with_reducible refine yM ?_)
  | ((with_reducible refine oG fun X Y=>?_); simp [go_sem,hn]; apply Y; clear Y X)))
  refine residue_ok n a hn ?_
  repeat (any_goals ((with_reducible refine oG fun X Y=>?_); simp [go_sem]; (try simp (disch:=omega) only [wrapI64,wrapU8,wrapU32,wrapU64]); apply Y; clear Y X))
  refine residue_ok n b hn ?_
  generalize a % n = x at *
  generalize b % n = y at *
  generalize subM n a b = z at *
  repeat (any_goals ((with_reducible refine oG fun X Y=>?_); simp [go_sem,e1]; (try simp (disch:=omega) only [wrapI64,wrapU8,wrapU32,wrapU64]); (first|refine Y _ _ ?_|refine And.intro (by omega) (Y _ _ ?_)); clear Y X))
  exact h
 ·rw [subM,if_neg hn] at h
  repeat (any_goals (first
  | (with_reducible refine yL ?_)
  | ((with_reducible refine oG fun X Y=>?_); simp [go_sem,hn]; apply Y; clear Y X)))
  exact h
theorem Mul_ok (n a b:Int) (k:∀ w',Below w.heap.size w w' → K (.int .i64 (mulM n a b)) w'):callM Tryz.prog 145 #[.int .i64 n,.int .i64 a,.int .i64 b] K w:=by
 apply sh_145_ok
 unfold sh_145
 refine valid_ok n ?_
 by_cases hn:okN n
 ·have hn':=hn
  obtain ⟨h1,h2⟩:=hn'
  have ha:=Int.emod_nonneg a (b:=n) (by omega)
  have ha2:=Int.emod_lt_of_pos a (b:=n) (by omega)
  have hb:=Int.emod_nonneg b (b:=n) (by omega)
  have hb2:=Int.emod_lt_of_pos b (b:=n) (by omega)
  have e:=mulM_eq n a b hn
  have e2:=mulM_range n a b hn
  repeat (any_goals (first
  | (with_reducible refine yM ?_)
  | ((with_reducible refine oG fun X Y=>?_); simp [go_sem,hn]; apply Y; clear Y X)))
  refine residue_ok n a hn ?_
  refine residue_ok n b hn ?_
  refine product_ok n _ _ hn ⟨ha,ha2⟩ ⟨hb,hb2⟩ ?_
  intro w1 hb1
  rw [e]
  have k:=k w1 hb1
  generalize mulM n a b = z at *
  repeat (any_goals ((with_reducible refine oG fun X Y=>?_); simp [go_sem]; (try simp (disch:=omega) only [wrapI64,wrapU8,wrapU32,wrapU64]); apply Y; clear Y X))
  exact k
 ·rw [mulM,if_neg hn] at k
  repeat (any_goals (first
  | (with_reducible refine yL ?_)
  | ((with_reducible refine oG fun X Y=>?_); simp [go_sem,hn]; apply Y; clear Y X)))
  exact k _ (Below.refl _ _)
def InJ (n:Int) (E:Int × Int) (w:World) (l:List Value) (w':World):Prop:=Below w.heap.size w w' ∧ ∃ (v:Value) (r s x y:Int),l = [v,.int .i64 r,.int .i64 s,.int .i64 x,.int .i64 y] ∧ (0 ≤ s ∧ s < n) ∧ (0 ≤ r ∧ r ≤ n) ∧ (0 ≤ x ∧ x < 2305843009213693952) ∧ (0 ≤ y ∧ y < 2305843009213693952) ∧ eucAll n r s x y = E
def inMu (l:List Value) (_:World):Nat:=match l with | [_,_,.int _ s,_,_]=>s.toNat | _=>0
theorem inMu_eq (v r x y:Value) (k:IntKind) (s:Int) (w:World):inMu [v,r,.int k s,x,y] w = s.toNat:=rfl
theorem eucAll_zero (n r x y:Int):eucAll n r 0 x y = (r,x):=euc_zero n _ r x y
theorem Inv_ok (n a:Int) (k:∀ w',Below w.heap.size w w' → K (.tuple #[.int .i64 ((invM n a).getD 0),.bool (invM n a).isSome]) w'):callM Tryz.prog 206 #[.int .i64 n,.int .i64 a] K w:=by
 apply sh_206_ok
 unfold sh_206
 refine valid_ok n ?_
 by_cases hn:okN n
 ·have hn':=hn
  obtain ⟨h1,h2⟩:=hn'
  have ha:=Int.emod_nonneg a (b:=n) (by omega)
  have ha2:=Int.emod_lt_of_pos a (b:=n) (by omega)
  have kk:∀ r x w',(r,x) = eucAll n n (a % n) 0 1 → Below w.heap.size w w' → K (.tuple #[.int .i64 (if r = 1 then x % n else 0),.bool (decide (r = 1))]) w':=fun r x w' e hb=>by
   have k:=k w' hb
   unfold invM at k
   rw [if_pos hn,← e] at k
   by_cases hr:r = 1
   ·simpa [hr] using k
   ·simpa [hr] using k
  clear k
  repeat (any_goals (first
  | (with_reducible refine yM ?_)
  | ((with_reducible refine oG fun X Y=>?_); simp [go_sem,hn]; apply Y; clear Y X)))
  refine residue_ok n a hn ?_
  generalize a % n = s0 at *
  generalize hE:eucAll n n s0 0 1 = E at *
  repeat (any_goals ((with_reducible refine oG fun X Y=>?_); simp [go_sem]; (try simp (disch:=omega) only [wrapI64,wrapU8,wrapU32,wrapU64]); apply Y; clear Y X))
  refine ⟨InJ n E w,inMu,⟨Below.refl _ _,_,n,s0,0,1,rfl,⟨ha,ha2⟩,⟨by omega,by omega⟩,⟨by omega,by omega⟩,⟨by omega,by omega⟩,hE⟩,?_⟩
  clear hE ha ha2 s0
  rintro _ _ w1 ⟨hb1,v,r,s,x,y,rfl,hs,hr,hx,hy,he⟩
  have hz:=hb1.size
  by_cases h0:s = 0
  ·subst h0
   rw [eucAll_zero] at he
   have kk:=kk r x w1 he hb1
   have e1:x.tmod n = x % n:=Int.tmod_eq_emod_of_nonneg hx.1
   by_cases hr1:r = 1
   ·simp only [hr1] at kk
    repeat (any_goals (first
    | (with_reducible refine yM ?_)
    | ((with_reducible refine oG fun X Y=>?_); simp [go_sem,hr1,e1]; (first|refine Y _ _ ?_|refine And.intro (by omega) (Y _ _ ?_)); clear Y X)))
    simpa using kk
   ·simp only [hr1] at kk
    repeat (any_goals (first
    | (with_reducible ((refine idCond ?_); first|refine yL ?_|refine yM ?_))
    | ((with_reducible refine oG fun X Y=>?_); simp [go_sem,hr1]; apply Y; clear Y X)))
    simpa using kk
  ·rw [euc_step n r s x y (by omega)] at he
   have q1:r.tdiv s = r / s:=Int.tdiv_eq_ediv_of_nonneg hr.1
   have q2:=Int.emod_add_mul_ediv r s
   have q3:=Int.emod_nonneg r (b:=s) (by omega)
   have q4:=Int.emod_lt_of_pos r (b:=s) (by omega)
   have q5:0 ≤ r / s:=Int.ediv_nonneg hr.1 hs.1
   have q6:r / s ≤ r:=Int.ediv_le_self _ hr.1
   have q7:r / s * s = r - r % s:=by rw [Int.mul_comm]; omega
   have m1:=mulM_range n (r / s) y hn
   have m2:=subM_range n x (mulM n (r / s) y) hn
   generalize r % s = t at *
   generalize r / s = q at *
   clear q2
   have q8:r - (r - t) = t:=by omega
   repeat (any_goals (first
   | (with_reducible refine yQ ?_)
   | ((with_reducible refine oG fun X Y=>?_); simp [go_sem,q1,q7,q8]; (try simp (disch:=omega) only [wrapI64,wrapU8,wrapU32,wrapU64]); (first|refine Y _ _ ?_|refine And.intro (by omega) (Y _ _ ?_)); clear Y X)))
   refine Mul_ok n q y (fun w2 hb2=>?_)
   refine Sub_ok n x _ ?_
   generalize subM n x (mulM n q y) = z at *
   skip
   refine ⟨⟨hb1.trans (hb2.mono hz),_,s,t,y,z,rfl,⟨q3,by omega⟩,⟨hs.1,by omega⟩,hy,⟨m2.1,by omega⟩,he⟩,?_⟩
   simp only [inMu_eq]
   omega
 ·have k:=k _ (Below.refl _ _)
  unfold invM at k
  rw [if_neg hn] at k
  repeat (any_goals (first
  | (with_reducible refine yL ?_)
  | ((with_reducible refine oG fun X Y=>?_); simp [go_sem,hn]; apply Y; clear Y X)))
  exact k
theorem Pow_ok (n a b:Int) (hbr:-9223372036854775808 ≤ b ∧ b < 9223372036854775808) (k:∀ w',Below w.heap.size w w' → K (.int .i64 (powM n a b)) w'):callM Tryz.prog 169 #[.int .i64 n,.int .i64 a,.int .i64 b] K w:=by
 apply sh_169_ok
 unfold sh_169
 refine valid_ok n ?_
 unfold powM at k
 by_cases hn:okN n
 ·have hn':=hn
  obtain ⟨h1,h2⟩:=hn'
  rw [if_pos hn] at k
  by_cases h0:0 ≤ b
  ·rw [if_pos h0] at k
   have ha:=Int.emod_nonneg a (b:=n) (by omega)
   have ha2:=Int.emod_lt_of_pos a (b:=n) (by omega)
   obtain ⟨c,rfl⟩:=natN b h0
   rw [Int.toNat_natCast,← pw_emod] at k
   repeat (any_goals (first
   | (with_reducible ((refine idCond ?_); first|refine yL ?_|refine yM ?_))
   | ((with_reducible refine oG fun X Y=>?_); simp [go_sem,hn]; apply Y; clear Y X)))
   refine residue_ok n a hn ?_
   generalize a % n = x at *
   repeat (any_goals ((with_reducible refine oG fun X Y=>?_); simp [go_sem]; (try simp (disch:=omega) only [wrapI64,wrapU8,wrapU32,wrapU64]); apply Y; clear Y X))
   refine power_ok n x c hn ⟨ha,ha2⟩ (by omega) (fun w1 hb1=>?_)
   have hr:=pw_nonneg n x c (by omega)
   have k:=k w1 hb1
   generalize pw n x c = z at *
   repeat (any_goals ((with_reducible refine oG fun X Y=>?_); simp [go_sem]; (try simp (disch:=omega) only [wrapI64,wrapU8,wrapU32,wrapU64]); apply Y; clear Y X))
   exact k
  ·rw [if_neg h0] at k
   repeat (any_goals (first
   | (with_reducible ((refine idCond ?_); first|refine yM ?_|refine yO ?_))
   | ((with_reducible refine oG fun X Y=>?_); simp [go_sem,hn]; apply Y; clear Y X)))
   refine Inv_ok n a (fun w1 hb1=>?_)
   have hz:=hb1.size
   cases hi:invM n a with
   | none=>
    rw [hi] at k
    have k:=k w1 hb1
    repeat (any_goals (first
    | (with_reducible refine yL ?_)
    | ((with_reducible refine oG fun X Y=>?_); simp [go_sem]; apply Y; clear Y X)))
    exact k
   | some x=>
    rw [hi] at k
    have hx:0 ≤ x ∧ x < n:=by
     unfold invM at hi
     rw [if_pos hn] at hi
     split at hi
     ·cases hi; exact ⟨Int.emod_nonneg _ (by omega),Int.emod_lt_of_pos _ (by omega)⟩
     ·cases hi
    obtain ⟨c,hc⟩:=natN (-b) (by omega)
    rw [hc,Int.toNat_natCast] at k
    have hw:IntKind.u64.wrap (-(IntKind.u64.wrap b)) = (c:Int):=by
     simp only [IntKind.wrap_u64]; omega
    have hw2:b % 18446744073709551616 = b + 18446744073709551616:=by omega
    simp only [Option.getD_some,Option.isSome_some]
    repeat (any_goals (first
    | (with_reducible refine yM ?_)
    | ((with_reducible refine oG fun X Y=>?_); simp [go_sem,hw]; (try simp (disch:=omega) only [wrapI64,wrapU8,wrapU32,wrapU64]); apply Y; clear Y X)))
    refine power_ok n x c hn hx (by omega) (fun w2 hb2=>?_)
    have hr:=pw_nonneg n x c (by omega)
    have k:K (.int .i64 (pw n x c)) w2:=k w2 (hb1.trans (hb2.mono hz))
    generalize pw n x c = z at *
    repeat (any_goals ((with_reducible refine oG fun X Y=>?_); simp [go_sem]; (try simp (disch:=omega) only [wrapI64,wrapU8,wrapU32,wrapU64]); apply Y; clear Y X))
    exact k
 ·rw [if_neg hn] at k
  repeat (any_goals (first
  | (with_reducible refine yL ?_)
  | ((with_reducible refine oG fun X Y=>?_); simp [go_sem,hn]; apply Y; clear Y X)))
  exact k _ (Below.refl _ _)
def DbT (w:World):Prop:=4 < w.heap.size ∧ ∀ j,j < 64 → w.cell? ⟨4,j,none⟩ = some (.int .u8 (Lib.deBruijn64tab.getD j 0:Nat))
theorem DbT.below {w w':World} {B:Nat} (h:DbT w) (hb:Below B w w') (hB:w.heap.size ≤ B):DbT w':=
 ⟨lL h.1 hb.size,fun j hj=>by rw [hb.cell (show 4 < B from lL h.1 hB)]; exact h.2 j hj⟩
theorem tz_ctz (k m:Nat):tz k m = Lib.ctzFrom k m:=by
 induction k generalizing m with
 | zero=>rfl
 | succ k ih=>
  unfold tz Lib.ctzFrom
  rw [ih]
  by_cases h:m % 2 = 0
  ·rw [if_pos h,if_neg (by omega),Nat.add_comm]
  ·rw [if_neg h,if_pos (by omega)]
theorem tz_key (q:Nat):IntKind.u64.wrap ((q:Int) * 285870213051353865) / 288230376151711744 = ((q * 285870213051353865 % 18446744073709551616 / 288230376151711744:Nat):Int):=by
 rw [IntKind.wrap_u64]; omega
theorem idx_tab {j:Nat} (hj:j < 64) (w:World):(Instr.indexAt 318 (.pointer (some ⟨4,0,none⟩)) (.int .u64 j)).run Tryz.prog w = .ok (.pointer (some ⟨4,j,none⟩)) w:=by
 rw [run_indexAt_array (h:=by kernel_rfl)]
 have hs:(sizeOf (Tryz.prog.elem 318)).run Tryz.prog w = .ok 1 w:=by kernel_rfl
 have hl:Tryz.prog.arrayLen 318 = 64:=by kernel_rfl
 rw [hl,if_pos (by omega),hs]
 simp only [Result.andThen,Int.toNat_natCast,add_none,Nat.zero_add,Nat.mul_one]
theorem tz64_ok (x:Nat) (hx0:0 < x) (hx:x < 18446744073709551616) (hT:DbT w) (h:K (.int .i64 (tz 64 x:Nat)) w):callM Tryz.prog 231 #[.int .u64 (x:Int)] K w:=by
 apply sh_231_ok
 unfold sh_231
 obtain ⟨hlow,hk⟩:=Lib.lowest_bit 64 x (by omega) (by omega)
 obtain ⟨hi,htab⟩:=Lib.deBruijn64_at _ hk
 have e0:Lib.ctz 64 x = tz 64 x:=by rw [tz_ctz,Lib.ctz,if_neg (by omega)]
 rw [e0] at hlow htab hi
 have e1:IntKind.u64.wrap (-(x:Int)) = ((18446744073709551616 - x:Nat):Int):=by rw [IntKind.wrap_u64]; omega
 have e2:bits .and .u64 (x:Int) ((18446744073709551616 - x:Nat):Int) = ((2 ^ tz 64 x:Nat):Int):=by
  rw [bits_and64 _ _ (by omega) (by omega),Int.toNat_natCast,Int.toNat_natCast]
  exact congrArg _ hlow
 have e3:=tz_key (2 ^ tz 64 x)
 have hc:=hT.2 _ hi
 rw [htab] at hc
 have hix:=idx_tab hi w
 generalize 2 ^ tz 64 x * 285870213051353865 % 18446744073709551616 / 288230376151711744 = j at *
 generalize (2 ^ tz 64 x:Nat) = q at *
 have hk2:tz 64 x < 64:=by rw [← e0]; exact hk
 generalize tz 64 x = t at *
 repeat (any_goals (first
 | (rw [kI,oM_indexAddr,hix,rM_ok])
 | (with_reducible refine yO ?_)
 | ((with_reducible refine oG fun X Y=>?_); simp [go_sem,e1,e2,e3,hc]; (try simp (disch:=omega) only [wrapI64,wrapU8,wrapU32,wrapU64]); apply Y; clear Y X)))
 exact h
def WiJ (n:Int) (k:Nat) (R:Bool) (w:World) (l:List Value) (w':World):Prop:=Below w.heap.size w w' ∧ ∃ (v:Value) (x:Int) (i:Nat),l = [v,.int .u64 x,.int .i64 (i:Int)] ∧ i ≤ k ∧ (0 ≤ x ∧ x < n) ∧ mrUp n (k - i) x = R
def wiMu (k:Nat) (l:List Value) (_:World):Nat:=match l with | [_,_,.int _ i]=>k - i.toNat | _=>0
theorem wiMu_eq (k:Nat) (x y:Value) (q:IntKind) (i:Int) (w:World):wiMu k [x,y,.int q i] w = k - i.toNat:=rfl
theorem witness_ok (n b:Int) (hn:okN n) (h2:2 ≤ n) (hb:0 ≤ b ∧ b < n) (hT:DbT w) (k:∀ w',Below w.heap.size w w' → K (.bool (!passes n b)) w'):callM Tryz.prog 205 #[.int .i64 n,.int .u64 b] K w:=by
 apply sh_205_ok
 unfold sh_205
 have hn':=hn
 obtain ⟨h1,h3⟩:=hn'
 obtain ⟨m,hm⟩:=natN (n - 1) (by omega)
 have hm2:(n - 1).toNat = m:=by omega
 have ht:=tz_lt 64 m (by omega) (by omega)
 obtain ⟨t,htt⟩:∃ t,t = tz 64 m:=⟨_,rfl⟩
 have ht64:t < 64:=by rw [htt]; exact ht.1
 clear ht
 have hsh:((m:Int)) / 2 ^ t = ((m / 2 ^ t:Nat):Int):=by rw [Int.natCast_ediv,Int.natCast_pow]; rfl
 have hdl:=Nat.div_le_self m (2 ^ t)
 have rr:=fun x=>oM_shr64 (P:=Tryz.prog) 249 3 249 .i64 x (t:Int) (by omega) (by omega)
 simp only [Int.toNat_natCast] at rr
 repeat (any_goals ((with_reducible refine oG fun X Y=>?_); simp [go_sem,hm]; (try simp (disch:=omega) only [wrapI64,wrapU8,wrapU32,wrapU64]); apply Y; clear Y X))
 refine tz64_ok m (by omega) (by omega) hT ?_
 rw [← htt]
 obtain ⟨d,hd⟩:∃ d,d = m / 2 ^ t:=⟨_,rfl⟩
 rw [← hd] at hsh hdl
 have k:∀ w',Below w.heap.size w w' → K (.bool (!(if pw n b d = 1 then true else mrUp n t (pw n b d)))) w':=by
  rw [hd,htt,← hm2]; exact k
 have hp:=pw_nonneg n b d (by omega)
 repeat (any_goals ((with_reducible refine oG fun X Y=>?_); simp [go_sem,hm,rr,hsh]; (try simp (disch:=omega) only [wrapI64,wrapU8,wrapU32,wrapU64]); apply Y; clear Y X))
 refine power_ok n b d hn hb (by omega) (fun w1 hb1=>?_)
 generalize pw n b d = x at *
 have hz:=hb1.size
 by_cases hx1:x = 1
 ·have k:K (.bool false) w1:=by
   have k:=k w1 hb1
   rw [if_pos hx1] at k
   exact k
  rw [hx1]
  clear rr hsh hdl
  repeat (any_goals (first
  | (with_reducible refine yL ?_)
  | ((with_reducible refine oG fun X Y=>?_); simp [go_sem]; apply Y; clear Y X)))
  exact k
 ·have k:∀ w',Below w.heap.size w w' → K (.bool (!mrUp n t x)) w':=fun w' hb=>by
   have k:=k w' hb
   rw [if_neg hx1] at k
   exact k
  clear rr hsh hdl
  repeat (any_goals (first
  | (with_reducible refine yM ?_)
  | ((with_reducible refine oG fun X Y=>?_); simp [go_sem,hx1]; apply Y; clear Y X)))
  refine ⟨WiJ n t (mrUp n t x) w,wiMu t,⟨hb1,_,x,0,rfl,by omega,hp,rfl⟩,?_⟩
  generalize mrUp n t x = R at *
  clear hp hx1 hb1 hz w1
  rintro _ _ w1 ⟨hb1,v,y,i,rfl,hi,hx,hR⟩
  have hz:=hb1.size
  by_cases hit:i = t
  ·subst hit
   rw [Nat.sub_self] at hR
   have hR2:R = false:=by rw [← hR]; rfl
   subst hR2
   repeat (any_goals (first
   | (with_reducible refine yM ?_)
   | ((with_reducible refine oG fun X Y=>?_); simp [go_sem]; apply Y; clear Y X)))
   exact k _ hb1
  ·obtain ⟨j,hj⟩:∃ j,t - i = j + 1:=⟨t - i - 1,by omega⟩
   rw [hj] at hR
   unfold mrUp at hR
   by_cases hxn:y = n - 1
   ·rw [if_pos hxn] at hR
    subst hR
    have k:=k _ hb1
    rw [hm] at hxn
    repeat (any_goals (first
    | (with_reducible ((refine idCond ?_); first|refine yL ?_|refine yN ?_))
    | ((with_reducible refine oG fun X Y=>?_); simp [go_sem,hm,hxn]; (try simp (disch:=omega) only [wrapI64,wrapU8,wrapU32,wrapU64]); apply Y; clear Y X)))
    simpa using k
   ·rw [if_neg hxn] at hR
    rw [hm] at hxn
    repeat (any_goals (first
    | (with_reducible ((refine idCond ?_); first|refine yM ?_|refine yN ?_))
    | ((with_reducible refine oG fun X Y=>?_); simp [go_sem,hm,hxn]; (try simp (disch:=omega) only [wrapI64,wrapU8,wrapU32,wrapU64]); apply Y; clear Y X)))
    refine product_ok n y y hn hx hx (fun w2 hb2=>?_)
    repeat (any_goals ((with_reducible refine oG fun X Y=>?_); simp [go_sem]; (try simp (disch:=omega) only [wrapI64,wrapU8,wrapU32,wrapU64]); apply Y; clear Y X))
    refine ⟨⟨hb1.trans (hb2.mono hz),_,_,i + 1,rfl,by omega,⟨Int.emod_nonneg _ (by omega),Int.emod_lt_of_pos _ (by omega)⟩,?_⟩,?_⟩
    ·rw [show t - (i + 1) = j by omega]; exact hR
    ·simp only [wiMu_eq]; omega
def smallV:Array Value:=#[.int .i64 2,.int .i64 3,.int .i64 5,.int .i64 7,.int .i64 11,.int .i64 13,.int .i64 17,.int .i64 19,.int .i64 23,.int .i64 29,.int .i64 31,.int .i64 37]
def PrJ (n:Int) (W:World) (l:List Value) (w':World):Prop:=w' = W ∧ ∃ (v u:Value) (i:Nat),l = [v,u,.int .i64 (i:Int)] ∧ i ≤ 12 ∧ smallP.find? (fun p=>decide (n % p = 0)) = (smallP.drop i).find? (fun p=>decide (n % p = 0))
def PrJ2 (n:Int) (W:World) (l:List Value) (w':World):Prop:=Below W.heap.size W w' ∧ ∃ (v u:Value) (i:Nat),l = [v,u,.int .i64 (i:Int)] ∧ i ≤ 12 ∧ smallP.all (fun p=>passes n p) = (smallP.drop i).all (fun p=>passes n p)
def prMu (l:List Value) (_:World):Nat:=match l with | [_,_,.int _ i]=>12 - i.toNat | _=>0
theorem prMu_eq (x y:Value) (q:IntKind) (i:Int) (w:World):prMu [x,y,.int q i] w = 12 - i.toNat:=rfl
theorem small_at (i:Nat) (hi:i < 12):∃ p,(∀ w,(Instr.index 275 (.agg smallV) (.int .i64 (i:Int))).run Tryz.prog w = .ok (.int .i64 p) w) ∧ smallP.drop i = p :: smallP.drop (i + 1) ∧ 2 ≤ p ∧ p ≤ 37:=by
 rcases i with _ | _ | _ | _ | _ | _ | _ | _ | _ | _ | _ | _ | i
 ·exact ⟨2,fun w=>by kernel_rfl,rfl,by decide,by decide⟩
 ·exact ⟨3,fun w=>by kernel_rfl,rfl,by decide,by decide⟩
 ·exact ⟨5,fun w=>by kernel_rfl,rfl,by decide,by decide⟩
 ·exact ⟨7,fun w=>by kernel_rfl,rfl,by decide,by decide⟩
 ·exact ⟨11,fun w=>by kernel_rfl,rfl,by decide,by decide⟩
 ·exact ⟨13,fun w=>by kernel_rfl,rfl,by decide,by decide⟩
 ·exact ⟨17,fun w=>by kernel_rfl,rfl,by decide,by decide⟩
 ·exact ⟨19,fun w=>by kernel_rfl,rfl,by decide,by decide⟩
 ·exact ⟨23,fun w=>by kernel_rfl,rfl,by decide,by decide⟩
 ·exact ⟨29,fun w=>by kernel_rfl,rfl,by decide,by decide⟩
 ·exact ⟨31,fun w=>by kernel_rfl,rfl,by decide,by decide⟩
 ·exact ⟨37,fun w=>by kernel_rfl,rfl,by decide,by decide⟩
 ·omega
theorem build_small:oM Tryz.prog (Go.Op.build 275 #[(0,(.tmp 0)),(1,(.tmp 1)),(2,(.tmp 2)),(3,(.tmp 3)),(4,(.tmp 4)),(5,(.tmp 5)),(6,(.tmp 6)),(7,(.tmp 7)),(8,(.tmp 8)),(9,(.tmp 9)),(10,(.tmp 10)),(11,(.tmp 11))]) 275 smallV.toList = pureM (.agg smallV):=by
 funext K w
 kernel_rfl
theorem Prime_ok (n:Int) (hT:DbT w) (k:∀ w',Below w.heap.size w w' → K (.bool (primeM n)) w'):callM Tryz.prog 168 #[.int .i64 n] K w:=by
 apply sh_168_ok
 unfold sh_168
 unfold primeM at k
 by_cases h1:n < 2
 ·rw [if_pos (.inl h1)] at k
  repeat (any_goals (first
  | (with_reducible first|refine zD ?_|refine yB ?_|refine yL ?_)
  | ((with_reducible refine oG fun X Y=>?_); simp [go_sem,h1]; apply Y; clear Y X)))
  exact k _ (Below.refl _ _)
 by_cases h2:2305843009213693952 ≤ n
 ·rw [if_pos (.inr h2)] at k
  repeat (any_goals (first
  | (with_reducible first|refine pureM_in ?_|refine zC ?_|refine yC ?_|refine yL ?_)
  | ((with_reducible refine oG fun X Y=>?_); simp [go_sem,h1,h2]; apply Y; clear Y X)))
  exact k _ (Below.refl _ _)
 rw [if_neg (by omega)] at k
 have hn:okN n:=⟨by omega,by omega⟩
 repeat (any_goals (first
 | (with_reducible first|refine pureM_in ?_|refine zC ?_|refine yC ?_|refine yM ?_)
 | ((with_reducible refine oG fun X Y=>?_); simp [go_sem,h1,h2]; apply Y; clear Y X)))
 have bs:=build_small
 unfold smallV at bs
 simp only at bs
 repeat (any_goals ((with_reducible refine oG fun X Y=>?_); simp [go_sem,bs]; apply Y; clear Y X))
 clear bs
 have hbW:Below w.heap.size w (w.alloc (Obj.cells #[.int .i64 2,.int .i64 3,.int .i64 5,.int .i64 7,.int .i64 11,.int .i64 13,.int .i64 17,.int .i64 19,.int .i64 23,.int .i64 29,.int .i64 31,.int .i64 37] 275)):=(Below.refl _ _).alloc (rL) _
 have hTW:DbT (w.alloc (Obj.cells #[.int .i64 2,.int .i64 3,.int .i64 5,.int .i64 7,.int .i64 11,.int .i64 13,.int .i64 17,.int .i64 19,.int .i64 23,.int .i64 29,.int .i64 31,.int .i64 37] 275)):=hT.below hbW (rL)
 refine ⟨PrJ n (w.alloc (Obj.cells #[.int .i64 2,.int .i64 3,.int .i64 5,.int .i64 7,.int .i64 11,.int .i64 13,.int .i64 17,.int .i64 19,.int .i64 23,.int .i64 29,.int .i64 31,.int .i64 37] 275)),prMu,⟨rfl,_,_,0,rfl,by omega,rfl⟩,?_⟩
 rintro _ _ w1 ⟨e1,v,u,i,rfl,hi,hf⟩
 rw [e1]
 clear e1 w1
 by_cases h12:i = 12
 ·subst h12
  rw [show smallP.drop 12 = [] from rfl,List.find?_nil] at hf
  rw [hf] at k
  simp only at k
  have hnd:=List.find?_eq_none.1 hf
  have hbig:37 < n:=by
   have g:∀ p ∈ smallP,¬ n % p = 0:=fun p hp=>by simpa using hnd p hp
   have hs:∀ m:Nat,m < 38 → 2 ≤ m → ∃ p ∈ smallP,(m:Int) % p = 0:=by decide +kernel
   obtain ⟨m,rfl⟩:=natN n (by omega)
   by_cases hm:m < 38
   ·obtain ⟨p,hp,hp0⟩:=hs m hm (by omega)
    exact absurd hp0 (g p hp)
   ·omega
  clear hnd hf
  repeat (any_goals (first
  | (with_reducible refine yM ?_)
  | ((with_reducible refine oG fun X Y=>?_); simp [go_sem]; apply Y; clear Y X)))
  refine ⟨PrJ2 n (w.alloc (Obj.cells #[.int .i64 2,.int .i64 3,.int .i64 5,.int .i64 7,.int .i64 11,.int .i64 13,.int .i64 17,.int .i64 19,.int .i64 23,.int .i64 29,.int .i64 31,.int .i64 37] 275)),prMu,⟨Below.refl _ _,_,_,0,rfl,by omega,rfl⟩,?_⟩
  rintro _ _ w2 ⟨hb2,v2,u2,i,rfl,hi2,hall⟩
  have hb3:=hbW.trans (hb2.mono (by simp))
  have hT2:DbT w2:=hTW.below hb2 (rL)
  by_cases hi12:i = 12
  ·subst hi12
   rw [show smallP.drop 12 = [] from rfl,List.all_nil] at hall
   rw [hall] at k
   repeat (any_goals (first
   | (with_reducible refine yM ?_)
   | ((with_reducible refine oG fun X Y=>?_); simp [go_sem]; apply Y; clear Y X)))
   exact k _ hb3
  ·obtain ⟨p,hix,hdr,hp2,hp37⟩:=small_at i (by omega)
   unfold smallV at hix
   rw [hdr,List.all_cons] at hall
   have hz2:=hb2.size
   repeat (any_goals (first
   | (with_reducible refine yN ?_)
   | ((with_reducible refine oG fun X Y=>?_); simp [go_sem,hix]; (try simp (disch:=omega) only [wrapI64,wrapU8,wrapU32,wrapU64]); apply Y; clear Y X)))
   refine witness_ok n p hn (by omega) ⟨by omega,by omega⟩ hT2 (fun w3 hb4=>?_)
   cases hps:passes n p with
   | false=>
    rw [hps,bF] at hall
    rw [hall] at k
    simp only [Bool.not_false]
    repeat (any_goals (with_reducible refine yL ?_))
    exact k _ (hb3.trans (hb4.mono hb3.size))
   | true=>
    rw [hps,bT] at hall
    simp only [Bool.not_true]
    repeat (any_goals (first
    | (with_reducible refine yM ?_)
    | ((with_reducible refine oG fun X Y=>?_); simp [go_sem]; (try simp (disch:=omega) only [wrapI64,wrapU8,wrapU32,wrapU64]); apply Y; clear Y X)))
    refine ⟨⟨hb2.trans (hb4.mono hz2),_,_,i + 1,rfl,by omega,hall⟩,?_⟩
    simp only [prMu_eq]; omega
 ·obtain ⟨p,hix,hdr,hp2,hp37⟩:=small_at i (by omega)
  unfold smallV at hix
  rw [hdr] at hf
  have er:n.tmod p = n % p:=Int.tmod_eq_emod_of_nonneg (by omega)
  by_cases hd:n % p = 0
  ·rw [List.find?_cons_of_pos (by simpa using hd)] at hf
   rw [hf] at k
   have k:=k _ hbW
   simp only at k
   repeat (any_goals (first
   | (with_reducible ((refine idCond ?_); first|refine yL ?_|refine yN ?_))
   | ((with_reducible refine oG fun X Y=>?_); simp [go_sem,hix,er,hd]; (first|refine Y _ _ ?_|refine And.intro (by omega) (Y _ _ ?_)); clear Y X)))
   exact k
  ·rw [List.find?_cons_of_neg (by simpa using hd)] at hf
   repeat (any_goals (first
   | (with_reducible ((refine idCond ?_); first|refine yM ?_|refine yN ?_))
   | ((with_reducible refine oG fun X Y=>?_); simp [go_sem,hix,er,hd]; (try simp (disch:=omega) only [wrapI64,wrapU8,wrapU32,wrapU64]); (first|refine Y _ _ ?_|refine And.intro (by omega) (Y _ _ ?_)); clear Y X)))
   refine ⟨⟨rfl,_,_,i + 1,rfl,by omega,hf⟩,?_⟩
   simp only [prMu_eq]; omega
@[reducible] def grpV (g:Grp):Value:=.agg #[.int .i64 g.P,.int .i64 g.Q,.int .i64 g.G]
def GrpR (g:Grp):Prop:=I64 g.P ∧ I64 g.Q ∧ I64 g.G
theorem validG_not {g:Grp} (h:g.Q < 5 ∨ 1152921504606846976 ≤ g.Q ∨ g.P ≠ 2 * g.Q + 1 ∨ g.G < 2 ∨ g.P ≤ g.G):validG g = false:=by
 unfold validG; rw [if_pos h]
theorem validG_yes {g:Grp} (h:¬ (g.Q < 5 ∨ 1152921504606846976 ≤ g.Q ∨ g.P ≠ 2 * g.Q + 1 ∨ g.G < 2 ∨ g.P ≤ g.G)):validG g = (primeM g.Q && primeM g.P && decide (pw g.P g.G g.Q.toNat = 1)):=by
 unfold validG; rw [if_neg h]
theorem box_grp {T T':TypeId} (g:Grp) (k:∀ b W,Below w.heap.size w W → w.heap.size ≤ b → (∀ w',Below W.heap.size W w' → w'.cell? ⟨b,0,none⟩ = some (.int .i64 g.P)) → (∀ w',Below W.heap.size W w' → w'.cell? ⟨b,1,none⟩ = some (.int .i64 g.Q)) → (∀ w',Below W.heap.size W w' → w'.cell? ⟨b,2,none⟩ = some (.int .i64 g.G)) → K (.pointer (some ⟨b,0,none⟩)) W):oM Tryz.prog (.box T (.tmp 0)) T' [grpV g] K w:=
 box_in (cs:=[.int .i64 g.P,.int .i64 g.Q,.int .i64 g.G]) rfl fun b W h1 h2 hB=>k b W h1 h2 (fun w' h=>hB w' h 0 _ rfl) (fun w' h=>hB w' h 1 _ rfl) (fun w' h=>hB w' h 2 _ rfl)
set_option maxHeartbeats 2000000 in
theorem ValidGroup_ok (g:Grp) (hg:GrpR g) (hT:DbT w) (k:∀ w',Below w.heap.size w w' → K (.bool (validG g)) w'):callM Tryz.prog 123 #[grpV g] K w:=by
 apply sh_123_ok
 unfold sh_123
 refine box_grp g fun b W hW hb c0 c1 c2=>?_
 have n1:=validG_not (g:=g)
 have n2:=validG_yes (g:=g)
 obtain ⟨P,Q,G⟩:=g
 obtain ⟨hP,hQ,hG⟩:=hg
 unfold I64 at hP hQ hG
 simp only at hP hQ hG n1 n2 c0 c1 c2
 have hr:=Below.refl W.heap.size W
 have hTW:DbT W:=hT.below hW (rL)
 have k1:∀ w',validG ⟨P,Q,G⟩ = false → Below W.heap.size W w' → K (.bool false) w':=fun w' e hb=>by rw [e] at k; exact k w' (hW.on hb)
 have k2:∀ w' v,validG ⟨P,Q,G⟩ = v → Below W.heap.size W w' → K (.bool v) w':=fun w' v e hb=>by rw [e] at k; exact k w' (hW.on hb)
 clear k
 repeat (any_goals (first
 | (with_reducible first|((refine idGd ?_); first|refine zD ?_|((refine idGdD ?_); first|refine zI ?_|refine zJ ?_|refine zK (fun hg=>?_) fun hg=>?_)|((refine idGdN ?_); first|refine zO ?_|refine zP ?_|refine zQ (fun hg=>?_) fun hg=>?_))|((refine idPick ?_); first|refine yB ?_|refine yD ?_|refine yE ?_|refine yF ?_|refine yG ?_)|((refine idCond ?_); first|refine yL ?_|refine yP (fun hg=>?_) fun hg=>?_))
 | ((with_reducible refine oG fun X Y=>?_); simp [go_sem,c0,c1,c2,hr]; (try simp (disch:=omega) only [wrapI64,wrapU8,wrapU32,wrapU64]); apply Y; clear Y X)))
 all_goals try exact k1 _ (n1 (by omega)) hr
 refine Prime_ok Q hTW (fun w1 h1=>?_)
 have n2:=n2 (by omega)
 cases hq:primeM Q with
 | false=>
  have n2:validG ⟨P,Q,G⟩ = false:=by rw [n2,hq]; rfl
  repeat (any_goals (with_reducible first|refine zB ?_|refine yC ?_))
  exact k1 _ n2 h1
 | true=>
  rw [hq,bT] at n2
  repeat (any_goals (first
  | (with_reducible refine zA ?_)
  | ((with_reducible refine oG fun X Y=>?_); simp [go_sem,c0,h1]; apply Y; clear Y X)))
  refine Prime_ok P (hTW.below h1 (rL)) (fun w2 h2=>?_)
  have h2:=h1.on h2
  cases hp:primeM P with
  | false=>
   have n2:validG ⟨P,Q,G⟩ = false:=by rw [n2,hp]; rfl
   repeat (any_goals (with_reducible first|refine zB ?_|((refine idPick ?_); first|refine yB ?_|refine yC ?_)))
   exact k1 _ n2 h2
  | true=>
   rw [hp,bT] at n2
   repeat (any_goals (first
   | (with_reducible first|refine zA ?_|refine yB ?_)
   | ((with_reducible refine oG fun X Y=>?_); simp [go_sem,c0,c1,c2,h2]; apply Y; clear Y X)))
   refine Pow_ok P G Q hQ (fun w3 h3=>?_)
   have e:powM P G Q = pw P G Q.toNat:=by unfold powM; rw [if_pos (by unfold okN; omega),if_pos (by omega)]
   rw [e]
   generalize pw P G Q.toNat = z at *
   have h3:=h2.on h3
   repeat (any_goals (first
   | (with_reducible first|refine zA ?_|refine yB ?_)
   | ((with_reducible refine oG fun X Y=>?_); simp [go_sem]; apply Y; clear Y X)))
   exact k2 _ _ n2 h3
theorem Element_ok (g:Grp) (x:Int) (hgr:GrpR g) (hT:DbT w) (k:∀ w',Below w.heap.size w w' → K (.bool (elemG g x)) w'):callM Tryz.prog 125 #[grpV g,.int .i64 x] K w:=by
 apply sh_125_ok
 unfold sh_125
 refine box_grp g fun b W hW hb c0 c1 c2=>?_
 have hr:=Below.refl W.heap.size W
 have hTW:DbT W:=hT.below hW (rL)
 have k2:∀ w' v,elemG g x = v → Below W.heap.size W w' → K (.bool v) w':=fun w' v e hb=>by rw [← e]; exact k w' (hW.on hb)
 have e0:elemG g x = (decide (1 ≤ x) && decide (x < g.P) && validG g && decide (pw g.P x g.Q.toNat = 1)):=rfl
 clear k
 repeat (any_goals (first
 | (with_reducible first|refine pureM_in ?_|((refine idGd ?_); first|refine zB ?_|((refine idGdD ?_); first|refine zF ?_|refine zG ?_|refine zH (fun hg=>?_) fun hg=>?_))|((refine idPick ?_); first|refine yC ?_|refine yD ?_|refine yE ?_))
 | ((with_reducible refine oG fun X Y=>?_); simp [go_sem,c0,c1,c2,hr]; apply Y; clear Y X)))
 ·refine ValidGroup_ok g hgr hTW (fun w1 h1=>?_)
  cases hv:validG g with
  | false=>
   repeat (any_goals (with_reducible first|refine zB ?_|((refine idPick ?_); first|refine yC ?_|refine yD ?_)))
   exact k2 _ _ (by rw [e0,hv]; simp) h1
  | true=>
   have hv2:=hv
   unfold validG at hv2
   split at hv2
   ·cases hv2
   rename_i hn
   repeat (any_goals (first
   | (with_reducible first|refine pureM_in ?_|refine zA ?_|refine yD ?_)
   | ((with_reducible refine oG fun X Y=>?_); simp [go_sem,c0,c1,h1]; apply Y; clear Y X)))
   refine Pow_ok g.P x g.Q hgr.2.1 (fun w3 h3=>?_)
   have e:powM g.P x g.Q = pw g.P x g.Q.toNat:=by unfold powM; rw [if_pos (by unfold okN; omega),if_pos (by omega)]
   rw [e]
   have e1:elemG g x = decide (pw g.P x g.Q.toNat = 1):=by rw [e0,hv]; simp; omega
   generalize pw g.P x g.Q.toNat = z at *
   repeat (any_goals (first
   | (with_reducible first|refine zA ?_|refine yB ?_)
   | ((with_reducible refine oG fun X Y=>?_); simp [go_sem]; apply Y; clear Y X)))
   exact k2 _ _ e1 (h1.on h3)
 ·exact k2 _ _ (by rw [e0]; simp; omega) hr
 ·exact k2 _ _ (by rw [e0]; simp; omega) hr
theorem Power_ok (g:Grp) (x n:Int) (k:∀ w',Below w.heap.size w w' → K (.int .i64 (powerG g x n)) w'):callM Tryz.prog 140 #[grpV g,.int .i64 x,.int .i64 n] K w:=by
 apply sh_140_ok
 unfold sh_140
 refine box_grp g fun b W hW hb c0 c1 c2=>?_
 have hr:=Below.refl W.heap.size W
 have k2:∀ w' v,powerG g x n = v → Below W.heap.size W w' → K (.int .i64 v) w':=fun w' v e hb=>by rw [← e]; exact k w' (hW.on hb)
 clear k
 repeat (any_goals ((with_reducible refine oG fun X Y=>?_); simp [go_sem,c0,c1,c2,hr]; apply Y; clear Y X))
 refine valid_ok g.P ?_
 by_cases hp:okN g.P
 ·by_cases hq:okN g.Q
  ·repeat (any_goals (first
   | (with_reducible ((refine idGd ?_); ((refine idGdN ?_); refine zO ?_)))
   | ((with_reducible refine oG fun X Y=>?_); simp [go_sem,c0,c1,c2,hr]; apply Y; clear Y X)))
   refine valid_ok g.Q ?_
   repeat (any_goals (first
   | (with_reducible first|((refine idGd ?_); ((refine idGdN ?_); refine zO ?_))|refine yG ?_|refine yR ?_)
   | ((with_reducible refine oG fun X Y=>?_); simp [go_sem,c0,c1,c2,hr]; apply Y; clear Y X)))
   refine ⟨Below W.heap.size W,.drawn,?_⟩
   have hp':=hp
   have hq':=hq
   obtain ⟨h1,h2⟩:=hp'
   obtain ⟨h3,h4⟩:=hq'
   have a1:=Int.emod_nonneg x (b:=g.P) (by omega)
   have a2:=Int.emod_lt_of_pos x (b:=g.P) (by omega)
   have a3:=Int.emod_nonneg n (b:=g.Q) (by omega)
   have a4:=Int.emod_lt_of_pos n (b:=g.Q) (by omega)
   have e0:powerG g x n = pw g.P (x % g.P) (n % g.Q).toNat:=by unfold powerG; rw [if_pos ⟨hp,hq⟩,pw_emod]
   obtain ⟨m,hm⟩:=natN (n % g.Q) a3
   rw [hm,Int.toNat_natCast] at e0
   have hr:=pw_nonneg g.P (x % g.P) m (by omega)
   repeat (any_goals ((with_reducible refine idOQ ?_); (with_reducible refine oQ_of ⟨_,rfl⟩ (fun W0 hW0=>by (refine oG (fun X Y=>?_)); simp [go_sem,c0 _ hW0,c1 _ hW0,c2 _ hW0]; (first | exact Y _ _ ⟨rfl,rfl⟩ | exact ⟨by omega,Y _ _ ⟨rfl,rfl⟩⟩)) ?_)))
   refine callQ_of (fun W0 hW0=>residue_ok g.P x hp ⟨rfl,hW0⟩) ?_
   repeat (any_goals ((with_reducible refine idOQ ?_); (with_reducible refine oQ_of ⟨_,rfl⟩ (fun W0 hW0=>by (refine oG (fun X Y=>?_)); simp [go_sem,c0 _ hW0,c1 _ hW0,c2 _ hW0]; (first | exact Y _ _ ⟨rfl,rfl⟩ | exact ⟨by omega,Y _ _ ⟨rfl,rfl⟩⟩)) ?_)))
   refine callQ_of (fun W0 hW0=>residue_ok g.Q n hq ⟨rfl,hW0⟩) ?_
   rw [hm]
   refine callQ_of (fun W0 hW0=>power_ok g.P (x % g.P) m hp ⟨a1,a2⟩ (by omega) (fun w' hw'=>⟨rfl,hW0.on hw'⟩)) ?_
   generalize pw g.P (x % g.P) m = z at *
   have e3:IntKind.i64.wrap z = z:=wrapI64 z (by omega) (by omega)
   repeat (any_goals ((with_reducible refine idOQ ?_); (with_reducible refine oQ_of ⟨_,rfl⟩ (fun W0 hW0=>by (refine oG (fun X Y=>?_)); simp [go_sem,e3]; (first | exact Y _ _ ⟨rfl,rfl⟩ | exact ⟨by omega,Y _ _ ⟨rfl,rfl⟩⟩)) ?_)))
   intro w' hw'
   exact k2 _ _ e0 hw'
  ·have e0:powerG g x n = 0:=by unfold powerG; rw [if_neg (fun h=>hq h.2)]
   repeat (any_goals (first
   | (with_reducible ((refine idGd ?_); ((refine idGdN ?_); refine zO ?_)))
   | ((with_reducible refine oG fun X Y=>?_); simp [go_sem,c0,c1,c2,hr]; apply Y; clear Y X)))
   refine valid_ok g.Q ?_
   repeat (any_goals (first
   | (with_reducible first|((refine idGd ?_); ((refine idGdN ?_); refine zO ?_))|refine yG ?_|refine yQ ?_)
   | ((with_reducible refine oG fun X Y=>?_); simp [go_sem,c0,c1,c2,hr]; apply Y; clear Y X)))
   exact k2 _ _ e0 hr
 ·have e0:powerG g x n = 0:=by unfold powerG; rw [if_neg (fun h=>hp h.1)]
  repeat (any_goals (first
  | (with_reducible first|((refine idGd ?_); ((refine idGdN ?_); refine zP ?_))|refine yF ?_|refine yL ?_)
  | ((with_reducible refine oG fun X Y=>?_); simp [go_sem,c0,c1,c2,hr]; apply Y; clear Y X)))
  exact k2 _ _ e0 hr
def PdJ (g:Grp) (R:Int) (ps:List (Int × Int)) (W:World) (l:List Value) (w':World):Prop:=Below W.heap.size W w' ∧ ∃ (v u:Value) (o:Int) (i:Nat),l = [v,u,.int .i64 o,.int .i64 (i:Int)] ∧ i ≤ ps.length ∧ prodL g o (ps.drop i) = R
def pdMu (n:Nat) (l:List Value) (_:World):Nat:=match l with | [_,_,_,.int _ i]=>n - i.toNat | _=>0
theorem pdMu_eq (n:Nat) (x y z:Value) (q:IntKind) (i:Int) (w:World):pdMu n [x,y,z,.int q i] w = n - i.toNat:=rfl
theorem zip_drop (a b:List Int) (i:Nat) (h1:i < a.length) (h2:i < b.length):(a.zip b).drop i = (a[i],b[i]) :: (a.zip b).drop (i + 1):=by
 rw [List.drop_eq_getElem_cons (by rw [List.length_zip]; omega),List.getElem_zip]
@[go_sem] theorem oM_index_ints (T:TypeId) (b o n c:Nat) (x:Int):oM Tryz.prog (.indexAddr 22 (.tmp 0) (.tmp 1)) T [.slice (some ⟨b,o,none⟩) n c,.int .i64 x] = onM (0 ≤ x ∧ x < n) (.pointer (some ⟨b,o + x.toNat,none⟩)):=by
 funext K w
 rw [oM_indexAddr,run_indexAt_slice (h:=by kernel_rfl)]
 have hs:(sizeOf (Tryz.prog.elem 22)).run Tryz.prog w = .ok 1 w:=by kernel_rfl
 by_cases hi:0 ≤ x ∧ x < n
 ·rw [if_pos hi,hs]
  simp only [Result.andThen,add_none,Nat.mul_one,rM_ok]
  exact propext ⟨fun h=>⟨hi,h⟩,fun h=>h.2⟩
 ·rw [if_neg hi]
  obtain ⟨e',w',he⟩:=halts Value Tryz.prog .i64 x n .index w
  rw [he]
  exact propext ⟨fun h=>h.elim,fun h=>hi h.1⟩
theorem Product_ok (g:Grp) {bv ev:Value} {bs es:List Int} (hbs:Ints w bv bs) (hes:Ints w ev es) (k:∀ w',Below w.heap.size w w' → K (.tuple #[.int .i64 (prodG g bs es).1,.bool (prodG g bs es).2]) w'):callM Tryz.prog 138 #[grpV g,bv,ev] K w:=by
 apply sh_138_ok
 unfold sh_138
 refine box_grp g fun b W hW hb c0 c1 c2=>?_
 have hr:=Below.refl W.heap.size W
 have k2:∀ w' v,prodG g bs es = v → Below W.heap.size W w' → K (.tuple #[.int .i64 v.1,.bool v.2]) w':=fun w' v e hb=>by rw [← e]; exact k w' (hW.on hb)
 clear k
 obtain ⟨bad,bc,rfl⟩:=hbs.isSlice
 obtain ⟨ead,ec,rfl⟩:=hes.isSlice
 have hbs:=hbs.next hW
 have hes:=hes.next hW
 have l1:=hbs.len
 have l2:=hes.len
 repeat (any_goals ((with_reducible refine oG fun X Y=>?_); simp [go_sem,c0,c1,c2,hr]; apply Y; clear Y X))
 refine valid_ok g.P ?_
 by_cases hp:okN g.P
 ·by_cases hq:okN g.Q
  ·repeat (any_goals (first
   | (with_reducible ((refine idGd ?_); ((refine idGdN ?_); refine zO ?_)))
   | ((with_reducible refine oG fun X Y=>?_); simp [go_sem,c0,c1,c2,hr]; apply Y; clear Y X)))
   refine valid_ok g.Q ?_
   by_cases hl:bs.length = es.length
   ·have e1:(1:Int).tmod g.P = 1 % g.P:=Int.tmod_eq_emod_of_nonneg (by omega)
    have hp0:=hp.1
    have e0:prodG g bs es = (prodL g (1 % g.P) (bs.zip es),true):=by unfold prodG; rw [if_pos ⟨hp,hq,hl⟩]
    have hzl:(bs.zip es).length = bs.length:=by rw [List.length_zip]; omega
    repeat (any_goals (first
    | (with_reducible first|refine pureM_in ?_|((refine idGd ?_); ((refine idGdN ?_); refine zO ?_))|refine yG ?_|refine yM ?_)
    | ((with_reducible refine oG fun X Y=>?_); simp [go_sem,c0,c1,c2,hr,hl,e1]; (first|refine Y _ _ ?_|refine And.intro (by omega) (Y _ _ ?_)); clear Y X)))
    refine ⟨PdJ g (prodL g (1 % g.P) (bs.zip es)) (bs.zip es) W,pdMu es.length,⟨hr,_,_,_,0,rfl,by omega,rfl⟩,?_⟩
    generalize prodL g (1 % g.P) (bs.zip es) = R at *
    rintro _ _ w1 ⟨h1,v,u,o,i,rfl,hi,he⟩
    rw [hzl] at hi
    by_cases hin:i = es.length
    ·rw [List.drop_of_length_le (by omega)] at he
     unfold prodL at he
     repeat (any_goals (first
     | (with_reducible refine yO ?_)
     | ((with_reducible refine oG fun X Y=>?_); simp [go_sem]; apply Y; clear Y X)))
     rw [he]
     exact k2 _ _ e0 h1
    ·rw [zip_drop bs es i (by omega) (by omega)] at he
     unfold prodL at he
     obtain ⟨b1,o1,rfl,hb1,ca,ra,_⟩:=hbs.at (i:=i) (by omega)
     obtain ⟨b2,o2,rfl,hb2,cb,rb,_⟩:=hes.at (i:=i) (by omega)
     repeat (any_goals (first
     | (with_reducible refine yN ?_)
     | ((with_reducible refine oG fun X Y=>?_); simp [go_sem,ca _ h1,c0,h1]; (first|refine Y _ _ ?_|refine And.intro (by omega) (Y _ _ ?_)); clear Y X)))
     refine ⟨Below W.heap.size W,h1.trans .drawn,?_⟩
     repeat (any_goals ((with_reducible refine idOQ ?_); (with_reducible refine oQ_of ⟨_,rfl⟩ (fun W0 hW0=>by (refine oG (fun X Y=>?_)); simp [go_sem,c0 _ hW0,c1 _ hW0,c2 _ hW0,cb _ hW0]; (first | exact Y _ _ ⟨rfl,rfl⟩ | exact ⟨by omega,Y _ _ ⟨rfl,rfl⟩⟩)) ?_)))
     refine callQ_of (fun W0 hW0=>Power_ok g _ _ (fun w' hw'=>⟨rfl,hW0.on hw'⟩)) ?_
     refine callQ_of (fun W0 hW0=>Mul_ok _ _ _ (fun w' hw'=>⟨rfl,hW0.on hw'⟩)) ?_
     intro w2 h2
     repeat (any_goals ((with_reducible refine oG fun X Y=>?_); simp [go_sem]; (try simp (disch:=omega) only [wrapI64,wrapU8,wrapU32,wrapU64]); apply Y; clear Y X))
     refine ⟨⟨h2,_,_,_,i + 1,rfl,by rw [hzl]; omega,he⟩,?_⟩
     simp only [pdMu_eq]; omega
   ·have e0:prodG g bs es = (0,false):=by unfold prodG; rw [if_neg (fun h=>hl h.2.2)]
    have hl':¬ (bs.length:Int) = es.length:=by omega
    repeat (any_goals (first
    | (with_reducible first|refine pureM_in ?_|((refine idGd ?_); ((refine idGdN ?_); refine zO ?_))|refine yG ?_|refine yL ?_)
    | ((with_reducible refine oG fun X Y=>?_); simp [go_sem,c0,c1,c2,hr,hl']; apply Y; clear Y X)))
    exact k2 _ _ e0 hr
  ·have e0:prodG g bs es = (0,false):=by unfold prodG; rw [if_neg (fun h=>hq h.2.1)]
   repeat (any_goals (first
   | (with_reducible ((refine idGd ?_); ((refine idGdN ?_); refine zO ?_)))
   | ((with_reducible refine oG fun X Y=>?_); simp [go_sem,c0,c1,c2,hr]; apply Y; clear Y X)))
   refine valid_ok g.Q ?_
   repeat (any_goals (first
   | (with_reducible first|((refine idGd ?_); ((refine idGdN ?_); first|refine zO ?_|refine zP ?_))|((refine idPick ?_); first|refine yF ?_|refine yG ?_)|refine yL ?_)
   | ((with_reducible refine oG fun X Y=>?_); simp [go_sem,c0,c1,c2,hr]; apply Y; clear Y X)))
   exact k2 _ _ e0 hr
 ·have e0:prodG g bs es = (0,false):=by unfold prodG; rw [if_neg (fun h=>hp h.1)]
  repeat (any_goals (first
  | (with_reducible first|((refine idGd ?_); first|refine zD ?_|((refine idGdN ?_); refine zP ?_))|((refine idPick ?_); first|refine yB ?_|refine yF ?_)|refine yL ?_)
  | ((with_reducible refine oG fun X Y=>?_); simp [go_sem,c0,c1,c2,hr]; apply Y; clear Y X)))
  exact k2 _ _ e0 hr
end
end Go.Proofs
namespace Go.Sh
open Go Go.RowKit
@[reducible] def cellsAre (w:World):List (Addr × Value) → Prop
 | []=>True
 | p :: l=>w.cell? p.1 = some p.2 ∧ cellsAre w l
theorem cellsAre_keep {w w':World}:∀ {L:List (Addr × Value)},cellsAre w L → (∀ (a:Addr),a.block < w.heap.size → w'.cell? a = w.cell? a) → cellsAre w' L
 | [],_,_=>trivial
 | p :: l,h,k=>by
  refine ⟨?_,cellsAre_keep h.2 k⟩
  have hlt:p.1.block < w.heap.size:=by
   have h1:=h.1
   by_cases hc:p.1.block < w.heap.size
   ·exact hc
   ·unfold World.cell? at h1
    rw [Array.getElem?_eq_none (by omega)] at h1
    simp at h1
  rw [k _ hlt]; exact h.1
theorem cellsAre_keepBut {w w':World} {g:Nat}:∀ {L:List (Addr × Value)},cellsAre w L → (∀ p ∈ L,p.1.block ≠ g) → (∀ (a:Addr),a.block < w.heap.size → a.block ≠ g → w'.cell? a = w.cell? a) → cellsAre w' L
 | [],_,_,_=>trivial
 | p :: l,h,hn,k=>by
  refine ⟨?_,cellsAre_keepBut h.2 (fun q hq=>hn q (List.mem_cons_of_mem _ hq)) k⟩
  have hlt:p.1.block < w.heap.size:=by
   have h1:=h.1
   by_cases hc:p.1.block < w.heap.size
   ·exact hc
   ·unfold World.cell? at h1
    rw [Array.getElem?_eq_none (by omega)] at h1
    simp at h1
  rw [k _ hlt (hn p (List.mem_cons_self ..))]; exact h.1
theorem cellsAre_append {w:World}:∀ {A B:List (Addr × Value)},cellsAre w A → cellsAre w B → cellsAre w (A ++ B)
 | [],_,_,hb=>hb
 | _ :: _,_,ha,hb=>⟨ha.1,cellsAre_append ha.2 hb⟩
structure Kn (w0:World) (L:List (Addr × Value)) (w':World):Prop where
 below:Below w0.heap.size w0 w'
 cells:cellsAre w' L
namespace Kn
variable {w0 w w':World} {L:List (Addr × Value)}
theorem start (w:World):Kn w [] w:=⟨Below.refl _ _,trivial⟩
theorem next (h:Kn w0 L w) (hb:Below w.heap.size w w'):Kn w0 L w':=⟨h.below.on hb,cellsAre_keep h.cells fun a ha=>hb.cell ha⟩
theorem drew (h:Kn w0 L w):Kn w0 L { w with drawn:=w.drawn + 1 }:=h.next .drawn
theorem wrote (h:Kn w0 L w) {g:Nat} (hg:w.grownBy w' (some g)) (h0:w0.heap.size ≤ g) (hn:∀ p ∈ L,p.1.block ≠ g):Kn w0 L w':=
 ⟨h.below.grown hg h.below.size (fun k hk=>by cases hk; exact h0),
  cellsAre_keepBut h.cells hn fun a ha hna=>World.cell?_of_block (w:=w) (hg.block _ ha (fun e=>hna (oI e)))⟩
theorem more {A:List (Addr × Value)} (h:Kn w0 L w) (ha:cellsAre w A):Kn w0 (A ++ L) w:=⟨h.below,cellsAre_append ha h.cells⟩
end Kn
@[reducible] def cellsOf (L:List (Addr × Value)) (b:Nat):Nat → List Value → List (Addr × Value)
 | _,[]=>L
 | i,v :: l=>(⟨b,i,none⟩,v) :: cellsOf L b (i + 1) l
theorem cellsOf_are {w:World} {b:Nat} {xs:List Value} {L:List (Addr × Value)} (hL:cellsAre w L) (h:∀ (i:Nat) (v:Value),xs[i]? = some v → w.cell? ⟨b,i,none⟩ = some v):∀ (l:List Value) (i:Nat),xs.drop i = l → cellsAre w (cellsOf L b i l)
 | [],_,_=>hL
 | v :: l,i,e=>by
  have hv:xs[i]? = some v:=by
   have:=congrArg (·[0]?) e
   simpa using this
  refine ⟨h i v hv,cellsOf_are hL h l (i + 1) ?_⟩
  have:=congrArg List.tail e
  simpa using this
def Mine (w:World) (g:Nat) (n:Nat):Prop:=∃ cur T,w.heap[g]? = some (.cells cur T (0,0)) ∧ cur.size = n
theorem Mine.next {w w':World} {g n:Nat} (h:Mine w g n) (hb:Below w.heap.size w w'):Mine w' g n:=by
 obtain ⟨cur,T,h1,h2⟩:=h
 refine ⟨cur,T,?_,h2⟩
 rw [hb.block g (Array.getElem?_eq_some_iff.1 h1).1]; exact h1
section
variable {P:Program} {w0 w:World} {K:VK} {T T':TypeId} {L:List (Addr × Value)}
theorem box_kn {x:Value} {cs:List Value} (hx:x.cells = cs.toArray) (hk:Kn w0 L w) (k:∀ b W,Kn w0 (cellsOf L b 0 cs) W → Below w.heap.size w W → w.heap.size ≤ b → K (.pointer (some ⟨b,0,none⟩)) W):oM P (.box T (.tmp 0)) T' [x] K w:=
 box_in hx fun g W h1 h2 h3=>k g W ⟨(hk.next h1).below,cellsOf_are (xs:=cs) (hk.next h1).cells (fun i v hi=>h3 W (Below.refl _ _) i v hi) cs 0 rfl⟩ h1 h2
end
end Go.Sh
namespace TkSpec
open FdSpec
structure Stp where
 g:Grp
 bases:List Int
 blind:Int
deriving DecidableEq
structure Bld where
 s:Int
 u:Int
 v:Int
 ys:List Int
deriving DecidableEq
structure Tkt where
 mark:Int
 first:Int
 z:Int
 a:Int
 b:Int
 r:Int
deriving DecidableEq
structure Spd where
 dare:Int
 answers:List Int
deriving DecidableEq
structure Off where
 z:Int
 a:Int
 b:Int
deriving DecidableEq
def otherM (g:Grp) (x:Int):Bool:=!decide (x = 1) && elemG g x
def validS (s:Stp):Bool:=validG s.g && decide (2 ≤ s.bases.length) && decide (s.bases.length ≤ 7) && s.bases.all (otherM s.g) && otherM s.g s.blind
def numsM (s:Stp) (least:Int) (l:List Int):Bool:=l.all fun n=>decide (least ≤ n) && decide (n < s.g.Q)
def elementsM (s:Stp) (l:List Int):Bool:=l.all (elemG s.g)
def keyM (s:Stp) (k:Int):Bool:=!decide (k = 1) && elementsM s [k]
def genM (s:Stp) (k:Int):Int:=powerG s.g s.g.G k
def timesM (s:Stp) (first:Int) (l:List Int):Int:=l.foldl (fun a x=>timesG s.g a x) first
def mulQ (s:Stp) (first:Int) (l:List Int):Int:=l.foldl (fun a x=>mulM s.g.Q a x) first
def overQ (s:Stp) (a b:Int):Int:=mulQ s a [powM s.g.Q b (-1)]
def plusQ (s:Stp) (a b:Int):Int:=addM s.g.Q a b
def lessQ (s:Stp) (a b:Int):Int:=subM s.g.Q a b
def expsM (attrs:List Int):List Int:=1 :: attrs
def markM (s:Stp) (attrs:List Int):Int × Bool:=
 if validS s && decide (attrs.length + 1 = s.bases.length) && numsM s 0 attrs && !decide (attrs.headD 0 = 0) then ((prodG s.g s.bases (expsM attrs)).1,true) else (0,false)
def usableM (s:Stp) (attrs:List Int):Int × Bool:=((markM s attrs).1,(markM s attrs).2 && !decide ((markM s attrs).1 = 1))
def publicM (s:Stp) (x:Int):Int:=if validS s && numsM s 1 [x] then genM s x else 0
def proposeM (s:Stp) (x:Int) (attrs:List Int) (w:Int):Off × Int:=
 if (usableM s attrs).2 && numsM s 1 [x] && numsM s 0 [w] then (⟨powerG s.g (usableM s attrs).1 x,genM s w,powerG s.g (usableM s attrs).1 w⟩,0) else (⟨0,0,0⟩,1)
def blindsM (s:Stp) (b:Bld):Bool:=numsM s 1 [b.s,b.u] && numsM s 0 [b.v] && decide (b.ys.length = s.bases.length) && numsM s 0 b.ys
def grantM (s:Stp) (x w c:Int):Int:=if validS s && numsM s 1 [x] && numsM s 0 [w,c] then plusQ s (mulQ s c [x]) w else 0
def useM (s:Stp) (attrs:List Int) (b:Bld) (dare:Int):Spd × Bool:=
 if (usableM s attrs).2 && blindsM s b && numsM s 1 [dare] then (⟨dare,((expsM attrs).zip b.ys).map fun p=>plusQ s p.2 (mulQ s dare [b.s,p.1])⟩,true) else (⟨0,[]⟩,false)
def formedM (s:Stp) (t:Tkt):Bool:=validS s && !decide (t.mark = 1) && elementsM s [t.mark,t.first,t.z,t.a,t.b] && numsM s 0 [t.r]
def acceptsM (s:Stp) (t:Tkt) (x:Spd):Bool:=
 if formedM s t && numsM s 1 [x.dare] && decide (x.answers.length = s.bases.length) && numsM s 0 x.answers then decide ((prodG s.g s.bases x.answers).1 = timesM s (powerG s.g t.mark x.dare) [t.first]) else false
def gapsM (s:Stp) (t:Tkt) (a b:Spd):List Int × Bool:=
 if decide (a.dare = b.dare) || !acceptsM s t a || !acceptsM s t b then ([],false)
 else ((a.answers.zip b.answers).map fun p=>lessQ s p.1 p.2,!decide (((a.answers.zip b.answers).map fun p=>lessQ s p.1 p.2).headD 0 = 0))
def traceM (s:Stp) (t:Tkt) (a b:Spd):List Int × Bool:=
 if (gapsM s t a b).2 then ((gapsM s t a b).1.tail.map fun n=>overQ s n ((gapsM s t a b).1.headD 0),true) else ([],false)
def guiltyM (s:Stp) (t:Tkt) (a b:Spd) (attrs:List Int):Bool:=
 if (gapsM s t a b).2 && decide (attrs.length + 1 = (gapsM s t a b).1.length) && numsM s 0 attrs then
  (attrs.zip (gapsM s t a b).1.tail).all fun p=>decide (mulQ s p.1 [(gapsM s t a b).1.headD 0] = p.2)
 else false
def s0:Stp:=⟨⟨23,11,4⟩,[4,16,18],3⟩
def b0:Bld:=⟨4,1,0,[1,2,3]⟩
def t0:Tkt:=⟨8,18,9,16,13,0⟩
theorem sane_facts :
  proposeM s0 3 [5,7] 2 = (⟨9,16,13⟩,0) ∧ useM s0 [5,7] b0 2 = (⟨2,[9,9,4]⟩,true) ∧ useM s0 [5,7] b0 5 = (⟨5,[10,3,0]⟩,true) ∧
  traceM s0 t0 ⟨2,[9,9,4]⟩ ⟨5,[10,3,0]⟩ = ([5,7],true) ∧ (traceM s0 t0 ⟨2,[9,9,4]⟩ ⟨2,[9,9,4]⟩).2 = false ∧
  markM s0 [5,7] = (6,true) ∧ (usableM s0 [5,7]).2 = true ∧ (usableM s0 [5,0]).2 = false ∧ publicM s0 3 = 18 ∧ publicM s0 0 = 0 ∧ grantM s0 3 2 6 = 9 ∧
  acceptsM s0 t0 ⟨2,[9,9,4]⟩ = true ∧ acceptsM s0 t0 ⟨5,[10,3,0]⟩ = true ∧ acceptsM s0 t0 ⟨3,[9,9,4]⟩ = false ∧ guiltyM s0 t0 ⟨2,[9,9,4]⟩ ⟨5,[10,3,0]⟩ [5,7] = true:=by
 decide +kernel
end TkSpec
namespace Go.Proofs
open Go Go.Sh Go.RowKit FdSpec TkSpec
section
variable {K:VK} {w:World}
@[reducible] def stpV (s:Stp) (v:Value):Value:=.agg #[.int .i64 s.g.P,.int .i64 s.g.Q,.int .i64 s.g.G,v,.int .i64 s.blind]
@[reducible] def stpC (s:Stp) (v:Value):List Value:=[.int .i64 s.g.P,.int .i64 s.g.Q,.int .i64 s.g.G,v,.int .i64 s.blind]
structure SetR (w:World) (s:Stp) (v:Value):Prop where
 grp:GrpR s.g
 ints:Ints w v s.bases
 blind:I64 s.blind
 db:DbT w
theorem DbT.next {w w':World} (h:DbT w) (hb:Below w.heap.size w w'):DbT w':=h.below hb (rL)
theorem SetR.next {w w':World} {s:Stp} {v:Value} (h:SetR w s v) (hb:Below w.heap.size w w'):SetR w' s v:=⟨h.grp,h.ints.next hb,h.blind,h.db.next hb⟩
theorem other_ok (g:Grp) (x:Int) {b:Nat} (hg:GrpR g) (hT:DbT w) (h0:w.cell? ⟨b,0,none⟩ = some (.int .i64 g.P)) (h1:w.cell? ⟨b,1,none⟩ = some (.int .i64 g.Q)) (h2:w.cell? ⟨b,2,none⟩ = some (.int .i64 g.G))
  (k:∀ w',Below w.heap.size w w' → K (.bool (otherM g x)) w'):callM Tryz.prog 124 #[.int .i64 x,.pointer (some ⟨b,0,none⟩)] K w:=by
 apply sh_124_ok
 unfold sh_124
 unfold otherM at k
 by_cases hx:x = 1
 ·have k:=k w (Below.refl _ _)
  repeat (any_goals (first
  | (with_reducible first|((refine idGd ?_); ((refine idGdN ?_); refine zM ?_))|refine yG ?_)
  | ((with_reducible refine oG fun X Y=>?_); simp [go_sem,h0,h1,h2]; apply Y; clear Y X)))
  simpa [hx] using k
 ·repeat (any_goals (first
  | (with_reducible first|refine pureM_in ?_|((refine idGd ?_); ((refine idGdN ?_); refine zL ?_)))
  | ((with_reducible refine oG fun X Y=>?_); simp [go_sem,h0,h1,h2]; apply Y; clear Y X)))
  refine Element_ok g x hg hT (fun w' hw=>?_)
  have k:=k w' hw
  repeat (any_goals (with_reducible refine yF ?_))
  simpa [hx] using k
def VsJ (s:Stp) (L:List (Addr × Value)) (R:Bool) (w0:World) (l:List Value) (w':World):Prop:=Kn w0 L w' ∧ ∃ (v u:Value) (i:Nat),l = [v,u,.int .i64 (i:Int)] ∧ i ≤ s.bases.length ∧ (s.bases.drop i).all (otherM s.g) = R
def vsMu (n:Nat) (l:List Value) (_:World):Nat:=match l with | [_,_,.int _ i]=>n - i.toNat | _=>0
theorem vsMu_eq (n:Nat) (x y:Value) (q:IntKind) (i:Int) (w:World):vsMu n [x,y,.int q i] w = n - i.toNat:=rfl
theorem ValidSetup_ok (s:Stp) {v:Value} (hs:SetR w s v) (k:∀ w',Below w.heap.size w w' → K (.bool (validS s)) w'):callM Tryz.prog 77 #[stpV s v] K w:=by
 apply sh_77_ok
 unfold sh_77
 obtain ⟨ad,c,rfl⟩:=hs.ints.isSlice
 refine box_kn (cs:=stpC s (.slice ad s.bases.length c)) rfl (.start w) fun b W hk hb1 hb=>?_
 have k2:∀ w' r,validS s = r → Below w.heap.size w w' → K (.bool r) w':=fun w' r e hb=>by rw [← e]; exact k w' hb
 have e0:validS s = (validG s.g && decide (2 ≤ s.bases.length) && decide (s.bases.length ≤ 7) && s.bases.all (otherM s.g) && otherM s.g s.blind):=rfl
 have hl:=hs.ints.len
 clear k
 repeat (any_goals ((with_reducible refine oG fun X Y=>?_); simp [go_sem,hk.cells]; apply Y; clear Y X))
 refine ValidGroup_ok s.g hs.grp (hs.db.next hk.below) (fun w1 h1=>?_)
 have hk:=hk.next h1
 clear h1 hb1
 cases hv:validG s.g with
 | false=>
  repeat (any_goals (first
  | (with_reducible first|refine zD ?_|refine yB ?_|refine yL ?_)
  | ((with_reducible refine oG fun X Y=>?_); simp [go_sem]; apply Y; clear Y X)))
  exact k2 _ _ (by rw [e0,hv]; simp) hk.below
 | true=>
  repeat (any_goals (first
  | (with_reducible first|((refine idGd ?_); first|refine zC ?_|((refine idGdD ?_); first|refine zI ?_|refine zJ ?_|refine zK (fun hg=>?_) fun hg=>?_))|((refine idPick ?_); first|refine yC ?_|refine yD ?_|refine yE ?_)|((refine idCond ?_); first|refine yL ?_|refine yP (fun hg=>?_) fun hg=>?_))
  | ((with_reducible refine oG fun X Y=>?_); simp [go_sem,hk.cells]; apply Y; clear Y X)))
  ·exact k2 _ _ (by rw [e0]; simp; omega) hk.below
  ·exact k2 _ _ (by rw [e0]; simp; omega) hk.below
  have e1:validS s = (s.bases.all (otherM s.g) && otherM s.g s.blind):=by
   rw [e0,hv,decide_eq_true (by omega:2 ≤ s.bases.length),decide_eq_true (by omega:s.bases.length ≤ 7)]; rfl
  refine ⟨VsJ s _ (s.bases.all (otherM s.g)) w,vsMu s.bases.length,⟨hk,_,_,0,rfl,by omega,rfl⟩,?_⟩
  generalize s.bases.all (otherM s.g) = R at *
  rintro _ _ w2 ⟨hk,u1,u2,i,rfl,hi,hall⟩
  have hc:=hk.cells
  by_cases hin:i = s.bases.length
  ·rw [List.drop_of_length_le (by omega),List.all_nil] at hall
   subst hall
   repeat (any_goals (first
   | (with_reducible refine yO ?_)
   | ((with_reducible refine oG fun X Y=>?_); simp [go_sem,hc]; apply Y; clear Y X)))
   refine oM_callv1 (by kernel_rfl) ?_
   refine other_ok s.g s.blind hs.grp (hs.db.next hk.below) hc.1 hc.2.1 hc.2.2.1 (fun w3 h3=>?_)
   exact k2 _ _ (by rw [e1,bT]) (hk.next h3).below
  ·rw [List.drop_eq_getElem_cons (by omega),List.all_cons] at hall
   obtain ⟨b1,o1,rfl,hb1,ca,ra,_⟩:=hs.ints.at (i:=i) (by omega)
   repeat (any_goals (first
   | (with_reducible refine yN ?_)
   | ((with_reducible refine oG fun X Y=>?_); simp [go_sem,ca _ hk.below]; (first|refine Y _ _ ?_|refine And.intro (by omega) (Y _ _ ?_)); clear Y X)))
   refine oM_callv1 (by kernel_rfl) ?_
   refine other_ok s.g _ hs.grp (hs.db.next hk.below) hc.1 hc.2.1 hc.2.2.1 (fun w3 h3=>?_)
   cases ho:otherM s.g s.bases[i] with
   | false=>
    rw [ho,bF] at hall
    subst hall
    repeat (any_goals (first
    | (with_reducible refine yL ?_)
    | ((with_reducible refine oG fun X Y=>?_); simp [go_sem]; apply Y; clear Y X)))
    exact k2 _ _ (by rw [e1,bF]) (hk.next h3).below
   | true=>
    rw [ho,bT] at hall
    repeat (any_goals (first
    | (with_reducible refine yM ?_)
    | ((with_reducible refine oG fun X Y=>?_); simp [go_sem]; (try simp (disch:=omega) only [wrapI64,wrapU8,wrapU32,wrapU64]); apply Y; clear Y X)))
    refine ⟨⟨hk.next h3,_,_,i + 1,rfl,by omega,hall⟩,?_⟩
    simp only [vsMu_eq]; omega
end
section
variable {K:VK} {w w0:World} {L:List (Addr × Value)}
theorem ints_alloc (w:World) (l:List Int) (T:TypeId) (c:Nat) (hr:∀ n ∈ l,I64 n) (hl:l.length ≤ 9223372036854775807):Ints (w.alloc (.cells (l.map (Value.int .i64)).toArray T)) (.slice (some ⟨w.heap.size,0,none⟩) l.length c) l:=by
 refine ⟨⟨_,c,rfl,by simp,?_⟩,hr,hl⟩
 by_cases h0:l = []
 ·exact .inl h0
 ·refine .inr ⟨_,0,rfl,by simp,fun k x hk=>?_⟩
  rw [flat_int] at hk
  rw [Nat.zero_add]
  have:=World.cell?_alloc_at (w:=w) (l.map (Value.int .i64)).toArray T w.heap.size k rfl
  rw [this]
  simpa using hk
theorem mk1 {T:TypeId} (x:Int) (hx:I64 x) (k:∀ v W,Below w.heap.size w W → Ints W v [x] → K v W):oM Tryz.prog (.buildSlice 22 1 #[(0,.tmp 0)]) T [.int .i64 x] K w:=by
 rw [oM_buildSlice1]
 have e:(Instr.buildSlice 22 1 #[(0,.int .i64 x)]).run Tryz.prog w = .ok (.slice (some ⟨w.heap.size,0,none⟩) 1 1) (w.alloc (.cells #[.int .i64 x] 3)):=by kernel_rfl
 rw [e]
 exact k _ _ ((Below.refl _ w).alloc (rL) _) (ints_alloc w [x] _ 1 (by simpa using hx) (by simp))
theorem mk2 {T:TypeId} (x y:Int) (hx:I64 x) (hy:I64 y) (k:∀ v W,Below w.heap.size w W → Ints W v [x,y] → K v W):oM Tryz.prog (.buildSlice 22 2 #[(0,.tmp 0),(1,.tmp 1)]) T [.int .i64 x,.int .i64 y] K w:=by
 rw [oM_buildSlice2]
 have e:(Instr.buildSlice 22 2 #[(0,.int .i64 x),(1,.int .i64 y)]).run Tryz.prog w = .ok (.slice (some ⟨w.heap.size,0,none⟩) 2 2) (w.alloc (.cells #[.int .i64 x,.int .i64 y] 3)):=by kernel_rfl
 rw [e]
 exact k _ _ ((Below.refl _ w).alloc (rL) _) (ints_alloc w [x,y] _ 2 (by simp; exact ⟨hx,hy⟩) (by simp))
def IfJ (p:Int → Bool) (l:List Int) (R:Bool) (w0:World) (vs:List Value) (w':World):Prop:=Below w0.heap.size w0 w' ∧ ∃ (v u:Value) (i:Nat),vs = [v,u,.int .i64 (i:Int)] ∧ i ≤ l.length ∧ (l.drop i).any p = R
theorem IndexFunc_ok {v F:Value} {l:List Int} (p:Int → Bool) (hl:Ints w v l)
  (hF:∀ (w':World) (x:Int) (K':VK) (T:TypeId),Below w.heap.size w w' → I64 x → (∀ w'',Below w'.heap.size w' w'' → K' (.bool (p x)) w'') → oM Tryz.prog (.call { callee:=.value (.tmp 0),args:=#[.tmp 1],argTypes:=#[3] }) T [F,.int .i64 x] K' w')
  (k:∀ w' (r:Int),Below w.heap.size w w' → decide (0 ≤ r) = l.any p → K (.int .i64 r) w'):callM Tryz.prog 173 #[v,F] K w:=by
 apply sh_173_ok
 unfold sh_173
 obtain ⟨ad,c,rfl⟩:=hl.isSlice
 have hll:=hl.len
 repeat (any_goals ((with_reducible refine oG fun X Y=>?_); simp [go_sem]; apply Y; clear Y X))
 refine ⟨IfJ p l (l.any p) w,vsMu l.length,⟨Below.refl _ _,_,_,0,rfl,by omega,rfl⟩,?_⟩
 generalize l.any p = R at *
 rintro _ _ w1 ⟨h1,u1,u2,i,rfl,hi,ha⟩
 by_cases hin:i = l.length
 ·rw [List.drop_of_length_le (by omega),List.any_nil] at ha
  repeat (any_goals (first
  | (with_reducible refine yO ?_)
  | ((with_reducible refine oG fun X Y=>?_); simp [go_sem]; apply Y; clear Y X)))
  exact k _ _ h1 (by rw [← ha]; rfl)
 ·rw [List.drop_eq_getElem_cons (by omega),List.any_cons] at ha
  obtain ⟨b1,o1,rfl,hb1,ca,ra,_⟩:=hl.at (i:=i) (by omega)
  repeat (any_goals (first
  | (with_reducible refine yN ?_)
  | ((with_reducible refine oG fun X Y=>?_); simp [go_sem,ca _ h1]; (first|refine Y _ _ ?_|refine And.intro (by omega) (Y _ _ ?_)); clear Y X)))
  refine hF w1 _ _ _ h1 ra (fun w2 h2=>?_)
  cases hp:p l[i] with
  | true=>
   rw [hp,Bool.true_or] at ha
   repeat (any_goals (with_reducible refine yL ?_))
   exact k _ _ (h1.on h2) (by rw [← ha]; simp)
  | false=>
   rw [hp,Bool.false_or] at ha
   repeat (any_goals (first
   | (with_reducible refine yM ?_)
   | ((with_reducible refine oG fun X Y=>?_); simp [go_sem]; (try simp (disch:=omega) only [wrapI64,wrapU8,wrapU32,wrapU64]); apply Y; clear Y X)))
   refine ⟨⟨h1.on h2,_,_,i + 1,rfl,by omega,ha⟩,?_⟩
   simp only [vsMu_eq]; omega
theorem ContainsFunc_ok {v F:Value} {l:List Int} (p:Int → Bool) (hl:Ints w v l)
  (hF:∀ (w':World) (x:Int) (K':VK) (T:TypeId),Below w.heap.size w w' → I64 x → (∀ w'',Below w'.heap.size w' w'' → K' (.bool (p x)) w'') → oM Tryz.prog (.call { callee:=.value (.tmp 0),args:=#[.tmp 1],argTypes:=#[3] }) T [F,.int .i64 x] K' w')
  (k:∀ w',Below w.heap.size w w' → K (.bool (l.any p)) w'):callM Tryz.prog 136 #[v,F] K w:=by
 apply sh_136_ok
 unfold sh_136
 refine IndexFunc_ok p hl hF (fun w' r hb hr=>?_)
 repeat (any_goals ((with_reducible refine oG fun X Y=>?_); simp [go_sem]; apply Y; clear Y X))
 rw [hr]
 exact k _ hb
theorem numsM_any (s:Stp) (least:Int) (l:List Int):numsM s least l = !(l.any fun n=>decide (n < least) || decide (s.g.Q ≤ n)):=by
 unfold numsM
 rw [List.not_any_eq_all_not]
 congr 1
 funext n
 by_cases h1:n < least <;> by_cases h2:s.g.Q ≤ n <;> simp [h1,h2] <;> omega
theorem elementsM_any (s:Stp) (l:List Int):elementsM s l = !(l.any fun n=>!elemG s.g n):=by
 unfold elementsM
 rw [List.not_any_eq_all_not]
 congr 1
 funext n
 simp
theorem numsF_ok (s:Stp) (least x:Int) {b d:Nat} (h0:w.cell? ⟨b,0,none⟩ = some (.int .i64 least)) (h1:w.cell? ⟨d,1,none⟩ = some (.int .i64 s.g.Q)) (h:K (.bool (decide (x < least) || decide (s.g.Q ≤ x))) w) :
  callM Tryz.prog 137 #[.int .i64 x,.pointer (some ⟨b,0,none⟩),.pointer (some ⟨d,0,none⟩)] K w:=by
 apply sh_137_ok
 unfold sh_137
 by_cases hx:x < least
 ·repeat (any_goals (first
  | (with_reducible first|((refine idGd ?_); ((refine idGdD ?_); refine zJ ?_))|refine yD ?_)
  | ((with_reducible refine oG fun X Y=>?_); simp [go_sem,h0,h1]; apply Y; clear Y X)))
  simpa [hx] using h
 ·repeat (any_goals (first
  | (with_reducible first|refine pureM_in ?_|((refine idGd ?_); ((refine idGdD ?_); refine zI ?_))|refine yE ?_)
  | ((with_reducible refine oG fun X Y=>?_); simp [go_sem,h0,h1]; apply Y; clear Y X)))
  simpa [hx] using h
theorem nums_ok (s:Stp) (least:Int) {dv v:Value} {l:List Int} (hs:SetR w s dv) (hl:Ints w v l) (k:∀ w',Below w.heap.size w w' → K (.bool (numsM s least l)) w'):callM Tryz.prog 87 #[stpV s dv,.int .i64 least,v] K w:=by
 apply sh_87_ok
 unfold sh_87
 obtain ⟨ad,c,rfl⟩:=hs.ints.isSlice
 refine box_kn (cs:=stpC s (.slice ad s.bases.length c)) rfl (.start w) fun b W hk hb1 hb=>?_
 refine box_kn (cs:=[.int .i64 least]) rfl hk fun b2 W2 hk hb2 hbb=>?_
 repeat (any_goals ((with_reducible refine oG fun X Y=>?_); simp [go_sem]; apply Y; clear Y X))
 refine ContainsFunc_ok (fun n=>decide (n < least) || decide (s.g.Q ≤ n)) (hl.next hk.below) ?_ ?_
 ·intro w' x K' T hb _ h'
  refine oM_callv1 (by kernel_rfl) ?_
  have hk:=(hk.next hb).cells
  exact numsF_ok s least x hk.1 hk.2.2.1 (h' _ (Below.refl _ _))
 ·intro w' hb
  repeat (any_goals ((with_reducible refine oG fun X Y=>?_); simp [go_sem]; apply Y; clear Y X))
  rw [← numsM_any]
  exact k _ (hk.next hb).below
theorem elemF_ok (s:Stp) (x:Int) {d:Nat} (hg:GrpR s.g) (hT:DbT w) (h0:w.cell? ⟨d,0,none⟩ = some (.int .i64 s.g.P)) (h1:w.cell? ⟨d,1,none⟩ = some (.int .i64 s.g.Q)) (h2:w.cell? ⟨d,2,none⟩ = some (.int .i64 s.g.G)) (k:∀ w',Below w.heap.size w w' → K (.bool (!elemG s.g x)) w') :
  callM Tryz.prog 172 #[.int .i64 x,.pointer (some ⟨d,0,none⟩)] K w:=by
 apply sh_172_ok
 unfold sh_172
 repeat (any_goals ((with_reducible refine oG fun X Y=>?_); simp [go_sem,h0,h1,h2]; apply Y; clear Y X))
 refine Element_ok s.g x hg hT (fun w' hb=>?_)
 repeat (any_goals ((with_reducible refine oG fun X Y=>?_); simp [go_sem]; apply Y; clear Y X))
 exact k _ hb
theorem elements_ok (s:Stp) {dv v:Value} {l:List Int} (hs:SetR w s dv) (hl:Ints w v l) (k:∀ w',Below w.heap.size w w' → K (.bool (elementsM s l)) w'):callM Tryz.prog 135 #[stpV s dv,v] K w:=by
 apply sh_135_ok
 unfold sh_135
 obtain ⟨ad,c,rfl⟩:=hs.ints.isSlice
 refine box_kn (cs:=stpC s (.slice ad s.bases.length c)) rfl (.start w) fun b W hk hb1 hb=>?_
 repeat (any_goals ((with_reducible refine oG fun X Y=>?_); simp [go_sem]; apply Y; clear Y X))
 refine ContainsFunc_ok (fun n=>!elemG s.g n) (hl.next hk.below) ?_ ?_
 ·intro w' x K' T hb _ h'
  refine oM_callv1 (by kernel_rfl) ?_
  have hk:=hk.next hb
  have hc:=hk.cells
  exact elemF_ok s x hs.grp (hs.db.next hk.below) hc.1 hc.2.1 hc.2.2.1 h'
 ·intro w' hb
  repeat (any_goals ((with_reducible refine oG fun X Y=>?_); simp [go_sem]; apply Y; clear Y X))
  rw [← elementsM_any]
  exact k _ (hk.next hb).below
theorem plus_ok (s:Stp) (x n:Int) {dv:Value} (hs:SetR w s dv) (k:∀ w',Below w.heap.size w w' → K (.int .i64 (plusQ s x n)) w'):callM Tryz.prog 179 #[stpV s dv,.int .i64 x,.int .i64 n] K w:=by
 apply sh_179_ok
 unfold sh_179
 obtain ⟨ad,c,rfl⟩:=hs.ints.isSlice
 refine box_kn (cs:=stpC s (.slice ad s.bases.length c)) rfl (.start w) fun b W hk hb1 hb=>?_
 repeat (any_goals ((with_reducible refine oG fun X Y=>?_); simp [go_sem,hk.cells]; apply Y; clear Y X))
 refine Add_ok _ x n ?_
 exact k _ hk.below
theorem product_t_ok (s:Stp) {dv ev:Value} {es:List Int} (hs:SetR w s dv) (he:Ints w ev es) (k:∀ w',Below w.heap.size w w' → K (.int .i64 (prodG s.g s.bases es).1) w'):callM Tryz.prog 88 #[stpV s dv,ev] K w:=by
 apply sh_88_ok
 unfold sh_88
 have hi:=hs.ints
 obtain ⟨ad,c,rfl⟩:=hs.ints.isSlice
 refine box_kn (cs:=stpC s (.slice ad s.bases.length c)) rfl (.start w) fun b W hk hb1 hb=>?_
 repeat (any_goals ((with_reducible refine oG fun X Y=>?_); simp [go_sem,hk.cells]; apply Y; clear Y X))
 refine Product_ok s.g (hi.next hk.below) (he.next hk.below) (fun w2 h2=>?_)
 repeat (any_goals ((with_reducible refine oG fun X Y=>?_); simp [go_sem]; apply Y; clear Y X))
 exact k _ (hk.next h2).below
def TmJ (f:Int → Int → Int) (l:List Int) (R:Int) (L:List (Addr × Value)) (w0:World) (vs:List Value) (w':World):Prop:=Kn w0 L w' ∧ ∃ (v:Value) (o:Int) (i:Nat),vs = [v,.int .i64 o,.int .i64 (i:Int)] ∧ i ≤ l.length ∧ (l.drop i).foldl f o = R
theorem mul_ok (s:Stp) (x:Int) {dv v:Value} {l:List Int} (hs:SetR w s dv) (hl:Ints w v l) (k:∀ w',Below w.heap.size w w' → K (.int .i64 (mulQ s x l)) w'):callM Tryz.prog 180 #[stpV s dv,.int .i64 x,v] K w:=by
 apply sh_180_ok
 unfold sh_180
 obtain ⟨ad,c,rfl⟩:=hs.ints.isSlice
 refine box_kn (cs:=stpC s (.slice ad s.bases.length c)) rfl (.start w) fun b W hk hb1 hb=>?_
 obtain ⟨ad2,c2,rfl⟩:=hl.isSlice
 have hll:=hl.len
 repeat (any_goals ((with_reducible refine oG fun X Y=>?_); simp [go_sem]; apply Y; clear Y X))
 unfold mulQ at k
 refine ⟨TmJ (fun a x=>mulM s.g.Q a x) l _ _ w,vsMu l.length,⟨hk,_,_,0,rfl,by omega,rfl⟩,?_⟩
 rintro _ _ w1 ⟨hk,u1,o,i,rfl,hi,ha⟩
 by_cases hin:i = l.length
 ·rw [List.drop_of_length_le (by omega),List.foldl_nil] at ha
  repeat (any_goals (first
  | (with_reducible refine yO ?_)
  | ((with_reducible refine oG fun X Y=>?_); simp [go_sem]; apply Y; clear Y X)))
  rw [ha]
  exact k _ hk.below
 ·rw [List.drop_eq_getElem_cons (by omega),List.foldl_cons] at ha
  obtain ⟨b1,o1,rfl,hb1,ca,ra,_⟩:=hl.at (i:=i) (by omega)
  repeat (any_goals (first
  | (with_reducible refine yN ?_)
  | ((with_reducible refine oG fun X Y=>?_); simp [go_sem,ca _ hk.below,hk.cells]; (first|refine Y _ _ ?_|refine And.intro (by omega) (Y _ _ ?_)); clear Y X)))
  refine Mul_ok _ _ _ (fun w2 h2=>?_)
  repeat (any_goals ((with_reducible refine oG fun X Y=>?_); simp [go_sem]; (try simp (disch:=omega) only [wrapI64,wrapU8,wrapU32,wrapU64]); apply Y; clear Y X))
  refine ⟨⟨hk.next h2,_,_,i + 1,rfl,by omega,ha⟩,?_⟩
  simp only [vsMu_eq]; omega
end
end Go.Proofs
namespace Go.Sh
open Go Go.RowKit
theorem cells_lt {w:World}:∀ {L:List (Addr × Value)},cellsAre w L → ∀ p ∈ L,p.1.block < w.heap.size
 | p :: l,h,q,hq=>by
  rcases List.mem_cons.1 hq with rfl | hq
  ·have h1:=h.1
   by_cases hc:q.1.block < w.heap.size
   ·exact hc
   ·unfold World.cell? at h1
    rw [Array.getElem?_eq_none (by omega)] at h1
    simp at h1
  ·exact cells_lt h.2 q hq
structure KnM (w0:World) (L:List (Addr × Value)) (g n:Nat) (w':World):Prop where
 kn:Kn w0 L w'
 mine:Mine w' g n
 base:w0.heap.size ≤ g
 off:∀ p ∈ L,p.1.block ≠ g
theorem mine_lt {w:World} {g n:Nat} (h:Mine w g n):g < w.heap.size:=by
 obtain ⟨cur,T,h1,_⟩:=h
 exact (Array.getElem?_eq_some_iff.1 h1).1
theorem cellsOf_mem {L:List (Addr × Value)} {b:Nat}:∀ (cs:List Value) (i:Nat) (p:Addr × Value),p ∈ cellsOf L b i cs → p.1.block = b ∨ p ∈ L
 | [],_,_,h=>.inr h
 | _ :: l,i,p,h=>by
  rcases List.mem_cons.1 h with rfl | h
  ·exact .inl rfl
  ·exact cellsOf_mem l (i + 1) p h
namespace KnM
variable {w0 w w':World} {L:List (Addr × Value)} {g n:Nat}
theorem next (h:KnM w0 L g n w) (hb:Below w.heap.size w w'):KnM w0 L g n w':=⟨h.kn.next hb,h.mine.next hb,h.base,h.off⟩
theorem drew (h:KnM w0 L g n w):KnM w0 L g n { w with drawn:=w.drawn + 1 }:=h.next .drawn
theorem cells (h:KnM w0 L g n w):cellsAre w L:=h.kn.cells
theorem below (h:KnM w0 L g n w):Below w0.heap.size w0 w:=h.kn.below
end KnM
section
variable {P:Program} {w0 w:World} {K:VK} {T T':TypeId} {L:List (Addr × Value)} {g n:Nat}
theorem alloc_mine {zs:List Value} (hA:∀ w,(Instr.alloc T true (.tuple #[])).run P w = .ok (.pointer (some ⟨w.heap.size,0,none⟩)) (w.alloc (.cells zs.toArray T))) (hn:zs.length = n) (hk:Kn w0 L w)
  (k:∀ g W,KnM w0 L g n W → Below w.heap.size w W → w.heap.size ≤ g → K (.pointer (some ⟨g,0,none⟩)) W):oM P (.alloc T) T' [] K w:=by
 rw [oM_alloc,hA]
 have hb:=(Below.refl w.heap.size w).alloc (rL) (.cells zs.toArray T)
 refine k _ _ ⟨hk.next hb,⟨zs.toArray,T,?_,by simpa using hn⟩,hk.below.size,fun p hp=>?_⟩ hb (rL)
 ·show (w.heap.push _)[w.heap.size]? = _
  simp
 ·have:=cells_lt hk.cells p hp
  omega
theorem store_run {x:Value} {xs:List Value} {W:World} (hT:∀ w,(sizeOf T).run P w = .ok n w) (hx:x.cells = xs.toArray) (hl:xs.length = n) (h1:∀ u ∈ xs,u.oneCell' = true) (hm:Mine w g n) :
  ∃ W,(Instr.storeAt T (.pointer (some ⟨g,0,none⟩)) x).run P w = .ok () W ∧ w.grownBy W (some g) ∧ Mine W g n ∧ cellsAre W (cellsOf [] g 0 xs):=by
 obtain ⟨cur,T0,hg,hc⟩:=hm
 have hst:=run_storeCells_at P g 0 T0 xs 0 cur w hg (by omega) h1
 have e1:(cur.toList.take (0 + 0) ++ xs ++ cur.toList.drop (0 + 0 + xs.length)).toArray = xs.toArray:=by
  rw [List.drop_of_length_le (by simp; omega)]
  simp
 rw [e1] at hst
 have hh:=setRow_heap w g cur xs.toArray T0 (0,0) hg
 refine ⟨w.setRow g xs.toArray,?_,grown_setRow _ _ _,⟨_,_,hh,by simpa using hl⟩,cellsOf_are (xs:=xs) (L:=[]) trivial (fun i v hi=>?_) xs 0 rfl⟩
 ·have e2:x.cells.toList = xs:=by rw [hx]
  have e3:x.cells.size = n:=by rw [hx]; simpa using hl
  unfold Instr.storeAt storeVar
  rw [e2,e3]
  simp [hT,go_sem]
  exact hst
 ·unfold World.cell?
  rw [hh]
  simpa using hi
theorem store_mine {x:Value} {xs:List Value} (hT:∀ w,(sizeOf T).run P w = .ok n w) (hx:x.cells = xs.toArray) (hl:xs.length = n) (h1:∀ u ∈ xs,u.oneCell' = true) (hk:KnM w0 L g n w)
  (k:∀ W,KnM w0 L g n W → cellsAre W (cellsOf [] g 0 xs) → K undef W):oM P (.store T (.tmp 0) (.tmp 1)) T' [.pointer (some ⟨g,0,none⟩),x] K w:=by
 obtain ⟨W,e,hg,hm,hc⟩:=store_run (W:=w) hT hx hl h1 hk.mine
 rw [oM_store,e]
 exact k W ⟨hk.kn.wrote hg hk.base hk.off,hm,hk.base,hk.off⟩ hc
theorem local_kn {zs:List Value} {x:Value} {xs:List Value} {T2:TypeId} {K:VK} (hA:∀ w,(Instr.alloc T true (.tuple #[])).run P w = .ok (.pointer (some ⟨w.heap.size,0,none⟩)) (w.alloc (.cells zs.toArray T))) (hn:zs.length = n)
  (hT:∀ w,(sizeOf T).run P w = .ok n w) (hx:x.cells = xs.toArray) (hl:xs.length = n) (h1:∀ u ∈ xs,u.oneCell' = true) (hk:Kn w0 L w)
  (k:∀ b W,Kn w0 (cellsOf L b 0 xs) W → Below w.heap.size w W → w.heap.size ≤ b → K (.pointer (some ⟨b,0,none⟩)) W) :
  oM P (.alloc T) T' [] (fun v w=>oM P (.store T (.tmp 0) (.tmp 1)) T2 [v,x] (fun _ w=>K v w) w) w:=by
 refine alloc_mine hA hn hk fun g W hk2 hb hg=>?_
 obtain ⟨W2,e,hgr,hm,hc⟩:=store_run (W:=w) hT hx hl h1 hk2.mine
 rw [oM_store,e]
 have hb2:Below w.heap.size w W2:=hb.grown hgr hb.size (fun k hk=>by cases hk; exact hg)
 refine k g W2 ⟨(hk2.kn.wrote hgr hk2.base hk2.off).below,?_⟩ hb2 hg
 have hL:=(hk2.kn.wrote hgr hk2.base hk2.off).cells
 clear e k
 have:∀ (l:List Value) (i:Nat),cellsAre W2 (cellsOf [] g i l) → cellsAre W2 (cellsOf L g i l):=by
  intro l
  induction l with
  | nil=>intro i _; exact hL
  | cons a l ih=>intro i h; exact ⟨h.1,ih (i + 1) h.2⟩
 exact this xs 0 hc
theorem local_knm {zs:List Value} {x:Value} {xs:List Value} {T2:TypeId} {K:VK} {m:Nat} (hA:∀ w,(Instr.alloc T true (.tuple #[])).run P w = .ok (.pointer (some ⟨w.heap.size,0,none⟩)) (w.alloc (.cells zs.toArray T))) (hn:zs.length = m)
  (hT:∀ w,(sizeOf T).run P w = .ok m w) (hx:x.cells = xs.toArray) (hl:xs.length = m) (h1:∀ u ∈ xs,u.oneCell' = true) (hk:KnM w0 L g n w)
  (k:∀ b W,KnM w0 (cellsOf L b 0 xs) g n W → Below w.heap.size w W → w.heap.size ≤ b → K (.pointer (some ⟨b,0,none⟩)) W) :
  oM P (.alloc T) T' [] (fun v w=>oM P (.store T (.tmp 0) (.tmp 1)) T2 [v,x] (fun _ w=>K v w) w) w:=
 local_kn hA hn hT hx hl h1 hk.kn fun b W hk' h1 h2=>k b W ⟨hk',hk.mine.next h1,hk.base,fun p hp=>(cellsOf_mem xs 0 p hp).elim (fun e=>by have:=mine_lt hk.mine; omega) (hk.off p)⟩ h1 h2
variable {C:WK} {KQ:Value → Prop} {x y v:Value} {p:Prop} [Decidable p]
theorem idOH {o:Op} {l:List Value} (h:oH P o T l C KQ):oH P o T l C KQ:=h
theorem idGdH {c:Bool} {m:(WK) → (Value → Prop) → Prop} (h:gdH c m C KQ):gdH c m C KQ:=h
theorem gdH_conv {c:Bool} {m:(WK) → (Value → Prop) → Prop} (h:∀ W0,gdM c (fun K' w=>m C (fun v=>K' v w)) (fun v _=>KQ v) W0):gdH c m C KQ:=by
 have h:=h ⟨#[],default,0,default,default⟩
 cases c <;> exact h
theorem pickH {b:Bool} (k:KQ (bif b then x else y)):oH P (.pick (.tmp 0) (.tmp 1) (.tmp 2)) T [.bool b,x,y] C KQ:=by
 refine ⟨_,fun w _=>?_,k⟩
 simp [xop,execOp,evalL,evE,asBool]
theorem pickHT (k:KQ x):oH P (.pick (.tmp 0) (.tmp 1) (.tmp 2)) T [.bool true,x,y] C KQ:=pickH k
theorem pickHF (k:KQ y):oH P (.pick (.tmp 0) (.tmp 1) (.tmp 2)) T [.bool false,x,y] C KQ:=pickH k
theorem pickH_neg (h:¬p) (k:KQ y):oH P (.pick (.tmp 0) (.tmp 1) (.tmp 2)) T [.bool (decide p),x,y] C KQ:=pickH (by rw [decide_eq_false h]; exact k)
theorem vA (k:KQ x):oH P (.pick (.tmp 0) (.tmp 1) (.tmp 2)) T [.bool true,x,y] C KQ:=pickHT k
theorem vB (k:KQ y):oH P (.pick (.tmp 0) (.tmp 1) (.tmp 2)) T [.bool false,x,y] C KQ:=pickHF k
theorem vD (k:KQ y) (h:¬p:=by first|assumption|omega):oH P (.pick (.tmp 0) (.tmp 1) (.tmp 2)) T [.bool (decide p),x,y] C KQ:=pickH_neg h k
end
end Go.Sh
namespace Go.Proofs
open Go Go.Sh Go.RowKit FdSpec TkSpec
section
variable {K:VK} {w w0:World} {L:List (Addr × Value)}
theorem sz_desk (w:World):(sizeOf 164).run Tryz.prog w = .ok 5 w:=by kernel_rfl
theorem al_desk (w:World):(Instr.alloc 164 true (.tuple #[])).run Tryz.prog w = .ok (.pointer (some ⟨w.heap.size,0,none⟩)) (w.alloc (.cells [.int .i64 0,.int .i64 0,.int .i64 0,.slice none 0 0,.int .i64 0].toArray 164)):=by kernel_rfl
theorem stp_one (s:Stp) (ad:Option Addr) (n c:Nat):∀ u ∈ stpC s (.slice ad n c),u.oneCell' = true:=by
 intro u hu
 simp only [stpC,List.mem_cons,List.not_mem_nil,or_false] at hu
 rcases hu with rfl | rfl | rfl | rfl | rfl <;> rfl
theorem open_ok (s:Stp) {v:Value} (hs:SetR w s v) (k:∀ w',Below w.heap.size w w' → K (.tuple #[stpV s v,.bool (validS s)]) w'):callM Tryz.prog 92 #[stpV s v] K w:=by
 apply sh_92_ok
 unfold sh_92
 obtain ⟨ad,c,rfl⟩:=hs.ints.isSlice
 refine box_kn (cs:=stpC s (.slice ad s.bases.length c)) rfl (.start w) fun b W hk hb1 hb=>?_
 refine alloc_mine al_desk rfl hk fun g W2 hk hb2 hg=>?_
 refine ⟨KnM w _ g 5,hk.drew,?_⟩
 have hk:=hk.drew
 have hone:=stp_one s ad s.bases.length c
 repeat (any_goals ((with_reducible refine idOH ?_); (with_reducible refine oH_of ⟨_,rfl⟩ (fun W0 hW0=>by (refine oG (fun X Y=>?_)); simp [go_sem,hW0.cells]; (first | exact Y _ _ ⟨rfl,rfl⟩ | exact ⟨by omega,Y _ _ ⟨rfl,rfl⟩⟩)) ?_)))
 refine ⟨?_,?_⟩
 ·repeat (any_goals ((with_reducible refine oG fun X Y=>?_); simp [go_sem]; apply Y; clear Y X))
  refine ⟨hk,?_⟩
  refine ValidSetup_ok s (hs.next hk.below) (fun w2 h2=>?_)
  have hk:=hk.next h2
  refine ⟨hk,?_⟩
  refine store_mine sz_desk rfl rfl hone hk (fun W3 hk hc=>?_)
  exact ⟨hk,hk,_,by simp [go_sem,hc],k _ hk.below⟩
 ·refine ValidSetup_ok s (hs.next hk.below) (fun w2 h2=>?_)
  have hk:=hk.next h2
  refine ⟨hk,?_⟩
  repeat (any_goals ((with_reducible refine oG fun X Y=>?_); simp [go_sem]; apply Y; clear Y X))
  refine ⟨hk,?_⟩
  refine store_mine sz_desk rfl rfl hone hk (fun W3 hk hc=>?_)
  exact ⟨hk,hk,_,by simp [go_sem,hc],k _ hk.below⟩
end
end Go.Proofs
namespace Go.Proofs
open Go.Shelf
def Tryz.laysNm2_21_ren:Go.Shelf.Ren:=⟨fun | 21=>208 | 27=>233 | 28=>234 | 35=>244 | 39=>249 | n=>n,fun | 22=>22 | 3=>3 | 4=>4 | 0=>0 | n=>n,fun | n=>n⟩
theorem Tryz.laysNm2_21:Go.Proofs.Lays2.n21 Tryz.prog Tryz.laysNm2_21_ren:={
 mixed:=by kernel_rfl
 f21:=Tryz.func208.trans (congrArg some (by kernel_rfl))
 f27:=Tryz.func233.trans (congrArg some (by kernel_rfl))
 f28:=Tryz.func234.trans (congrArg some (by kernel_rfl))
 f35:=Tryz.func244.trans (congrArg some (by kernel_rfl))
 f39:=Tryz.func249.trans (congrArg some (by kernel_rfl))
 t0:=Tryz.underlying0
 a0:=Tryz.isAgg0
 z0:=Tryz.sizeOf0
 v0:=Tryz.zeroValue0
 t3:=Tryz.underlying3
 a3:=Tryz.isAgg3
 z3:=Tryz.sizeOf3
 v3:=Tryz.zeroValue3
 t4:=Tryz.underlying4
 a4:=Tryz.isAgg4
 z4:=Tryz.sizeOf4
 v4:=Tryz.zeroValue4
 t22:=Tryz.underlying22
 a22:=Tryz.isAgg22
 z22:=Tryz.sizeOf22
 v22:=Tryz.zeroValue22
 i3:=by kernel_rfl }
end Go.Proofs
namespace Go.Proofs
open Go Go.Sh Go.RowKit FdSpec TkSpec
section
variable {K:VK} {w w0:World} {L:List (Addr × Value)}
theorem eqNil_at {P:Program} {w:World} {K:VK} {t e T:TypeId} {a:Option Addr} {n c:Nat} (ht:P.underlying t = some (.slice e)) (k:K (.bool a.isNone) w):oM P (.binOp .eql t (.tmp 0) (.const (.slice none 0 0)) t) T [.slice a n c] K w:=by
 rw [oM_eqc]
 have:=Lib.run_eql_slice_nil (P:=P) w t e a n c 0 0 ht
 simp only [Sem.run_bind]
 have h2:(eqGuard .eql t (.tmp 0) (.const (.slice none 0 0)) (.slice a n c) (.slice none 0 0)).run P w = .ok () w:=by
  simp [eqGuard]
 rw [h2,Result.andThen_ok,this]
 exact k
theorem below_set {B:Nat} {a:World} (g:Nat) (hg:B ≤ g):∀ (vs:List Value) (o:Nat) (w:World),Below B a w → Below B a (w.setCells g o vs)
 | [],_,_,h=>h
 | v :: r,o,w,h=>below_set g hg r (o + 1) _ (h.setCell (p:=⟨g,o,none⟩) hg v)
theorem some_set (b:Nat) (vs:List Value) (o:Nat) (w:World) (h:∀ j,j < vs.length → (w.cell? ⟨b,o + j,none⟩).isSome = true) (k:Nat) (hk:(w.cell? ⟨b,k,none⟩).isSome = true):((w.setCells b o vs).cell? ⟨b,k,none⟩).isSome = true:=by
 by_cases hin:o ≤ k ∧ k < o + vs.length
 ·have:=World.cell?_setCells_in b vs o w h (k - o) (by omega)
  rw [show o + (k - o) = k by omega] at this
  rw [this]; rfl
 ·rw [World.cell?_setCells_out b vs o w ⟨b,k,none⟩ (fun _ _=>by show k < o ∨ o + vs.length ≤ k; omega)]
  exact hk
theorem shifted1 {w:World} {g:Nat} {x:Value} {cs:List Value} (h:∀ j,j < cs.length + 1 → (w.cell? ⟨g,j,none⟩).isSome = true) (k:Nat) (v:Value) (hk:(x :: cs)[k]? = some v):((w.setCells g 1 cs).setCells g 0 [x]).cell? ⟨g,k,none⟩ = some v:=by
 have h1:∀ j,j < cs.length → (w.cell? ⟨g,1 + j,none⟩).isSome = true:=fun j hj=>h _ (by omega)
 cases k with
 | zero=>
  have:=World.cell?_setCells_in g [x] 0 (w.setCells g 1 cs) (fun j hj=>by
   have:j = 0:=by simpa using hj
   subst this
   exact some_set g cs 1 w h1 0 (h 0 (by omega))) 0 (by simp)
  rw [this]
  simpa using hk
 | succ k=>
  have hlt:k < cs.length:=by
   have:=(gS hk).1
   simpa using this
  rw [World.cell?_setCells_out g [x] 0 _ ⟨g,k + 1,none⟩ (fun _ _=>by show k + 1 < 0 ∨ 0 + 1 ≤ k + 1; omega)]
  have:=World.cell?_setCells_in g cs 1 w h1 k hlt
  rw [show k + 1 = 1 + k by omega,this,← hk]
  simp [hlt]
theorem shifted2 {w:World} {g:Nat} {x:Value} {cs:List Value} (h:∀ j,j < cs.length + 1 → (w.cell? ⟨g,j,none⟩).isSome = true) (k:Nat) (v:Value) (hk:(x :: cs)[k]? = some v):((w.setCells g 0 [x]).setCells g 1 cs).cell? ⟨g,k,none⟩ = some v:=by
 have h1:∀ j,j < [x].length → (w.cell? ⟨g,0 + j,none⟩).isSome = true:=fun j hj=>h _ (by simp at hj; omega)
 cases k with
 | zero=>
  rw [World.cell?_setCells_out g cs 1 _ ⟨g,0,none⟩ (fun _ _=>by show 0 < 1 ∨ 1 + cs.length ≤ 0; omega)]
  have:=World.cell?_setCells_in g [x] 0 w h1 0 (by simp)
  rw [this]
  simpa using hk
 | succ k=>
  have hlt:k < cs.length:=by
   have:=(gS hk).1
   simpa using this
  have:=World.cell?_setCells_in g cs 1 (w.setCells g 0 [x]) (fun j hj=>some_set g [x] 0 w h1 (1 + j) (h _ (by omega))) k hlt
  rw [show k + 1 = 1 + k by omega,this,← hk]
  simp [hlt]
theorem Clone_ok {v:Value} {l:List Int} (hr:Ints w v l) (hl:l.length < 1099511627776) (k:∀ v' w',w'.ownsRow 0 3 1 v' l.length (flat intC l) → Below w.heap.size w w' → (∀ i,v'.ownBlock = some i → w.heap.size ≤ i) → K v' w'):callM Tryz.prog 81 #[v] K w:=by
 apply sh_81_ok
 unfold sh_81
 have hi:=hr.row
 obtain ⟨ad,c,rfl,h0,hc⟩:=id hi
 refine eqNil_at (e:=3) (by kernel_rfl) ?_
 cases ad with
 | none=>
  obtain ⟨hl0,rfl⟩:=h0 rfl
  obtain rfl:l = []:=List.eq_nil_of_length_eq_zero hl0
  simp only [Option.isNone_none]
  repeat (any_goals (with_reducible refine yL ?_))
  exact k _ _ (World.ownsRow_nil _ _ _ _) (Below.refl _ _) (fun i hi=>by cases hi)
 | some a=>
  simp only [Option.isNone_some]
  repeat (any_goals (first
  | (with_reducible refine yM ?_)
  | ((with_reducible refine oG fun X Y=>?_); simp [go_sem]; apply Y; clear Y X)))
  have hr2:RowR intC 1 (w.alloc (.cells #[] 3)) (.slice (some a) l.length c) l:=hi.keep (by rw [alloc_size]; omega) (fun i _ hi=>heap_alloc_old _ _ hi)
  refine clone_at 22 22 3 ((Tryz.prog.info? 3).getD default) (.int .i64 0) 1 8 (by kernel_rfl) (by kernel_rfl) (by kernel_rfl) (by kernel_rfl) (by kernel_rfl) (by kernel_rfl) (by omega) (fun _=>rfl) (fun x u hu=>by simp [intC] at hu; subst hu; rfl) hr2 (World.ownsRow_lit w #[] 0 (Nat.zero_le _) (Nat.zero_le _) rfl) (B:=w.heap.size) (by rw [alloc_size]; omega) (fun i hi=>by cases hi; exact rL) (by omega) (by omega) ?_
  intro v' w' ho hg hv
  exact k v' w' ho (((Below.refl _ _).alloc (rL) _).grown hg (by rw [alloc_size]; omega) (fun i hi=>by cases hi; exact rL)) hv
theorem Insert_ok {g c:Nat} {l:List Int} {x:Int} {b:Nat} (hne:0 < l.length) (hl:l.length < 1099511627776) (ho:w.ownsRow 0 3 1 (.slice (some ⟨g,0,none⟩) l.length c) l.length (flat intC l)) {B:Nat} (hB:B ≤ g) (hBw:B ≤ w.heap.size)
  (hx:w.heap[b]? = some (.cells #[.int .i64 x] 3 (0,0))) (hbg:b ≠ g) (hr:∀ n ∈ l,I64 n) (hrx:I64 x) (k:∀ v' w',Ints w' v' (x :: l) → Below B w w' → (∀ i,Value.inBlock v' = some i → B ≤ i) → K v' w') :
  callM Tryz.prog 208 #[.slice (some ⟨g,0,none⟩) l.length c,.int .i64 0,.slice (some ⟨b,0,none⟩) 1 1] K w:=by
 obtain ⟨g',cap,cur,hv,hgw,_,hgb,hcs,hcap,hcell⟩:=owns_cells ho hne
 cases hv
 have hxc:∀ (j:Nat) (v:Value),[Value.int .i64 x][j]? = some v → w.cell? ⟨b,0 + j,none⟩ = some v:=by
  intro j v hj
  rw [cell_of_block hx]
  simpa using hj
 have hcc:∀ (j:Nat) (v:Value),(flat intC l)[j]? = some v → w.cell? ⟨g,0 + j,none⟩ = some v:=by
  intro j v hj
  rw [Nat.zero_add]
  exact hcell j v hj
 have h1:∀ v ∈ flat intC l,v.oneCell' = true:=by
  intro v hv
  rw [flat_int] at hv
  obtain ⟨n,_,rfl⟩:=List.mem_map.1 hv
  rfl
 have h1x:∀ v ∈ [Value.int .i64 x],v.oneCell' = true:=by
  intro v hv
  simp at hv
  subst hv
  rfl
 have hfl:(flat intC l).length = l.length:=by rw [flat_int]; simp
 have hbw:b < w.heap.size:=(Array.getElem?_eq_some_iff.1 hx).1
 have hxx:∀ n ∈ x :: l,I64 n:=by
  intro n hn
  rcases List.mem_cons.1 hn with rfl | hn
  ·exact hrx
  ·exact hr n hn
 have hlx:(flat intC (x :: l)) = .int .i64 x :: flat intC l:=rfl
 have hcm:c ≤ 9223372036854775807:=by
  rcases ho.2 with ⟨h0,_⟩ | ⟨g2,cap2,cur2,hv2,_,_,_,hm2,_⟩
  ·cases h0
  ·cases hv2
   simp only [maxLen] at hm2
   omega
 by_cases hroom:l.length + 1 ≤ c
 ·have hsm:∀ j,j < l.length + 1 → (w.cell? ⟨g,j,none⟩).isSome = true:=by
   intro j hj
   rw [cell_of_block hgb]
   simp
   omega
  have h:=Any2.slices_Insert_int_shift Tryz.laysNm2_21 g 0 l.length c 0 b 0 1 1 (flat intC l) [.int .i64 x] w (by omega) (by omega) hroom hcm hbg hfl rfl hcc (fun j hj=>by rw [Nat.zero_add]; exact hsm j hj)
   (fun j hj=>by unfold World.frozen?; rw [hgb]; simp) hxc h1 h1x 3 3 1 cur.size (by unfold World.shape?; rw [hx]; rfl) (by unfold World.shape?; rw [hgb]) (by omega) (by unfold World.frozen?; rw [hx]; simp) (by unfold World.frozen?; rw [hx]; simp)
  refine Calls.mono h ?_
  rintro e w' ⟨rfl,rfl⟩
  have hb2:∀ B':Nat,B' ≤ g → Below B' w ((w.drew.setCells g (0 + (0 + 1)) (List.drop 0 (flat intC l))).setCells g (0 + 0) [Value.int .i64 x]):=fun B' hB'=>
   below_set g hB' _ _ _ (below_set g hB' _ _ _ (Below.refl _ w).drew)
  refine ⟨_,rfl,k _ _ ⟨⟨_,c,rfl,by simp,.inr ⟨g,0,rfl,lL hgw (hb2 0 (Nat.zero_le _)).size,fun j v hj=>?_⟩⟩,hxx,by simp; omega⟩ (hb2 B hB) (fun i hi=>by cases hi; exact hB)⟩
  simp only [Nat.zero_add,Nat.add_zero,List.drop_zero]
  rw [hlx] at hj
  exact shifted1 (w:=w.drew) (fun j hj=>hsm j (by rw [hfl] at hj; exact hj)) j v hj
 ·have h:=Any2.slices_Insert_int_grow Tryz.laysNm2_21 g 0 l.length c 0 b 0 1 1 (flat intC l) [.int .i64 x] w (by omega) (by omega) (by omega) (by omega) (by omega) hfl rfl hcc hxc h1 h1x
  refine Calls.mono h ?_
  rintro e w' ⟨rfl,rfl⟩
  have hG:=grownCap_ge w (l.length + 1) c 3
  have e3:Tryz.laysNm2_21_ren.t 3 = 3:=rfl
  rw [e3]
  generalize grownCap w (l.length + 1) c 3 = G at *
  simp only [List.take_zero,List.drop_zero,Nat.zero_add,Nat.add_zero,Nat.sub_zero]
  have hsm:∀ j,j < (flat intC l).length + 1 → ((w.alloc (.cells (([]:List Value).toArray ++ Builtin.zeroCells (Value.int .i64 0).cells (l.length + 1) ++ Builtin.zeroCells (Value.int .i64 0).cells (G - (l.length + 1))) 3)).drew.cell? ⟨w.heap.size,j,none⟩).isSome = true:=by
   intro j hj
   rw [hfl] at hj
   have:=World.cell?_alloc_at (w:=w) (([]:List Value).toArray ++ Builtin.zeroCells (Value.int .i64 0).cells (l.length + 1) ++ Builtin.zeroCells (Value.int .i64 0).cells (G - (l.length + 1))) 3 w.heap.size j rfl
   show (World.cell? _ _).isSome = true
   refine (congrArg Option.isSome this).trans ?_
   rw [Array.getElem?_eq_getElem (by simp [Builtin.zeroCells,Value.cells]; omega)]
   rfl
  generalize hW:w.alloc (.cells (([]:List Value).toArray ++ Builtin.zeroCells (Value.int .i64 0).cells (l.length + 1) ++ Builtin.zeroCells (Value.int .i64 0).cells (G - (l.length + 1))) 3) = W at *
  have hbW:Below w.heap.size w W:=by rw [← hW]; exact (Below.refl _ w).alloc (rL) _
  have hWs:w.heap.size < W.heap.size:=by rw [← hW,alloc_size]; omega
  have hb2:Below w.heap.size w (((W.drew.setCells w.heap.size 0 [Value.int .i64 x]).drew).setCells w.heap.size 1 (flat intC l)):=
   below_set _ (rL) _ _ _ (below_set _ (rL) _ _ _ hbW.drew).drew
  have hs2:w.heap.size < (((W.drew.setCells w.heap.size 0 [Value.int .i64 x]).drew).setCells w.heap.size 1 (flat intC l)).heap.size:=
   lL hWs (below_set w.heap.size (Nat.zero_le _) _ _ _ (below_set w.heap.size (Nat.zero_le _) _ _ _ (Below.refl 0 W).drew).drew).size
  refine ⟨_,rfl,k _ _ ⟨⟨_,G,rfl,by simp,.inr ⟨_,0,rfl,hs2,fun j v hj=>?_⟩⟩,hxx,by simp; omega⟩ (hb2.mono hBw) (fun i hi=>by cases hi; exact hBw)⟩
  rw [Nat.zero_add]
  rw [hlx] at hj
  rw [drew_setCells]
  exact shifted2 (w:=W.drew.drew) (g:=w.heap.size) (x:=.int .i64 x) (cs:=flat intC l) hsm j v hj
theorem exps_ok {v:Value} {l:List Int} (hl:Ints w v l) (hne:0 < l.length) (hln:l.length < 1099511627776) (k:∀ v' w',Ints w' v' (expsM l) → Below w.heap.size w w' → (∀ i,Value.inBlock v' = some i → w.heap.size ≤ i) → K v' w'):callM Tryz.prog 178 #[v] K w:=by
 apply sh_178_ok
 unfold sh_178
 refine Clone_ok hl hln (fun v1 w1 ho hb hv=>?_)
 obtain ⟨g,cap,cur,rfl,hgw,_,hgb,hcs,hcap,hcell⟩:=owns_cells ho hne
 have hg:=hv g rfl
 have e:(Instr.buildSlice 22 1 #[(0,.int .i64 1)]).run Tryz.prog w1 = .ok (.slice (some ⟨w1.heap.size,0,none⟩) 1 1) (w1.alloc (.cells #[.int .i64 1] 3)):=by kernel_rfl
 rw [oM_buildSlice1,e,rM_ok]
 have hb2:=(Below.refl w1.heap.size w1).alloc (rL) (.cells #[.int .i64 1] 3)
 refine Insert_ok (x:=1) (B:=w.heap.size) hne hln (ho.alloc _) hg (by rw [alloc_size]; have:=hb.size; omega) (b:=w1.heap.size) (by show (w1.heap.push _)[w1.heap.size]? = _; exact Array.getElem?_push_size) (by omega) hl.rng (by unfold I64; omega) (fun v' w' hi hbb hff=>?_)
 exact k _ _ hi ((hb.on hb2).trans hbb) hff
theorem markM_no {s:Stp} {l:List Int} (h:validS s = false ∨ l.length + 1 ≠ s.bases.length ∨ numsM s 0 l = false ∨ l.headD 0 = 0):markM s l = (0,false):=by
 unfold markM
 rw [if_neg]
 intro hc
 simp only [bA,dE,Bool.not_eq_true',decide_eq_false_iff_not] at hc
 obtain ⟨⟨⟨h1,h2⟩,h3⟩,h4⟩:=hc
 rcases h with h | h | h | h
 ·rw [h] at h1; cases h1
 ·exact h h2
 ·rw [h] at h3; cases h3
 ·exact h4 h
theorem markM_yes {s:Stp} {l:List Int} (h1:validS s = true) (h2:l.length + 1 = s.bases.length) (h3:numsM s 0 l = true) (h4:l.headD 0 ≠ 0):markM s l = ((prodG s.g s.bases (expsM l)).1,true):=by
 unfold markM
 rw [if_pos]
 simp only [bA,dE,Bool.not_eq_true',decide_eq_false_iff_not]
 exact ⟨⟨⟨h1,h2⟩,h3⟩,h4⟩
theorem local_desk {K:VK} {T' T2:TypeId} {g n:Nat} (s:Stp) (ad:Option Addr) (m c:Nat) (hk:KnM w0 L g n w)
  (k:∀ b W,KnM w0 (cellsOf L b 0 (stpC s (.slice ad m c))) g n W → Below w.heap.size w W → w.heap.size ≤ b → K (.pointer (some ⟨b,0,none⟩)) W) :
  oM Tryz.prog (.alloc 164) T' [] (fun v w=>oM Tryz.prog (.store 164 (.tmp 0) (.tmp 1)) T2 [v,stpV s (.slice ad m c)] (fun _ w=>K v w) w) w:=
 local_knm al_desk rfl sz_desk rfl rfl (stp_one s ad m c) hk k
theorem local_desk' {K:VK} {T' T2:TypeId} (s:Stp) (ad:Option Addr) (m c:Nat) (hk:Kn w0 L w)
  (k:∀ b W,Kn w0 (cellsOf L b 0 (stpC s (.slice ad m c))) W → Below w.heap.size w W → w.heap.size ≤ b → K (.pointer (some ⟨b,0,none⟩)) W) :
  oM Tryz.prog (.alloc 164) T' [] (fun v w=>oM Tryz.prog (.store 164 (.tmp 0) (.tmp 1)) T2 [v,stpV s (.slice ad m c)] (fun _ w=>K v w) w) w:=
 local_kn al_desk rfl sz_desk rfl rfl (stp_one s ad m c) hk k
theorem validS_len {s:Stp} (h:validS s = true):2 ≤ s.bases.length ∧ s.bases.length ≤ 7:=by
 unfold validS at h
 simp only [bA,dE] at h
 exact ⟨h.1.1.1.2,h.1.1.2⟩
theorem store_desk {K:VK} {T':TypeId} {g:Nat} (s:Stp) (ad:Option Addr) (m c:Nat) (hk:KnM w0 L g 5 w)
  (k:∀ W,KnM w0 L g 5 W → cellsAre W (cellsOf [] g 0 (stpC s (.slice ad m c))) → K undef W):oM Tryz.prog (.store 164 (.tmp 0) (.tmp 1)) T' [.pointer (some ⟨g,0,none⟩),stpV s (.slice ad m c)] K w:=
 store_mine sz_desk rfl rfl (stp_one s ad m c) hk k
theorem _root_.Go.Sh.Ints.headD {w:World} {ad:Option Addr} {n c:Nat} {l:List Int} (h:Ints w (.slice ad n c) l) (hne:0 < l.length) :
  ∃ b o,ad = some ⟨b,o,none⟩ ∧ (∀ w',Below w.heap.size w w' → w'.cell? ⟨b,o,none⟩ = some (.int .i64 (l.headD 0))) ∧ I64 (l.headD 0):=by
 obtain ⟨b,o,rfl,_,hc,hr,_⟩:=h.at hne
 have e:l[0] = l.headD 0:=by
  cases l with
  | nil=>simp at hne
  | cons a l=>rfl
 rw [e] at hc hr
 exact ⟨b,o,rfl,fun w' hb=>by have:=hc w' hb; simpa using this,hr⟩
theorem mark_ok (s:Stp) {v lv:Value} {l:List Int} (hs:SetR w s v) (hl:Ints w lv l) (k:∀ w',Below w.heap.size w w' → K (.tuple #[stpV s v,.int .i64 (markM s l).1,.bool (markM s l).2]) w'):callM Tryz.prog 187 #[stpV s v,lv] K w:=by
 apply sh_187_ok
 unfold sh_187
 obtain ⟨ad,c,rfl⟩:=hs.ints.isSlice
 have hone:=stp_one s ad s.bases.length c
 have k2:∀ w' r,markM s l = r → Below w.heap.size w w' → K (.tuple #[stpV s (.slice ad s.bases.length c),.int .i64 r.1,.bool r.2]) w':=fun w' r e hb=>by rw [← e]; exact k w' hb
 clear k
 refine box_kn (cs:=stpC s (.slice ad s.bases.length c)) rfl (.start w) fun b W hk hb1 hb=>?_
 refine alloc_mine al_desk rfl hk fun g W2 hk hb2 hg=>?_
 repeat (any_goals ((with_reducible refine oG fun X Y=>?_); simp [go_sem,hk.cells]; apply Y; clear Y X))
 refine open_ok s (hs.next hk.below) (fun w2 h2=>?_)
 have hk:=hk.next h2
 clear h2 hb1 hb2
 have hll:=hl.len
 have hbl:=hs.ints.len
 obtain ⟨lad,lc,rfl⟩:=hl.isSlice
 cases hv:validS s with
 | false=>
  repeat (any_goals (first
  | ((with_reducible refine local_desk s ad s.bases.length c hk ?_); intro b7 W7 hk hb7 hg7)
  | (with_reducible first|refine zD ?_|refine yB ?_|refine yL ?_)
  | ((with_reducible refine oG fun X Y=>?_); simp [go_sem,hk.cells]; apply Y; clear Y X)))
  refine store_desk s ad _ c hk (fun W3 hk hc=>⟨_,by simp [go_sem,hc],k2 _ _ (markM_no (.inl hv)) hk.below⟩)
 | true=>
  have hlen:=validS_len hv
  repeat (any_goals (first
  | ((with_reducible refine local_desk s ad s.bases.length c hk ?_); intro b7 W7 hk hb7 hg7)
  | (with_reducible first|refine pureM_in ?_|((refine idGd ?_); first|refine zC ?_|refine zD ?_|((refine idGdN ?_); first|refine zO ?_|refine zP ?_|refine zQ (fun hg=>?_) fun hg=>?_))|((refine idPick ?_); first|refine yB ?_|refine yC ?_|refine yF ?_)|refine yL ?_)
  | ((with_reducible refine oG fun X Y=>?_); simp [go_sem,hk.cells]; (try simp (disch:=omega) only [wrapI64,wrapU8,wrapU32,wrapU64]); apply Y; clear Y X)))
  ·refine nums_ok s 0 (hs.next hk.below) (hl.next hk.below) (fun w3 h3=>?_)
   have hk:=hk.next h3
   obtain ⟨b8,o8,rfl,c8,r8⟩:=hl.headD (by omega)
   obtain ⟨x0,hx0⟩:∃ x0,l.headD 0 = x0:=⟨_,rfl⟩
   rw [hx0] at c8 r8
   cases hn:numsM s 0 l with
   | false=>
    repeat (any_goals (first
    | (with_reducible first|((refine idGd ?_); first|refine zD ?_|((refine idGdN ?_); refine zO ?_))|((refine idPick ?_); first|refine yB ?_|refine yG ?_)|refine yL ?_)
    | ((with_reducible refine oG fun X Y=>?_); simp [go_sem,hk.cells]; apply Y; clear Y X)))
    refine store_desk s ad _ c hk (fun W3 hk hc=>⟨_,by simp [go_sem,hc],k2 _ _ (markM_no (.inr (.inr (.inl hn)))) hk.below⟩)
   | true=>
    by_cases h0:x0 = 0
    ·repeat (any_goals (first
     | (with_reducible first|refine pureM_in ?_|((refine idGd ?_); first|refine zC ?_|((refine idGdN ?_); refine zO ?_))|((refine idPick ?_); first|refine yC ?_|refine yG ?_)|refine yL ?_)
     | ((with_reducible refine oG fun X Y=>?_); simp [go_sem,hk.cells,c8 _ hk.below,h0]; (first|refine Y _ _ ?_|refine And.intro (by omega) (Y _ _ ?_)); clear Y X)))
     refine store_desk s ad _ c hk (fun W3 hk hc=>⟨_,by simp [go_sem,hc],k2 _ _ (markM_no (.inr (.inr (.inr (hx0.trans h0))))) hk.below⟩)
    ·repeat (any_goals (first
     | (with_reducible first|refine pureM_in ?_|((refine idGd ?_); first|refine zC ?_|((refine idGdN ?_); refine zO ?_))|((refine idPick ?_); first|refine yC ?_|refine yG ?_)|refine yM ?_)
     | ((with_reducible refine oG fun X Y=>?_); simp [go_sem,hk.cells,c8 _ hk.below,h0]; (first|refine Y _ _ ?_|refine And.intro (by omega) (Y _ _ ?_)); clear Y X)))
     have em:=markM_yes hv (by omega) hn (by rw [hx0]; exact h0)
     refine ⟨KnM w _ g 5,hk.drew,?_⟩
     have hk:=hk.drew
     repeat (any_goals (first
     | (with_reducible refine pX ?_)
     | ((with_reducible refine idOH ?_); (with_reducible refine oH_of ⟨_,rfl⟩ (fun W0 hW0=>by (refine oG (fun X Y=>?_)); simp [go_sem,hW0.cells]; (first | exact Y _ _ ⟨rfl,rfl⟩ | exact ⟨by omega,Y _ _ ⟨rfl,rfl⟩⟩)) ?_))))
     refine exps_ok (hl.next hk.below) (by omega) (by omega) (fun ev w4 he h4 _=>?_)
     have hk:=hk.next h4
     refine ⟨hk,?_⟩
     refine product_t_ok s (hs.next hk.below) he (fun w5 h5=>?_)
     have hk:=hk.next h5
     refine ⟨hk,?_⟩
     refine store_desk s ad _ c hk (fun W3 hk hc=>⟨hk,hk,hk,_,by simp [go_sem,hc],k2 _ _ em hk.below⟩)
  ·refine store_desk s ad _ c hk (fun W3 hk hc=>⟨_,by simp [go_sem,hc],k2 _ _ (markM_no (.inr (.inl (by omega)))) hk.below⟩)
theorem usable_ok (s:Stp) {v lv:Value} {l:List Int} (hs:SetR w s v) (hl:Ints w lv l) (k:∀ w',Below w.heap.size w w' → K (.tuple #[stpV s v,.int .i64 (usableM s l).1,.bool (usableM s l).2]) w'):callM Tryz.prog 176 #[stpV s v,lv] K w:=by
 apply sh_176_ok
 unfold sh_176
 obtain ⟨ad,c,rfl⟩:=hs.ints.isSlice
 refine box_kn (cs:=stpC s (.slice ad s.bases.length c)) rfl (.start w) fun b W hk hb1 hb=>?_
 refine alloc_mine al_desk rfl hk fun g W2 hk hb2 hg=>?_
 repeat (any_goals ((with_reducible refine oG fun X Y=>?_); simp [go_sem,hk.cells]; apply Y; clear Y X))
 refine mark_ok s (hs.next hk.below) (hl.next hk.below) (fun w2 h2=>?_)
 have hk:=hk.next h2
 clear h2 hb1 hb2
 unfold usableM at k
 obtain ⟨⟨m,u⟩,hm⟩:∃ x,markM s l = x:=⟨_,rfl⟩
 rw [hm] at k ⊢
 simp only at k ⊢
 cases u with
 | false=>
  repeat (any_goals (first
  | ((with_reducible refine local_desk s ad s.bases.length c hk ?_); intro b7 W7 hk hb7 hg7)
  | (with_reducible first|refine zB ?_|refine yC ?_)
  | ((with_reducible refine oG fun X Y=>?_); simp [go_sem,hk.cells]; apply Y; clear Y X)))
  refine store_desk s ad _ c hk (fun W3 hk hc=>⟨_,by simp [go_sem,hc],k _ hk.below⟩)
 | true=>
  repeat (any_goals (first
  | ((with_reducible refine local_desk s ad s.bases.length c hk ?_); intro b7 W7 hk hb7 hg7)
  | (with_reducible first|refine pureM_in ?_|refine zA ?_|refine yB ?_)
  | ((with_reducible refine oG fun X Y=>?_); simp [go_sem,hk.cells]; apply Y; clear Y X)))
  refine store_desk s ad _ c hk (fun W3 hk hc=>⟨stpV s (.slice ad s.bases.length c),by simp [go_sem,hc],by simpa using k _ hk.below⟩)
end
theorem I64_of {x n:Int} (h:0 ≤ x ∧ x < n) (hn:okN n):I64 x:=by unfold I64; unfold okN at hn; omega
theorem I64_0:I64 0:=by unfold I64; omega
theorem addM_I64 (n a b:Int):I64 (addM n a b):=by
 by_cases hn:okN n
 ·exact I64_of (addM_range n a b hn) hn
 ·unfold addM; rw [if_neg hn]; exact I64_0
section
variable {K:VK} {w w0:World} {L:List (Addr × Value)}
theorem mk5 {T:TypeId} (a b c d e:Int) (ha:I64 a) (hb:I64 b) (hc:I64 c) (hd:I64 d) (he:I64 e) (k:∀ v W,Below w.heap.size w W → Ints W v [a,b,c,d,e] → K v W):oM Tryz.prog (.buildSlice 22 5 #[(0,.tmp 0),(1,.tmp 1),(2,.tmp 2),(3,.tmp 3),(4,.tmp 4)]) T [.int .i64 a,.int .i64 b,.int .i64 c,.int .i64 d,.int .i64 e] K w:=by
 rw [rM_of (S:=Instr.buildSlice 22 5 #[(0,.int .i64 a),(1,.int .i64 b),(2,.int .i64 c),(3,.int .i64 d),(4,.int .i64 e)]) (by simp [xop,execOp,evalL,evE])]
 have e:(Instr.buildSlice 22 5 #[(0,.int .i64 a),(1,.int .i64 b),(2,.int .i64 c),(3,.int .i64 d),(4,.int .i64 e)]).run Tryz.prog w = .ok (.slice (some ⟨w.heap.size,0,none⟩) 5 5) (w.alloc (.cells #[.int .i64 a,.int .i64 b,.int .i64 c,.int .i64 d,.int .i64 e] 3)):=by kernel_rfl
 rw [e]
 exact k _ _ ((Below.refl _ w).alloc (rL) _) (ints_alloc w [a,b,c,d,_] _ 5 (by simp; exact ⟨ha,hb,hc,hd,he⟩) (by simp))
theorem Mark_ok (s:Stp) {v lv:Value} {l:List Int} (hs:SetR w s v) (hl:Ints w lv l) (k:∀ w',Below w.heap.size w w' → K (.int .i64 (markM s l).1) w'):callM Tryz.prog 149 #[stpV s v,lv] K w:=by
 apply sh_149_ok
 unfold sh_149
 obtain ⟨ad,c,rfl⟩:=hs.ints.isSlice
 refine box_kn (cs:=stpC s (.slice ad s.bases.length c)) rfl (.start w) fun b W hk hb1 hb=>?_
 repeat (any_goals ((with_reducible refine oG fun X Y=>?_); simp [go_sem,hk.cells]; apply Y; clear Y X))
 refine mark_ok s (hs.next hk.below) (hl.next hk.below) (fun w2 h2=>?_)
 have hk:=hk.next h2
 repeat (any_goals (first
 | ((with_reducible refine local_desk' s ad s.bases.length c hk ?_); intro b7 W7 hk hb7 hg7)
 | ((with_reducible refine oG fun X Y=>?_); simp [go_sem,hk.cells]; apply Y; clear Y X)))
 exact k _ hk.below
@[reducible] def offV (o:Off):Value:=.agg #[.int .i64 o.z,.int .i64 o.a,.int .i64 o.b]
@[reducible] def tktV (t:Tkt):Value:=.agg #[.int .i64 t.mark,.int .i64 t.first,.int .i64 t.z,.int .i64 t.a,.int .i64 t.b,.int .i64 t.r]
@[reducible] def tktC (t:Tkt):List Value:=[.int .i64 t.mark,.int .i64 t.first,.int .i64 t.z,.int .i64 t.a,.int .i64 t.b,.int .i64 t.r]
@[reducible] def bldV (b:Bld) (v:Value):Value:=.agg #[.int .i64 b.s,.int .i64 b.u,.int .i64 b.v,v]
@[reducible] def bldC (b:Bld) (v:Value):List Value:=[.int .i64 b.s,.int .i64 b.u,.int .i64 b.v,v]
@[reducible] def spdV (x:Spd) (v:Value):Value:=.agg #[.int .i64 x.dare,v]
@[reducible] def spdC (x:Spd) (v:Value):List Value:=[.int .i64 x.dare,v]
structure TktR (t:Tkt):Prop where
 mark:I64 t.mark
 first:I64 t.first
 z:I64 t.z
 a:I64 t.a
 b:I64 t.b
 r:I64 t.r
structure BldR (w:World) (b:Bld) (bv:Value):Prop where
 s:I64 b.s
 u:I64 b.u
 v:I64 b.v
 ys:Ints w bv b.ys
structure SpdR (w:World) (x:Spd) (v:Value):Prop where
 dare:I64 x.dare
 answers:Ints w v x.answers
theorem BldR.next {w w':World} {b:Bld} {v:Value} (h:BldR w b v) (hb:Below w.heap.size w w'):BldR w' b v:=⟨h.s,h.u,h.v,h.ys.next hb⟩
theorem SpdR.next {w w':World} {x:Spd} {v:Value} (h:SpdR w x v) (hb:Below w.heap.size w w'):SpdR w' x v:=⟨h.dare,h.answers.next hb⟩
theorem blinds_ok (s:Stp) (b:Bld) {v bv:Value} (hs:SetR w s v) (hb:BldR w b bv) (k:∀ w',Below w.heap.size w w' → K (.bool (blindsM s b)) w'):callM Tryz.prog 177 #[stpV s v,bldV b bv] K w:=by
 apply sh_177_ok
 unfold sh_177
 obtain ⟨ad,c,rfl⟩:=hs.ints.isSlice
 have hys:=hb.ys
 obtain ⟨yad,yc,rfl⟩:=hb.ys.isSlice
 have k2:∀ w' r,blindsM s b = r → Below w.heap.size w w' → K (.bool r) w':=fun w' r e hb=>by rw [← e]; exact k w' hb
 clear k
 unfold blindsM at k2
 refine box_kn (cs:=stpC s (.slice ad s.bases.length c)) rfl (.start w) fun b1 W hk hb1 hbb=>?_
 refine box_kn (cs:=bldC b (.slice yad b.ys.length yc)) rfl hk fun b2 W2 hk hb2 hbb=>?_
 repeat (any_goals (first
 | ((with_reducible refine mk2 b.s b.u hb.s hb.u ?_); intro v8 W8 hb8 hi)
 | ((with_reducible refine oG fun X Y=>?_); simp [go_sem,hk.cells]; apply Y; clear Y X)))
 have hk:=hk.next hb8
 refine nums_ok s 1 (hs.next hk.below) hi (fun w3 h3=>?_)
 have hk:=hk.next h3
 cases hn:numsM s 1 [b.s,b.u] with
 | false=>
  repeat (any_goals (with_reducible first|refine zB ?_|refine yC ?_))
  exact k2 _ _ (by rw [hn]; rfl) hk.below
 | true=>
  repeat (any_goals (first
  | ((with_reducible refine mk1 b.v hb.v ?_); intro v9 W9 hb9 hi)
  | (with_reducible refine zA ?_)
  | ((with_reducible refine oG fun X Y=>?_); simp [go_sem,hk.cells]; apply Y; clear Y X)))
  have hk:=hk.next hb9
  refine nums_ok s 0 (hs.next hk.below) hi (fun w4 h4=>?_)
  have hk:=hk.next h4
  cases hn2:numsM s 0 [b.v] with
  | false=>
   repeat (any_goals (with_reducible first|refine zB ?_|((refine idPick ?_); first|refine yB ?_|refine yC ?_)))
   exact k2 _ _ (by rw [hn,hn2]; rfl) hk.below
  | true=>
   by_cases hlen:b.ys.length = s.bases.length
   ·repeat (any_goals (first
    | (with_reducible first|refine zA ?_|refine yB ?_)
    | ((with_reducible refine oG fun X Y=>?_); simp [go_sem,hk.cells,hlen]; apply Y; clear Y X)))
    have hys2:Ints w (.slice yad s.bases.length yc) b.ys:=by rw [← hlen]; exact hys
    refine nums_ok s 0 (hs.next hk.below) (hys2.next hk.below) (fun w5 h5=>?_)
    have hk:=hk.next h5
    repeat (any_goals (with_reducible refine yB ?_))
    exact k2 _ _ (by rw [hn,hn2]; simp [hlen]) hk.below
   ·have hl':¬ (b.ys.length:Int) = s.bases.length:=by omega
    repeat (any_goals (first
    | (with_reducible first|((refine idGd ?_); first|refine zA ?_|refine zB ?_)|((refine idPick ?_); first|refine yB ?_|refine yC ?_))
    | ((with_reducible refine oG fun X Y=>?_); simp [go_sem,hk.cells,hl']; apply Y; clear Y X)))
    exact k2 _ _ (by rw [hn,hn2]; simp [hlen]) hk.below
theorem formed_ok (s:Stp) (t:Tkt) {v:Value} (ht:TktR t) (hs:SetR w s v) (k:∀ w',Below w.heap.size w w' → K (.tuple #[stpV s v,.bool (formedM s t)]) w'):callM Tryz.prog 86 #[stpV s v,tktV t] K w:=by
 apply sh_86_ok
 unfold sh_86
 obtain ⟨ad,c,rfl⟩:=hs.ints.isSlice
 have k2:∀ w' r,formedM s t = r → Below w.heap.size w w' → K (.tuple #[stpV s (.slice ad s.bases.length c),.bool r]) w':=fun w' r e hb=>by rw [← e]; exact k w' hb
 clear k
 unfold formedM at k2
 refine box_kn (cs:=stpC s (.slice ad s.bases.length c)) rfl (.start w) fun b1 W hk hb1 hbb=>?_
 refine box_kn (cs:=tktC t) rfl hk fun b2 W2 hk hb2 hbb=>?_
 refine alloc_mine (n:=5) al_desk rfl hk fun g W2 hk hb2 hg=>?_
 repeat (any_goals ((with_reducible refine oG fun X Y=>?_); simp [go_sem,hk.cells]; apply Y; clear Y X))
 refine open_ok s (hs.next hk.below) (fun w2 h2=>?_)
 have hk:=hk.next h2
 clear hb1 h2 hb2
 cases hv:validS s with
 | false=>
  repeat (any_goals (first
  | ((with_reducible refine local_desk s ad s.bases.length c hk ?_); intro b7 W7 hk hb7 hg7)
  | ((with_reducible refine oG fun X Y=>?_); simp [go_sem,hk.cells]; apply Y; clear Y X)))
  refine ⟨KnM w _ g 5,hk.drew,?_⟩
  have hk:=hk.drew
  repeat (any_goals (first
  | (with_reducible refine And.intro hk ?_)
  | (with_reducible first|refine pX ?_|((refine idGdH ?_); refine gdH_conv fun _=>?_)|refine zB ?_)
  | ((with_reducible refine idOH ?_); first|(with_reducible refine vB ?_)|(with_reducible refine oH_of ⟨_,rfl⟩ (fun W0 hW0=>by (refine oG (fun X Y=>?_)); simp [go_sem,hW0.cells]; (first | exact Y _ _ ⟨rfl,rfl⟩ | exact ⟨by omega,Y _ _ ⟨rfl,rfl⟩⟩)) ?_))))
  exact store_desk s ad _ c hk (fun W3 hk hc=>⟨hk,hk,_,by simp [go_sem,hc],k2 _ _ (by rw [hv]; rfl) hk.below⟩)
 | true=>
  repeat (any_goals (first
  | ((with_reducible refine local_desk s ad s.bases.length c hk ?_); intro b7 W7 hk hb7 hg7)
  | ((with_reducible refine oG fun X Y=>?_); simp [go_sem,hk.cells]; apply Y; clear Y X)))
  refine ⟨KnM w _ g 5,hk.drew,?_⟩
  have hk:=hk.drew
  by_cases hm:t.mark = 1
  ·repeat (any_goals (first
   | (with_reducible refine And.intro hk ?_)
   | (with_reducible first|refine pX ?_|((refine idGdH ?_); refine gdH_conv fun _=>?_)|((refine idGd ?_); first|refine zA ?_|refine zB ?_))
   | ((with_reducible refine idOH ?_); first|(with_reducible first|refine vA ?_|refine vB ?_)|(with_reducible refine oH_of ⟨_,rfl⟩ (fun W0 hW0=>by (refine oG (fun X Y=>?_)); simp [go_sem,hW0.cells,hm]; (first | exact Y _ _ ⟨rfl,rfl⟩ | exact ⟨by omega,Y _ _ ⟨rfl,rfl⟩⟩)) ?_))))
   exact store_desk s ad _ c hk (fun W3 hk hc=>⟨hk,hk,_,by simp [go_sem,hc],k2 _ _ (by rw [hv,hm]; rfl) hk.below⟩)
  ·repeat (any_goals (first
   | (with_reducible refine And.intro hk ?_)
   | ((with_reducible refine mk5 t.mark t.first t.z t.a t.b ht.mark ht.first ht.z ht.a ht.b ?_); intro v8 W8 hb8 hi)
   | (with_reducible first|refine pX ?_|((refine idGdH ?_); refine gdH_conv fun _=>?_)|refine zA ?_)
   | ((with_reducible refine idOH ?_); first|(with_reducible refine vA ?_)|(with_reducible refine oH_of ⟨_,rfl⟩ (fun W0 hW0=>by (refine oG (fun X Y=>?_)); simp [go_sem,hW0.cells,hm]; (first | exact Y _ _ ⟨rfl,rfl⟩ | exact ⟨by omega,Y _ _ ⟨rfl,rfl⟩⟩)) ?_))))
   have hk:=hk.next hb8
   refine ⟨hk,elements_ok s (hs.next hk.below) hi (fun w3 h3=>?_)⟩
   have hk:=hk.next h3
   refine ⟨hk,?_⟩
   cases he:elementsM s [t.mark,t.first,t.z,t.a,t.b] with
   | false=>
    repeat (any_goals (first
    | (with_reducible refine And.intro hk ?_)
    | (with_reducible first|refine pX ?_|((refine idGdH ?_); refine gdH_conv fun _=>?_)|refine zB ?_)
    | ((with_reducible refine idOH ?_); (with_reducible first|refine vA ?_|refine vB ?_))))
    exact store_desk s ad _ c hk (fun W3 hk hc=>⟨hk,hk,_,by simp [go_sem,hc],k2 _ _ (by rw [hv,he]; simp) hk.below⟩)
   | true=>
    repeat (any_goals (first
    | (with_reducible refine And.intro hk ?_)
    | ((with_reducible refine mk1 t.r ht.r ?_); intro v9 W9 hb9 hi9)
    | (with_reducible first|refine pX ?_|((refine idGdH ?_); refine gdH_conv fun _=>?_)|refine zA ?_)
    | ((with_reducible refine idOH ?_); first|(with_reducible refine vA ?_)|(with_reducible refine oH_of ⟨_,rfl⟩ (fun W0 hW0=>by (refine oG (fun X Y=>?_)); simp [go_sem,hW0.cells]; (first | exact Y _ _ ⟨rfl,rfl⟩ | exact ⟨by omega,Y _ _ ⟨rfl,rfl⟩⟩)) ?_))))
    have hk:=hk.next hb9
    refine ⟨hk,nums_ok s 0 (hs.next hk.below) hi9 (fun w4 h4=>?_)⟩
    have hk:=hk.next h4
    refine ⟨hk,?_⟩
    repeat (any_goals (first
    | (with_reducible refine And.intro hk ?_)
    | ((with_reducible refine idOH ?_); (with_reducible refine vA ?_))))
    exact store_desk s ad _ c hk (fun W3 hk hc=>⟨hk,hk,_,by simp [go_sem,hc],k2 _ _ (by rw [hv,he]; simp [hm]) hk.below⟩)
abbrev OwnI (w:World) (B:Nat) (v:Value) (l:List Int):Prop:=w.ownsRow B 3 1 v l.length (flat intC l)
theorem OwnI.ints {B:Nat} {v:Value} {l:List Int} (h:OwnI w B v l) (hr:∀ n ∈ l,I64 n) (hl:l.length ≤ 9223372036854775807):Ints w v l:=Ints.of_owns h hr hl
theorem owns_up {B C:Nat} {e:TypeId} {sz:Nat} {v:Value} {n:Nat} {xs:List Value} (h:w.ownsRow B e sz v n xs) (hc:∀ i,v.ownBlock = some i → C ≤ i):w.ownsRow C e sz v n xs:=by
 refine ⟨h.1,h.2.imp id ?_⟩
 rintro ⟨g,cap,cur,rfl,hb,hr⟩
 exact ⟨g,cap,cur,rfl,hc g rfl,hr⟩
theorem OwnI.keep {B:Nat} {v:Value} {l:List Int} {w':World} (h:OwnI w B v l) (hb:Below w.heap.size w w'):OwnI w' B v l:=
 owns_keep h (fun i hi=>hb.block i (owns_own h hi).1)
theorem append1 {B:Nat} {T:TypeId} {v xv:Value} {l:List Int} {x:Int} (ho:OwnI w B v l) (hB:B ≤ w.heap.size) (hx:Ints w xv [x]) (hl:l.length < 1099511627776)
  (k:∀ v' w',OwnI w' B v' (l ++ [x]) → Below B w w' → K v' w'):oM Tryz.prog (.call { callee:=.builtin .append,args:=#[.tmp 0,.tmp 1],argTypes:=#[22,22] }) T [v,xv] K w:=by
 obtain ⟨⟨ad,c,rfl,h0,hc⟩,hr,_⟩:=hx
 have hc:=hc.resolve_left (by simp)
 obtain ⟨b,o,rfl,hlt,hcell⟩:=hc
 refine append_at 22 T 3 ((Tryz.prog.info? 3).getD default) (.int .i64 0) 1 8 (by kernel_rfl) (by kernel_rfl) (by kernel_rfl) (by kernel_rfl) (by kernel_rfl) (by kernel_rfl) (by omega) (owns_base ho (Nat.zero_le _)) [.int .i64 x] (by simp) (by simp) ?_ ?_ (by simp only [maxLen,List.length_singleton]; omega) (by simp only [List.length_singleton]; omega) ?_
 ·rintro a ha j u hj
  cases ha
  rw [add_none]
  exact hcell j u hj
 ·intro u hu
  simp only [List.mem_singleton] at hu
  subst hu; rfl
 ·intro v' w' ho' hg hv
  have hbl:∀ i,v.ownBlock = some i → B ≤ i:=fun i hi=>(owns_own ho hi).2.1
  refine k v' w' ?_ ((Below.refl B w).grown hg hB hbl)
  have e1:(l ++ [x]).length = l.length + [x].length:=by simp
  have e2:flat intC (l ++ [x]) = flat intC l ++ [Value.int .i64 x]:=by rw [flat_int,flat_int]; simp
  show w'.ownsRow B 3 1 v' (l ++ [x]).length (flat intC (l ++ [x]))
  rw [e1,e2]
  exact owns_up ho' (fun i hi=>(hv i hi).elim (hbl i) (fun h=>Nat.le_trans hB h))
end
section
variable {K:VK} {w w0 w1:World} {L:List (Addr × Value)}
theorem sz_spd (w:World):(sizeOf 84).run Tryz.prog w = .ok 2 w:=by kernel_rfl
theorem sz_ints (w:World):(sizeOf 22).run Tryz.prog w = .ok 1 w:=by kernel_rfl
theorem al_spd (w:World):(Instr.alloc 84 true (.tuple #[])).run Tryz.prog w = .ok (.pointer (some ⟨w.heap.size,0,none⟩)) (w.alloc (.cells [.int .i64 0,.slice none 0 0].toArray 84)):=by kernel_rfl
theorem spd_one (x:Spd) (ad:Option Addr) (n c:Nat):∀ u ∈ spdC x (.slice ad n c),u.oneCell' = true:=by
 intro u hu
 simp only [spdC,List.mem_cons,List.not_mem_nil,or_false] at hu
 rcases hu with rfl | rfl <;> rfl
theorem store_spd {K:VK} {T':TypeId} {g:Nat} (x:Spd) (ad:Option Addr) (m c:Nat) (hk:KnM w0 L g 2 w)
  (k:∀ W,KnM w0 L g 2 W → cellsAre W (cellsOf [] g 0 (spdC x (.slice ad m c))) → w.grownBy W (some g) → K undef W):oM Tryz.prog (.store 84 (.tmp 0) (.tmp 1)) T' [.pointer (some ⟨g,0,none⟩),spdV x (.slice ad m c)] K w:=by
 obtain ⟨W,e,hg,hm,hc⟩:=store_run (P:=Tryz.prog) (W:=w) sz_spd (x:=spdV x (.slice ad m c)) rfl rfl (spd_one x ad m c) hk.mine
 rw [oM_store,e]
 exact k W ⟨hk.kn.wrote hg hk.base hk.off,hm,hk.base,hk.off⟩ hc hg
theorem store_row {P:Program} {T T0:TypeId} {g o n:Nat} {cur:Array Value} {x:Value} {xs:List Value} (hT:∀ w,(sizeOf T).run P w = .ok n w) (hx:x.cells = xs.toArray) (hl:xs.length = n) (h1:∀ u ∈ xs,u.oneCell' = true) (hg:w.heap[g]? = some (.cells cur T0 (0,0))) (hfit:o + n ≤ cur.size) :
  (Instr.storeAt T (.pointer (some ⟨g,o,none⟩)) x).run P w = .ok () (w.setRow g (cur.toList.take o ++ xs ++ cur.toList.drop (o + xs.length)).toArray):=by
 have hst:=run_storeCells_at P g o T0 xs 0 cur w hg (by omega) h1
 rw [Nat.add_zero] at hst
 unfold Instr.storeAt storeVar
 have e2:x.cells.toList = xs:=by rw [hx]
 have e3:x.cells.size = n:=by rw [hx]; simpa using hl
 rw [e2,e3]
 rw [List.append_assoc] at hst ⊢
 simp [hT,go_sem]
 exact hst
theorem local_spd {K:VK} {T' T2:TypeId} {g n:Nat} (x:Spd) (hk:KnM w0 L g n w)
  (k:∀ b W,KnM w0 L g n W → Below w.heap.size w W → w.heap.size ≤ b → W.heap[b]? = some (.cells #[.int .i64 x.dare,.slice none 0 0] 84 (0,0)) → K (.pointer (some ⟨b,0,none⟩)) W) :
  oM Tryz.prog (.alloc 84) T' [] (fun v w=>oM Tryz.prog (.store 84 (.tmp 0) (.tmp 1)) T2 [v,spdV x (.slice none 0 0)] (fun _ w=>K v w) w) w:=by
 rw [oM_alloc,al_spd,rM_ok]
 have hb:=(Below.refl w.heap.size w).alloc (rL) (.cells [Value.int .i64 0,.slice none 0 0].toArray 84)
 have hg0:(w.alloc (.cells [Value.int .i64 0,.slice none 0 0].toArray 84)).heap[w.heap.size]? = some (.cells [Value.int .i64 0,.slice none 0 0].toArray 84 (0,0)):=Array.getElem?_push_size
 generalize w.alloc (.cells [Value.int .i64 0,.slice none 0 0].toArray 84) = W at *
 have hrun:=store_row (P:=Tryz.prog) (w:=W) (o:=0) sz_spd (x:=spdV x (.slice none 0 0)) rfl rfl (spd_one x none 0 0) hg0 (by simp)
 have e1:([Value.int .i64 0,.slice none 0 0].toArray.toList.take 0 ++ spdC x (.slice none 0 0) ++ [Value.int .i64 0,.slice none 0 0].toArray.toList.drop (0 + (spdC x (.slice none 0 0)).length)).toArray = #[.int .i64 x.dare,.slice none 0 0]:=by simp
 rw [e1] at hrun
 have hh:=setRow_heap W w.heap.size _ #[Value.int .i64 x.dare,.slice none 0 0] 84 (0,0) hg0
 rw [oM_store,hrun]
 have hb2:Below w.heap.size w (W.setRow w.heap.size #[Value.int .i64 x.dare,.slice none 0 0]):=hb.grown (grown_setRow _ _ _) hb.size (fun k hk=>by cases hk; exact rL)
 exact k _ _ (hk.next hb2) hb2 (rL) hh
theorem store_second {K:VK} {T':TypeId} {g:Nat} {ad:Option Addr} {m c:Nat} {a b:Value} (hg:w.heap[g]? = some (.cells #[a,b] 84 (0,0)))
  (k:∀ W,w.grownBy W (some g) → W.heap[g]? = some (.cells #[a,.slice ad m c] 84 (0,0)) → K undef W):oM Tryz.prog (.store 22 (.tmp 0) (.tmp 1)) T' [.pointer (some ⟨g,1,none⟩),.slice ad m c] K w:=by
 have hrun:=store_row (P:=Tryz.prog) (o:=1) sz_ints (x:=.slice ad m c) rfl rfl (xs:=[Value.slice ad m c]) (by intro u hu; simp at hu; subst hu; rfl) hg (by simp)
 have hh:=setRow_heap w g _ #[a,.slice ad m c] 84 (0,0) hg
 have e1:(#[a,b].toList.take 1 ++ [Value.slice ad m c] ++ #[a,b].toList.drop (1 + [Value.slice ad m c].length)).toArray = #[a,.slice ad m c]:=by simp
 rw [e1] at hrun
 rw [oM_store,hrun]
 exact k _ (grown_setRow _ _ _) hh
abbrev FrG (g:Nat) (w w':World):Prop:=Fr (fun i=>i = g) w w'
theorem FrG.next {g:Nat} {w':World} (h:FrG g w w1) (hb:Below w1.heap.size w1 w'):FrG g w w':=
 h.trans (S':=fun _=>False) ⟨hb.os,hb.tape,hb.output,hb.size,fun i hi _=>hb.block i hi⟩ (fun _ h=>h.elim)
theorem FrG.below {g:Nat} {w':World} (h0:Below w.heap.size w w1) (h:FrG g w1 w') (hg:w.heap.size ≤ g):Below w.heap.size w w':=
 ⟨h.os.trans h0.os,h.tape.trans h0.tape,h.output.trans h0.output,Nat.le_trans h0.size h.size,fun i hi=>(h.block i (lL hi h0.size) (fun e=>by omega)).trans (h0.block i hi)⟩
theorem cellsAre_fr {g:Nat} {w':World} (hL:cellsAre w L) (h:FrG g w w') (hn:∀ p ∈ L,p.1.block ≠ g):cellsAre w' L:=
 cellsAre_keepBut hL hn fun a ha hna=>World.cell?_of_block (w:=w) (h.block _ ha hna)
theorem _root_.Go.Sh.KnM.fr {g n g':Nat} {w':World} (hk:KnM w0 L g n w) (h:FrG g' w w') (hoff:∀ p ∈ L,p.1.block ≠ g') (hne:g ≠ g') (hb:w0.heap.size ≤ g'):KnM w0 L g n w':=by
 obtain ⟨cur,T,h1,h2⟩:=hk.mine
 exact ⟨⟨FrG.below hk.below h hb,cellsAre_fr hk.cells h hoff⟩,⟨cur,T,by rw [h.block g (mine_lt hk.mine) hne]; exact h1,h2⟩,hk.base,hk.off⟩
theorem Ints.fr {g:Nat} {w':World} {v:Value} {l:List Int} (hi:Ints w v l) (h:FrG g w w') (hne:∀ i,Value.inBlock v = some i → i ≠ g):Ints w' v l:=
 ⟨hi.row.keep h.size (fun i e hlt=>h.block i hlt (hne i e)),hi.rng,hi.len⟩
def UsC (St:WK) (j:Nat) (w':World):Prop:=j ≤ 4 → St w'
theorem usGet {St:WK} {n:Nat} {w':World} (h:upto (UsC St) n w') (hn:n ≤ 4):St w':=by
 obtain ⟨s,hs,hc⟩:=h
 exact hc (Nat.le_trans hs hn)
end
end Go.Proofs
namespace Go.Proofs
open Go.Sh Tryz
variable {a0 a1 a2 a3:Value} {K:VK} {w:World}
def sh_141 (a0 a1 a2 a3:Value) (K:VK) (w:World):Prop:=
 oM prog (.box 50 (.tmp 0)) 0 [a0] (fun v4=>
 oM prog (.box 24 (.tmp 0)) 0 [a2] fun v6=>
 kA 84 fun v8=>
 kL 50 v4 fun v17=>
 callM prog 176 #[v17,a1] fun v19=>
 kE 0 164 v19 fun v20=>
 kE 1 3 v19 fun v21=>
 kE 2 4 v19 fun v22=>
 kA 164 fun v10=>
 kS 164 v10 v20 fun _=>
 kU v22 fun v24 w=>
 gF v24 (kL 164 v10) (fun v26 w=>
 gF v24 (kL 24 v6) (fun v27 w=>
 gF v24 (callM prog 177 #[v26,v27]) (fun v28 w=>
 gF v24 (kU v28) (fun v29=>
 kP v24 (.bool true) v29 fun v30 w=>
 gF v30 (kL 164 v10) (fun v32 w=>
 gF v30 (pureM a3) (fun v33 w=>
 gF v30 (oM prog (.buildSlice 22 1 #[(0,(.tmp 0))]) 22 [v33]) (fun v34 w=>
 gF v30 (callM prog 87 #[v32,(.int .i64 1),v34]) (fun v35 w=>
 gF v30 (kU v35) (fun v36=>
 kP v30 (.bool true) v36 fun v37=>
 kO v37 (oM prog (.build 84 #[]) 84 [] fun v38=>
 kS 84 v8 v38 fun _ w=>
 ∃ r_23,(do loadVar 84 (← asAddr v8):Sem Value).run prog w = .ok r_23 w ∧ K (.tuple #[r_23,(.bool false)]) w)
 (oM prog (.build 84 #[(0,(.tmp 0))]) 84 [a3] fun v40=>
 kA 84 fun v13=>
 kS 84 v13 v40 fun _=>
 callM prog 178 #[a1] fun v42=>
 kN 22 v42 fun v43=>
 kQ [undef,undef,(.int .i64 0)] fun J_28 m_29 l_30 u_l_30 w0_l_30=>(fun w=>(
 kB .lss 3 0 (l_30.getD 2 undef) v43 (fun v45=>
 kO v45 (kI 22 v42 (l_30.getD 2 undef) fun v47=>
 kL 3 v47 fun v48 w=>
 stageM w fun C_34 w=>(jF 84 1 v13 (upto C_34 4) fun v49=>
 jL 22 v49 (upto C_34 4) fun v50=>
 jL 164 v10 (upto C_34 2) fun v51=>
 jF 24 3 v6 (upto C_34 2) fun v52=>
 jL 22 v52 (upto C_34 2) fun v53=>
 pureH (l_30.getD 2 undef) (upto C_34 2) fun v54=>
 jI 22 v53 v54 (upto C_34 2) fun v55=>
 jL 3 v55 (upto C_34 2) fun v56=>
 jL 164 v10 (upto C_34 1) fun v57=>
 pureH a3 (upto C_34 1) fun v58=>
 jF 24 0 v6 (upto C_34 0) fun v59=>
 jL 3 v59 (upto C_34 0) fun v60=>
 pureH v48 (upto C_34 0) fun v61=>
 oM prog (.buildSlice 22 2 #[(0,(.tmp 0)),(1,(.tmp 1))]) 22 [v60,v61] (fun v62 w=>C_34 1 w ∧ (
 callM prog 180 #[v57,v58,v62] (fun v63 w=>C_34 2 w ∧ (
 callM prog 179 #[v51,v56,v63] (fun v64 w=>C_34 3 w ∧ (
 oM prog (.buildSlice 22 1 #[(0,(.tmp 0))]) 22 [v64] (fun v65 w=>C_34 4 w ∧ (
 oM prog (.call (Go.Call.mk (.builtin .append) #[(.tmp 0),(.tmp 1)] #[22,22])) 22 [v50,v65] (fun v66 w=>C_34 5 w ∧ (
 kF 84 1 v13 (fun v67 w=>C_34 6 w ∧ (
 kS 22 v67 v66 (fun _ w=>C_34 7 w ∧ (
 kB .add 3 3 (l_30.getD 2 undef) (.int .i64 1) (fun v68=>
 kJ J_28 m_29 l_30 w0_l_30 [(l_30.getD 2 undef),v48,v68]) w)) w)) w)) w)) w)) w)) w)) w))
 (kL 84 v13 fun v69=>
 kS 84 v8 v69 fun _ w=>
 ∃ r_56,(do loadVar 84 (← asAddr v8):Sem Value).run prog w = .ok r_56 w ∧ K (.tuple #[r_56,(.bool true)]) w)) w)) w0_l_30)) w) w) w) w) w) w) w) w) w) w
theorem sh_141_ok (h:sh_141 a0 a1 a2 a3 K w):callM prog 141 #[a0,a1,a2,a3] K w:=
 cZ (fun _=>3) func141 h
end Go.Proofs
namespace Go.Proofs
open Go Go.Sh Go.RowKit FdSpec TkSpec
section
variable {K:VK} {w w0 w1:World} {L:List (Addr × Value)}
def ansL (s:Stp) (l:List Int) (b:Bld) (dare:Int):List Int:=((expsM l).zip b.ys).map fun p=>plusQ s p.2 (mulQ s dare [b.s,p.1])
theorem useM_no {s:Stp} {l:List Int} {b:Bld} {dare:Int} (h:(usableM s l).2 = false ∨ blindsM s b = false ∨ numsM s 1 [dare] = false):useM s l b dare = (⟨0,[]⟩,false):=by
 unfold useM
 rw [if_neg]
 rcases h with h | h | h <;> simp [h]
theorem useM_yes {s:Stp} {l:List Int} {b:Bld} {dare:Int} (h1:(usableM s l).2 = true) (h2:blindsM s b = true) (h3:numsM s 1 [dare] = true):useM s l b dare = (⟨dare,ansL s l b dare⟩,true):=by
 unfold useM
 rw [if_pos (by rw [h1,h2,h3]; rfl)]
 rfl
theorem usable_len {s:Stp} {l:List Int} (h:(usableM s l).2 = true):l.length + 1 = s.bases.length ∧ validS s = true:=by
 unfold usableM at h
 simp only [bA] at h
 have h:=h.1
 unfold markM at h
 split at h
 ·rename_i hc
  simp only [bA,dE] at hc
  exact ⟨hc.1.1.2,hc.1.1.1⟩
 ·cases h
theorem blinds_len {s:Stp} {b:Bld} (h:blindsM s b = true):b.ys.length = s.bases.length:=by
 unfold blindsM at h
 simp only [bA,dE] at h
 exact h.1.2
def UsJ (al:List Int) (dare:Int) (g13:Nat) (Wl:World) (vs:List Value) (w':World):Prop:=FrG g13 Wl w' ∧ ∃ (v u ov:Value) (i:Nat),vs = [v,u,.int .i64 (i:Int)] ∧ i ≤ al.length ∧ OwnI w' Wl.heap.size ov (al.take i) ∧ w'.heap[g13]? = some (.cells #[.int .i64 dare,ov] 84 (0,0))
theorem Use_ok (s:Stp) (b:Bld) (dare:Int) {v bv lv:Value} {l:List Int} (hd:I64 dare) (hs:SetR w s v) (hl:Ints w lv l) (hb:BldR w b bv)
  (k:∀ w' ov,Below w.heap.size w w' → Ints w' ov (useM s l b dare).1.answers → (∀ i,Value.inBlock ov = some i → w.heap.size ≤ i) → K (.tuple #[spdV (useM s l b dare).1 ov,.bool (useM s l b dare).2]) w'):callM Tryz.prog 141 #[stpV s v,lv,bldV b bv,.int .i64 dare] K w:=by
 apply sh_141_ok
 unfold sh_141
 obtain ⟨ad,c,rfl⟩:=hs.ints.isSlice
 have hys:=hb.ys
 have hb0:=hb
 obtain ⟨yad,yc,rfl⟩:=hb.ys.isSlice
 have k2:∀ w' ov r,useM s l b dare = r → Below w.heap.size w w' → Ints w' ov r.1.answers → (∀ i,Value.inBlock ov = some i → w.heap.size ≤ i) → K (.tuple #[spdV r.1 ov,.bool r.2]) w':=fun w' ov r e hb hi hv=>by
  rw [← e] at hi ⊢
  exact k w' ov hb hi hv
 clear k
 refine box_kn (cs:=stpC s (.slice ad s.bases.length c)) rfl (.start w) fun b1 W hk hb1 hbb=>?_
 refine box_kn (cs:=bldC b (.slice yad b.ys.length yc)) rfl hk fun b2 W2 hk hb2 hbb=>?_
 refine alloc_mine (n:=2) al_spd rfl hk fun g W2 hk hb2 hg=>?_
 clear hb1 hb2
 repeat (any_goals ((with_reducible refine oG fun X Y=>?_); simp [go_sem,hk.cells]; apply Y; clear Y X))
 refine usable_ok s (hs.next hk.below) (hl.next hk.below) (fun w2 h2=>?_)
 have hk:=hk.next h2
 clear h2
 have hno:=useM_no (s:=s) (l:=l) (b:=b) (dare:=dare)
 cases hu:(usableM s l).2 with
 | false=>
  repeat (any_goals (first
  | ((with_reducible refine local_desk s ad s.bases.length c hk ?_); intro b7 W7 hk hb7 hg7)
  | (with_reducible first|refine zD ?_|refine yB ?_|refine yL ?_)
  | ((with_reducible refine oG fun X Y=>?_); simp [go_sem,hk.cells]; apply Y; clear Y X)))
  exact store_spd ⟨0,[]⟩ none 0 0 hk (fun W3 hk hc _=>⟨_,by simp [go_sem,hc],k2 _ _ _ (hno (.inl hu)) hk.below (Ints.nil _) (fun i h=>by cases h)⟩)
 | true=>
  obtain ⟨hll,hv⟩:=usable_len hu
  have hv7:=validS_len hv
  repeat (any_goals (first
  | ((with_reducible refine local_desk s ad s.bases.length c hk ?_); intro b7 W7 hk hb7 hg7)
  | (with_reducible refine zC ?_)
  | ((with_reducible refine oG fun X Y=>?_); simp [go_sem,hk.cells]; apply Y; clear Y X)))
  refine blinds_ok s b (hs.next hk.below) (hb0.next hk.below) (fun w3 h3=>?_)
  have hk:=hk.next h3
  cases hbl:blindsM s b with
  | false=>
   repeat (any_goals (first
   | (with_reducible first|((refine idGd ?_); first|refine zC ?_|refine zD ?_)|((refine idPick ?_); first|refine yB ?_|refine yC ?_)|refine yL ?_)
   | ((with_reducible refine oG fun X Y=>?_); simp [go_sem,hk.cells]; apply Y; clear Y X)))
   exact store_spd ⟨0,[]⟩ none 0 0 hk (fun W3 hk hc _=>⟨_,by simp [go_sem,hc],k2 _ _ _ (hno (.inr (.inl hbl))) hk.below (Ints.nil _) (fun i h=>by cases h)⟩)
  | true=>
   have hyl:=blinds_len hbl
   repeat (any_goals (first
   | ((with_reducible refine mk1 dare hd ?_); intro v8 W8 hb8 hi)
   | (with_reducible first|refine pureM_in ?_|refine zC ?_|refine yC ?_)
   | ((with_reducible refine oG fun X Y=>?_); simp [go_sem,hk.cells]; apply Y; clear Y X)))
   have hk:=hk.next hb8
   refine nums_ok s 1 (hs.next hk.below) hi (fun w4 h4=>?_)
   have hk:=hk.next h4
   cases hn:numsM s 1 [dare] with
   | false=>
    repeat (any_goals (first
    | (with_reducible first|refine zC ?_|refine yC ?_|refine yL ?_)
    | ((with_reducible refine oG fun X Y=>?_); simp [go_sem,hk.cells]; apply Y; clear Y X)))
    exact store_spd ⟨0,[]⟩ none 0 0 hk (fun W3 hk hc _=>⟨_,by simp [go_sem,hc],k2 _ _ _ (hno (.inr (.inr hn))) hk.below (Ints.nil _) (fun i h=>by cases h)⟩)
   | true=>
    have ey:=useM_yes hu hbl hn
    have hgW:g < w4.heap.size:=mine_lt hk.mine
    have hoffL:=cells_lt hk.cells
    repeat (any_goals (first
    | ((with_reducible refine local_spd ⟨dare,[]⟩ hk ?_); intro g13 W9 hk hb9 hg13 hh13)
    | (with_reducible first|refine zC ?_|refine yC ?_|refine yM ?_)
    | ((with_reducible refine oG fun X Y=>?_); simp [go_sem,hk.cells]; apply Y; clear Y X)))
    refine exps_ok (hl.next hk.below) (by omega) (by omega) (fun ev w5 he h5 hff=>?_)
    have hg13W:=(Array.getElem?_eq_some_iff.1 hh13).1
    have hh13:w5.heap[g13]? = some (.cells #[.int .i64 dare,.slice none 0 0] 84 (0,0)):=by rw [h5.block g13 hg13W]; exact hh13
    have hk:=hk.next h5
    have hel:(expsM l).length = l.length + 1:=rfl
    have hal:(ansL s l b dare).length = l.length + 1:=by simp [ansL,hel]; omega
    have hat:∀ (i:Nat) (h1:i < (expsM l).length) (h2:i < b.ys.length),(ansL s l b dare)[i]? = some (plusQ s b.ys[i] (mulQ s dare [b.s,(expsM l)[i]])):=fun i h1 h2=>by
     simp [ansL,h1,h2,List.getElem?_zip_eq_some]
     exact ⟨_,_,⟨rfl,rfl⟩,rfl⟩
    have hrng:∀ n ∈ ansL s l b dare,I64 n:=by
     intro n hn
     obtain ⟨m,_,rfl⟩:=List.mem_map.1 hn
     exact addM_I64 _ _ _
    generalize ansL s l b dare = al at *
    obtain ⟨ead,ec,rfl⟩:=he.isSlice
    have hs5:=h5.size
    have hs9:=hb9.size
    have hing:∀ i,Value.inBlock (.slice ead (expsM l).length ec) = some i → i ≠ g13:=fun i hi=>by
     have:=hff i hi
     omega
    repeat (any_goals ((with_reducible refine oG fun X Y=>?_); simp [go_sem]; apply Y; clear Y X))
    refine ⟨UsJ al dare g13 w5,vsMu (expsM l).length,⟨Fr.refl _ _,_,_,.slice none 0 0,0,rfl,by omega,World.ownsRow_nil _ _ _ _,hh13⟩,?_⟩
    have hk0:=hk
    have hgne:g ≠ g13:=by omega
    have hoff13:∀ p ∈ cellsOf (cellsOf (cellsOf [] b1 0 (stpC s (.slice ad s.bases.length c))) b2 0 (bldC b (.slice yad b.ys.length yc))) b7 0 (stpC s (.slice ad s.bases.length c)),p.1.block ≠ g13:=fun p hp=>by have:=hoffL p hp; omega
    have hw13:w.heap.size ≤ g13:=Nat.le_trans hk0.base (by omega)
    rintro _ _ w6 ⟨h6,u1,u2,ov,i,rfl,hi,ho,hh⟩
    have hk:=hk0.fr h6 hoff13 hgne hw13
    by_cases hin:i = (expsM l).length
    ·rw [List.take_of_length_le (by omega)] at ho
     have hints:=ho.ints hrng (by omega)
     obtain ⟨g',cap,cur,rfl,hlt,hB,_,_,_,hcell⟩:=owns_cells ho (by omega)
     have c0:w6.cell? ⟨g13,0,none⟩ = some (.int .i64 dare):=by rw [cell_of_block hh]; rfl
     have c1:w6.cell? ⟨g13,1,none⟩ = some (.slice (some ⟨g',0,none⟩) al.length cap):=by rw [cell_of_block hh]; rfl
     repeat (any_goals (first
     | (with_reducible refine yO ?_)
     | ((with_reducible refine oG fun X Y=>?_); simp [go_sem,c0,c1]; apply Y; clear Y X)))
     refine store_spd ⟨dare,al⟩ _ _ _ hk (fun W3 hk hc hgr=>⟨_,by simp [go_sem,hc],k2 _ _ _ ey hk.below ⟨hints.row.keep hgr.size (fun i hi hlt=>hgr.block i hlt ?_),hrng,by show al.length ≤ _; omega⟩ (fun i hi=>by cases hi; show w.heap.size ≤ g'; have:=hk0.base; omega)⟩)
     cases hi
     intro e
     have e2:g' = g:=oI e
     omega
    ·have hev:=Ints.fr he h6 hing
     have hed:=FrG.below hk0.below h6 hw13
     obtain ⟨b8,o8,rfl,hb8',ca,ra,_⟩:=hev.at (i:=i) (by omega)
     obtain ⟨b9,o9,rfl,hb9',cb,rb,_⟩:=hys.at (i:=i) (by omega)
     have c1:∀ w',Below w6.heap.size w6 w' → w'.heap[g13]? = some (.cells #[.int .i64 dare,ov] 84 (0,0)):=fun w' hw=>by rw [hw.block g13 (Array.getElem?_eq_some_iff.1 hh).1]; exact hh
     repeat (any_goals (first
     | (with_reducible refine yN ?_)
     | ((with_reducible refine oG fun X Y=>?_); simp [go_sem,ca _ (Below.refl _ _)]; (first|refine Y _ _ ?_|refine And.intro (by omega) (Y _ _ ?_)); clear Y X)))
     refine ⟨UsC (fun w'=>KnM w _ g 2 w' ∧ Below w.heap.size w w' ∧ w'.cell? ⟨g13,1,none⟩ = some ov),fun _=>⟨hk.drew,hk.drew.below,by rw [cell_of_block (c1 _ .drawn)]; rfl⟩,?_⟩
     have hk:=hk.drew
     have ho:=ho.keep (Below.drawn (w:=w6))
     have h7:Below w6.heap.size w6 { w6 with drawn:=w6.drawn + 1 }:=.drawn
     have hfr:=FrG.next h6 h7
     have hh1:=c1 _ h7
     repeat (any_goals (first
     | ((with_reducible refine mk2 b.s _ hb.s ra ?_); intro v10 w10 h10 hi10)
     | (with_reducible refine pX ?_)
     | ((with_reducible refine idOH ?_); (with_reducible refine oH_of ⟨_,rfl⟩ (fun W0 hW0=>by (refine oG (fun X Y=>?_)); simp [go_sem,(usGet hW0 (by omega)).1.cells,(usGet hW0 (by omega)).2.2,cb _ (usGet hW0 (by omega)).2.1]; (first | exact Y _ _ ⟨rfl,rfl⟩ | exact ⟨by omega,Y _ _ ⟨rfl,rfl⟩⟩)) ?_))))
     have hk:=hk.next h10
     have hh1:w10.heap[g13]? = _:=(h10.block g13 (Array.getElem?_eq_some_iff.1 hh1).1).trans hh1
     have ho:=ho.keep h10
     have hfr:=hfr.next h10
     refine ⟨fun _=>⟨hk,hk.below,by rw [cell_of_block hh1]; rfl⟩,mul_ok s _ (hs.next hk.below) hi10 (fun w11 h11=>?_)⟩
     have hk:=hk.next h11
     have hh1:w11.heap[g13]? = _:=(h11.block g13 (Array.getElem?_eq_some_iff.1 hh1).1).trans hh1
     have ho:=ho.keep h11
     have hfr:=hfr.next h11
     refine ⟨fun _=>⟨hk,hk.below,by rw [cell_of_block hh1]; rfl⟩,plus_ok s _ _ (hs.next hk.below) (fun w12 h12=>?_)⟩
     have hk:=hk.next h12
     have hh1:w12.heap[g13]? = _:=(h12.block g13 (Array.getElem?_eq_some_iff.1 hh1).1).trans hh1
     have ho:=ho.keep h12
     have hfr:=hfr.next h12
     refine ⟨fun _=>⟨hk,hk.below,by rw [cell_of_block hh1]; rfl⟩,mk1 _ (addM_I64 _ _ _) (fun v13 w13 h13 hi13=>?_)⟩
     have hk:=hk.next h13
     have hh1:w13.heap[g13]? = _:=(h13.block g13 (Array.getElem?_eq_some_iff.1 hh1).1).trans hh1
     have ho:=ho.keep h13
     have hfr:=hfr.next h13
     refine ⟨fun _=>⟨hk,hk.below,by rw [cell_of_block hh1]; rfl⟩,append1 ho hfr.size hi13 (by simp; omega) (fun v14 w14 ho h14=>?_)⟩
     have hg5:g13 < w5.heap.size:=by omega
     have hh1:w14.heap[g13]? = _:=(h14.block g13 hg5).trans hh1
     have hfr:FrG g13 w5 w14:=hfr.trans (S':=fun i=>w5.heap.size ≤ i) ⟨h14.os,h14.tape,h14.output,h14.size,fun i hi hn=>h14.block i (by omega)⟩ (fun i h=>.inr h)
     refine ⟨fun h=>absurd h (by omega),?_⟩
     have hli:((al.take i) ++ [plusQ s b.ys[i] (mulQ s dare [b.s,(expsM l)[i]])]) = al.take (i + 1):=by
      rw [List.take_add_one,hat i (by omega) (by omega)]
      rfl
     rw [hli] at ho
     obtain ⟨oad,oc,hov⟩:=owns_len ho
     subst hov
     repeat (any_goals ((with_reducible refine oG fun X Y=>?_); simp [go_sem]; apply Y; clear Y X))
     refine ⟨fun h=>absurd h (by omega),store_second hh1 (fun w15 hgr hh2=>⟨fun h=>absurd h (by omega),?_⟩)⟩
     have hfr:FrG g13 w5 w15:=hfr.by hgr (fun i e=>.inl (oI e).symm)
     have ho:OwnI w15 w5.heap.size _ _:=owns_keep ho (fun j hj=>hgr.block j (owns_own ho hj).1 (fun e=>by have:=(owns_own ho hj).2.1; have:=oI e; omega))
     repeat (any_goals ((with_reducible refine oG fun X Y=>?_); simp [go_sem]; (try simp (disch:=omega) only [wrapI64,wrapU8,wrapU32,wrapU64]); apply Y; clear Y X))
     refine ⟨⟨hfr,_,_,_,i + 1,rfl,by omega,ho,hh2⟩,?_⟩
     simp only [vsMu_eq]; omega
end
end Go.Proofs
namespace Go.Sh
open Go Go.RowKit
section
variable {P:Program} {w w':World} {K:VK}
theorem owns_up {B C:Nat} {e:TypeId} {sz:Nat} {v:Value} {n:Nat} {xs:List Value} (h:w.ownsRow B e sz v n xs) (hv:∀ i,v.ownBlock = some i → C ≤ i):w.ownsRow C e sz v n xs:=
 ⟨h.1,h.2.imp id (fun ⟨g,cap,cur,a,b,r⟩=>⟨g,cap,cur,a,hv g (by rw [a]; rfl),r⟩)⟩
end
end Go.Sh
namespace Go.Sh
open Go Go.RowKit
@[reducible] def ptr (g i:Nat):Value:=.pointer (some ⟨g,i,none⟩)
def Holds (w:World) (g:Nat) (T:TypeId) (vs:List Value):Prop:=w.heap[g]? = some (.cells vs.toArray T (0,0))
theorem Holds.lt {w:World} {g:Nat} {T:TypeId} {vs:List Value} (h:Holds w g T vs):g < w.heap.size:=(Array.getElem?_eq_some_iff.1 h).1
theorem Holds.next {w w':World} {g:Nat} {T:TypeId} {vs:List Value} (h:Holds w g T vs) (hb:Below w.heap.size w w'):Holds w' g T vs:=by
 unfold Holds
 rw [hb.block g h.lt]; exact h
theorem Holds.other {w w':World} {g g':Nat} {T:TypeId} {vs:List Value} (h:Holds w g T vs) (hg:w.grownBy w' (some g')) (hne:g ≠ g'):Holds w' g T vs:=by
 unfold Holds
 rw [hg.block g h.lt (fun e=>hne (by cases e; rfl))]; exact h
theorem Holds.cell {w:World} {g:Nat} {T:TypeId} {vs:List Value} (h:Holds w g T vs) (i:Nat) (hi:i < vs.length):w.cell? ⟨g,i,none⟩ = some vs[i]:=by
 unfold World.cell?
 rw [h]
 simp [hi]
theorem Holds.are {w:World} {g:Nat} {T:TypeId} {vs:List Value} (h:Holds w g T vs):cellsAre w (cellsOf [] g 0 vs):=
 cellsOf_are (xs:=vs) (L:=[]) trivial (fun i v hi=>by
  obtain ⟨hl,rfl⟩:=gS hi
  exact h.cell i hl) vs 0 rfl
section
variable {P:Program} {w:World} {K:VK} {T T' T0:TypeId} {g n:Nat}
theorem arr_alloc {zs:List Value} (hA:∀ w,(Instr.alloc T true (.tuple #[])).run P w = .ok (.pointer (some ⟨w.heap.size,0,none⟩)) (w.alloc (.cells zs.toArray T)))
  (k:∀ g W,Below w.heap.size w W → w.heap.size ≤ g → Holds W g T zs → K (ptr g 0) W):oM P (.alloc T) T' [] K w:=by
 rw [oM_alloc,hA]
 refine k _ _ ((Below.refl w.heap.size w).alloc (rL) _) (rL) ?_
 show (w.heap.push _)[w.heap.size]? = _
 simp
theorem arr_box {x:Value} {cs:List Value} (hx:x.cells = cs.toArray) (k:∀ g W,Below w.heap.size w W → w.heap.size ≤ g → Holds W g T cs → K (ptr g 0) W):oM P (.box T (.tmp 0)) T' [x] K w:=by
 rw [oM_box]
 have e:(Instr.box T x).run P w = .ok (.pointer (some ⟨w.heap.size,0,none⟩)) (w.alloc (.cells cs.toArray T)):=by
  rw [← hx]; rfl
 rw [e]
 refine k _ _ ((Below.refl w.heap.size w).alloc (rL) _) (rL) ?_
 show (w.heap.push _)[w.heap.size]? = _
 simp
theorem arr_storeRow {o m:Nat} {cur xs:List Value} {x:Value} (hT:∀ w,(sizeOf T).run P w = .ok m w) (hx:x.cells = xs.toArray) (hl:xs.length = m) (h1:∀ u ∈ xs,u.oneCell' = true) (hg:Holds w g T0 cur) (hfit:o + m ≤ cur.length)
  (k:∀ W,w.grownBy W (some g) → Holds W g T0 (cur.take o ++ xs ++ cur.drop (o + m)) → K undef W):oM P (.store T (.tmp 0) (.tmp 1)) T' [ptr g o,x] K w:=by
 have hst:=run_storeCells_at P g o T0 xs 0 cur.toArray w hg (by simp; omega) h1
 rw [Nat.add_zero] at hst
 have e2:x.cells.toList = xs:=by rw [hx]
 have e3:x.cells.size = m:=by rw [hx]; simpa using hl
 have hrun:(Instr.storeAt T (ptr g o) x).run P w = .ok () (w.setRow g (cur.take o ++ xs ++ cur.drop (o + xs.length)).toArray):=by
  unfold Instr.storeAt storeVar
  rw [e2,e3]
  simp only [List.append_assoc] at hst ⊢
  simp [hT,go_sem]
  exact hst
 rw [oM_store,hrun]
 rw [hl] at *
 exact k _ (grown_setRow _ _ _) (setRow_heap w g _ _ T0 (0,0) hg)
theorem arr_store {cur xs:List Value} {x:Value} (hT:∀ w,(sizeOf T).run P w = .ok n w) (hx:x.cells = xs.toArray) (hl:xs.length = n) (h1:∀ u ∈ xs,u.oneCell' = true) (hg:Holds w g T0 cur) (hc:cur.length = n)
  (k:∀ W,w.grownBy W (some g) → Holds W g T0 xs → K undef W):oM P (.store T (.tmp 0) (.tmp 1)) T' [ptr g 0,x] K w:=by
 refine arr_storeRow hT hx hl h1 hg (by omega) (fun W h2 h3=>k W h2 ?_)
 rw [Nat.zero_add,List.take_zero,List.nil_append,List.drop_of_length_le (by omega),List.append_nil] at h3
 exact h3
theorem arr_set {cur:List Value} {x:Value} {i:Nat} (hT:∀ w,(sizeOf T).run P w = .ok 1 w) (hx:x.cells = #[x]) (h1:x.oneCell' = true) (hg:Holds w g T0 cur) (hi:i < cur.length)
  (k:∀ W,w.grownBy W (some g) → Holds W g T0 (cur.set i x) → K undef W):oM P (.store T (.tmp 0) (.tmp 1)) T' [ptr g i,x] K w:=by
 refine arr_storeRow (xs:=[x]) hT hx rfl (by intro u hu; rw [List.mem_singleton] at hu; subst hu; exact h1) hg (by omega) (fun W h2 h3=>k W h2 ?_)
 rw [List.set_eq_take_append_cons_drop,if_pos hi]
 simpa [List.append_assoc] using h3
theorem arr_load {cs:List Value} {d:TypeDesc} (hg:Holds w g T0 cs) (hu:P.underlying T = some d) (hd:(match d with | .struct _ | .array _ _=>true | _=>false) = true) (hi:(P.info? T).map (·.size) = some cs.length) (k:K (.agg cs.toArray) w) :
  oM P (.load T (.tmp 0)) T' [ptr g 0] K w:=by
 rw [oM_load]
 have:=run_loadVar_row (P:=P) w g T0 T cs.toArray (0,0) d hg hu hd (by simpa using hi)
 have e:(Instr.loadAt T (ptr g 0)).run P w = (loadVar T ⟨g,0,none⟩).run P w:=rfl
 rw [e,this]
 exact k
theorem arr_ret {cs:List Value} {d:TypeDesc} (hg:Holds w g T0 cs) (hu:P.underlying T = some d) (hd:(match d with | .struct _ | .array _ _=>true | _=>false) = true) (hi:(P.info? T).map (·.size) = some cs.length) (k:K (.agg cs.toArray) w) :
  ∃ r,(do loadVar T (← asAddr (ptr g 0)):Sem Value).run P w = .ok r w ∧ K r w:=by
 have:=run_loadVar_row (P:=P) w g T0 T cs.toArray (0,0) d hg hu hd (by simpa using hi)
 exact ⟨_,this,k⟩
theorem grown_below {w0 w':World} (h0:Below w0.heap.size w0 w) (hg:w.grownBy w' (some g)) (h:w0.heap.size ≤ g):Below w0.heap.size w0 w':=
 h0.grown hg h0.size (fun k hk=>by cases hk; exact h)
end
end Go.Sh
namespace Go.Sh
open Go Go.RowKit
theorem bR {B:Nat} {w:World}:Below B w w:=Below.refl _ _
abbrev Bw (w w2:World):=Below w.heap.size w w2
abbrev Nx (w w':World):Prop:=Below w.heap.size w w'
variable {S:World → WK} {A N:(VK) → Prop}
theorem monoE {x:Value} (h:A (fun v _=>v = x)) (n:N (fun v _=>v = x)):∃ R:VK,(∀ v w w1,S w w1 → R v w → R v w1) ∧ A R ∧ N R:=⟨_,fun _ _ _ _ h=>h,h,n⟩
theorem monoR (R:VK) (hs:∀ v w w1,S w w1 → R v w → R v w1) (h:A R) (n:N R):∃ R:VK,(∀ v w w1,S w w1 → R v w → R v w1) ∧ A R ∧ N R:=⟨R,hs,h,n⟩
end Go.Sh
namespace Go.Sh
open Go Go.RowKit
section
variable {w w':World} {D E:Nat → Prop} {p q:WK}
def FP (D:Nat → Prop) (w:World) (p:WK):Prop:=∀ w':World,w'.os = w.os → w'.tape = w.tape → w'.output = w.output → w.heap.size ≤ w'.heap.size → (∀ i,D i → w'.heap[i]? = w.heap[i]?) → p w'
theorem FP.here (h:FP D w p):p w:=h w rfl rfl rfl (rL) (fun _ _=>rfl)
theorem FP.mono (h:FP D w p) (hd:∀ i,D i → E i):FP E w p:=fun w' a b c d e=>h w' a b c d (fun i hi=>e i (hd i hi))
theorem FP.imp (h:FP D w p) (hp:∀ w',p w' → q w'):FP D w q:=fun w' a b c d e=>hp w' (h w' a b c d e)
theorem FP.and (h:FP D w p) (k:FP E w q):FP (fun i=>D i ∨ E i) w (fun w=>p w ∧ q w):=fun w' a b c d e=>⟨h w' a b c d (fun i hi=>e i (.inl hi)),k w' a b c d (fun i hi=>e i (.inr hi))⟩
theorem FP.both (h:FP D w p) (k:FP D w q):FP D w (fun w=>p w ∧ q w):=fun w' a b c d e=>⟨h w' a b c d e,k w' a b c d e⟩
theorem FP.all {α:Type} {P:α → WK} (h:∀ x,FP D w (P x)):FP D w (fun w=>∀ x,P x w):=fun w' a b c d e x=>h x w' a b c d e
theorem FP.pure {p:Prop} (h:p):FP D w (fun _=>p):=fun _ _ _ _ _ _=>h
theorem FP.fr {S:Nat → Prop} (h:FP D w p) (hf:Fr S w w') (hD:∀ i,D i → i < w.heap.size ∧ ¬ S i):FP D w' p:=fun w2 a b c d e=>
 h w2 (a.trans hf.os) (b.trans hf.tape) (c.trans hf.output) (Nat.le_trans hf.size d) (fun i hi=>(e i hi).trans (hf.block i (hD i hi).1 (hD i hi).2))
theorem FP.by {b:Option Nat} (h:FP D w p) (hf:w.grownBy w' b) (hD:∀ i,D i → i < w.heap.size ∧ b ≠ some i):FP D w' p:=fun w2 a b c d e=>
 h w2 (a.trans hf.os) (b.trans hf.tape) (c.trans hf.output) (Nat.le_trans hf.size d) (fun i hi=>(e i hi).trans (hf.block i (hD i hi).1 (fun x=>(hD i hi).2 (by first | exact x | exact x.symm))))
theorem FP.next (h:FP D w p) (hb:Bw w w') (hD:∀ i,D i → i < w.heap.size):FP D w' p:=fun w2 a b c d e=>
 h w2 (a.trans hb.os) (b.trans hb.tape) (c.trans hb.output) (Nat.le_trans hb.size d) (fun i hi=>(e i hi).trans (hb.block i (hD i hi)))
theorem Ints.fp {v:Value} {l:List Int} (h:Ints w v l):FP (fun i=>Value.inBlock v = some i ∧ i < w.heap.size) w (fun w=>Ints w v l):=fun w' _ _ _ d e=>
 ⟨h.row.keep d (fun i hi hlt=>e i ⟨hi,hlt⟩),h.rng,h.len⟩
end
abbrev Cl (n:Nat):={c:List Value // c.length = n}
def Cl.cs {n:Nat} (c:Cl n):List Value:=c.1
def AtOf {α:Type} (n:Nat) (V:World → List Value → α → Prop) (w:World) (b p:Nat) (x:α):Prop:=∃ c:List Value,c.length = n ∧ (∀ (j:Nat) (u:Value),c[j]? = some u → w.cell? ⟨b,p + j,none⟩ = some u) ∧ V w c x
def VStay {α:Type} (V:World → List Value → α → Prop):Prop:=∀ (w w':World) (c:List Value) (x:α),V w c x → Bw w w' → V w' c x
def VOne {α:Type} (R:World → Value → α → Prop) (w:World) (c:List Value) (x:α):Prop:=∃ v,c = [v] ∧ R w v x
def Cols {α:Type} (n:Nat) (V:World → List Value → α → Prop) (w:World) (cs:List (Cl n)) (l:List α):Prop:=cs.length = l.length ∧ ∀ (i:Nat) (c:Cl n) (x:α),cs[i]? = some c → l[i]? = some x → V w c.1 x
structure GRow {α:Type} (n:Nat) (e:TypeId) (V:World → List Value → α → Prop) (B:Nat) (D:Nat → Prop) (w:World) (v:Value) (l:List α):Prop where
 ex:∃ cs:List (Cl n),w.ownsRow B e n v l.length (flat Cl.cs cs) ∧ FP D w (fun w=>Cols n V w cs l)
section
variable {α:Type} {n:Nat} {e:TypeId} {V:World → List Value → α → Prop} {B:Nat} {D E:Nat → Prop} {w w':World} {v:Value} {l:List α}
theorem GRow.nil:GRow n e V B D w (.slice none 0 0) []:=⟨[],⟨by simp [flat],.inl ⟨rfl,rfl⟩⟩,fun _ _ _ _ _ _=>⟨rfl,fun _ _ _ h=>by simp at h⟩⟩
theorem GRow.mono (h:GRow n e V B D w v l) (hd:∀ i,D i → E i):GRow n e V B E w v l:=by
 obtain ⟨cs,h1,h2⟩:=h.ex
 exact ⟨cs,h1,h2.mono hd⟩
theorem GRow.own (h:GRow n e V B D w v l) {i:Nat} (hi:v.ownBlock = some i):i < w.heap.size ∧ B ≤ i:=by
 obtain ⟨cs,h1,_⟩:=h.ex
 exact ⟨(owns_own h1 hi).1,(owns_own h1 hi).2.1⟩
theorem GRow.isSlice (h:GRow n e V B D w v l):∃ ad c,v = .slice ad l.length c:=by
 obtain ⟨cs,h1,_⟩:=h.ex
 exact owns_len h1
theorem GRow.keep (h:GRow n e V B D w v l) {S:Nat → Prop} (hf:Fr S w w') (hD:∀ i,D i → i < w.heap.size ∧ ¬ S i) (hv:∀ i,v.ownBlock = some i → ¬ S i):GRow n e V B D w' v l:=by
 obtain ⟨cs,h1,h2⟩:=h.ex
 exact ⟨cs,owns_keep h1 (fun i hi=>hf.block i (owns_own h1 hi).1 (hv i hi)),h2.fr hf hD⟩
theorem Fr.of_below' {S:Nat → Prop} (h:Bw w w'):Fr S w w':=⟨h.os,h.tape,h.output,h.size,fun i hi _=>h.block i hi⟩
theorem Fr.of_by (h:w.grownBy w' (some B)):Fr (fun i=>i = B) w w':=⟨h.os,h.tape,h.output,h.size,fun i hi hn=>h.block i hi (fun x=>hn (by first | exact oI x | exact (oI x).symm))⟩
theorem Fr.of_by' {b:Option Nat} (h:w.grownBy w' b):Fr (fun i=>b = some i) w w':=⟨h.os,h.tape,h.output,h.size,fun i hi hn=>h.block i hi (fun x=>hn (by first | exact x | exact x.symm))⟩
theorem GRow.next (h:GRow n e V B D w v l) (hb:Bw w w') (hD:∀ i,D i → i < w.heap.size):GRow n e V B D w' v l:=
 h.keep (S:=fun _=>False) (Fr.of_below' hb) (fun i hi=>⟨hD i hi,id⟩) (fun _ _=>id)
end
end Go.Sh
namespace Go.Sh
open Go Go.RowKit
def Fresh (W w:World) (p:WK):Prop:=FP (fun i=>W.heap.size ≤ i ∧ i < w.heap.size) w p
section
variable {W W' w w':World} {p q:WK}
theorem Fresh.next (h:Fresh W w p) (hb:Bw w w'):Fresh W w' p:=(FP.next h hb (fun i hi=>hi.2)).mono (fun i hi=>⟨hi.1,lL hi.2 hb.size⟩)
theorem Fresh.up (h:Fresh W w p) (hs:W'.heap.size ≤ W.heap.size):Fresh W' w p:=FP.mono h (fun i hi=>⟨Nat.le_trans hs hi.1,hi.2⟩)
theorem Fresh.here (h:Fresh W w p):p w:=FP.here h
theorem Fresh.imp (h:Fresh W w p) (hp:∀ w',p w' → q w'):Fresh W w q:=FP.imp h hp
theorem Fresh.both (h:Fresh W w p) (k:Fresh W w q):Fresh W w (fun w=>p w ∧ q w):=FP.both h k
theorem Fresh.pure {p:Prop} (h:p):Fresh W w (fun _=>p):=FP.pure h
theorem Holds.fp {g:Nat} {T:TypeId} {vs:List Value} (h:Holds w g T vs):FP (fun i=>i = g) w (fun w=>Holds w g T vs):=fun w' _ _ _ _ e=>(e g rfl).trans h
theorem Holds.fresh {g:Nat} {T:TypeId} {vs:List Value} (h:Holds w g T vs) (hg:W.heap.size ≤ g):Fresh W w (fun w=>Holds w g T vs):=h.fp.mono (fun i hi=>by subst hi; exact ⟨hg,h.lt⟩)
theorem Ints.fresh {v:Value} {l:List Int} (h:Ints w v l) (hg:∀ i,Value.inBlock v = some i → W.heap.size ≤ i):Fresh W w (fun w=>Ints w v l):=h.fp.mono (fun i hi=>⟨hg i hi.1,hi.2⟩)
theorem lit_run {K:VK} {r:Result Value} {e:TypeId} {n:Nat} {xs:List Value} (hr:r = .ok (.slice (some ⟨w.heap.size,0,none⟩) n n) (w.alloc (.cells xs.toArray e)))
  (k:∀ g W,Bw w W → w.heap.size ≤ g → Holds W g e xs → K (.slice (some ⟨g,0,none⟩) n n) W):rM r K:=by
 rw [hr]
 refine k _ _ ((Below.refl _ w).alloc (rL) _) (rL) ?_
 have:=heap_alloc_new w (.cells xs.toArray e)
 exact this
end
end Go.Sh
namespace Go.Sh
open Go Go.RowKit
section
variable {α:Type} {n:Nat} {e:TypeId} {V:World → List Value → α → Prop} {B:Nat} {D E:Nat → Prop} {w w':World} {v:Value} {l:List α}
theorem Cols.at {cs:List (Cl n)} (h:FP D w (fun w=>Cols n V w cs l)) {i:Nat} {c:Cl n} {x:α} (hc:cs[i]? = some c) (hx:l[i]? = some x):FP D w (fun w=>V w c.1 x):=h.imp fun _ h=>h.2 i c x hc hx
theorem GRow.elem (h:GRow n e V B D w v l) {i:Nat} {x:α} (hx:l[i]? = some x):∃ (g c:Nat) (cs:List Value),v = .slice (some ⟨g,0,none⟩) l.length c ∧ g < w.heap.size ∧ B ≤ g ∧ cs.length = n ∧ (∀ (j:Nat) (u:Value),cs[j]? = some u → w.cell? ⟨g,i * n + j,none⟩ = some u) ∧ FP D w (fun w=>V w cs x):=by
 obtain ⟨cs,ho,hf⟩:=h.ex
 have hi:=(gS hx).1
 obtain ⟨hc1,_⟩:=hf.here
 have hic:i < cs.length:=by omega
 have hci:cs[i]? = some cs[i]:=gE hic
 rcases ho.2 with ⟨h1,h2⟩ | ⟨g,cap,cur,h1,hb,hg,hc,hm,hs,ht⟩
 ·omega
 refine ⟨g,cap,cs[i].1,h1,(Array.getElem?_eq_some_iff.1 hg).1,hb,cs[i].2,fun j u hj=>?_,Cols.at hf hci hx⟩
 have hj':j < n:=by have:=(gS hj).1; rw [cs[i].2] at this; exact this
 have h3:=flat_at (mk:=Cl.cs) (sz:=n) (fun c=>c.2) cs i j hci hj'
 have h4:(cur.toList.take (l.length * n))[i * n + j]? = some u:=by rw [ht,h3]; exact hj
 have h5:i * n + j < l.length * n:=by
  have:(i + 1) * n ≤ l.length * n:=Nat.mul_le_mul_right n (by omega)
  rw [Nat.succ_mul] at this
  omega
 rw [List.getElem?_take_of_lt h5] at h4
 unfold World.cell?
 rw [hg]
 simpa using h4
theorem flat_take_len {cs:List (Cl n)}:(flat Cl.cs cs).length = cs.length * n:=flat_length (sz:=n) (fun c=>c.2) cs
theorem flat_split {cs:List (Cl n)} {i:Nat} {c:Cl n} (hc:cs[i]? = some c):flat Cl.cs cs = flat Cl.cs (cs.take i) ++ (c.1 ++ flat Cl.cs (cs.drop (i + 1))):=by
 obtain ⟨hi,rfl⟩:=gS hc
 have e:cs = cs.take i ++ (cs[i] :: cs.drop (i + 1)):=by rw [← List.drop_eq_getElem_cons hi,List.take_append_drop]
 conv=>lhs; rw [e]
 rw [flat_append]
 rfl
theorem flat_set {cs:List (Cl n)} {i:Nat} {c:Cl n} (hi:i < cs.length):flat Cl.cs (cs.set i c) = flat Cl.cs (cs.take i) ++ (c.1 ++ flat Cl.cs (cs.drop (i + 1))):=by
 have h:=flat_split (cs:=cs.set i c) (i:=i) (c:=c) (by rw [List.getElem?_set_self hi])
 rw [h,List.take_set_of_le (rL),List.drop_set_of_lt (by omega)]
theorem GRow.put {P:Program} {K:VK} {T T':TypeId} {i off m g c:Nat} {x0 y:α} {xs:List Value} {x:Value} (h:GRow n e V B D w (.slice (some ⟨g,0,none⟩) l.length c) l) (hx0:l[i]? = some x0) (hn:off + m ≤ n)
  (hT:∀ w,(sizeOf T).run P w = .ok m w) (hx:x.cells = xs.toArray) (hl:xs.length = m) (h1:∀ u ∈ xs,u.oneCell' = true) (hD:∀ j,D j → j < w.heap.size ∧ j ≠ g)
  (hV:∀ cs:List Value,cs.length = n → (∀ (j:Nat) (u:Value),cs[j]? = some u → w.cell? ⟨g,i * n + j,none⟩ = some u) → FP D w (fun w=>V w cs x0) → FP D w (fun w=>V w (cs.take off ++ (xs ++ cs.drop (off + m))) y))
  (k:∀ W,w.grownBy W (some g) → GRow n e V B D W (.slice (some ⟨g,0,none⟩) l.length c) (l.set i y) → K undef W) :
  oM P (.store T (.tmp 0) (.tmp 1)) T' [.pointer (some ⟨g,i * n + off,none⟩),x] K w:=by
 have hi:=(gS hx0).1
 obtain ⟨g',c',cs0,hv0,_,_,hcl0,hcc0,hVx⟩:=h.elem hx0
 cases hv0
 obtain ⟨cs,ho,hf⟩:=h.ex
 obtain ⟨hc1,_⟩:=hf.here
 have hic:i < cs.length:=by omega
 have hci:cs[i]? = some cs[i]:=gE hic
 rcases ho.2 with ⟨h1',h2⟩ | ⟨g',cap,cur,h1',hb,hg,hc,hm,hs,ht⟩
 ·omega
 cases h1'
 have hh:Holds w g e cur.toList:=by
  unfold Holds
  simpa using hg
 have hin:(i + 1) * n ≤ l.length * n:=Nat.mul_le_mul_right n (by omega)
 have hcn:l.length * n ≤ c * n:=Nat.mul_le_mul_right n hc
 rw [Nat.succ_mul] at hin
 have hcell:∀ (j:Nat) (u:Value),cs[i].1[j]? = some u → w.cell? ⟨g,i * n + j,none⟩ = some u:=fun j u hj=>by
  have hj':j < n:=by have:=(gS hj).1; rw [cs[i].2] at this; exact this
  have h3:=flat_at (mk:=Cl.cs) (sz:=n) (fun c=>c.2) cs i j hci hj'
  have h4:(cur.toList.take (l.length * n))[i * n + j]? = some u:=by rw [ht,h3]; exact hj
  rw [List.getElem?_take_of_lt (by omega)] at h4
  unfold World.cell?
  rw [hg]
  simpa using h4
 refine arr_storeRow (o:=i * n + off) hT hx hl h1 hh (by simp only [Array.length_toList,hs]; omega) (fun W hgr hH=>?_)
 have hD':∀ j,D j → j < w.heap.size ∧ some g ≠ some j:=fun j hj=>⟨(hD j hj).1,fun e=>(hD j hj).2 (oI e).symm⟩
 have hln:(cs[i].1.take off ++ (xs ++ cs[i].1.drop (off + m))).length = n:=by
  have:=cs[i].2
  simp only [List.length_append,List.length_take,List.length_drop]
  omega
 refine k W hgr ⟨cs.set i ⟨_,hln⟩,?_,?_⟩
 ·rw [List.length_set]
  refine ⟨by rw [flat_set hic]; have:=flat_take_len (cs:=cs.take i); have:=flat_take_len (cs:=cs.drop (i + 1)); have e2:=ho.1; rw [flat_split hci] at e2; simp only [List.length_append] at e2 ⊢; simp only [List.length_append] at hln; have:=cs[i].2; omega,.inr ⟨g,c,(cur.toList.take (i * n + off) ++ xs ++ cur.toList.drop (i * n + off + m)).toArray,rfl,hb,hH,hc,hm,?_,?_⟩⟩
  ·simp only [List.size_toArray,List.length_append,List.length_take,List.length_drop,Array.length_toList,hs,hl]
   omega
  ·rw [flat_split hci] at ht
   have hA:(flat Cl.cs (cs.take i)).length = i * n:=by rw [flat_take_len,List.length_take]; congr 1; omega
   have hcur:cur.toList = flat Cl.cs (cs.take i) ++ (cs[i].1 ++ flat Cl.cs (cs.drop (i + 1))) ++ cur.toList.drop (l.length * n):=by rw [← ht,List.take_append_drop]
   have hZ:(flat Cl.cs (cs.drop (i + 1))).length = l.length * n - (i * n + n):=by
    rw [flat_take_len,List.length_drop,hc1,Nat.sub_mul,Nat.succ_mul]
   rw [flat_set hic]
   show ((cur.toList.take (i * n + off) ++ xs ++ cur.toList.drop (i * n + off + m))).take (l.length * n) = _
   generalize cur.toList.drop (l.length * n) = R at hcur
   generalize flat Cl.cs (cs.take i) = A at *
   generalize flat Cl.cs (cs.drop (i + 1)) = Z at *
   have hcl:=cs[i].2
   generalize cs[i].1 = C at *
   rw [hcur]
   have e1:(A ++ (C ++ Z) ++ R).take (i * n + off) = A ++ C.take off:=by
    rw [List.append_assoc,List.take_append,hA,List.take_of_length_le (by omega),show i * n + off - i * n = off by omega,List.append_assoc,List.take_append,show off - C.length = 0 by omega,List.take_zero,List.append_nil]
   have e2:(A ++ (C ++ Z) ++ R).drop (i * n + off + m) = C.drop (off + m) ++ (Z ++ R):=by
    rw [List.append_assoc,List.drop_append,hA,List.drop_of_length_le (by omega),List.nil_append,show i * n + off + m - i * n = off + m by omega,List.append_assoc,List.drop_append,show off + m - C.length = 0 by omega,List.drop_zero]
   rw [e1,e2]
   have e3:A ++ C.take off ++ xs ++ (C.drop (off + m) ++ (Z ++ R)) = (A ++ (C.take off ++ (xs ++ C.drop (off + m)) ++ Z)) ++ R:=by simp only [List.append_assoc]
   rw [e3,List.take_append_of_le_length (by simp only [List.length_append,List.length_take,List.length_drop]; omega),List.take_of_length_le (by simp only [List.length_append,List.length_take,List.length_drop]; omega)]
 ·have hf':=hf.by hgr hD'
  have hy:=(hV cs[i].1 cs[i].2 hcell (Cols.at hf hci hx0)).by hgr hD'
  refine (hf'.both hy).imp ?_
  rintro w2 ⟨⟨hc1',hc2⟩,hy2⟩
  refine ⟨by simp [hc1'],fun j c2 z hj hz=>?_⟩
  by_cases hij:i = j
  ·subst hij
   rw [List.getElem?_set_self hic] at hj
   rw [List.getElem?_set_self hi] at hz
   cases hj; cases hz
   exact hy2
  ·rw [List.getElem?_set_ne hij] at hj hz
   exact hc2 j c2 z hj hz
theorem grow_appendB {P:Program} {K:VK} (t T:TypeId) (i:TypeInfo) (z:Value) (bytes:Nat) (ht:P.underlying t = some (.slice e)) (hi:P.info? e = some i) (hz:i.zero = some z)
  (hsize:i.size = n) (hby:i.bytes = bytes) (hzs:z.cells.size = n) (hn:0 < n) (hbb:bytes ≤ 256)
  (h:GRow n e V B D w v l) (hB:B ≤ w.heap.size) {b o c:Nat} {x:α} {xs:List Value} (hxl:xs.length = n) (hcell:∀ (j:Nat) (u:Value),xs[j]? = some u → w.cell? ⟨b,o + j,none⟩ = some u) (h1:∀ u ∈ xs,u.oneCell' = true)
  (hx:FP D w (fun w=>V w xs x)) (hD:∀ i,D i → i < w.heap.size ∧ v.ownBlock ≠ some i) (hl:l.length < 274877906944)
  (k:∀ v' w',GRow n e V B D w' v' (l ++ [x]) → w.grownBy w' v.ownBlock → (∀ i,v'.ownBlock = some i → v.ownBlock = some i ∨ w.heap.size ≤ i) → (∀ i,D i → i < w'.heap.size ∧ v'.ownBlock ≠ some i) → K v' w') :
  oM P (.call { callee:=.builtin .append,args:=#[.tmp 0,.tmp 1],argTypes:=#[t,t] }) T [v,.slice (some ⟨b,o,none⟩) 1 c] K w:=by
 obtain ⟨cs,ho,hf⟩:=h.ex
 refine append_at t T e i z n bytes ht hi hz hsize hby hzs hn (owns_base ho (Nat.zero_le _)) xs (by omega) (by simp) ?_ h1 (by simp only [maxLen]; omega) (by have:(l.length + 1) * bytes ≤ 274877906944 * 256:=Nat.mul_le_mul (by omega) hbb; omega) ?_
 ·rintro a ha j u hj
  cases ha
  rw [add_none]
  exact hcell j u hj
 ·intro v' w' ho' hg hv
  have hf':=hf.by hg hD
  refine k v' w' ⟨cs ++ [⟨xs,hxl⟩],?_,?_⟩ hg hv ?_
  ·have e2:flat Cl.cs (cs ++ [(⟨xs,hxl⟩:Cl n)]) = flat Cl.cs cs ++ xs:=by rw [flat_snoc]; rfl
   have e1:(l ++ [x]).length = l.length + 1:=by simp
   rw [e1,e2]
   exact owns_up ho' (fun i hi=>(hv i hi).elim (fun h=>(owns_own ho h).2.1) (fun h=>Nat.le_trans hB h))
  ·have hx':=hx.by hg hD
   refine (hf'.both hx').imp ?_
   rintro w2 ⟨⟨hc1,hc2⟩,hx2⟩
   refine ⟨by simp [hc1],fun i c y hi hy=>?_⟩
   by_cases hlt:i < cs.length
   ·rw [List.getElem?_append_left hlt] at hi
    rw [List.getElem?_append_left (by omega)] at hy
    exact hc2 i c y hi hy
   ·rw [List.getElem?_append_right (by omega)] at hi
    rw [List.getElem?_append_right (by omega)] at hy
    have:i - cs.length = 0:=by
     have:=(gS hi).1
     simp at this
     omega
    rw [this] at hi
    rw [show i - l.length = 0 by omega] at hy
    simp at hi hy
    subst hi; subst hy
    exact hx2
  ·intro i hi
   obtain ⟨h2,h3⟩:=hD i hi
   refine ⟨lL h2 hg.size,fun e=>?_⟩
   rcases hv i e with h4 | h4
   ·exact h3 h4
   ·omega
end
theorem run_loadVar_at {P:Program} {w:World} {b p:Nat} {ty:TypeId} {cs:List Value} {d:TypeDesc} (hc:∀ (j:Nat) (v:Value),cs[j]? = some v → w.cell? ⟨b,p + j,none⟩ = some v)
  (hu:P.underlying ty = some d) (hd:(match d with | .struct _ | .array _ _=>true | _=>false) = true) (hi:(P.info? ty).map (·.size) = some cs.length) :
  (loadVar ty ⟨b,p,none⟩).run P w = .ok (.agg cs.toArray) w:=by
 have hl:(loadCells ⟨b,p,none⟩ cs.length).run P w = .ok cs.toArray w:=
  run_loadCells_list (P:=P) w ⟨b,p,none⟩ cs (fun j v hv=>by rw [add_none]; exact hc j v hv)
 cases hq:P.info? ty with
 | none=>simp [hq] at hi
 | some i=>
  have hs:i.size = cs.length:=by simpa [hq] using hi
  have hagg:(isAgg ty).run P w = .ok true w:=by
   unfold isAgg
   rw [Sem.run_bind,run_underlying hu w]
   cases d <;> simp_all
  simp [loadVar,Sem.run_bind,hagg,sizeOf,typeInfo,hq,hs,hl]
theorem row_load {P:Program} {K:VK} {T T':TypeId} {w:World} {b p:Nat} {cs:List Value} {d:TypeDesc} (hc:∀ (j:Nat) (v:Value),cs[j]? = some v → w.cell? ⟨b,p + j,none⟩ = some v)
  (hu:P.underlying T = some d) (hd:(match d with | .struct _ | .array _ _=>true | _=>false) = true) (hi:(P.info? T).map (·.size) = some cs.length) (k:K (.agg cs.toArray) w) :
  oM P (.load T (.tmp 0)) T' [.pointer (some ⟨b,p,none⟩)] K w:=by
 rw [oM_load]
 have e:(Instr.loadAt T (.pointer (some ⟨b,p,none⟩))).run P w = (loadVar T ⟨b,p,none⟩).run P w:=rfl
 rw [e,run_loadVar_at hc hu hd hi]
 exact k
end Go.Sh
namespace Go.Proofs
open Go.Sh Tryz
variable {a0 a1 a2:Value} {K:VK} {w:World}
def sh_199 (a0:Value) (K:VK) (w:World):Prop:=
 oM prog (.nilCheck (.tmp 0)) 0 [a0] (fun v3=>
 kF 237 0 v3 fun v4=>
 kL 235 v4 fun v5=>
 oM prog (.binOp .eql 235 (.tmp 0) (.const (.pointer none)) 235) 4 [v5] fun v6=>
 kO v6 (oM prog (.convert 235 293 (.tmp 0)) 293 [a0] fun v9 w=>
 extM prog 220 #[v9] (fun v10=>
 oM prog (.convert 293 235 (.tmp 0)) 235 [v10] fun v11=>
 oM prog (.nilCheck (.tmp 0)) 0 [a0] fun v12=>
 kF 237 0 v12 fun v13=>
 kS 235 v13 v11 fun _=>
 K (.tuple #[])) w)
 (oM prog (.nilCheck (.tmp 0)) 0 [a0] fun v15=>
 kF 237 0 v15 fun v16=>
 kL 235 v16 fun v17=>
 kB .neq 235 4 v17 a0 fun v19 w=>
 condM v19
 (False)
 (K (.tuple #[]) w))) w
theorem sh_199_ok (h:sh_199 a0 K w):callM prog 199 #[a0] K w:=
 cZ (fun _=>0) func199 h
def sh_159 (a0 a1:Value) (K:VK) (w:World):Prop:=
 callM prog 199 #[a0] (fun v7=>
 oM prog (.nilCheck (.tmp 0)) 0 [a0] fun v10=>
 kF 237 1 v10 fun v11=>
 kL 202 v11 fun v12=>
 oM prog (.call (Go.Call.mk (.builtin .append) #[(.tmp 0),(.tmp 1)] #[202,9])) 202 [v12,a1] fun v14=>
 oM prog (.nilCheck (.tmp 0)) 0 [a0] fun v15=>
 kF 237 1 v15 fun v16=>
 kS 202 v16 v14 fun _=>
 kN 9 a1 fun v18=>
 K (.tuple #[v18,.nilIface])) w
theorem sh_159_ok (h:sh_159 a0 a1 K w):callM prog 159 #[a0,a1] K w:=
 cZ (fun _=>0) func159 h
def sh_63 (a0:Value) (K:VK) (w:World):Prop:=
 callM prog 113 #[a0] (fun v4=>
 oM prog (.binOp .add 9 (.tmp 0) (.tmp 1) 9) 9 [v4,(.string ⟨#[59]⟩)] fun v5=>
 K v5) w
theorem sh_63_ok (h:sh_63 a0 K w):callM prog 63 #[a0] K w:=
 cZ (fun _=>0) func63 h
def sh_112 (a0 a1:Value) (K:VK) (w:World):Prop:=
 kA 237 (fun v5=>
 kN 22 a0 fun v9=>
 callM prog 113 #[v9] fun v10=>
 oM prog (.binOp .add 9 (.tmp 0) (.tmp 1) 9) 9 [v10,(.string ⟨#[91]⟩)] fun v11=>
 callM prog 159 #[v5,v11] fun v12=>
 kN 22 a0 fun v14=>
 kQ [undef,(.int .i64 0)] fun J_7 m_8 l_9 u_l_9 w0_l_9=>(fun w=>(
 kB .lss 3 0 (l_9.getD 1 undef) v14 (fun v16=>
 kO v16 (kI 22 a0 (l_9.getD 1 undef) fun v17=>
 kL 3 v17 fun v18=>
 oM prog (.call (Go.Call.mk (.value (.tmp 0)) #[(.tmp 1)] #[3])) 9 [a1,v18] fun v21=>
 callM prog 159 #[v5,v21] fun v22=>
 kB .add 3 3 (l_9.getD 1 undef) (.int .i64 1) fun v23=>
 kJ J_7 m_8 l_9 w0_l_9 [v18,v23])
 (callM prog 160 #[v5] fun v24=>
 oM prog (.binOp .add 9 (.tmp 0) (.tmp 1) 9) 9 [v24,(.string ⟨#[93]⟩)] fun v25=>
 K v25)) w)) w0_l_9) w
theorem sh_112_ok (h:sh_112 a0 a1 K w):callM prog 112 #[a0,a1] K w:=
 cZ (fun _=>0) func112 h
def sh_61 (a0:Value) (K:VK) (w:World):Prop:=
 callM prog 112 #[a0,(.func (.func 63) #[] #[])] (fun v4=>
 K v4) w
theorem sh_61_ok (h:sh_61 a0 K w):callM prog 61 #[a0] K w:=
 cZ (fun _=>0) func61 h
def sh_158 (a0 a1:Value) (K:VK) (w:World):Prop:=
 callM prog 114 #[a0,(.int .u8 91),(.int .i64 0)] (fun v8=>
 kQ [(.slice none 0 0),v8] fun J_2 m_3 l_4 u_l_4 w0_l_4=>(fun w=>(
 kB .gtr 3 4 (l_4.getD 1 undef) (.int .i64 0) (fun v10 w=>
 gT v10 (pureM a0) (fun v12 w=>
 gT v10 (oM prog (.nilCheck (.tmp 0)) 0 [v12]) (fun v13 w=>
 gT v10 (kF 191 1 v13) (fun v14 w=>
 gT v10 (kL 4 v14) (fun v15 w=>
 gT v10 (kU v15) (fun v16=>
 kP v10 v16 (.bool false) fun v17=>
 kO v17 (oM prog (.call (Go.Call.mk (.value (.tmp 0)) #[] #[])) 3 [a1] fun v22=>
 oM prog (.buildSlice 22 1 #[(0,(.tmp 0))]) 22 [v22] fun v23=>
 oM prog (.call (Go.Call.mk (.builtin .append) #[(.tmp 0),(.tmp 1)] #[22,22])) 22 [(l_4.getD 0 undef),v23] fun v24=>
 kB .sub 3 3 (l_4.getD 1 undef) (.int .i64 1) fun v19=>
 kJ J_2 m_3 l_4 w0_l_4 [v24,v19])
 (callM prog 116 #[a0,(.string ⟨#[93]⟩)] fun v26=>
 oM prog (.nilCheck (.tmp 0)) 0 [a0] fun v28=>
 kF 191 1 v28 fun v29=>
 kL 4 v29 fun v30=>
 kO v30 (K (.slice none 0 0))
 (K (l_4.getD 0 undef)))) w) w) w) w) w) w)) w0_l_4) w
theorem sh_158_ok (h:sh_158 a0 a1 K w):callM prog 158 #[a0,a1] K w:=
 cZ (fun _=>0) func158 h
def sh_109 (a0:Value) (K:VK) (w:World):Prop:=
 oM prog (.makeFunc (Go.Fn.func 111) #[(.tmp 0)] #[]) 129 [a0] (fun v5=>
 callM prog 158 #[a0,v5] fun v6=>
 K v6) w
theorem sh_109_ok (h:sh_109 a0 K w):callM prog 109 #[a0] K w:=
 cZ (fun _=>0) func109 h
def sh_57 (a0:Value) (K:VK) (w:World):Prop:=
 oM prog (.build 191 #[(0,(.tmp 0))]) 191 [a0] (fun v4=>
 oM prog (.box 191 (.tmp 0)) 118 [v4] fun v5=>
 K v5) w
theorem sh_57_ok (h:sh_57 a0 K w):callM prog 57 #[a0] K w:=
 cZ (fun _=>0) func57 h
def sh_59 (a0:Value) (K:VK) (w:World):Prop:=
 oM prog (.nilCheck (.tmp 0)) 0 [a0] (fun v4=>
 kF 191 1 v4 fun v5=>
 kL 4 v5 fun v6=>
 kU v6 fun v7 w=>
 gT v7 (pureM a0) (fun v9 w=>
 gT v7 (oM prog (.nilCheck (.tmp 0)) 0 [v9]) (fun v10 w=>
 gT v7 (kF 191 0 v10) (fun v11 w=>
 gT v7 (kL 9 v11) (fun v12 w=>
 gT v7 (oM prog (.binOp .eql 9 (.tmp 0) (.const (.string ⟨#[]⟩)) 9) 4 [v12]) (fun v13=>
 kP v7 v13 (.bool false) fun v14=>
 K v14) w) w) w) w) w) w
theorem sh_59_ok (h:sh_59 a0 K w):callM prog 59 #[a0] K w:=
 cZ (fun _=>0) func59 h
def sh_111 (a0:Value) (K:VK) (w:World):Prop:=
 callM prog 114 #[a0,(.int .u8 59),(.int .i64 (-9223372036854775808))] (fun v4=>
 K v4) w
theorem sh_111_ok (h:sh_111 a0 K w):callM prog 111 #[a0] K w:=
 cZ (fun _=>0) func111 h
def sh_114 (a0 a1 a2:Value) (K:VK) (w:World):Prop:=
 quietM w fun C_1=>(oQ prog (.nilCheck (.tmp 0)) 0 [a0] C_1 fun v12=>
 oQ prog (.fieldAddr 191 (.tmp 0) 0) 0 [v12] C_1 fun v13=>
 oQ prog (.load 9 (.tmp 0)) 9 [v13] C_1 fun v14=>
 oQ prog (.nilCheck (.tmp 0)) 0 [a0] C_1 fun v16=>
 oQ prog (.fieldAddr 191 (.tmp 0) 0) 0 [v16] C_1 fun v17=>
 oQ prog (.load 9 (.tmp 0)) 9 [v17] C_1 fun v18=>
 oQ prog (.call (Go.Call.mk (.builtin .len) #[(.tmp 0)] #[9])) 3 [v18] C_1 fun v19=>
 oQ prog (.call (Go.Call.mk (.builtin .min) #[(.tmp 0),(.tmp 1)] #[3,3])) 3 [v19,(.int .i64 21)] C_1 fun v20=>
 oQ prog (.slice 9 (.tmp 0) none (some (.tmp 1)) none) 9 [v14,v20] C_1 fun v21=>
 ∀ w,C_1 w → (callM prog 162 #[v21,a1] (fun v24=>
 kB .lss 3 4 v24 (.int .i64 0) fun v26=>
 kO v26 (callM prog 115 #[a0] fun v28=>
 K (.int .i64 0))
 (oM prog (.slice 9 (.tmp 0) none (some (.tmp 1)) none) 9 [v21,v24] fun v32=>
 callM prog 163 #[v32] fun v33=>
 kE 0 3 v33 fun v34=>
 kE 1 239 v33 fun v35 w=>
 quietM w fun C_18=>(oQ prog (.binOp .neq 239 (.tmp 0) (.const .nilIface) 239) 4 [v35] C_18 fun v37=>
 gdQ (gd v37 false) (pureQ v34) C_18 fun v39=>
 gdQ (gd v37 false) (callQ prog 113 #[v39]) C_18 fun v40=>
 gdQ (gd v37 false) (pureQ v21) C_18 fun v41=>
 gdQ (gd v37 false) (pureQ v24) C_18 fun v42=>
 gdQ (gd v37 false) (oQ prog (.slice 9 (.tmp 0) none (some (.tmp 1)) none) 9 [v41,v42]) C_18 fun v43=>
 gdQ (gd v37 false) (oQ prog (.binOp .neq 9 (.tmp 0) (.tmp 1) 9) 4 [v40,v43]) C_18 fun v44=>
 oQ prog (.pick (.tmp 0) (.tmp 1) (.tmp 2)) 4 [v37,(.bool true),v44] C_18 fun v45=>
 gdQ (gd v45 false) (pureQ v34) C_18 fun v47=>
 gdQ (gd v45 false) (pureQ a2) C_18 fun v48=>
 gdQ (gd v45 false) (oQ prog (.binOp .lss 3 (.tmp 0) (.tmp 1) 3) 4 [v47,v48]) C_18 fun v49=>
 oQ prog (.pick (.tmp 0) (.tmp 1) (.tmp 2)) 4 [v45,(.bool true),v49] C_18 fun v50=>
 ∀ w,C_18 w → (kO v50 (callM prog 115 #[a0] fun v52=>
 K (.int .i64 0))
 (oM prog (.nilCheck (.tmp 0)) 0 [a0] fun v55=>
 kF 191 0 v55 fun v56=>
 kL 9 v56 fun v57=>
 kB .add 3 3 v24 (.int .i64 1) fun v59=>
 oM prog (.slice 9 (.tmp 0) (some (.tmp 1)) none none) 9 [v57,v59] fun v60=>
 oM prog (.nilCheck (.tmp 0)) 0 [a0] fun v61=>
 kF 191 0 v61 fun v62=>
 kS 9 v62 v60 fun _=>
 K v34) w)))) w))
theorem sh_114_ok (h:sh_114 a0 a1 a2 K w):callM prog 114 #[a0,a1,a2] K w:=
 cZ (fun _=>0) func114 h
def sh_116 (a0 a1:Value) (K:VK) (w:World):Prop:=
 oM prog (.nilCheck (.tmp 0)) 0 [a0] (fun v8=>
 kF 191 0 v8 fun v9=>
 kL 9 v9 fun v10=>
 callM prog 131 #[v10,a1] fun v12=>
 kE 0 9 v12 fun v13=>
 kE 1 4 v12 fun v14=>
 oM prog (.nilCheck (.tmp 0)) 0 [a0] fun v17=>
 kF 191 0 v17 fun v18=>
 kS 9 v18 v13 fun _=>
 kU v14 fun v20=>
 kO v20 (callM prog 115 #[a0] fun v22=>
 K (.tuple #[]))
 (K (.tuple #[]))) w
theorem sh_116_ok (h:sh_116 a0 a1 K w):callM prog 116 #[a0,a1] K w:=
 cZ (fun _=>0) func116 h
def sh_115 (a0:Value) (K:VK) (w:World):Prop:=
 oM prog (.nilCheck (.tmp 0)) 0 [a0] (fun v4=>
 kF 191 0 v4 fun v5=>
 oM prog (.store 9 (.tmp 0) (.tmp 1)) 0 [v5,(.string ⟨#[]⟩)] fun _=>
 oM prog (.nilCheck (.tmp 0)) 0 [a0] fun v6=>
 kF 191 1 v6 fun v7=>
 kS 4 v7 (.bool true) fun _=>
 K (.tuple #[])) w
theorem sh_115_ok (h:sh_115 a0 K w):callM prog 115 #[a0] K w:=
 cZ (fun _=>0) func115 h
def sh_64 (a0:Value) (K:VK) (w:World):Prop:=
 kN 9 a0 (fun v4=>
 callM prog 113 #[v4] fun v5=>
 oM prog (.binOp .add 9 (.tmp 0) (.tmp 1) 9) 9 [v5,(.string ⟨#[58]⟩)] fun v6=>
 kB .add 9 9 v6 a0 fun v8=>
 oM prog (.binOp .add 9 (.tmp 0) (.tmp 1) 9) 9 [v8,(.string ⟨#[44]⟩)] fun v9=>
 K v9) w
theorem sh_64_ok (h:sh_64 a0 K w):callM prog 64 #[a0] K w:=
 cZ (fun _=>0) func64 h
def sh_62 (a0:Value) (K:VK) (w:World):Prop:=
 kB .lss 3 4 a0 (.int .i64 0) (fun v4=>
 kO v4 (K (.string ⟨#[]⟩))
 (callM prog 63 #[a0] fun v6=>
 K v6)) w
theorem sh_62_ok (h:sh_62 a0 K w):callM prog 62 #[a0] K w:=
 cZ (fun _=>0) func62 h
def sh_66 (a0:Value) (K:VK) (w:World):Prop:=
 callM prog 114 #[a0,(.int .u8 59),(.int .i64 0)] (fun v4=>
 K v4) w
theorem sh_66_ok (h:sh_66 a0 K w):callM prog 66 #[a0] K w:=
 cZ (fun _=>0) func66 h
def sh_67 (a0:Value) (K:VK) (w:World):Prop:=
 callM prog 114 #[a0,(.int .u8 58),(.int .i64 0)] (fun v6=>
 oM prog (.nilCheck (.tmp 0)) 0 [a0] fun v9=>
 kF 191 0 v9 fun v10=>
 kL 9 v10 fun v11=>
 kN 9 v11 fun v12=>
 kB .gtr 3 4 v6 v12 fun v13=>
 kO v13 (callM prog 115 #[a0] fun v15=>
 K (.string ⟨#[]⟩))
 (oM prog (.nilCheck (.tmp 0)) 0 [a0] fun v17=>
 kF 191 0 v17 fun v18=>
 kL 9 v18 fun v19=>
 oM prog (.slice 9 (.tmp 0) none (some (.tmp 1)) none) 9 [v19,v6] fun v21=>
 oM prog (.nilCheck (.tmp 0)) 0 [a0] fun v24=>
 kF 191 0 v24 fun v25=>
 kL 9 v25 fun v26=>
 oM prog (.slice 9 (.tmp 0) (some (.tmp 1)) none none) 9 [v26,v6] fun v28=>
 oM prog (.nilCheck (.tmp 0)) 0 [a0] fun v29=>
 kF 191 0 v29 fun v30=>
 kS 9 v30 v28 fun _=>
 callM prog 116 #[a0,(.string ⟨#[44]⟩)] fun v32=>
 oM prog (.nilCheck (.tmp 0)) 0 [a0] fun v34=>
 kF 191 1 v34 fun v35=>
 kL 4 v35 fun v36=>
 kO v36 (K (.string ⟨#[]⟩))
 (K v21))) w
theorem sh_67_ok (h:sh_67 a0 K w):callM prog 67 #[a0] K w:=
 cZ (fun _=>0) func67 h
end Go.Proofs
