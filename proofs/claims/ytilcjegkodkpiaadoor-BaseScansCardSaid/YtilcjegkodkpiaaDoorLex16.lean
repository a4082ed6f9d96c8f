/- Lex16: a part of the proof of the seat's statements: lemmas about the given translation and plain laws. No condition of its own. -/
import Derived.Test.YtilcjegkodkpiaaDoorLex15
import Derived.Test.YtilcjegkodkpiaaDoorLexLaw3
import Derived.Test.YtilcjegkodkpiaaDoorLawKit
import Derived.Test.YtilcjegkodkpiaaDoorRows
import Derived.Test.YtilcjegkodkpiaaDoorCards
import Derived.Test.YtilcjegkodkpiaaDoorTie
import Derived.SevenTiedAt
set_option linter.all false
namespace Go.Proofs
open Go Go.Sh Go.RowKit Go.Lib LexSpec Go.ChangeShapes Go.WideShapes Go.ChangeAt
abbrev signsList : List (String × DataW Unit) := YtilcjegkodkpiaaDoor.Rows.baseTokensRow.laid
abbrev signsName : String := (signsList.map (·.1)).getD 0 default
theorem gSigns : Tryd.prog.globalNamed signsName = some 0 := by kernel_rfl
theorem tSigns : (Tryd.prog.globals[0]?).map (·.type) = some 50 := by kernel_rfl
theorem signsLits {H : Type} : (YtilcjegkodkpiaaDoor.Rows.laid_cloak_base_signs : DataW H) = .agg (signs.map fun s => .lit (.string s)) := rfl
theorem cells9 : Tryd.prog.cellsOf 9 = 1 := by kernel_rfl
theorem cells50 : Tryd.prog.cellsOf 50 = 19 := by kernel_rfl
theorem signs_of_laid {W : World} (h : laidMetH Tryd.prog signsList W) : signsLaid W := by
  rw [MakeChecks.laidMetH_plain _ _ _ (by kernel_rfl)] at h
  obtain ⟨ps, ⟨g0, t0, cs0, f0, p0, q0, hg0, ht0, hv0, hd0, _, _⟩, _, _⟩ := h
  obtain rfl := Option.some.inj (gSigns.symm.trans hg0)
  obtain rfl := Option.some.inj (tSigns.symm.trans ht0)
  obtain ⟨xs, m1, rfl, hx1, hlen, hn, hel⟩ := DataW.trod_array Tryd.underlying50 hd0
  simp only [Prod.mk.injEq] at hx1
  rw [signsLits, DataW.agg.injEq] at hx1
  rw [cells50] at hlen
  have hcs : cs0 = signArr := by
    apply Array.ext'
    apply List.ext_getElem?
    intro i
    by_cases hi : i < 19
    · have he := hel i hi
      rw [cells9] at he
      have hxi : i < xs.length := by omega
      have hci : i < cs0.toList.length := by omega
      rw [List.getElem?_eq_getElem hxi, Nat.mul_one] at he
      have hd1 : (cs0.toList.drop i).take 1 = [cs0.toList[i]] := by
        rw [List.drop_eq_getElem_cons hci]; rfl
      rw [hd1] at he
      obtain ⟨s, hs1, hs2, _⟩ := DataW.trod_string Tryd.underlying9 he
      have hmap := congrArg (fun l => l[i]?) hx1.1
      simp only [List.getElem?_map, List.getElem?_eq_getElem hxi, Option.map_some] at hmap
      rw [hs2] at hmap
      have hsi : i < signs.length := hi
      rw [List.getElem?_eq_getElem hsi, Option.map_some, Option.some.injEq] at hmap
      simp only [DataW.lit.injEq, Lit.string.injEq] at hmap
      rw [List.getElem?_eq_getElem hci]
      have : signArr.toList[i]? = some (Value.string ⟨signs[i].toArray⟩) := by
        unfold signArr
        rw [List.getElem?_map, List.getElem?_eq_getElem hsi]; rfl
      rw [this]
      simp only [List.cons.injEq, and_true] at hs1
      rw [hs1, hmap]
    · rw [List.getElem?_eq_none (by omega), List.getElem?_eq_none (by show 19 ≤ i; omega)]
  rw [hcs] at hv0
  unfold World.var? at hv0
  rw [show _ = _ from hg0] at hv0
  simp only [Option.bind_some] at hv0
  split at hv0
  · rename_i cs t f hh
    cases hv0
    exact ⟨t, f, hh⟩
  · cases hv0
theorem own : ownKnob Tryd.prog.godebug = none := by kernel_rfl
theorem laidOut : laidOutB Tryd.prog = true := by kernel_rfl
theorem door_met (os : Os) (args : Array Value) : laidMetH Tryd.prog signsList ((World.doorLaid Tryd.prog 400 os).forCall (fun _ _ => 0) ⟨#[], args, []⟩).memory :=
  laidMetH_of_parts3 (fuel := 8) (laidMet_of_run' 8 (by kernel_rfl) (by kernel_rfl)) (by kernel_rfl) (by kernel_rfl)
set_option maxRecDepth 100000 in
theorem tokens_lifted (os : Os) (started : os.Started) (H : Type) (enc : TypeId × Value → H) :
    ReturnsInHanded {} Tryd.checked os 3 .any (fun w args => (YtilcjegkodkpiaaDoor.Rows.baseTokensSpec.pre enc Tryd.prog Tryd.f3 [] false w args ∧ laidMetH Tryd.prog signsList w) ∧ sizedMet enc Tryd.prog Tryd.f3 (OpenSpec.ofChange YtilcjegkodkpiaaDoor.Rows.baseTokensSpec) false w args)
      (YtilcjegkodkpiaaDoor.Rows.baseTokensSpec.post enc Tryd.prog Tryd.f3 false true false false) := by
  refine law_lifted_laid (C := Tryd.checked) (tb := 4) own started (by kernel_rfl) Tryd.func3 laidOut rfl Tryd.underlying4 (by kernel_rfl) rfl (fun ds h => by
      rw [Tryd.params3] at h
      match ds, h with
      | [d], _ => rfl)
    (ChangeSpec.witness_shaped (enc := enc) (C := Tryd.checked) (os := os) (X := fun w _ => laidMetH Tryd.prog signsList w) false (World.doorLaid Tryd.prog 400 os) #[.string ByteArray.empty] 8 rfl (World.shaped_of_RefB (by kernel_rfl) (by kernel_rfl)) (by kernel_rfl) (by kernel_rfl) (by kernel_rfl) (door_met os _)) ?_
  intro W base args ds p hval hA hsz hlt hL
  rw [Tryd.params3] at hA hval hsz
  have hl := signs_of_laid hL
  have hw : 0 < W.heap.size := by obtain ⟨t, f, h⟩ := hl; exact (Array.getElem?_eq_some_iff.1 h).1
  obtain ⟨v0, d0, rfl, rfl, h0⟩ := trodL1 hA
  obtain ⟨s, rfl, rfl, rfl, ws⟩ := ChangeMaps.open_string Tryd.underlying9 (hval 0 9 v0 rfl rfl) h0
  have hreach : s.size ≤ 140737488351232 := by
    have := sized_string hsz (j := 0) (t := 9) rfl rfl
    simpa [reachBytes] using this
  exact law3_ok tokensLaw s (by omega) hl hw (fun w' hb => ⟨rfl, hb⟩)
theorem tokens_holds : YtilcjegkodkpiaaDoor.Rows.BaseTokensSaid :=
  OpenClaim.holds_of_wide 3 Tryd.f3 rfl rfl rfl rfl rfl rfl rfl ⟨rfl, rfl, rfl, rfl, rfl⟩ rfl rfl rfl rfl rfl (by kernel_rfl) Tryd.func3 (by kernel_rfl)
    (of_decide_eq_true (by kernel_rfl)) (by unfold Func.isWrapper; first | (rw [if_pos (by decide +kernel)]; kernel_rfl) | (rw [if_neg (by decide +kernel)]; exact ⟨rfl, rfl⟩))
    (fun os started H enc _ => tokens_lifted os started H enc)
namespace YtilcjegkodkpiaaDoor
theorem tokens_card : Rows.BaseTokensCardSaid :=
  Claim7.holds_tied_plain_at .later [] [.data] true Rows.baseTokensCard.stood.harness false
    tokens_holds (fun _ h => by cases h) (by kernel_rfl) (fun _ h => by cases h) baseTokens_row_tie rfl ⟨rfl, rfl⟩ (by kernel_rfl) rfl
    (fun f fn hf hfn => by
      obtain rfl : f = 3 := Option.some.inj ((show Tryd.prog.funcNamed Tryd.f3.name = some 3 by kernel_rfl).symm.trans hf) |>.symm
      obtain rfl : fn = Tryd.f3 := (Option.some.inj (Tryd.func3.symm.trans hfn)).symm
      exact ⟨by kernel_rfl, fun j t ht => by
        rw [Tryd.params3] at ht
        have hm : t ∈ [9] := by simpa using Array.mem_of_getElem? ht
        have hall : ([9].all fun u => !Tryd.prog.wantsStandIn u) = true := by kernel_rfl
        exact (show Tryd.prog.wantsStandIn t = false by simpa using List.all_eq_true.1 hall t hm)⟩)
    (by kernel_rfl)
#print axioms tokens_card
end YtilcjegkodkpiaaDoor
end Go.Proofs
