/- CK: a part of the proof of the seat's statements: lemmas about the given translation and plain laws. No condition of its own. -/
import Derived.Test.YtefjibjojkjiiaaDoorCL4
import Derived.Test.YtefjibjojkjiiaaDoorLawKit
import Derived.Test.YtefjibjojkjiiaaDoorOpenKit2
import Derived.LaidSub
import Derived.Test.YtefjibjojkjiiaaDoorRows
import Derived.Test.YtefjibjojkjiiaaDoorCards
import Derived.Test.YtefjibjojkjiiaaDoorTie
import Derived.SevenTiedAt
set_option linter.all false
namespace Go.Proofs
open Go Go.Sh Go.RowKit Go.Lib CodeSpec Go.ChangeShapes Go.WideShapes Go.ChangeAt
set_option linter.unusedSimpArgs false
set_option maxRecDepth 100000
abbrev laidList : List (String × DataW Unit) := YtefjibjojkjiiaaDoor.Rows.baseWritesRow.laid
abbrev lname (i : Nat) : String := (laidList.map (·.1)).getD i default
theorem var_of_laid {W : World} {nm : String} {d : DataW Unit} (hf : (laidList.filter fun x => x.1 == nm) = [(nm, d)]) (h : laidMetH Tryd.prog laidList W) : laidMet Tryd.prog [(nm, d)] W := by
  rw [MakeChecks.laidMetH_plain _ _ _ (by kernel_rfl)] at h
  have := h.filter (fun x => x.1 == nm)
  rwa [hf] at this
theorem tab_laid {W : World} (h : laidMetH Tryd.prog laidList W) : TabIs Tryd.prog W tabName .u64 pow10Tab :=
  tabIs_of_head (rest := []) (t := 142) (e := 126) (n := 20) gTab (by kernel_rfl) Tryd.underlying142 Tryd.underlying126 (by kernel_rfl) (by kernel_rfl)
    (var_of_laid (d := tabData .u64 pow10Tab) (by kernel_rfl) h)
theorem err_laid {W : World} {nm : String} {x : DataW Unit} {g : Nat} (hg : Tryd.prog.globalNamed nm = some g) (hty : (Tryd.prog.globals[g]?).map (·.type) = some 109) (hf : (laidList.filter fun x => x.1 == nm) = [(nm, x)]) (hx : ∃ nt d, x = .iface nt d) (h : laidMetH Tryd.prog laidList W) :
    ∃ te pe, W.cell? ⟨g, 0, none⟩ = some (.iface te pe) := by
  obtain ⟨nt, d, rfl⟩ := hx
  obtain ⟨ps, ⟨g0, t0, cs0, f0, p0, q0, hg0, ht0, hv0, hd0, _, _⟩, _, _⟩ := var_of_laid hf h
  obtain rfl := Option.some.inj (hg.symm.trans hg0)
  obtain rfl := Option.some.inj (hty.symm.trans ht0)
  obtain ⟨u, y, hcs⟩ := trodIface Tryd.underlying109 hd0
  have := World.var?_cell hg hv0 0
  refine ⟨u, y, ?_⟩
  rw [this]
  have e : cs0[0]? = cs0.toList[0]? := by simp
  rw [e, hcs]; rfl
theorem laid_of {W : World} (h : laidMetH Tryd.prog laidList W) (hW : 6 ≤ W.heap.size) : Laid W :=
  ⟨tab_laid h, err_laid (nm := lname 4) (x := YtefjibjojkjiiaaDoor.Rows.laid_strconv_ErrSyntax) (by kernel_rfl) (by kernel_rfl) (by kernel_rfl) ⟨_, _, rfl⟩ h, err_laid (nm := lname 3) (x := YtefjibjojkjiiaaDoor.Rows.laid_strconv_ErrRange) (by kernel_rfl) (by kernel_rfl) (by kernel_rfl) ⟨_, _, rfl⟩ h, hW⟩
end Go.Proofs
