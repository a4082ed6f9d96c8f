/- Parts of the proof of the seat's statements (MrJa): lemmas about the given translation and plain laws. No condition of their own. -/
import Derived.Test.YtpfjmfgnlpnflaaGreatDoorMsa
set_option linter.all false
set_option maxRecDepth 100000
namespace Mr
theorem jt0:jr 0 250 = true:=by decide +kernel
theorem jt1:jr 250 250 = true:=by decide +kernel
theorem jt2:jr 500 250 = true:=by decide +kernel
theorem jt3:jr 750 250 = true:=by decide +kernel
theorem jt4:jr 1000 250 = true:=by decide +kernel
theorem jt5:jr 1250 250 = true:=by decide +kernel
theorem jt6:jr 1500 250 = true:=by decide +kernel
theorem jt7:jr 1750 250 = true:=by decide +kernel
theorem jt8:jr 2000 250 = true:=by decide +kernel
theorem jt9:jr 2250 250 = true:=by decide +kernel
theorem jt10:jr 2500 250 = true:=by decide +kernel
theorem jt11:jr 2750 250 = true:=by decide +kernel
theorem jt12:jr 3000 250 = true:=by decide +kernel
theorem jt13:jr 3250 250 = true:=by decide +kernel
theorem jt14:jr 3500 250 = true:=by decide +kernel
theorem jt15:jr 3750 250 = true:=by decide +kernel
theorem jt16:jr 4000 250 = true:=by decide +kernel
theorem jt17:jr 4250 250 = true:=by decide +kernel
theorem jt18:jr 4500 250 = true:=by decide +kernel
theorem jt19:jr 4750 250 = true:=by decide +kernel
theorem jt20:jr 5000 250 = true:=by decide +kernel
noncomputable def sj (q:Nat):Bool:=Nat.ble q 1 || ((dl 72).any fun d=>Nat.ble 2 d && (Nat.ble (d + 1) q && Nat.beq (q % d) 0)) || !(Rs.all fun r=>qn r (q % r))
theorem sj_all:(dl 210).all (fun k=>sj (24 * k + 1)) = true:=by decide +kernel
theorem no_small {q:Nat} (hq:Pr q) (h24:q % 24 = 1) (hr:∀ r ∈ Rs,qr r (q % r) = true) (h0:∀ r ∈ Rs,q % r ≠ 0) (h5:q ≤ 5000):False:=by
 have h2:=hq.1
 have h:=List.all_eq_true.mp sj_all (q / 24) (mem_dl.mpr ⟨by omega,by omega⟩)
 rw [show 24 * (q / 24) + 1 = q by omega] at h
 unfold sj at h
 simp only [Bool.or_eq_true] at h
 rcases h with (h | h) | h
 ·have:=Nat.le_of_ble_eq_true h; omega
 ·obtain ⟨d,_,hd⟩:=List.any_eq_true.mp h
  simp only [Bool.and_eq_true] at hd
  have h3:=Nat.le_of_ble_eq_true hd.1
  have h4:=Nat.le_of_ble_eq_true hd.2.1
  rcases hq.2 d (Nat.dvd_of_mod_eq_zero (Nat.eq_of_beq_eq_true hd.2.2)) with h6 | h6 <;> omega
 ·have:(Rs.all fun r=>qn r (q % r)) = true:=List.all_eq_true.mpr fun r hr1=>qn_ok (h0 r hr1) (hr r hr1)
  rw [this] at h
  exact absurd h (by simp)
theorem no_j {q:Nat} (hq:Pr q) (h24:q % 24 = 1) (hr:∀ r ∈ Rs,qr r (q % r) = true) (h0:∀ r ∈ Rs,q % r ≠ 0) (hlt:q < 51652194051) (hc:∀ a ∈ Bs,E q ((a:Int) ^ ((q - 1) / 3)) 1):False:=by
 by_cases h5:q ≤ 5000
 ·exact no_small hq h24 hr h0 h5
 ·have h5:5000 < q:=by omega
  have ht:q % 120120 / 24 < 5005:=by omega
  by_cases g0:q % 120120 / 24 < 250
  ·exact jr_no jt0 hq h24 hr h0 h5 hlt hc (by omega) (by omega)
  by_cases g1:q % 120120 / 24 < 500
  ·exact jr_no jt1 hq h24 hr h0 h5 hlt hc (by omega) (by omega)
  by_cases g2:q % 120120 / 24 < 750
  ·exact jr_no jt2 hq h24 hr h0 h5 hlt hc (by omega) (by omega)
  by_cases g3:q % 120120 / 24 < 1000
  ·exact jr_no jt3 hq h24 hr h0 h5 hlt hc (by omega) (by omega)
  by_cases g4:q % 120120 / 24 < 1250
  ·exact jr_no jt4 hq h24 hr h0 h5 hlt hc (by omega) (by omega)
  by_cases g5:q % 120120 / 24 < 1500
  ·exact jr_no jt5 hq h24 hr h0 h5 hlt hc (by omega) (by omega)
  by_cases g6:q % 120120 / 24 < 1750
  ·exact jr_no jt6 hq h24 hr h0 h5 hlt hc (by omega) (by omega)
  by_cases g7:q % 120120 / 24 < 2000
  ·exact jr_no jt7 hq h24 hr h0 h5 hlt hc (by omega) (by omega)
  by_cases g8:q % 120120 / 24 < 2250
  ·exact jr_no jt8 hq h24 hr h0 h5 hlt hc (by omega) (by omega)
  by_cases g9:q % 120120 / 24 < 2500
  ·exact jr_no jt9 hq h24 hr h0 h5 hlt hc (by omega) (by omega)
  by_cases g10:q % 120120 / 24 < 2750
  ·exact jr_no jt10 hq h24 hr h0 h5 hlt hc (by omega) (by omega)
  by_cases g11:q % 120120 / 24 < 3000
  ·exact jr_no jt11 hq h24 hr h0 h5 hlt hc (by omega) (by omega)
  by_cases g12:q % 120120 / 24 < 3250
  ·exact jr_no jt12 hq h24 hr h0 h5 hlt hc (by omega) (by omega)
  by_cases g13:q % 120120 / 24 < 3500
  ·exact jr_no jt13 hq h24 hr h0 h5 hlt hc (by omega) (by omega)
  by_cases g14:q % 120120 / 24 < 3750
  ·exact jr_no jt14 hq h24 hr h0 h5 hlt hc (by omega) (by omega)
  by_cases g15:q % 120120 / 24 < 4000
  ·exact jr_no jt15 hq h24 hr h0 h5 hlt hc (by omega) (by omega)
  by_cases g16:q % 120120 / 24 < 4250
  ·exact jr_no jt16 hq h24 hr h0 h5 hlt hc (by omega) (by omega)
  by_cases g17:q % 120120 / 24 < 4500
  ·exact jr_no jt17 hq h24 hr h0 h5 hlt hc (by omega) (by omega)
  by_cases g18:q % 120120 / 24 < 4750
  ·exact jr_no jt18 hq h24 hr h0 h5 hlt hc (by omega) (by omega)
  by_cases g19:q % 120120 / 24 < 5000
  ·exact jr_no jt19 hq h24 hr h0 h5 hlt hc (by omega) (by omega)
  by_cases g20:q % 120120 / 24 < 5250
  ·exact jr_no jt20 hq h24 hr h0 h5 hlt hc (by omega) (by omega)
  omega
end Mr
