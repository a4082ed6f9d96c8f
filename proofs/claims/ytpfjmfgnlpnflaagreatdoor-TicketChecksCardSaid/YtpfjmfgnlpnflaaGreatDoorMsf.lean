/- Parts of the proof of the seat's statements (MrP, MrD, MrN, MrY, MrZ): lemmas about the given translation and plain laws. No condition of their own. -/
import Derived.Test.YtpfjmfgnlpnflaaGreatDoorMsb
import Derived.Test.YtpfjmfgnlpnflaaGreatDoorMsc
import Derived.Test.YtpfjmfgnlpnflaaGreatDoorMsd
import Derived.Test.YtpfjmfgnlpnflaaGreatDoorMse
import Derived.Test.YtpfjmfgnlpnflaaGreatDoorMsg
set_option linter.all false
set_option maxRecDepth 100000
namespace Mr
noncomputable def t5 (p q s:Nat):Bool:=@Bool.rec (fun _=>Bool) (@Bool.rec (fun _=>Bool) (@Bool.rec (fun _=>Bool) true (@Bool.rec (fun _=>Bool) true false (pr s)) (pr q)) true (Nat.ble 1152921504606846976 (Nat.mul (Nat.mul p q) (Nat.mul s (Nat.mul s s))))) true (Nat.ble s q)
noncomputable def s5 (p:Nat):Bool:=frc (Nat.add p 24) fun c=>bits (fun y=>frc (Nat.add c (Nat.mul 24 y)) fun q=>bits (fun z=>frc (Nat.add c (Nat.mul 24 z)) fun s=>t5 p q s) 2 (msk 14 4096 p c) 0) 2 (msk 14 4096 p c) 0
noncomputable def r5 (n:Nat):Bool:=@Nat.rec (fun _=>Bool) true (fun i ih=>@Bool.rec (fun _=>Bool) false (frc (Nat.add 41 (Nat.mul 6 i)) fun p=>@Bool.rec (fun _=>Bool) true (s5 p) (pr p)) ih) n
theorem r5_ok:∀ n,r5 n = true → ∀ i,i < n → pr (41 + 6 * i) = true → s5 (41 + 6 * i) = true
 | 0,_,i,hi,_=>by omega
 | n + 1,h,i,hi,hp=>by
  have h:@Bool.rec (fun _=>Bool) false (frc (41 + 6 * n) fun p=>@Bool.rec (fun _=>Bool) true (s5 p) (pr p)) (r5 n) = true:=h
  obtain ⟨h1,h2⟩:=brec h
  by_cases e:i = n
  ·subst e
   rw [frc_eq] at h2
   exact brt h2 hp
  ·exact r5_ok n h1 i (by omega) hp
theorem r5_all:r5 680 = true:=by decide +kernel
theorem no_five {p q s:Nat} (hp:Pr p) (hq:Pr q) (hs:Pr s) (h41:41 ≤ p) (h6:p % 6 = 5) (hpq:p < q) (hqs:q < s) (cq:Ch p q) (cs:Ch p s) (hb:p * q * (s * (s * s)) < 1152921504606846976):False:=by
 have h1:41 * 41 * (s * (s * s)) ≤ p * q * (s * (s * s)):=Nat.mul_le_mul_right _ (Nat.mul_le_mul h41 (by omega))
 have hs2:s < 98000:=by
  apply Classical.byContradiction
  intro hc
  have h2:98000 * (98000 * 98000) ≤ s * (s * s):=Nat.mul_le_mul (by omega) (Nat.mul_le_mul (by omega) (by omega))
  omega
 have hp2:p < 4121:=by
  apply Classical.byContradiction
  intro hc
  have h2:4121 * 4121 * (4121 * (4121 * 4121)) ≤ p * q * (s * (s * s)):=Nat.mul_le_mul (Nat.mul_le_mul (by omega) (by omega)) (Nat.mul_le_mul (by omega) (Nat.mul_le_mul (by omega) (by omega)))
  omega
 have e:41 + 6 * ((p - 41) / 6) = p:=by omega
 have h3:=r5_ok 680 r5_all ((p - 41) / 6) (by omega)
 rw [e] at h3
 have h3:=h3 (pr_ok hp)
 unfold s5 at h3
 rw [frc_eq] at h3
 have hq24:=cq.h24
 have hs24:=cs.h24
 have eq:q = p + 24 + 24 * ((q - p - 24) / 24):=by omega
 have es:s = p + 24 + 24 * ((s - p - 24) / 24):=by omega
 have hy:(q - p - 24) / 24 < 4096:=by omega
 have hz:(s - p - 24) / 24 < 4096:=by omega
 have h4:=bits_bit 2 _ 0 h3 ((q - p - 24) / 24) (msk_bit (by decide) (by decide) hy cq eq)
 rw [Nat.zero_add] at h4
 have h4:frc (p + 24 + 24 * ((q - p - 24) / 24)) (fun q=>bits (fun z=>frc (Nat.add (Nat.add p 24) (Nat.mul 24 z)) fun s=>t5 p q s) 2 (msk 14 4096 p (p + 24)) 0) = true:=h4
 rw [frc_eq,← eq] at h4
 have h5:=bits_bit 2 _ 0 h4 ((s - p - 24) / 24) (msk_bit (by decide) (by decide) hz cs es)
 rw [Nat.zero_add] at h5
 have h5:frc (p + 24 + 24 * ((s - p - 24) / 24)) (fun s=>t5 p q s) = true:=h5
 rw [frc_eq,← es] at h5
 unfold t5 at h5
 have h6:=brf h5 (ble_false hqs)
 have h7:=brf h6 (ble_false hb)
 have h8:=brt (brt h7 (pr_ok hq)) (pr_ok hs)
 exact absurd h8 (by simp)
end Mr
namespace Mr
theorem mod_ne {p r:Nat} (hp:Pr p) (h37:37 < p) (hr:r ∈ Bs):p % r ≠ 0:=fun h=>by
 have h1:=hp.eq_of_dvd (pr_small r hr) (Nat.dvd_of_mod_eq_zero h)
 have:=bs_range r hr
 omega
theorem rs_bs:∀ r ∈ 3 :: Rs,r ∈ Bs:=by decide
theorem odd_of {p:Nat} (hp:Pr p) (h37:37 < p):p % 2 = 1:=by
 have:=mod_ne hp h37 (show 2 ∈ Bs by decide); omega
theorem qr3:∀ x < 3,qr 3 x = true → x ≠ 0 → x = 1:=by decide
section
variable {n d p q u u' w w':Nat}
theorem j_type (hd:d % 2 = 1) (hp:Pr p) (hq:Pr q) (hpn:p ∣ n) (hqn:q ∣ n) (p37:37 < p) (q37:37 < q) (ep:p = 2 * (2 ^ u * w) + 1) (eq:q = 2 * (2 ^ u' * w') + 1)
  (hw:w % 2 = 1) (hw':w' % 2 = 1) (hs:∀ a ∈ Bs,Sp n d a) (hu:u < u'):q % 24 = 1 ∧ ∀ r ∈ Rs,qr r (q % r) = true:=by
 have h1:∀ a ∈ Bs,sg a (q % (4 * a)) = true:=fun a ha=>char_lt hd hp hq hpn hqn p37 q37 ep eq hw hw' ha (hs a ha) hu
 have h4:q % 4 = 1:=by
  have e:2 ^ u' = 2 * 2 ^ (u' - 1):=by rw [← Nat.pow_succ']; congr 1; omega
  rw [e] at eq
  have:2 * (2 * 2 ^ (u' - 1) * w') = 4 * (2 ^ (u' - 1) * w'):=by grind
  omega
 have h2:∀ r ∈ 3 :: Rs,qr r (q % r) = true:=by
  intro r hr
  have h3:=rec_law hr (odd_of hq q37) (mod_ne hq q37 (rs_bs r hr))
  rw [h1 r (rs_bs r hr),h4] at h3
  simpa using h3.symm
 have h5:q % 3 = 1:=qr3 _ (Nat.mod_lt _ (by omega)) (h2 3 (by decide)) (mod_ne hq q37 (by decide))
 have h6:q % 8 = 1:=by
  have h7:=h1 2 (by decide)
  rw [two_ok _ (Nat.mod_lt _ (by omega)) (by have:=odd_of hq q37; omega)] at h7
  simp at h7
  omega
 exact ⟨by omega,fun r hr=>h2 r (List.mem_cons_of_mem _ hr)⟩
theorem i_type (hd:d % 2 = 1) (hp:Pr p) (hq:Pr q) (hpn:p ∣ n) (hqn:q ∣ n) (p37:37 < p) (q37:37 < q) (ep:p = 2 * (2 ^ u * w) + 1) (eq:q = 2 * (2 ^ u * w') + 1)
  (hw:w % 2 = 1) (hw':w' % 2 = 1) (hs:∀ a ∈ Bs,Sp n d a):p % 8 = q % 8 ∧ ∀ r ∈ 3 :: Rs,qr r (p % r) = qr r (q % r):=by
 have h1:∀ a ∈ Bs,sg a (p % (4 * a)) = sg a (q % (4 * a)):=fun a ha=>char_eq hd hp hq hpn hqn p37 q37 ep eq hw hw' ha (hs a ha)
 have h4:p % 4 = q % 4:=by
  cases u with
  | zero=>rw [Nat.pow_zero] at ep eq; omega
  | succ u=>
   have e1:2 * (2 ^ (u + 1) * w) = 4 * (2 ^ u * w):=by rw [Nat.pow_succ]; grind
   have e2:2 * (2 ^ (u + 1) * w') = 4 * (2 ^ u * w'):=by rw [Nat.pow_succ]; grind
   omega
 have op:=odd_of hp p37
 have oq:=odd_of hq q37
 refine ⟨?_,?_⟩
 ·have h7:=h1 2 (by decide)
  rw [two_ok _ (Nat.mod_lt _ (by omega)) (by omega),two_ok _ (Nat.mod_lt _ (by omega)) (by omega)] at h7
  rw [Bool.eq_iff_iff] at h7
  simp at h7
  omega
 ·intro r hr
  have h3:=rec_law hr op (mod_ne hp p37 (rs_bs r hr))
  have h5:=rec_law hr oq (mod_ne hq q37 (rs_bs r hr))
  rw [h1 r (rs_bs r hr),h5,h4] at h3
  revert h3
  cases (q % 4 == 3 && r % 4 == 3) <;> cases qr r (p % r) <;> cases qr r (q % r) <;> simp
end
theorem cube {n q a:Nat} (hq:q % 3 = 1) (hn:n % 3 = 2) (h1:E q ((a:Int) ^ (q - 1)) 1) (h2:E q ((a:Int) ^ (n - 1)) 1):E q ((a:Int) ^ ((q - 1) / 3)) 1:=by
 have e:q - 1 = (q - 1) / 3 * 3:=by omega
 have h3:E q (((a:Int) ^ ((q - 1) / 3)) ^ 3) 1:=by rw [← Int.pow_mul,← e]; exact h1
 have h4:E q (((a:Int) ^ ((q - 1) / 3)) ^ (n - 1)) 1:=by rw [← Int.pow_mul,Nat.mul_comm,Int.pow_mul]; exact h2.one_pow _
 have e2:n - 1 = 3 * (n / 3) + 1:=by omega
 rw [e2,Int.pow_succ,Int.pow_mul] at h4
 have h5:=(h3.one_pow (n / 3)).mul (E.refl q ((a:Int) ^ ((q - 1) / 3)))
 rw [Int.one_mul] at h5
 exact h5.symm.trans h4
end Mr
namespace Mr
theorem no_tri {p q s:Nat} (h:Tri p q s) (h6:p % 6 = 5) (h41:41 ≤ p) (hp:p < 1048576):False:=by
 by_cases g0:p < 59
 ·exact scr_no m0 (by decide +kernel) h (by omega) g0 (by omega)
 by_cases g1:p < 77
 ·exact scr_no m1 (by decide +kernel) h (by omega) g1 (by omega)
 by_cases g2:p < 101
 ·exact scr_no m2 (by decide +kernel) h (by omega) g2 (by omega)
 by_cases g3:p < 131
 ·exact scr_no m3 (by decide +kernel) h (by omega) g3 (by omega)
 by_cases g4:p < 161
 ·exact scr_no m4 (by decide +kernel) h (by omega) g4 (by omega)
 by_cases g5:p < 197
 ·exact scr_no m5 (by decide +kernel) h (by omega) g5 (by omega)
 by_cases g6:p < 245
 ·exact scr_no m6 (by decide +kernel) h (by omega) g6 (by omega)
 by_cases g7:p < 299
 ·exact scr_no m7 (by decide +kernel) h (by omega) g7 (by omega)
 by_cases g8:p < 365
 ·exact scr_no m8 (by decide +kernel) h (by omega) g8 (by omega)
 by_cases g9:p < 443
 ·exact scr_no m9 (by decide +kernel) h (by omega) g9 (by omega)
 by_cases g10:p < 533
 ·exact scr_no m10 (by decide +kernel) h (by omega) g10 (by omega)
 by_cases g11:p < 641
 ·exact scr_no m11 (by decide +kernel) h (by omega) g11 (by omega)
 by_cases g12:p < 773
 ·exact scr_no m12 (by decide +kernel) h (by omega) g12 (by omega)
 by_cases g13:p < 929
 ·exact scr_no m13 (by decide +kernel) h (by omega) g13 (by omega)
 by_cases g14:p < 1115
 ·exact scr_no m14 (by decide +kernel) h (by omega) g14 (by omega)
 by_cases g15:p < 1337
 ·exact scr_no m15 (by decide +kernel) h (by omega) g15 (by omega)
 by_cases g16:p < 1601
 ·exact scr_no m16 (by decide +kernel) h (by omega) g16 (by omega)
 by_cases g17:p < 1913
 ·exact scr_no m17 (by decide +kernel) h (by omega) g17 (by omega)
 by_cases g18:p < 2285
 ·exact scr_no m18 (by decide +kernel) h (by omega) g18 (by omega)
 by_cases g19:p < 2729
 ·exact scr_no m19 (by decide +kernel) h (by omega) g19 (by omega)
 by_cases g20:p < 3257
 ·exact scr_no m20 (by decide +kernel) h (by omega) g20 (by omega)
 by_cases g21:p < 3881
 ·exact scr_no m21 (by decide +kernel) h (by omega) g21 (by omega)
 by_cases g22:p < 4625
 ·exact scr_no m22 (by decide +kernel) h (by omega) g22 (by omega)
 by_cases g23:p < 5513
 ·exact scr_no m23 (by decide +kernel) h (by omega) g23 (by omega)
 by_cases g24:p < 6569
 ·exact scr_no m24 (by decide +kernel) h (by omega) g24 (by omega)
 by_cases g25:p < 7823
 ·exact scr_no m25 (by decide +kernel) h (by omega) g25 (by omega)
 by_cases g26:p < 9317
 ·exact scr_no m26 (by decide +kernel) h (by omega) g26 (by omega)
 by_cases g27:p < 11093
 ·exact scr_no m27 (by decide +kernel) h (by omega) g27 (by omega)
 by_cases g28:p < 13211
 ·exact scr_no m28 (by decide +kernel) h (by omega) g28 (by omega)
 by_cases g29:p < 15731
 ·exact scr_no m29 (by decide +kernel) h (by omega) g29 (by omega)
 by_cases g30:p < 18725
 ·exact scr_no m30 (by decide +kernel) h (by omega) g30 (by omega)
 by_cases g31:p < 22289
 ·exact scr_no m31 (by decide +kernel) h (by omega) g31 (by omega)
 by_cases g32:p < 26531
 ·exact scr_no m32 (by decide +kernel) h (by omega) g32 (by omega)
 by_cases g33:p < 31577
 ·exact scr_no m33 (by decide +kernel) h (by omega) g33 (by omega)
 by_cases g34:p < 37583
 ·exact scr_no m34 (by decide +kernel) h (by omega) g34 (by omega)
 by_cases g35:p < 44729
 ·exact scr_no m35 (by decide +kernel) h (by omega) g35 (by omega)
 by_cases g36:p < 53237
 ·exact scr_no m36 (by decide +kernel) h (by omega) g36 (by omega)
 by_cases g37:p < 63359
 ·exact scr_no m37 (by decide +kernel) h (by omega) g37 (by omega)
 by_cases g38:p < 75359
 ·exact scr_no m38 (by decide +kernel) h (by omega) g38 (by omega)
 by_cases g39:p < 75407
 ·exact scr_no m39 (by decide +kernel) h (by omega) g39 (by omega)
 by_cases g40:p < 87407
 ·exact scr_no m40 (by decide +kernel) h (by omega) g40 (by omega)
 by_cases g41:p < 89741
 ·exact scr_no m41 (by decide +kernel) h (by omega) g41 (by omega)
 by_cases g42:p < 101741
 ·exact scr_no m42 (by decide +kernel) h (by omega) g42 (by omega)
 by_cases g43:p < 106799
 ·exact scr_no m43 (by decide +kernel) h (by omega) g43 (by omega)
 by_cases g44:p < 118799
 ·exact scr_no m44 (by decide +kernel) h (by omega) g44 (by omega)
 by_cases g45:p < 127097
 ·exact scr_no m45 (by decide +kernel) h (by omega) g45 (by omega)
 by_cases g46:p < 139097
 ·exact scr_no m46 (by decide +kernel) h (by omega) g46 (by omega)
 by_cases g47:p < 151097
 ·exact scr_no m47 (by decide +kernel) h (by omega) g47 (by omega)
 by_cases g48:p < 151253
 ·exact scr_no m48 (by decide +kernel) h (by omega) g48 (by omega)
 by_cases g49:p < 163253
 ·exact scr_no m49 (by decide +kernel) h (by omega) g49 (by omega)
 by_cases g50:p < 175253
 ·exact scr_no m50 (by decide +kernel) h (by omega) g50 (by omega)
 by_cases g51:p < 179999
 ·exact scr_no m51 (by decide +kernel) h (by omega) g51 (by omega)
 by_cases g52:p < 191999
 ·exact scr_no m52 (by decide +kernel) h (by omega) g52 (by omega)
 by_cases g53:p < 203999
 ·exact scr_no m53 (by decide +kernel) h (by omega) g53 (by omega)
 by_cases g54:p < 214205
 ·exact scr_no m54 (by decide +kernel) h (by omega) g54 (by omega)
 by_cases g55:p < 226205
 ·exact scr_no m55 (by decide +kernel) h (by omega) g55 (by omega)
 by_cases g56:p < 238205
 ·exact scr_no m56 (by decide +kernel) h (by omega) g56 (by omega)
 by_cases g57:p < 250205
 ·exact scr_no m57 (by decide +kernel) h (by omega) g57 (by omega)
 by_cases g58:p < 254909
 ·exact scr_no m58 (by decide +kernel) h (by omega) g58 (by omega)
 by_cases g59:p < 266909
 ·exact scr_no m59 (by decide +kernel) h (by omega) g59 (by omega)
 by_cases g60:p < 278909
 ·exact scr_no m60 (by decide +kernel) h (by omega) g60 (by omega)
 by_cases g61:p < 290909
 ·exact scr_no m61 (by decide +kernel) h (by omega) g61 (by omega)
 by_cases g62:p < 302909
 ·exact scr_no m62 (by decide +kernel) h (by omega) g62 (by omega)
 by_cases g63:p < 303347
 ·exact scr_no m63 (by decide +kernel) h (by omega) g63 (by omega)
 by_cases g64:p < 315347
 ·exact scr_no m64 (by decide +kernel) h (by omega) g64 (by omega)
 by_cases g65:p < 327347
 ·exact scr_no m65 (by decide +kernel) h (by omega) g65 (by omega)
 by_cases g66:p < 339347
 ·exact scr_no m66 (by decide +kernel) h (by omega) g66 (by omega)
 by_cases g67:p < 351347
 ·exact scr_no m67 (by decide +kernel) h (by omega) g67 (by omega)
 by_cases g68:p < 360989
 ·exact scr_no m68 (by decide +kernel) h (by omega) g68 (by omega)
 by_cases g69:p < 372989
 ·exact scr_no m69 (by decide +kernel) h (by omega) g69 (by omega)
 by_cases g70:p < 384989
 ·exact scr_no m70 (by decide +kernel) h (by omega) g70 (by omega)
 by_cases g71:p < 396989
 ·exact scr_no m71 (by decide +kernel) h (by omega) g71 (by omega)
 by_cases g72:p < 408989
 ·exact scr_no m72 (by decide +kernel) h (by omega) g72 (by omega)
 by_cases g73:p < 420989
 ·exact scr_no m73 (by decide +kernel) h (by omega) g73 (by omega)
 by_cases g74:p < 429587
 ·exact scr_no m74 (by decide +kernel) h (by omega) g74 (by omega)
 by_cases g75:p < 441587
 ·exact scr_no m75 (by decide +kernel) h (by omega) g75 (by omega)
 by_cases g76:p < 453587
 ·exact scr_no m76 (by decide +kernel) h (by omega) g76 (by omega)
 by_cases g77:p < 465587
 ·exact scr_no m77 (by decide +kernel) h (by omega) g77 (by omega)
 by_cases g78:p < 477587
 ·exact scr_no m78 (by decide +kernel) h (by omega) g78 (by omega)
 by_cases g79:p < 489587
 ·exact scr_no m79 (by decide +kernel) h (by omega) g79 (by omega)
 by_cases g80:p < 501587
 ·exact scr_no m80 (by decide +kernel) h (by omega) g80 (by omega)
 by_cases g81:p < 511217
 ·exact scr_no m81 (by decide +kernel) h (by omega) g81 (by omega)
 by_cases g82:p < 523217
 ·exact scr_no m82 (by decide +kernel) h (by omega) g82 (by omega)
 by_cases g83:p < 535217
 ·exact scr_no m83 (by decide +kernel) h (by omega) g83 (by omega)
 by_cases g84:p < 547217
 ·exact scr_no m84 (by decide +kernel) h (by omega) g84 (by omega)
 by_cases g85:p < 559217
 ·exact scr_no m85 (by decide +kernel) h (by omega) g85 (by omega)
 by_cases g86:p < 571217
 ·exact scr_no m86 (by decide +kernel) h (by omega) g86 (by omega)
 by_cases g87:p < 583217
 ·exact scr_no m87 (by decide +kernel) h (by omega) g87 (by omega)
 by_cases g88:p < 595217
 ·exact scr_no m88 (by decide +kernel) h (by omega) g88 (by omega)
 by_cases g89:p < 607217
 ·exact scr_no m89 (by decide +kernel) h (by omega) g89 (by omega)
 by_cases g90:p < 608357
 ·exact scr_no m90 (by decide +kernel) h (by omega) g90 (by omega)
 by_cases g91:p < 620357
 ·exact scr_no m91 (by decide +kernel) h (by omega) g91 (by omega)
 by_cases g92:p < 632357
 ·exact scr_no m92 (by decide +kernel) h (by omega) g92 (by omega)
 by_cases g93:p < 644357
 ·exact scr_no m93 (by decide +kernel) h (by omega) g93 (by omega)
 by_cases g94:p < 656357
 ·exact scr_no m94 (by decide +kernel) h (by omega) g94 (by omega)
 by_cases g95:p < 668357
 ·exact scr_no m95 (by decide +kernel) h (by omega) g95 (by omega)
 by_cases g96:p < 680357
 ·exact scr_no m96 (by decide +kernel) h (by omega) g96 (by omega)
 by_cases g97:p < 692357
 ·exact scr_no m97 (by decide +kernel) h (by omega) g97 (by omega)
 by_cases g98:p < 704357
 ·exact scr_no m98 (by decide +kernel) h (by omega) g98 (by omega)
 by_cases g99:p < 716357
 ·exact scr_no m99 (by decide +kernel) h (by omega) g99 (by omega)
 by_cases g100:p < 723953
 ·exact scr_no m100 (by decide +kernel) h (by omega) g100 (by omega)
 by_cases g101:p < 735953
 ·exact scr_no m101 (by decide +kernel) h (by omega) g101 (by omega)
 by_cases g102:p < 747953
 ·exact scr_no m102 (by decide +kernel) h (by omega) g102 (by omega)
 by_cases g103:p < 759953
 ·exact scr_no m103 (by decide +kernel) h (by omega) g103 (by omega)
 by_cases g104:p < 771953
 ·exact scr_no m104 (by decide +kernel) h (by omega) g104 (by omega)
 by_cases g105:p < 783953
 ·exact scr_no m105 (by decide +kernel) h (by omega) g105 (by omega)
 by_cases g106:p < 795953
 ·exact scr_no m106 (by decide +kernel) h (by omega) g106 (by omega)
 by_cases g107:p < 807953
 ·exact scr_no m107 (by decide +kernel) h (by omega) g107 (by omega)
 by_cases g108:p < 819953
 ·exact scr_no m108 (by decide +kernel) h (by omega) g108 (by omega)
 by_cases g109:p < 831953
 ·exact scr_no m109 (by decide +kernel) h (by omega) g109 (by omega)
 by_cases g110:p < 843953
 ·exact scr_no m110 (by decide +kernel) h (by omega) g110 (by omega)
 by_cases g111:p < 855953
 ·exact scr_no m111 (by decide +kernel) h (by omega) g111 (by omega)
 by_cases g112:p < 861515
 ·exact scr_no m112 (by decide +kernel) h (by omega) g112 (by omega)
 by_cases g113:p < 873515
 ·exact scr_no m113 (by decide +kernel) h (by omega) g113 (by omega)
 by_cases g114:p < 885515
 ·exact scr_no m114 (by decide +kernel) h (by omega) g114 (by omega)
 by_cases g115:p < 897515
 ·exact scr_no m115 (by decide +kernel) h (by omega) g115 (by omega)
 by_cases g116:p < 909515
 ·exact scr_no m116 (by decide +kernel) h (by omega) g116 (by omega)
 by_cases g117:p < 921515
 ·exact scr_no m117 (by decide +kernel) h (by omega) g117 (by omega)
 by_cases g118:p < 933515
 ·exact scr_no m118 (by decide +kernel) h (by omega) g118 (by omega)
 by_cases g119:p < 945515
 ·exact scr_no m119 (by decide +kernel) h (by omega) g119 (by omega)
 by_cases g120:p < 957515
 ·exact scr_no m120 (by decide +kernel) h (by omega) g120 (by omega)
 by_cases g121:p < 969515
 ·exact scr_no m121 (by decide +kernel) h (by omega) g121 (by omega)
 by_cases g122:p < 981515
 ·exact scr_no m122 (by decide +kernel) h (by omega) g122 (by omega)
 by_cases g123:p < 993515
 ·exact scr_no m123 (by decide +kernel) h (by omega) g123 (by omega)
 by_cases g124:p < 1005515
 ·exact scr_no m124 (by decide +kernel) h (by omega) g124 (by omega)
 by_cases g125:p < 1017515
 ·exact scr_no m125 (by decide +kernel) h (by omega) g125 (by omega)
 by_cases g126:p < 1025213
 ·exact scr_no m126 (by decide +kernel) h (by omega) g126 (by omega)
 by_cases g127:p < 1037213
 ·exact scr_no m127 (by decide +kernel) h (by omega) g127 (by omega)
 by_cases g128:p < 1048577
 ·exact scr_no m128 (by decide +kernel) h (by omega) g128 (by omega)
 omega
end Mr
namespace Mr
theorem lift_sq {p:Nat} (hp:Pr p) {x:Int} (h:E p x 1):E (p * p) (x ^ p) 1:=by
 have h1:=quo_cong (E.symm h) p
 have h2:(p:Int) ∣ x * quo x 1 p:=by
  have h3:(p:Int) ∣ x * quo x 1 p - p * x ^ p:=h1
  have h4:(p:Int) ∣ (p:Int) * x ^ p:=Int.dvd_mul_right _ _
  have:=Int.dvd_add h3 h4
  rwa [Int.sub_add_cancel] at this
 have h5:(p:Int) ∣ quo x 1 p:=by
  refine (hp.idvd_mul h2).resolve_left fun h6=>?_
  have h7:(p:Int) ∣ x - 1:=h
  have h8:(p:Int) ∣ 1:=by have:=Int.dvd_sub h6 h7; rwa [show x - (x - 1) = 1 by omega] at this
  have:=hp.1
  have:=Int.le_of_dvd (by omega) h8
  omega
 have e:=quo_mul x 1 p
 rw [Int.one_pow] at e
 obtain ⟨k,hk⟩:=(show (p:Int) ∣ x - 1 from h)
 obtain ⟨l,hl⟩:=h5
 exact ⟨k * l,by rw [e,hk,hl,Int.natCast_mul]; grind⟩
structure Ps (n d:Nat):Prop where
 lt:n < 1152921504606846976
 odd:n % 2 = 1
 three:n % 3 = 2
 big:∀ p,Pr p → p ∣ n → 37 < p
 dodd:d % 2 = 1
 sp:∀ a ∈ Bs,Sp n d a
 fm:∀ a ∈ Bs,E n ((a:Int) ^ (n - 1)) 1
section
variable {n d:Nat} (h:Ps n d)
include h
theorem Ps.p41 {p:Nat} (hp:Pr p) (hd:p ∣ n):41 ≤ p:=by
 have h1:=h.big p hp hd
 have h2:=odd_of hp h1
 have h3:=mod_ne hp h1 (show 3 ∈ Bs by decide)
 omega
theorem Ps.co {p m:Nat} (hp:Pr p) (e:n = p * m) (hm:1 ≤ m):∀ a ∈ Bs,E p ((a:Int) ^ (m - 1)) 1:=by
 intro a ha
 have h37:=h.big p hp ⟨m,e⟩
 have h1:=(h.fm a ha).dvd ⟨m,e⟩
 have h2:=(fermat hp (odd_of hp h37) ha h37).one_pow m
 have e2:n - 1 = (p - 1) * m + (m - 1):=by
  have:=hp.1
  have h3:(p - 1) * m + m = p * m:=by rw [← Nat.succ_mul]; congr 1; omega
  omega
 rw [e2,Int.pow_add,Int.pow_mul] at h1
 have h4:=h2.mul (E.refl p ((a:Int) ^ (m - 1)))
 rw [Int.one_mul] at h4
 exact h4.symm.trans h1
theorem Ps.cof {p m:Nat} (hp:Pr p) (e:n = p * m) (hm:m ≠ 1):41 ≤ m ∧ m % 2 = 1:=by
 have h0:=h.odd
 have hmo:m % 2 = 1:=by
  rcases Nat.mod_two_eq_zero_or_one m with h1 | h1
  ·rw [e,Nat.mul_mod,h1] at h0; simp at h0
  ·exact h1
 obtain ⟨q,hq,hqd⟩:=exists_pr m (by omega)
 have h1:=h.p41 hq (Nat.dvd_trans hqd ⟨p,by rw [e,Nat.mul_comm]⟩)
 have:=Nat.le_of_dvd (by omega) hqd
 exact ⟨by omega,hmo⟩
theorem Ps.top {p m:Nat} (hp:Pr p) (e:n = p * m) (hm:m ≠ 1):p ≤ 51652194050:=by
 apply Classical.byContradiction
 intro hc
 obtain ⟨h1,h2⟩:=h.cof hp e hm
 have h3:=frac_pr (T:=160705) (g:=m - 1) 20 hp (by omega) (by omega) (by omega) (by omega) (h.co hp e (by omega))
 have h4:=cn_160705
 have h5:51652194051 * 22320951 ≤ p * m:=Nat.mul_le_mul (by omega) (by omega)
 have:=h.lt
 omega
theorem Ps.sqf {p c:Nat} (hp:Pr p) (e:n = p * p * c):False:=by
 have h37:=h.big p hp ⟨p * c,by rw [e,Nat.mul_assoc]⟩
 have h41:=h.p41 hp ⟨p * c,by rw [e,Nat.mul_assoc]⟩
 have p2:=odd_of hp h37
 have p3:=mod_ne hp h37 (show 3 ∈ Bs by decide)
 have hc1:c ≠ 1:=by
  rintro rfl
  have:=h.three
  rw [e,Nat.mul_one,Nat.mul_mod] at this
  have h3:p % 3 = 1 ∨ p % 3 = 2:=by omega
  rcases h3 with h3 | h3 <;> rw [h3] at this <;> simp at this
 have e1:n = p * (p * c):=by rw [e,Nat.mul_assoc]
 have hn:=h.odd
 have hc2:c % 2 = 1:=by
  rcases Nat.mod_two_eq_zero_or_one c with h1 | h1
  ·rw [e,Nat.mul_mod,h1] at hn; simp at hn
  ·exact h1
 have hpc:p * c ≠ 1:=by
  have h1:41 * 1 ≤ p * c:=Nat.mul_le_mul h41 (by omega)
  omega
 have h3:∀ a ∈ Bs,E p ((a:Int) ^ (c - 1)) 1:=by
  intro a ha
  have h4:=h.co hp e1 (by have h1:41 * 1 ≤ p * c:=Nat.mul_le_mul h41 (by omega); omega) a ha
  have h5:=(fermat hp p2 ha h37).one_pow c
  have e2:p * c - 1 = (p - 1) * c + (c - 1):=by
   have h6:(p - 1) * c + c = p * c:=by rw [← Nat.succ_mul]; congr 1; omega
   omega
  rw [e2,Int.pow_add,Int.pow_mul] at h4
  have h7:=h5.mul (E.refl p ((a:Int) ^ (c - 1)))
  rw [Int.one_mul] at h7
  exact h7.symm.trans h4
 have hle:p ≤ 4060566:=by
  apply Classical.byContradiction
  intro hc
  have h4:=frac_pr (T:=724) (g:=c - 1) 20 hp (by omega) (by omega) (by omega) (by omega) h3
  have h5:=cn_724
  have h6:4060567 * 4060567 * 100607 ≤ p * p * c:=Nat.mul_le_mul (Nat.mul_le_mul (by omega) (by omega)) (by omega)
  have:=h.lt
  omega
 have h4:∀ a ∈ Bs,E (p * p) ((a:Int) ^ (p - 1)) 1:=by
  intro a ha
  have h5:E (p * p) (((a:Int) ^ (p - 1)) ^ p) 1:=lift_sq hp (fermat hp p2 ha h37)
  have h6:E (p * p) (((a:Int) ^ (p - 1)) ^ (n - 1)) 1:=by
   rw [← Int.pow_mul,Nat.mul_comm (p - 1) (n - 1),Int.pow_mul]
   exact ((h.fm a ha).dvd ⟨c,e⟩).one_pow _
  have h7:=gcd_pow p (n - 1) h5 h6
  have h8:Nat.gcd p (n - 1) = 1:=by
   rcases hp.2 (Nat.gcd p (n - 1)) (Nat.gcd_dvd_left _ _) with h9 | h9
   ·exact h9
   ·exfalso
    have h10:p ∣ n - 1:=h9 ▸ Nat.gcd_dvd_right p (n - 1)
    have h11:p ∣ n:=⟨p * c,e1⟩
    have h12:=Nat.dvd_sub h11 h10
    rw [show n - (n - 1) = 1 by omega] at h12
    have:=Nat.le_of_dvd (by omega) h12
    omega
  rw [h8,show ((a:Int) ^ (p - 1)) ^ 1 = (a:Int) ^ (p - 1) from by rw [Int.pow_succ,Int.pow_zero,Int.one_mul]] at h7
  exact h7
 have k1:41 * 41 ≤ p * p:=Nat.mul_le_mul h41 h41
 have h5:=frac_sq (T:=28) 20 hp p2 (by omega) (by omega) h4
 have c1:=cn_28
 have k2:967 * 967 ≤ p * p:=Nat.mul_le_mul (by omega) (by omega)
 have h6:=frac_sq (T:=362) 20 hp p2 (by omega) (by omega) h4
 have c2:=cn_362
 have k3:41195 * 41195 ≤ p * p:=Nat.mul_le_mul (by omega) (by omega)
 have h7:=frac_sq (T:=23170) 20 hp p2 (by omega) (by omega) h4
 have c3:=cn_23170
 omega
theorem Ps.same {p q m u u' w w':Nat} (hp:Pr p) (hq:Pr q) (hpn:p ∣ n) (e:n = q * m) (hm:m ≠ 1) (ep:p = 2 * (2 ^ u * w) + 1) (eq:q = 2 * (2 ^ u' * w') + 1) (hw:w % 2 = 1) (hw':w' % 2 = 1):¬ u < u':=by
 intro hu
 have hqn:q ∣ n:=⟨m,e⟩
 have p37:=h.big p hp hpn
 have q37:=h.big q hq hqn
 obtain ⟨h1,h2⟩:=j_type h.dodd hp hq hpn hqn p37 q37 ep eq hw hw' h.sp hu
 have h3:=h.top hq e hm
 refine no_j hq h1 h2 (fun r hr=>mod_ne hq q37 (rs_bs r (List.mem_cons_of_mem _ hr))) (by omega) (fun a ha=>?_)
 exact cube (by omega) h.three (fermat hq (odd_of hq q37) ha q37) ((h.fm a ha).dvd hqn)
end
end Mr
namespace Mr
theorem ls_ok:∀ l ∈ Ls,2 ≤ l ∧ ∀ d,d < l + 1 → d ∣ l → d = 1 ∨ d = l:=by decide +kernel
theorem pr_prod {p:Nat} (hp:Pr p):∀ l:List Nat,p ∣ l.foldr (· * ·) 1 → ∃ x ∈ l,p ∣ x
 | [],h=>by have h1:p ∣ 1:=h; have:=hp.1; have:=Nat.le_of_dvd (by omega) h1; omega
 | x :: l,h=>by
  rcases hp.dvd_mul (show p ∣ x * l.foldr (· * ·) 1 from h) with h1 | h1
  ·exact ⟨x,by simp,h1⟩
  ·obtain ⟨y,hy,hd⟩:=pr_prod hp l h1
   exact ⟨y,List.mem_cons_of_mem _ hy,hd⟩
theorem Lp_dvd {p:Nat} (hp:p ≤ 170000000):Lp p ∣ (Ls.foldr (· * ·) 1) ^ 3:=by
 unfold Lp
 repeat' refine ble_cond (P:=fun L=>L ∣ (Ls.foldr (· * ·) 1) ^ 3) (fun h0=>Nat.dvd_of_mod_eq_zero (by decide +kernel)) (fun h0=>?_)
 omega
theorem mem_Ls {l p:Nat} (hl:Pr l) (hp:p ≤ 170000000) (hd:l ∣ Lp p):l ∈ Ls:=by
 have h1:=hl.dvd_pow (Nat.dvd_trans hd (Lp_dvd hp))
 obtain ⟨x,hx,h2⟩:=pr_prod hl Ls h1
 obtain ⟨h3,h4⟩:=ls_ok x hx
 rcases h4 l (by have:=Nat.le_of_dvd (by omega) h2; omega) h2 with h5 | h5
 ·have:=hl.1; omega
 ·exact h5 ▸ hx
theorem rf_mem {p l:Nat}:∀ L:List Nat,@List.rec Nat (fun _=>Bool) true (fun l _ ih=>@Bool.rec (fun _=>Bool) ih (@Bool.rec (fun _=>Bool) false ih (jt p (Nat.div (Nat.sub p 1) l))) (Nat.beq (Nat.mod (Nat.sub p 1) l) 0)) L = true → l ∈ L → (p - 1) % l = 0 → jt p ((p - 1) / l) = true
 | [],_,hm,_=>by simp at hm
 | x :: L,h,hm,h0=>by
  have h:@Bool.rec (fun _=>Bool) (@List.rec Nat (fun _=>Bool) true (fun l _ ih=>@Bool.rec (fun _=>Bool) ih (@Bool.rec (fun _=>Bool) false ih (jt p (Nat.div (Nat.sub p 1) l))) (Nat.beq (Nat.mod (Nat.sub p 1) l) 0)) L) (@Bool.rec (fun _=>Bool) false (@List.rec Nat (fun _=>Bool) true (fun l _ ih=>@Bool.rec (fun _=>Bool) ih (@Bool.rec (fun _=>Bool) false ih (jt p (Nat.div (Nat.sub p 1) l))) (Nat.beq (Nat.mod (Nat.sub p 1) l) 0)) L) (jt p ((p - 1) / x))) (Nat.beq ((p - 1) % x) 0) = true:=h
  rcases List.mem_cons.mp hm with e | hm
  ·subst e
   rw [beq_true h0] at h
   exact (brec h).1
  ·refine rf_mem L ?_ hm h0
   revert h
   cases Nat.beq ((p - 1) % x) 0 with
   | false=>exact id
   | true=>exact fun h=>(brec h).2
theorem Ps.od {n d p u w:Nat} (h:Ps n d) (hp:Pr p) (hd:p ∣ n) (hle:p ≤ 170000000) (p3:p % 3 = 2) (ep:p = 2 ^ (u + 1) * w + 1) (hw:w % 2 = 1) (hv:2 ^ (u + 1) ∣ n - 1):Od p n:=by
 have h37:=h.big p hp hd
 have p2:=odd_of hp h37
 have o1:Nat.gcd (p - 1) (n - 1) ∣ p - 1:=Nat.gcd_dvd_left _ _
 have o2:Nat.gcd (p - 1) (n - 1) ∣ n - 1:=Nat.gcd_dvd_right _ _
 have ho:∀ a ∈ Bs,E p ((a:Int) ^ Nat.gcd (p - 1) (n - 1)) 1:=fun a ha=>gcd_pow _ _ (fermat hp p2 ha h37) ((h.fm a ha).dvd hd)
 have hv2:2 ^ (u + 1) ∣ Nat.gcd (p - 1) (n - 1):=Nat.dvd_gcd ⟨w,by omega⟩ hv
 generalize Nat.gcd (p - 1) (n - 1) = o at o1 o2 ho hv2
 obtain ⟨k,hk⟩:=o1
 have hko:k * o = p - 1:=by rw [Nat.mul_comm]; exact hk.symm
 have o0:0 < o:=Nat.pos_of_ne_zero fun h0=>by subst h0; rw [Nat.mul_zero] at hko; omega
 have oe:o % 2 = 0:=by
  obtain ⟨t,ht⟩:=hv2
  rw [ht,Nat.pow_succ,Nat.mul_assoc,Nat.mul_left_comm,Nat.mul_mod_right]
 have k2:k % 2 = 1:=by
  obtain ⟨t,ht⟩:=hv2
  have h1:2 ^ (u + 1) * (k * t) = 2 ^ (u + 1) * w:=by
   have:k * (2 ^ (u + 1) * t) = 2 ^ (u + 1) * w:=by rw [← ht,hko]; omega
   rw [← this]; grind
  have h2:k * t = w:=Nat.eq_of_mul_eq_mul_left (Nat.two_pow_pos _) h1
  rcases Nat.mod_two_eq_zero_or_one k with h3 | h3
  ·rw [← h2,Nat.mul_mod,h3] at hw; simp at hw
  ·exact h3
 have k3:k % 3 ≠ 0:=by
  intro h1
  have h2:(p - 1) % 3 = 0:=by rw [← hko,Nat.mul_mod,h1]; simp
  omega
 have hL:=Lp_ok h37 hko k2 k3 fun T hT hT2=>frac_pr 20 hp o0 oe hT2 hT ho
 have k0:0 < k:=by omega
 refine ⟨?_,fun hr=>?_⟩
 ·have h1:k ∣ Nat.gcd (p - 1) (Lp p):=Nat.dvd_gcd ⟨o,hko.symm⟩ hL
  have h2:Nat.gcd (p - 1) (Lp p) ∣ p - 1:=Nat.gcd_dvd_left _ _
  show (p - 1) / Nat.gcd (p - 1) (Lp p) ∣ n - 1
  generalize Nat.gcd (p - 1) (Lp p) = g at h1 h2
  obtain ⟨t,ht⟩:=h1
  obtain ⟨s,hs⟩:=h2
  have g0:0 < g:=Nat.pos_of_ne_zero fun h0=>by subst h0; rw [Nat.zero_mul] at hs; omega
  have e1:(p - 1) / g = s:=by rw [hs,Nat.mul_div_cancel_left _ g0]
  have e2:o = t * s:=by
   have:k * o = k * (t * s):=by rw [hko,hs,ht,Nat.mul_assoc]
   exact Nat.eq_of_mul_eq_mul_left k0 this
  rw [e1]
  exact Nat.dvd_trans ⟨t,by rw [e2,Nat.mul_comm]⟩ o2
 ·have h1:k = 1:=by
   apply Classical.byContradiction
   intro hc
   obtain ⟨l,hl,hlk⟩:=exists_pr k (by omega)
   have h2:=mem_Ls hl hle (Nat.dvd_trans hlk hL)
   obtain ⟨t,ht⟩:=hlk
   have h3:p - 1 = l * (t * o):=by rw [← hko,ht,Nat.mul_assoc]
   have h4:=rf_mem Ls hr h2 (by rw [h3,Nat.mul_mod_right])
   have h5:(p - 1) / l = t * o:=by rw [h3,Nat.mul_div_cancel_left _ hl.pos]
   have h6:=jt_ok (q:=p) (e:=(p - 1) / l) hp.1 (fun a ha=>by rw [h5,Nat.mul_comm,Int.pow_mul]; exact (ho a ha).one_pow t)
   rw [h6] at h4
   exact absurd h4 (by simp)
  rw [h1,Nat.one_mul] at hko
  rw [← hko]; exact o2
theorem wv_eq {p u w:Nat} (ep:p = 2 ^ (u + 1) * w + 1) (hw:w % 2 = 1) (hp:p < 1048576):wv p = 2 ^ (u + 2):=by
 have h1:2 ^ (u + 1) ≤ 2 ^ (u + 1) * w:=Nat.le_mul_of_pos_right _ (by omega)
 have hu:u + 1 ≤ 30:=by
  apply Classical.byContradiction
  intro hc
  have:2 ^ 30 ≤ 2 ^ (u + 1):=Nat.pow_le_pow_right (by omega) (by omega)
  omega
 show 2 * Nat.gcd (p - 1) 1073741824 = _
 have e1:p - 1 = 2 ^ (u + 1) * w:=by omega
 have e2:(1073741824:Nat) = 2 ^ (u + 1) * 2 ^ (30 - (u + 1)):=by
  rw [← Nat.pow_add,show u + 1 + (30 - (u + 1)) = 30 by omega]
 have h3:Nat.gcd w (2 ^ (30 - (u + 1))) = 1:=by
  refine Nat.Coprime.pow_right _ ?_
  show Nat.gcd w 2 = 1
  rw [Nat.gcd_comm,Nat.gcd_rec,hw]; rfl
 rw [e1,e2,Nat.gcd_mul_left,h3,Nat.mul_one,← Nat.pow_succ']
theorem half_mod {p u w:Nat} (ep:p = 2 ^ (u + 1) * w + 1) (hw:w % 2 = 1):p % 2 ^ (u + 2) = 2 ^ (u + 1) + 1:=by
 have e:p = 2 ^ (u + 1) + 1 + 2 ^ (u + 2) * (w / 2):=by
  have h1:w = 2 * (w / 2) + 1:=by omega
  have h2:2 ^ (u + 2) = 2 ^ (u + 1) * 2:=Nat.pow_succ _ _
  rw [ep,h2]
  conv=>lhs; rw [h1]
  grind
 rw [e,Nat.add_mul_mod_self_left,Nat.mod_eq_of_lt]
 have:2 ^ (u + 2) = 2 ^ (u + 1) * 2:=Nat.pow_succ _ _
 have:2 ^ (u + 1) = 2 ^ u * 2:=Nat.pow_succ _ _
 have:=Nat.two_pow_pos u
 omega
theorem exists_min {n:Nat} (h2:2 ≤ n):∃ p m,Pr p ∧ n = p * m ∧ ∀ q,Pr q → q ∣ n → p ≤ q:=by
 have key:∀ k,(∃ p,Pr p ∧ p ∣ n ∧ p ≤ k) → ∃ p,Pr p ∧ p ∣ n ∧ ∀ q,Pr q → q ∣ n → p ≤ q:=by
  intro k
  induction k with
  | zero=>intro ⟨p,hp,_,h0⟩; have:=hp.1; omega
  | succ k ih=>
   intro ⟨p,hp,hd,hk⟩
   by_cases hc:∃ q,Pr q ∧ q ∣ n ∧ q ≤ k
   ·exact ih hc
   ·refine ⟨p,hp,hd,fun q hq hqd=>?_⟩
    apply Classical.byContradiction
    intro h3
    exact hc ⟨q,hq,hqd,by omega⟩
 obtain ⟨p,hp,hd⟩:=exists_pr n h2
 obtain ⟨q,hq,⟨m,hm⟩,hmin⟩:=key p ⟨p,hp,hd,Nat.le_refl p⟩
 exact ⟨q,m,hq,hm,hmin⟩
theorem all_one:∀ k:Nat,1 ≤ k → (∀ p,Pr p → p ∣ k → p % 3 = 1) → k % 3 = 1:=by
 intro k
 induction k using Nat.strongRecOn with
 | _ k ih=>
  intro h1 h
  by_cases h2:k = 1
  ·rw [h2]
  ·obtain ⟨p,hp,m,hm⟩:=exists_pr k (by omega)
   have hp2:=hp.1
   have m0:m ≠ 0:=by rintro rfl; omega
   have h3:m < k:=by
    rw [hm]
    have:1 * m < p * m:=Nat.mul_lt_mul_of_pos_right (by omega) (by omega)
    omega
   have h4:=ih m h3 (by omega) fun q hq hqd=>h q hq (Nat.dvd_trans hqd ⟨p,by rw [hm,Nat.mul_comm]⟩)
   rw [hm,Nat.mul_mod,h4,h p hp ⟨m,hm⟩]
theorem qr3':∀ x < 3,∀ y < 3,x ≠ 0 → y ≠ 0 → qr 3 x = qr 3 y → x = y:=by decide
theorem Ps.prime {n d:Nat} (h:Ps n d) (h2:2 ≤ n):Pr n:=by
 apply Classical.byContradiction
 intro hnp
 have co:∀ p m,Pr p → n = p * m → m ≠ 1:=fun p m hp e hm=>hnp (by rw [e,hm,Nat.mul_one]; exact hp)
 have two:∀ p q,Pr p → Pr q → p ∣ n → q ∣ n → ∃ u w w',p = 2 ^ (u + 1) * w + 1 ∧ q = 2 ^ (u + 1) * w' + 1 ∧ w % 2 = 1 ∧ w' % 2 = 1 ∧ Ch p q ∧ p % 3 = q % 3:=by
  intro p q hp hq hpn hqn
  have p37:=h.big p hp hpn
  have q37:=h.big q hq hqn
  have p2:=odd_of hp p37
  have q2:=odd_of hq q37
  obtain ⟨u,w,e1,hw⟩:=exists_odd ((p - 1) / 2) (by omega)
  obtain ⟨u',w',e2,hw'⟩:=exists_odd ((q - 1) / 2) (by omega)
  have ep:p = 2 * (2 ^ u * w) + 1:=by omega
  have eq:q = 2 * (2 ^ u' * w') + 1:=by omega
  obtain ⟨m,hm⟩:=hpn
  obtain ⟨m',hm'⟩:=hqn
  have n1:=h.same hp hq ⟨m,hm⟩ hm' (co q m' hq hm') ep eq hw hw'
  have n2:=h.same hq hp ⟨m',hm'⟩ hm (co p m hp hm) eq ep hw' hw
  have eu:u = u':=by omega
  subst eu
  obtain ⟨h8,hqr⟩:=i_type h.dodd hp hq ⟨m,hm⟩ ⟨m',hm'⟩ p37 q37 ep eq hw hw' h.sp
  have p3:=mod_ne hp p37 (show 3 ∈ Bs by decide)
  have q3:=mod_ne hq q37 (show 3 ∈ Bs by decide)
  have h3:p % 3 = q % 3:=qr3' _ (Nat.mod_lt _ (by omega)) _ (Nat.mod_lt _ (by omega)) p3 q3 (hqr 3 (by decide))
  refine ⟨u,w,w',?_,?_,hw,hw',⟨by omega,fun r hr=>(hqr r (List.mem_cons_of_mem _ hr)).symm,fun r hr=>mod_ne hp p37 (rs_bs r (List.mem_cons_of_mem _ hr)),fun r hr=>mod_ne hq q37 (rs_bs r (List.mem_cons_of_mem _ hr))⟩,h3⟩
  ·rw [ep,Nat.pow_succ']; grind
  ·rw [eq,Nat.pow_succ']; grind
 have mod3:∀ p,Pr p → p ∣ n → p % 3 = 2:=by
  intro p hp hpn
  have p3:=mod_ne hp (h.big p hp hpn) (show 3 ∈ Bs by decide)
  apply Classical.byContradiction
  intro hc
  have h1:=all_one n (by omega) fun q hq hqn=>by
   obtain ⟨_,_,_,_,_,_,_,_,h3⟩:=two p q hp hq hpn hqn
   omega
  have:=h.three
  omega
 have nosq:∀ p c,Pr p → n ≠ p * p * c:=fun p c hp e=>h.sqf hp e
 obtain ⟨p,n1,hp,e1,min1⟩:=exists_min h2
 have hn1:=h.cof hp e1 (co p n1 hp e1)
 obtain ⟨q,n2,hq,e2,min2⟩:=exists_min (n:=n1) (by omega)
 have en2:n = p * q * n2:=by rw [e1,e2,Nat.mul_assoc]
 have qn:q ∣ n:=⟨p * n2,by rw [en2]; grind⟩
 have pn:p ∣ n:=⟨n1,e1⟩
 have pq:p < q:=by
  have h3:=min1 q hq qn
  rcases Nat.lt_or_eq_of_le h3 with h4 | h4
  ·exact h4
  ·exact (nosq p n2 hp (by rw [en2,h4])).elim
 have p3:=mod3 p hp pn
 have q3:=mod3 q hq qn
 have n3:=h.three
 have hn2:n2 ≠ 1:=by
  rintro rfl
  rw [en2,Nat.mul_one,Nat.mul_mod,p3,q3] at n3
  simp at n3
 have hn20:n2 ≠ 0:=by rintro rfl; rw [Nat.mul_zero] at en2; omega
 obtain ⟨s,m3,hs,e3,min3⟩:=exists_min (n:=n2) (by omega)
 have en3:n = p * q * s * m3:=by rw [en2,e3,Nat.mul_assoc (p * q)]
 have sn:s ∣ n:=⟨p * q * m3,by rw [en3]; grind⟩
 have qs:q < s:=by
  have h3:=min2 s hs ⟨q * m3,by rw [e2,e3]; grind⟩
  rcases Nat.lt_or_eq_of_le h3 with h4 | h4
  ·exact h4
  ·exact (nosq q (p * m3) hq (by rw [en3,← h4]; grind)).elim
 have s3:=mod3 s hs sn
 have p41:=h.p41 hp pn
 obtain ⟨u,w,w',ep,eq,hw,hw',cq,_⟩:=two p q hp hq pn qn
 obtain ⟨u2,w2,w2',ep2,es,hw2,hw2',cs,_⟩:=two p s hp hs pn sn
 have p2:=odd_of hp (h.big p hp pn)
 have hm30:m3 ≠ 0:=by rintro rfl; rw [Nat.mul_zero] at en3; omega
 have hlt:=h.lt
 by_cases hm3:m3 = 1
 ·
  rw [hm3,Nat.mul_one] at en3
  have big:p * q * s < 1152921504606846976:=by omega
  have hp20:p < 1048576:=by
   apply Classical.byContradiction
   intro hc
   have h4:1048576 * 1048576 * 1048576 ≤ p * q * s:=Nat.mul_le_mul (Nat.mul_le_mul (by omega) (by omega)) (by omega)
   omega
  have hq17:q ≤ 170000000:=by
   apply Classical.byContradiction
   intro hc
   have h4:41 * 170000001 * 170000001 ≤ p * q * s:=Nat.mul_le_mul (Nat.mul_le_mul (by omega) (by omega)) (by omega)
   omega
  have eu:u2 = u:=by
   have h4:=half_mod ep hw
   have h5:=half_mod ep2 hw2
   rcases Nat.lt_trichotomy u2 u with h6 | h6 | h6
   ·exfalso
    have h7:2 ^ (u + 1) = 2 ^ (u2 + 1) * (2 * 2 ^ (u - u2 - 1)):=by
     rw [← Nat.pow_succ',← Nat.pow_add]; congr 1; omega
    have h8:2 ^ (u2 + 1) * w2 = 2 ^ (u2 + 1) * (2 * (2 ^ (u - u2 - 1) * w)):=by
     have:2 ^ (u2 + 1) * w2 = 2 ^ (u + 1) * w:=by omega
     rw [this,h7]; grind
    have h9:=Nat.eq_of_mul_eq_mul_left (Nat.two_pow_pos _) h8
    omega
   ·exact h6
   ·exfalso
    have h7:2 ^ (u2 + 1) = 2 ^ (u + 1) * (2 * 2 ^ (u2 - u - 1)):=by
     rw [← Nat.pow_succ',← Nat.pow_add]; congr 1; omega
    have h8:2 ^ (u + 1) * w = 2 ^ (u + 1) * (2 * (2 ^ (u2 - u - 1) * w2)):=by
     have:2 ^ (u + 1) * w = 2 ^ (u2 + 1) * w2:=by omega
     rw [this,h7]; grind
    have h9:=Nat.eq_of_mul_eq_mul_left (Nat.two_pow_pos _) h8
    omega
  subst eu
  have hv:2 ^ (u2 + 1) ∣ n - 1:=by
   have h4:∃ t,n = 2 ^ (u2 + 1) * t + 1:=by
    rw [en3,ep,eq,es]
    generalize 2 ^ (u2 + 1) = A
    exact ⟨A * A * w * w' * w2' + A * w * w' + A * w * w2' + A * w' * w2' + w + w' + w2',by grind⟩
   obtain ⟨t,ht⟩:=h4
   exact ⟨t,by omega⟩
  have e4:n = s * (p * q):=by rw [en3,Nat.mul_comm]
  have hpq1:41 * 41 ≤ p * q:=Nat.mul_le_mul p41 (by omega)
  have htop:=h.top hs e4 (by omega)
  refine no_tri (p:=p) (q:=q) (s:=s) ⟨hp,hq,h.big p hp pn,pq,qs,big,cq,cs,en3 ▸ h.od hp pn (by omega) p3 ep hw hv,en3 ▸ h.od hq qn hq17 q3 eq hw' hv,?_,?_,htop⟩ (by omega) p41 hp20
  ·rw [wv_eq ep hw hp20,half_mod ep hw,half_mod eq hw']
  ·have h5:=h.co hs e4 (by omega) 2 (by decide)
   have h6:E s ((2 ^ (p * q - 1):Nat):Int) ((1:Nat):Int):=by rw [Int.natCast_pow]; exact h5
   rw [h6.mod_eq,Nat.mod_eq_of_lt (by have:=hs.1; omega)]
 ·
  obtain ⟨t,m4,ht,e4,min4⟩:=exists_min (n:=m3) (by omega)
  have en4:n = p * q * s * (t * m4):=by rw [en3,e4]
  have tn:t ∣ n:=⟨p * q * s * m4,by rw [en4]; grind⟩
  have st:s < t:=by
   have h3:=min3 t ht ⟨s * m4,by rw [e3,e4]; grind⟩
   rcases Nat.lt_or_eq_of_le h3 with h4 | h4
   ·exact h4
   ·exact (nosq s (p * q * m4) hs (by rw [en4,← h4]; grind)).elim
  have t3:=mod3 t ht tn
  have hm40:m4 ≠ 0:=by rintro rfl; rw [Nat.mul_zero] at e4; omega
  have hm4:m4 ≠ 1:=by
   rintro rfl
   have h5:n = p * q * (s * t):=by rw [en4]; grind
   rw [h5,Nat.mul_mod,Nat.mul_mod p q,Nat.mul_mod s t,p3,q3,s3,t3] at n3
   simp at n3
  obtain ⟨v,hv,hvd⟩:=exists_pr m4 (by omega)
  have h5:=min4 v hv (by rw [e4]; exact Nat.dvd_trans hvd ⟨t,Nat.mul_comm _ _⟩)
  have h6:=Nat.le_of_dvd (by omega) hvd
  have h7:p * q * (s * (s * s)) ≤ n:=by
   have h8:p * q * s * (s * s) ≤ p * q * s * (t * m4):=Nat.mul_le_mul_left _ (Nat.mul_le_mul (by omega) (by omega))
   rw [en4]
   have h9:p * q * (s * (s * s)) = p * q * s * (s * s):=by grind
   omega
  exact no_five hp hq hs p41 (by omega) pq qs cq cs (by omega)
end Mr
