/- Parts of the proof of the seat's statements (MrM1): lemmas about the given translation and plain laws. No condition of their own. -/
import Derived.Test.YtpfjmfgnlpnflaaGreatDoorMsa
set_option linter.all false
set_option maxRecDepth 100000
namespace Mr
theorem m0:scr 41 3 21 6987095 13 = true:=by decide +kernel
theorem m1:scr 59 3 21 5824551 13 = true:=by decide +kernel
theorem m2:scr 77 4 21 5098507 13 = true:=by decide +kernel
theorem m3:scr 101 5 21 4451717 13 = true:=by decide +kernel
theorem m4:scr 131 5 20 3908881 12 = true:=by decide +kernel
theorem m5:scr 161 6 20 3525940 12 = true:=by decide +kernel
theorem m6:scr 197 8 20 3187531 12 = true:=by decide +kernel
theorem m7:scr 245 9 20 2858276 12 = true:=by decide +kernel
theorem m8:scr 299 11 20 2587325 12 = true:=by decide +kernel
theorem m9:scr 365 13 20 2341744 12 = true:=by decide +kernel
theorem m10:scr 443 15 19 2125608 12 = true:=by decide +kernel
theorem m11:scr 533 18 19 1937850 11 = true:=by decide +kernel
theorem m12:scr 641 22 19 1767068 11 = true:=by decide +kernel
theorem m13:scr 773 26 19 1609127 11 = true:=by decide +kernel
theorem m14:scr 929 31 19 1467809 11 = true:=by decide +kernel
theorem m15:scr 1115 37 19 1339789 11 = true:=by decide +kernel
theorem m16:scr 1337 44 19 1223498 11 = true:=by decide +kernel
theorem m17:scr 1601 52 19 1118065 11 = true:=by decide +kernel
theorem m18:scr 1913 62 18 1022816 10 = true:=by decide +kernel
theorem m19:scr 2285 74 18 935840 10 = true:=by decide +kernel
theorem m20:scr 2729 88 18 856307 10 = true:=by decide +kernel
theorem m21:scr 3257 104 18 783799 10 = true:=by decide +kernel
theorem m22:scr 3881 124 18 717992 10 = true:=by decide +kernel
theorem m23:scr 4625 148 18 657667 10 = true:=by decide +kernel
theorem m24:scr 5513 176 18 602323 10 = true:=by decide +kernel
theorem m25:scr 6569 209 18 551727 10 = true:=by decide +kernel
theorem m26:scr 7823 249 17 505501 9 = true:=by decide +kernel
theorem m27:scr 9317 296 17 463113 9 = true:=by decide +kernel
theorem m28:scr 11093 353 17 424318 9 = true:=by decide +kernel
theorem m29:scr 13211 420 17 388693 9 = true:=by decide +kernel
theorem m30:scr 15731 499 17 356051 9 = true:=by decide +kernel
theorem m31:scr 18725 594 17 326168 9 = true:=by decide +kernel
theorem m32:scr 22289 707 17 298742 9 = true:=by decide +kernel
theorem m33:scr 26531 841 17 273565 9 = true:=by decide +kernel
theorem m34:scr 31577 1001 17 250454 8 = true:=by decide +kernel
theorem m35:scr 37583 1191 16 229212 8 = true:=by decide +kernel
theorem m36:scr 44729 1418 16 209678 8 = true:=by decide +kernel
theorem m37:scr 53237 1687 16 191684 8 = true:=by decide +kernel
theorem m38:scr 63359 2000 16 175100 8 = true:=by decide +kernel
theorem m39:scr 75359 8 16 175100 8 = true:=by decide +kernel
theorem m40:scr 75407 2000 16 159782 8 = true:=by decide +kernel
end Mr
