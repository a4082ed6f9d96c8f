/- Parts of the proof of the seat's statements (MrM2): lemmas about the given translation and plain laws. No condition of their own. -/
import Derived.Test.YtpfjmfgnlpnflaaGreatDoorMsa
set_option linter.all false
set_option maxRecDepth 100000
namespace Mr
theorem m41:scr 87407 389 16 159782 8 = true:=by decide +kernel
theorem m42:scr 89741 2000 16 145607 8 = true:=by decide +kernel
theorem m43:scr 101741 843 16 145607 8 = true:=by decide +kernel
theorem m44:scr 106799 2000 16 132451 8 = true:=by decide +kernel
theorem m45:scr 118799 1383 16 132451 8 = true:=by decide +kernel
theorem m46:scr 127097 2000 16 120198 7 = true:=by decide +kernel
theorem m47:scr 139097 2000 16 120198 7 = true:=by decide +kernel
theorem m48:scr 151097 26 16 120198 7 = true:=by decide +kernel
theorem m49:scr 151253 2000 16 108735 7 = true:=by decide +kernel
theorem m50:scr 163253 2000 16 108735 7 = true:=by decide +kernel
theorem m51:scr 175253 791 16 108735 7 = true:=by decide +kernel
theorem m52:scr 179999 2000 15 97952 7 = true:=by decide +kernel
theorem m53:scr 191999 2000 15 97952 7 = true:=by decide +kernel
theorem m54:scr 203999 1701 15 97952 7 = true:=by decide +kernel
theorem m55:scr 214205 2000 15 87741 7 = true:=by decide +kernel
theorem m56:scr 226205 2000 15 87741 7 = true:=by decide +kernel
theorem m57:scr 238205 2000 15 87741 7 = true:=by decide +kernel
theorem m58:scr 250205 784 15 87741 7 = true:=by decide +kernel
theorem m59:scr 254909 2000 15 77992 7 = true:=by decide +kernel
theorem m60:scr 266909 2000 15 77992 7 = true:=by decide +kernel
end Mr
