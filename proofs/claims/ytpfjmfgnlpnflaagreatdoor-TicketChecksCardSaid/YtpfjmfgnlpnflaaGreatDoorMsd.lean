/- Parts of the proof of the seat's statements (MrM3): lemmas about the given translation and plain laws. No condition of their own. -/
import Derived.Test.YtpfjmfgnlpnflaaGreatDoorMsa
set_option linter.all false
set_option maxRecDepth 100000
namespace Mr
theorem m61:scr 278909 2000 15 77992 7 = true:=by decide +kernel
theorem m62:scr 290909 2000 15 77992 7 = true:=by decide +kernel
theorem m63:scr 302909 73 15 77992 7 = true:=by decide +kernel
theorem m64:scr 303347 2000 15 68591 7 = true:=by decide +kernel
theorem m65:scr 315347 2000 15 68591 7 = true:=by decide +kernel
theorem m66:scr 327347 2000 15 68591 7 = true:=by decide +kernel
theorem m67:scr 339347 2000 15 68591 7 = true:=by decide +kernel
theorem m68:scr 351347 1607 15 68591 7 = true:=by decide +kernel
theorem m69:scr 360989 2000 15 59422 6 = true:=by decide +kernel
theorem m70:scr 372989 2000 15 59422 6 = true:=by decide +kernel
theorem m71:scr 384989 2000 15 59422 6 = true:=by decide +kernel
theorem m72:scr 396989 2000 15 59422 6 = true:=by decide +kernel
theorem m73:scr 408989 2000 15 59422 6 = true:=by decide +kernel
theorem m74:scr 420989 1433 15 59422 6 = true:=by decide +kernel
theorem m75:scr 429587 2000 15 50361 6 = true:=by decide +kernel
theorem m76:scr 441587 2000 15 50361 6 = true:=by decide +kernel
theorem m77:scr 453587 2000 15 50361 6 = true:=by decide +kernel
theorem m78:scr 465587 2000 15 50361 6 = true:=by decide +kernel
theorem m79:scr 477587 2000 15 50361 6 = true:=by decide +kernel
theorem m80:scr 489587 2000 15 50361 6 = true:=by decide +kernel
theorem m81:scr 501587 1605 15 50361 6 = true:=by decide +kernel
theorem m82:scr 511217 2000 15 41273 6 = true:=by decide +kernel
theorem m83:scr 523217 2000 15 41273 6 = true:=by decide +kernel
theorem m84:scr 535217 2000 15 41273 6 = true:=by decide +kernel
theorem m85:scr 547217 2000 15 41273 6 = true:=by decide +kernel
theorem m86:scr 559217 2000 15 41273 6 = true:=by decide +kernel
theorem m87:scr 571217 2000 15 41273 6 = true:=by decide +kernel
end Mr
