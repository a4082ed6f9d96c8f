/- Parts of the proof of the seat's statements (MrM4): lemmas about the given translation and plain laws. No condition of their own. -/
import Derived.Test.YtpfjmfgnlpnflaaGreatDoorMsa
set_option linter.all false
set_option maxRecDepth 100000
namespace Mr
theorem m88:scr 583217 2000 15 41273 6 = true:=by decide +kernel
theorem m89:scr 595217 2000 15 41273 6 = true:=by decide +kernel
theorem m90:scr 607217 190 15 41273 6 = true:=by decide +kernel
theorem m91:scr 608357 2000 14 32012 5 = true:=by decide +kernel
theorem m92:scr 620357 2000 14 32012 5 = true:=by decide +kernel
theorem m93:scr 632357 2000 14 32012 5 = true:=by decide +kernel
theorem m94:scr 644357 2000 14 32012 5 = true:=by decide +kernel
theorem m95:scr 656357 2000 14 32012 5 = true:=by decide +kernel
theorem m96:scr 668357 2000 14 32012 5 = true:=by decide +kernel
theorem m97:scr 680357 2000 14 32012 5 = true:=by decide +kernel
theorem m98:scr 692357 2000 14 32012 5 = true:=by decide +kernel
theorem m99:scr 704357 2000 14 32012 5 = true:=by decide +kernel
theorem m100:scr 716357 1266 14 32012 5 = true:=by decide +kernel
theorem m101:scr 723953 2000 14 22417 5 = true:=by decide +kernel
theorem m102:scr 735953 2000 14 22417 5 = true:=by decide +kernel
theorem m103:scr 747953 2000 14 22417 5 = true:=by decide +kernel
theorem m104:scr 759953 2000 14 22417 5 = true:=by decide +kernel
theorem m105:scr 771953 2000 14 22417 5 = true:=by decide +kernel
theorem m106:scr 783953 2000 14 22417 5 = true:=by decide +kernel
theorem m107:scr 795953 2000 14 22417 5 = true:=by decide +kernel
theorem m108:scr 807953 2000 14 22417 5 = true:=by decide +kernel
theorem m109:scr 819953 2000 14 22417 5 = true:=by decide +kernel
theorem m110:scr 831953 2000 14 22417 5 = true:=by decide +kernel
theorem m111:scr 843953 2000 14 22417 5 = true:=by decide +kernel
theorem m112:scr 855953 927 14 22417 5 = true:=by decide +kernel
theorem m113:scr 861515 2000 14 12305 4 = true:=by decide +kernel
theorem m114:scr 873515 2000 14 12305 4 = true:=by decide +kernel
theorem m115:scr 885515 2000 14 12305 4 = true:=by decide +kernel
theorem m116:scr 897515 2000 14 12305 4 = true:=by decide +kernel
theorem m117:scr 909515 2000 14 12305 4 = true:=by decide +kernel
theorem m118:scr 921515 2000 14 12305 4 = true:=by decide +kernel
theorem m119:scr 933515 2000 14 12305 4 = true:=by decide +kernel
theorem m120:scr 945515 2000 14 12305 4 = true:=by decide +kernel
theorem m121:scr 957515 2000 14 12305 4 = true:=by decide +kernel
theorem m122:scr 969515 2000 14 12305 4 = true:=by decide +kernel
theorem m123:scr 981515 2000 14 12305 4 = true:=by decide +kernel
theorem m124:scr 993515 2000 14 12305 4 = true:=by decide +kernel
theorem m125:scr 1005515 2000 14 12305 4 = true:=by decide +kernel
theorem m126:scr 1017515 1283 14 12305 4 = true:=by decide +kernel
theorem m127:scr 1025213 2000 13 1469 1 = true:=by decide +kernel
theorem m128:scr 1037213 1894 13 1469 1 = true:=by decide +kernel
end Mr
