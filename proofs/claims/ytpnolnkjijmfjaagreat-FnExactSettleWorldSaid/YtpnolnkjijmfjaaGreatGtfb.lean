/- Of this proof. -/
import Derived.Test.YtpnolnkjijmfjaaGreatGtfa
import Derived.KernelRfl
set_option linter.all false
namespace Go.Proofs.YtpnolnkjijmfjaaGreat
open Go Go.RowKit Gi
set_option maxHeartbeats 8000000
set_option maxRecDepth 100000 in
def gc0 :Gc 0:=⟨fN Tryz.func160,fN Tryz.func236,fN Tryz.func396,fN Tryz.func395,fN Tryz.func232,fN Tryz.func290,fN Tryz.func27,fN Tryz.func374,fN Tryz.func375,fN Tryz.func70,fN Tryz.func156,fN Tryz.func292,fN Tryz.func343,fN Tryz.func331,fN Tryz.func368,fN Tryz.func229,trivial⟩
set_option maxRecDepth 100000 in
def gc1 :Gc 1:=⟨fN Tryz.func371,fN Tryz.func146,fN Tryz.func370,fN Tryz.func222,fN Tryz.func284,fN Tryz.func285,fN Tryz.func288,fN Tryz.func224,fN Tryz.func148,fN Tryz.func225,fN Tryz.func230,fN Tryz.func149,fN Tryz.func226,fN Tryz.func289,fN Tryz.func283,fN Tryz.func158,trivial⟩
set_option maxRecDepth 100000 in
def gc2 :Gc 2:=⟨fN Tryz.func330,fN Tryz.func151,fN Tryz.func150,fN Tryz.func147,fN Tryz.func227,fN Tryz.func68,fN Tryz.func161,fN Tryz.func28,fN Tryz.func72,fN Tryz.func294,fN Tryz.func231,fN Tryz.func73,fN Tryz.func293,fN Tryz.func233,fN Tryz.func26,fN Tryz.func7,trivial⟩
set_option maxRecDepth 100000 in
def gc3 :Gc 3:=⟨fN Tryz.func71,fN Tryz.func334,fN Tryz.func373,fN Tryz.func335,fN Tryz.func336,fN Tryz.func372,fN Tryz.func69,fN Tryz.func153,fN Tryz.func333,fN Tryz.func286,fN Tryz.func159,fN Tryz.func223,fN Tryz.func162,fN Tryz.func338,fN Tryz.func219,fN Tryz.func327,trivial⟩
set_option maxRecDepth 100000 in
def gc4 :Gc 4:=⟨fN Tryz.func279,fN Tryz.func143,fN Tryz.func326,fN Tryz.func280,fN Tryz.func282,fN Tryz.func142,fN Tryz.func281,fN Tryz.func234,fN Tryz.func220,fN Tryz.func141,fN Tryz.func328,fN Tryz.func152,fN Tryz.func325,fN Tryz.func145,fN Tryz.func144,fN Tryz.func140,trivial⟩
set_option maxRecDepth 100000 in
def gc5 :Gc 5:=⟨fN Tryz.func221,fN Tryz.func228,fN Tryz.func67,fN Tryz.func237,fN Tryz.func297,fN Tryz.func329,fN Tryz.func366,fN Tryz.func344,fN Tryz.func379,fN Tryz.func394,fN Tryz.func337,fN Tryz.func287,fN Tryz.func154,fN Tryz.func3,fN Tryz.func246,fN Tryz.func170,trivial⟩
set_option maxRecDepth 100000 in
def gc6 :Gc 6:=⟨fN Tryz.func163,fN Tryz.func74,fN Tryz.func300,fN Tryz.func347,fN Tryz.func298,fN Tryz.func239,fN Tryz.func401,fN Tryz.func384,fN Tryz.func32,fN Tryz.func299,fN Tryz.func240,fN Tryz.func402,fN Tryz.func386,fN Tryz.func385,fN Tryz.func349,fN Tryz.func302,trivial⟩
set_option maxRecDepth 100000 in
def gc7 :Gc 7:=⟨fN Tryz.func243,fN Tryz.func244,fN Tryz.func303,fN Tryz.func245,fN Tryz.func304,fN Tryz.func242,fN Tryz.func164,fN Tryz.func166,fN Tryz.func76,fN Tryz.func31,fN Tryz.func165,fN Tryz.func167,fN Tryz.func77,fN Tryz.func350,fN Tryz.func75,fN Tryz.func30,trivial⟩
end Go.Proofs.YtpnolnkjijmfjaaGreat
