/- Of this proof. -/
import Derived.Test.YtgmnakghjemjlabGreatGtfa
import Derived.KernelRfl
set_option linter.unusedSimpArgs false
set_option linter.unusedVariables false
namespace Go.Proofs.YtgmnakghjemjlabGreat
open Go Go.RowKit Gi
set_option maxHeartbeats 8000000
set_option maxRecDepth 100000 in
theorem RR :Gc 0:=⟨fN Tryz.func336,fN Tryz.func335,fN Tryz.func224,fN Tryz.func315,fN Tryz.func316,fN Tryz.func33,fN Tryz.func89,fN Tryz.func155,fN Tryz.func271,fN Tryz.func309,fN Tryz.func312,fN Tryz.func32,fN Tryz.func311,fN Tryz.func150,fN Tryz.func217,fN Tryz.func218,trivial⟩
set_option maxRecDepth 100000 in
theorem RS :Gc 1:=⟨fN Tryz.func93,fN Tryz.func160,fN Tryz.func222,fN Tryz.func152,fN Tryz.func87,fN Tryz.func153,fN Tryz.func274,fN Tryz.func88,fN Tryz.func157,fN Tryz.func223,fN Tryz.func216,fN Tryz.func219,fN Tryz.func270,fN Tryz.func92,fN Tryz.func90,fN Tryz.func86,trivial⟩
set_option maxRecDepth 100000 in
theorem RT :Gc 2:=⟨fN Tryz.func158,fN Tryz.func31,fN Tryz.func91,fN Tryz.func275,fN Tryz.func314,fN Tryz.func276,fN Tryz.func277,fN Tryz.func313,fN Tryz.func7,fN Tryz.func273,fN Tryz.func220,fN Tryz.func151,fN Tryz.func279,fN Tryz.func94,fN Tryz.func228,fN Tryz.func161,trivial⟩
set_option maxRecDepth 100000 in
theorem RU :Gc 3:=⟨fN Tryz.func83,fN Tryz.func227,fN Tryz.func162,fN Tryz.func215,fN Tryz.func82,fN Tryz.func214,fN Tryz.func281,fN Tryz.func148,fN Tryz.func81,fN Tryz.func268,fN Tryz.func163,fN Tryz.func226,fN Tryz.func85,fN Tryz.func84,fN Tryz.func80,fN Tryz.func149,trivial⟩
set_option maxRecDepth 100000 in
theorem RV :Gc 4:=⟨fN Tryz.func229,fN Tryz.func30,fN Tryz.func269,fN Tryz.func307,fN Tryz.func334,fN Tryz.func348,fN Tryz.func332,fN Tryz.func278,fN Tryz.func221,fN Tryz.func3,fN Tryz.func238,fN Tryz.func170,fN Tryz.func164,fN Tryz.func95,fN Tryz.func284,fN Tryz.func318,trivial⟩
set_option maxRecDepth 100000 in
theorem RW :Gc 5:=⟨fN Tryz.func282,fN Tryz.func231,fN Tryz.func349,fN Tryz.func338,fN Tryz.func37,fN Tryz.func283,fN Tryz.func232,fN Tryz.func350,fN Tryz.func340,fN Tryz.func339,fN Tryz.func320,fN Tryz.func286,fN Tryz.func235,fN Tryz.func236,fN Tryz.func287,fN Tryz.func237,trivial⟩
set_option maxRecDepth 100000 in
theorem RX :Gc 6:=⟨fN Tryz.func288,fN Tryz.func234,fN Tryz.func165,fN Tryz.func167,fN Tryz.func97,fN Tryz.func36,fN Tryz.func166,fN Tryz.func168,fN Tryz.func98,fN Tryz.func321,fN Tryz.func96,fN Tryz.func35,fN Tryz.func322,fN Tryz.func230,fN Tryz.func233,fN Tryz.func354,trivial⟩
end Go.Proofs.YtgmnakghjemjlabGreat
