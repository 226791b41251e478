/- Of this proof. -/
import Derived.Test.YtebnmoogdmpepaaGreatGtfa
import Derived.KernelRfl
set_option linter.unusedSimpArgs false
set_option linter.unusedVariables false
namespace Go.Proofs.YtebnmoogdmpepaaGreat
open Go Go.RowKit Gi
set_option maxHeartbeats 8000000
set_option maxRecDepth 100000 in
theorem VN :Gc 8:=⟨fN Tryz.func39,fN Tryz.func211,fN Tryz.func381,fN Tryz.func210,fN Tryz.func340,fN Tryz.func10,fN Tryz.func288,fN Tryz.func213,fN Tryz.func141,fN Tryz.func133,fN Tryz.func221,fN Tryz.func218,fN Tryz.func290,fN Tryz.func54,fN Tryz.func222,fN Tryz.func220,trivial⟩
set_option maxRecDepth 100000 in
theorem VO :Gc 9:=⟨fN Tryz.func135,fN Tryz.func136,fN Tryz.func140,fN Tryz.func134,fN Tryz.func137,fN Tryz.func53,fN Tryz.func138,fN Tryz.func52,fN Tryz.func56,fN Tryz.func55,fN Tryz.func51,fN Tryz.func219,fN Tryz.func139,fN Tryz.func14,fN Tryz.func142,fN Tryz.func131,trivial⟩
set_option maxRecDepth 100000 in
theorem U8 :Gc 10:=⟨fN Tryz.func122,fN Tryz.func13,fN Tryz.func214,fN Tryz.func289,fN Tryz.func48,fN Tryz.func217,fN Tryz.func216,fN Tryz.func125,fN Tryz.func126,fN Tryz.func130,fN Tryz.func124,fN Tryz.func127,fN Tryz.func47,fN Tryz.func128,fN Tryz.func46,fN Tryz.func50,trivial⟩
set_option maxRecDepth 100000 in
theorem U9 :Gc 11:=⟨fN Tryz.func49,fN Tryz.func45,fN Tryz.func215,fN Tryz.func129,fN Tryz.func123,fN Tryz.func12,fN Tryz.func132,fN Tryz.func166,fN Tryz.func160,fN Tryz.func66,fN Tryz.func302,fN Tryz.func349,fN Tryz.func300,fN Tryz.func235,fN Tryz.func409,fN Tryz.func391,trivial⟩
set_option maxRecDepth 100000 in
theorem Va :Gc 12:=⟨fN Tryz.func20,fN Tryz.func301,fN Tryz.func236,fN Tryz.func410,fN Tryz.func393,fN Tryz.func392,fN Tryz.func351,fN Tryz.func304,fN Tryz.func239,fN Tryz.func240,fN Tryz.func305,fN Tryz.func241,fN Tryz.func306,fN Tryz.func238,fN Tryz.func161,fN Tryz.func163,trivial⟩
set_option maxRecDepth 100000 in
theorem Vb :Gc 13:=⟨fN Tryz.func68,fN Tryz.func19,fN Tryz.func162,fN Tryz.func69,fN Tryz.func352,fN Tryz.func67,fN Tryz.func18,fN Tryz.func353,fN Tryz.func234,fN Tryz.func237,fN Tryz.func417,fN Tryz.func71,fN Tryz.func22,fN Tryz.func70,fN Tryz.func21,fN Tryz.func17,trivial⟩
set_option maxRecDepth 100000 in
theorem Vc :Gc 14:=⟨fN Tryz.func165,fN Tryz.func350,fN Tryz.func164,fN Tryz.func303,fN Tryz.func5,fN Tryz.func242,fN Tryz.func167,fN Tryz.func264,fN Tryz.func188,fN Tryz.func181,fN Tryz.func91,fN Tryz.func8,fN Tryz.func362,fN Tryz.func318,fN Tryz.func257,fN Tryz.func411,trivial⟩
set_option maxRecDepth 100000 in
theorem Vd :Gc 15:=⟨fN Tryz.func397,fN Tryz.func31,fN Tryz.func319,fN Tryz.func258,fN Tryz.func412,fN Tryz.func399,fN Tryz.func398,fN Tryz.func364,fN Tryz.func321,fN Tryz.func261,fN Tryz.func262,fN Tryz.func322,fN Tryz.func263,fN Tryz.func323,fN Tryz.func260,fN Tryz.func182,trivial⟩
end Go.Proofs.YtebnmoogdmpepaaGreat
