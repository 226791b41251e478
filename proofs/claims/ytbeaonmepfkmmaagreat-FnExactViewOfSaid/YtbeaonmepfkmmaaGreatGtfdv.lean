/- Of this proof. -/
import Derived.Test.YtbeaonmepfkmmaaGreatGtfav
import Derived.KernelRfl
set_option linter.unusedSimpArgs false
set_option linter.unusedVariables false
namespace Go.Proofs.YtbeaonmepfkmmaaGreat
open Go Go.RowKit Gi
set_option maxHeartbeats 8000000
set_option maxRecDepth 100000 in
theorem Vz :Gc 13:=⟨fN Tryz.func366,fN Tryz.func357,fN Tryz.func356,fN Tryz.func329,fN Tryz.func287,fN Tryz.func217,fN Tryz.func218,fN Tryz.func288,fN Tryz.func219,fN Tryz.func289,fN Tryz.func216,fN Tryz.func142,fN Tryz.func144,fN Tryz.func79,fN Tryz.func33,fN Tryz.func143,trivial⟩
set_option maxRecDepth 100000 in
theorem VA :Gc 14:=⟨fN Tryz.func145,fN Tryz.func80,fN Tryz.func330,fN Tryz.func78,fN Tryz.func32,fN Tryz.func331,fN Tryz.func212,fN Tryz.func215,fN Tryz.func372,fN Tryz.func82,fN Tryz.func36,fN Tryz.func81,fN Tryz.func35,fN Tryz.func31,fN Tryz.func147,fN Tryz.func328,trivial⟩
set_option maxRecDepth 100000 in
theorem VB :Gc 15:=⟨fN Tryz.func146,fN Tryz.func286,fN Tryz.func8,fN Tryz.func221,fN Tryz.func149,fN Tryz.func259,SY,fN Tryz.func226,fN Tryz.func150,fN Tryz.func346,fN Tryz.func317,fN Tryz.func103,fN Tryz.func309,SZ,S0,fN Tryz.func303,trivial⟩
set_option maxRecDepth 100000 in
theorem VC :Gc 16:=⟨fN Tryz.func244,fN Tryz.func242,fN Tryz.func239,fN Tryz.func168,fN Tryz.func300,fN Tryz.func240,fN Tryz.func96,fN Tryz.func241,fN Tryz.func304,fN Tryz.func11,fN Tryz.func191,fN Tryz.func170,fN Tryz.func192,fN Tryz.func138,fN Tryz.func28,fN Tryz.func267,trivial⟩
set_option maxRecDepth 100000 in
theorem VD :Gc 17:=⟨fN Tryz.func47,fN Tryz.func302,fN Tryz.func238,fN Tryz.func339,fN Tryz.func301,fN Tryz.func171,fN Tryz.func265,fN Tryz.func246,fN Tryz.func243,fN Tryz.func266,fN Tryz.func245,fN Tryz.func62,fN Tryz.func298,fN Tryz.func46,fN Tryz.func63,fN Tryz.func269,trivial⟩
set_option maxRecDepth 100000 in
theorem VE :Gc 18:=⟨fN Tryz.func166,fN Tryz.func95,fN Tryz.func167,fN Tryz.func172,fN Tryz.func97,fN Tryz.func268,fN Tryz.func193,fN Tryz.func118,fN Tryz.func190,fN Tryz.func119,fN Tryz.func120,fN Tryz.func189,fN Tryz.func247,fN Tryz.func61,fN Tryz.func17,fN Tryz.func194,trivial⟩
set_option maxRecDepth 100000 in
theorem VF :Gc 19:=⟨fN Tryz.func270,fN Tryz.func122,fN Tryz.func248,fN Tryz.func121,fN Tryz.func337,fN Tryz.func315,fN Tryz.func173,fN Tryz.func299,fN Tryz.func48,fN Tryz.func98,fN Tryz.func338,fN Tryz.func94,fN Tryz.func305,fN Tryz.func169,fN Tryz.func249,S1,trivial⟩
end Go.Proofs.YtbeaonmepfkmmaaGreat
