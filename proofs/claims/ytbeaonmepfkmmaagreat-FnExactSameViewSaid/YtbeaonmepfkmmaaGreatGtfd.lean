/- Of this proof. -/
import Derived.Test.YtbeaonmepfkmmaaGreatGtfa
import Derived.KernelRfl
set_option linter.unusedSimpArgs false
set_option linter.unusedVariables false
namespace Go.Proofs.YtbeaonmepfkmmaaGreat
open Go Go.RowKit Gi
set_option maxHeartbeats 8000000
set_option maxRecDepth 100000 in
theorem UF :Gc 14:=⟨fN Tryz.func36,fN Tryz.func81,fN Tryz.func35,fN Tryz.func31,fN Tryz.func147,fN Tryz.func328,fN Tryz.func146,fN Tryz.func286,fN Tryz.func8,fN Tryz.func221,fN Tryz.func149,fN Tryz.func259,R4,fN Tryz.func152,fN Tryz.func222,fN Tryz.func227,trivial⟩
set_option maxRecDepth 100000 in
theorem UG :Gc 15:=⟨fN Tryz.func224,fN Tryz.func226,fN Tryz.func332,fN Tryz.func225,fN Tryz.func292,fN Tryz.func84,fN Tryz.func150,fN Tryz.func346,fN Tryz.func317,fN Tryz.func103,fN Tryz.func309,R5,R6,fN Tryz.func303,fN Tryz.func244,fN Tryz.func242,trivial⟩
set_option maxRecDepth 100000 in
theorem UH :Gc 16:=⟨fN Tryz.func239,fN Tryz.func168,fN Tryz.func300,fN Tryz.func240,fN Tryz.func96,fN Tryz.func241,fN Tryz.func304,fN Tryz.func11,fN Tryz.func191,fN Tryz.func170,fN Tryz.func192,fN Tryz.func30,fN Tryz.func138,fN Tryz.func74,fN Tryz.func137,fN Tryz.func75,trivial⟩
set_option maxRecDepth 100000 in
theorem UI :Gc 17:=⟨fN Tryz.func29,fN Tryz.func211,fN Tryz.func210,fN Tryz.func76,fN Tryz.func136,fN Tryz.func139,fN Tryz.func140,fN Tryz.func28,fN Tryz.func267,fN Tryz.func47,fN Tryz.func302,fN Tryz.func238,fN Tryz.func339,fN Tryz.func301,fN Tryz.func171,fN Tryz.func265,trivial⟩
set_option maxRecDepth 100000 in
theorem UJ :Gc 18:=⟨fN Tryz.func246,fN Tryz.func243,fN Tryz.func266,fN Tryz.func245,fN Tryz.func62,fN Tryz.func298,fN Tryz.func46,fN Tryz.func63,fN Tryz.func269,fN Tryz.func166,fN Tryz.func95,fN Tryz.func167,fN Tryz.func172,fN Tryz.func97,fN Tryz.func7,fN Tryz.func268,trivial⟩
set_option maxRecDepth 100000 in
theorem UK :Gc 19:=⟨fN Tryz.func193,fN Tryz.func118,fN Tryz.func190,fN Tryz.func119,fN Tryz.func120,fN Tryz.func189,fN Tryz.func247,fN Tryz.func61,fN Tryz.func17,fN Tryz.func194,fN Tryz.func270,fN Tryz.func122,fN Tryz.func248,fN Tryz.func121,fN Tryz.func337,fN Tryz.func315,trivial⟩
set_option maxRecDepth 100000 in
theorem UL :Gc 20:=⟨fN Tryz.func173,fN Tryz.func299,fN Tryz.func48,fN Tryz.func98,fN Tryz.func338,fN Tryz.func94,fN Tryz.func305,fN Tryz.func169,fN Tryz.func249,R7,trivial⟩
end Go.Proofs.YtbeaonmepfkmmaaGreat
