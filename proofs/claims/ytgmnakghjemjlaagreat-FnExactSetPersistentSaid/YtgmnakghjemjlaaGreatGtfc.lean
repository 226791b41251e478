/- Of this proof. -/
import Derived.Test.YtgmnakghjemjlaaGreatGtfa
import Derived.KernelRfl
namespace Go.Proofs.YtgmnakghjemjlaaGreat
open Go Go.RowKit Gi
set_option linter.unusedSimpArgs false
set_option linter.unusedVariables false
set_option maxHeartbeats 8000000
set_option maxRecDepth 100000 in
theorem Ra :Gc 7:=⟨fN Tryz.func33,fN Tryz.func29,fN Tryz.func156,fN Tryz.func311,fN Tryz.func155,fN Tryz.func274,fN Tryz.func8,fN Tryz.func224,fN Tryz.func158,fN Tryz.func112,fN Tryz.func104,fN Tryz.func167,fN Tryz.func164,fN Tryz.func226,fN Tryz.func44,fN Tryz.func168,trivial⟩
set_option maxRecDepth 100000 in
theorem Rb :Gc 8:=⟨fN Tryz.func166,fN Tryz.func106,fN Tryz.func107,fN Tryz.func111,fN Tryz.func105,fN Tryz.func108,fN Tryz.func43,fN Tryz.func109,fN Tryz.func42,fN Tryz.func46,fN Tryz.func45,fN Tryz.func41,fN Tryz.func165,fN Tryz.func110,fN Tryz.func10,fN Tryz.func113,trivial⟩
set_option maxRecDepth 100000 in
theorem Rc :Gc 9:=⟨fN Tryz.func102,fN Tryz.func93,fN Tryz.func162,fN Tryz.func159,fN Tryz.func225,fN Tryz.func38,fN Tryz.func163,fN Tryz.func161,fN Tryz.func96,fN Tryz.func97,fN Tryz.func101,fN Tryz.func95,fN Tryz.func98,fN Tryz.func37,fN Tryz.func99,fN Tryz.func36,trivial⟩
set_option maxRecDepth 100000 in
theorem QH :Gc 10:=⟨fN Tryz.func40,fN Tryz.func39,fN Tryz.func35,fN Tryz.func160,fN Tryz.func100,fN Tryz.func94,fN Tryz.func9,fN Tryz.func103,fN Tryz.func120,fN Tryz.func114,fN Tryz.func47,fN Tryz.func229,fN Tryz.func278,fN Tryz.func227,fN Tryz.func170,fN Tryz.func333,trivial⟩
set_option maxRecDepth 100000 in
theorem QI :Gc 11:=⟨fN Tryz.func315,fN Tryz.func14,fN Tryz.func228,fN Tryz.func171,fN Tryz.func334,fN Tryz.func317,fN Tryz.func316,fN Tryz.func280,fN Tryz.func231,fN Tryz.func174,fN Tryz.func175,fN Tryz.func232,fN Tryz.func176,fN Tryz.func233,fN Tryz.func173,fN Tryz.func115,trivial⟩
set_option maxRecDepth 100000 in
theorem QJ :Gc 12:=⟨fN Tryz.func117,fN Tryz.func49,fN Tryz.func13,fN Tryz.func116,fN Tryz.func50,fN Tryz.func281,fN Tryz.func48,fN Tryz.func12,fN Tryz.func282,fN Tryz.func169,fN Tryz.func172,fN Tryz.func343,fN Tryz.func52,fN Tryz.func16,fN Tryz.func51,fN Tryz.func15,trivial⟩
set_option maxRecDepth 100000 in
theorem QK :Gc 13:=⟨fN Tryz.func11,fN Tryz.func119,fN Tryz.func279,fN Tryz.func118,fN Tryz.func230,fN Tryz.func4,fN Tryz.func177,fN Tryz.func121,fN Tryz.func199,fN Tryz.func138,fN Tryz.func131,fN Tryz.func66,fN Tryz.func249,fN Tryz.func292,fN Tryz.func247,fN Tryz.func192,trivial⟩
end Go.Proofs.YtgmnakghjemjlaaGreat
