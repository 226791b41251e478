/- Of this proof. -/
import Derived.Test.YtpfadfkomcbecaaGreatGtfa
import Derived.KernelRfl
set_option linter.unusedSimpArgs false
set_option linter.unusedVariables false
namespace Go.Proofs.YtpfadfkomcbecaaGreat
open Go Go.RowKit Gi
set_option maxHeartbeats 8000000
set_option maxRecDepth 100000 in
theorem TM :Gc 7:=⟨fN Tryz.func229,fN Tryz.func232,fN Tryz.func360,fN Tryz.func101,fN Tryz.func36,fN Tryz.func100,fN Tryz.func35,fN Tryz.func31,fN Tryz.func170,fN Tryz.func325,fN Tryz.func169,fN Tryz.func288,fN Tryz.func8,fN Tryz.func238,fN Tryz.func172,fN Tryz.func121,trivial⟩
set_option maxRecDepth 100000 in
theorem TN :Gc 8:=⟨fN Tryz.func113,fN Tryz.func181,fN Tryz.func178,fN Tryz.func240,fN Tryz.func46,fN Tryz.func182,fN Tryz.func180,fN Tryz.func115,fN Tryz.func116,fN Tryz.func120,fN Tryz.func114,fN Tryz.func117,fN Tryz.func45,fN Tryz.func118,fN Tryz.func44,fN Tryz.func48,trivial⟩
set_option maxRecDepth 100000 in
theorem TO :Gc 9:=⟨fN Tryz.func47,fN Tryz.func43,fN Tryz.func179,fN Tryz.func119,fN Tryz.func10,fN Tryz.func122,fN Tryz.func111,fN Tryz.func102,fN Tryz.func176,fN Tryz.func173,fN Tryz.func239,fN Tryz.func40,fN Tryz.func177,fN Tryz.func175,fN Tryz.func105,fN Tryz.func106,trivial⟩
set_option maxRecDepth 100000 in
theorem Ta :Gc 10:=⟨fN Tryz.func110,fN Tryz.func104,fN Tryz.func107,fN Tryz.func39,fN Tryz.func108,fN Tryz.func38,fN Tryz.func42,fN Tryz.func41,fN Tryz.func37,fN Tryz.func174,fN Tryz.func109,fN Tryz.func103,fN Tryz.func9,fN Tryz.func112,fN Tryz.func129,fN Tryz.func123,trivial⟩
set_option maxRecDepth 100000 in
theorem Tb :Gc 11:=⟨fN Tryz.func49,fN Tryz.func243,fN Tryz.func292,fN Tryz.func241,fN Tryz.func184,fN Tryz.func347,fN Tryz.func329,fN Tryz.func14,fN Tryz.func242,fN Tryz.func185,fN Tryz.func348,fN Tryz.func331,fN Tryz.func330,fN Tryz.func294,fN Tryz.func245,fN Tryz.func188,trivial⟩
set_option maxRecDepth 100000 in
theorem Tc :Gc 12:=⟨fN Tryz.func189,fN Tryz.func246,fN Tryz.func190,fN Tryz.func247,fN Tryz.func187,fN Tryz.func124,fN Tryz.func126,fN Tryz.func51,fN Tryz.func13,fN Tryz.func125,fN Tryz.func52,fN Tryz.func295,fN Tryz.func50,fN Tryz.func12,fN Tryz.func296,fN Tryz.func183,trivial⟩
set_option maxRecDepth 100000 in
theorem Td :Gc 13:=⟨fN Tryz.func186,fN Tryz.func357,fN Tryz.func54,fN Tryz.func16,fN Tryz.func53,fN Tryz.func15,fN Tryz.func11,fN Tryz.func128,fN Tryz.func293,fN Tryz.func127,fN Tryz.func244,fN Tryz.func4,fN Tryz.func191,fN Tryz.func130,fN Tryz.func213,fN Tryz.func148,trivial⟩
end Go.Proofs.YtpfadfkomcbecaaGreat
