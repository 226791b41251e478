/- Of this proof. -/
import Derived.Test.YtebnmoogdmpepaaGreatGtfa
import Derived.KernelRfl
set_option linter.unusedSimpArgs false
set_option linter.unusedVariables false
namespace Go.Proofs.YtebnmoogdmpepaaGreat
open Go Go.RowKit Gi
set_option maxHeartbeats 8000000
set_option maxRecDepth 100000 in
theorem VL :Gc 16:=⟨fN Tryz.func93,fN Tryz.func30,fN Tryz.func183,fN Tryz.func185,fN Tryz.func94,fN Tryz.func365,fN Tryz.func92,fN Tryz.func29,fN Tryz.func366,fN Tryz.func256,fN Tryz.func259,fN Tryz.func418,fN Tryz.func96,fN Tryz.func33,fN Tryz.func95,fN Tryz.func32,trivial⟩
set_option maxRecDepth 100000 in
theorem VM :Gc 17:=⟨fN Tryz.func28,fN Tryz.func187,fN Tryz.func363,fN Tryz.func186,fN Tryz.func320,fN Tryz.func7,fN Tryz.func265,fN Tryz.func189,fN Tryz.func328,Tp,fN Tryz.func298,fN Tryz.func151,fN Tryz.func367,fN Tryz.func385,fN Tryz.func344,fN Tryz.func369,trivial⟩
set_option maxRecDepth 100000 in
theorem VN :Gc 18:=⟨fN Tryz.func371,fN Tryz.func153,Tq,Tr,fN Tryz.func146,fN Tryz.func396,fN Tryz.func395,fN Tryz.func247,fN Tryz.func359,fN Tryz.func360,fN Tryz.func57,fN Tryz.func291,fN Tryz.func311,fN Tryz.func356,fN Tryz.func355,fN Tryz.func173,trivial⟩
set_option maxRecDepth 100000 in
theorem VO :Gc 19:=⟨fN Tryz.func249,fN Tryz.func250,fN Tryz.func245,fN Tryz.func175,fN Tryz.func84,fN Tryz.func170,fN Tryz.func224,fN Tryz.func81,fN Tryz.func171,fN Tryz.func246,fN Tryz.func248,fN Tryz.func144,fN Tryz.func354,fN Tryz.func80,fN Tryz.func78,fN Tryz.func83,trivial⟩
set_option maxRecDepth 100000 in
theorem VP :Gc 20:=⟨fN Tryz.func172,fN Tryz.func24,fN Tryz.func147,fN Tryz.func15,fN Tryz.func59,fN Tryz.func150,fN Tryz.func293,fN Tryz.func60,fN Tryz.func292,fN Tryz.func225,fN Tryz.func58,fN Tryz.func313,fN Tryz.func358,fN Tryz.func314,fN Tryz.func315,fN Tryz.func357,trivial⟩
set_option maxRecDepth 100000 in
theorem VQ :Gc 21:=⟨fN Tryz.func312,fN Tryz.func251,fN Tryz.func87,fN Tryz.func168,fN Tryz.func243,fN Tryz.func252,fN Tryz.func76,fN Tryz.func176,fN Tryz.func85,fN Tryz.func310,fN Tryz.func73,fN Tryz.func82,fN Tryz.func226,fN Tryz.func77,fN Tryz.func223,fN Tryz.func145,trivial⟩
set_option maxRecDepth 100000 in
theorem VS :Gc 22:=⟨fN Tryz.func143,fN Tryz.func74,fN Tryz.func75,fN Tryz.func149,fN Tryz.func148,fN Tryz.func72,fN Tryz.func174,fN Tryz.func23,fN Tryz.func79,fN Tryz.func61,fN Tryz.func309,fN Tryz.func308,fN Tryz.func307,fN Tryz.func169,fN Tryz.func244,fN Tryz.func394,trivial⟩
set_option maxRecDepth 100000 in
theorem VT :Gc 23:=⟨fN Tryz.func177,Ts,trivial⟩
end Go.Proofs.YtebnmoogdmpepaaGreat
