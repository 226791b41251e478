/- Of this proof. -/
import Derived.Test.YtebnmoogdmpepaaGreatGtfa
import Derived.KernelRfl
set_option linter.unusedSimpArgs false
set_option linter.unusedVariables false
namespace Go.Proofs.YtebnmoogdmpepaaGreat
open Go Go.RowKit Gi
set_option maxHeartbeats 8000000
set_option maxRecDepth 100000 in
theorem Ve :Gc 16:=⟨fN Tryz.func184,fN Tryz.func93,fN Tryz.func30,fN Tryz.func183,fN Tryz.func185,fN Tryz.func94,fN Tryz.func365,fN Tryz.func92,fN Tryz.func29,fN Tryz.func366,fN Tryz.func256,fN Tryz.func259,fN Tryz.func418,fN Tryz.func96,fN Tryz.func33,fN Tryz.func95,trivial⟩
set_option maxRecDepth 100000 in
theorem Vf :Gc 17:=⟨fN Tryz.func32,fN Tryz.func28,fN Tryz.func187,fN Tryz.func363,fN Tryz.func186,fN Tryz.func320,fN Tryz.func7,fN Tryz.func265,fN Tryz.func189,fN Tryz.func328,SL,fN Tryz.func151,fN Tryz.func200,fN Tryz.func367,fN Tryz.func385,fN Tryz.func369,trivial⟩
set_option maxRecDepth 100000 in
theorem Vg :Gc 18:=⟨fN Tryz.func371,fN Tryz.func153,SN,fN Tryz.func396,fN Tryz.func395,fN Tryz.func317,fN Tryz.func255,fN Tryz.func247,fN Tryz.func89,fN Tryz.func27,fN Tryz.func90,fN Tryz.func6,fN Tryz.func25,fN Tryz.func359,fN Tryz.func360,fN Tryz.func57,trivial⟩
set_option maxRecDepth 100000 in
theorem Vh :Gc 19:=⟨fN Tryz.func86,fN Tryz.func311,fN Tryz.func356,fN Tryz.func316,fN Tryz.func355,fN Tryz.func173,fN Tryz.func249,fN Tryz.func250,fN Tryz.func245,fN Tryz.func175,fN Tryz.func84,fN Tryz.func170,fN Tryz.func224,fN Tryz.func81,fN Tryz.func171,fN Tryz.func246,trivial⟩
set_option maxRecDepth 100000 in
theorem Vi :Gc 20:=⟨fN Tryz.func248,fN Tryz.func144,fN Tryz.func354,fN Tryz.func80,fN Tryz.func78,fN Tryz.func83,fN Tryz.func172,fN Tryz.func24,fN Tryz.func179,fN Tryz.func180,fN Tryz.func361,fN Tryz.func253,fN Tryz.func178,fN Tryz.func254,fN Tryz.func88,fN Tryz.func26,trivial⟩
set_option maxRecDepth 100000 in
theorem Vj :Gc 21:=⟨fN Tryz.func313,fN Tryz.func358,fN Tryz.func314,fN Tryz.func315,fN Tryz.func357,fN Tryz.func312,fN Tryz.func251,fN Tryz.func87,fN Tryz.func168,fN Tryz.func243,fN Tryz.func252,fN Tryz.func76,fN Tryz.func176,fN Tryz.func85,fN Tryz.func310,fN Tryz.func73,trivial⟩
set_option maxRecDepth 100000 in
theorem Vk :Gc 22:=⟨fN Tryz.func82,fN Tryz.func226,fN Tryz.func77,fN Tryz.func223,fN Tryz.func143,fN Tryz.func74,fN Tryz.func75,fN Tryz.func148,fN Tryz.func72,fN Tryz.func174,fN Tryz.func23,fN Tryz.func79,fN Tryz.func309,fN Tryz.func308,fN Tryz.func307,fN Tryz.func169,trivial⟩
set_option maxRecDepth 100000 in
theorem Vl :Gc 23:=⟨fN Tryz.func244,fN Tryz.func394,fN Tryz.func177,SO,trivial⟩
end Go.Proofs.YtebnmoogdmpepaaGreat
