/- A part. -/
import Derived.Test.YtndiampmpmbfoaaGreatGtfa
import Derived.KernelRfl
set_option linter.all false
namespace Go.Proofs.YtndiampmpmbfoaaGreat
open Go Go.RowKit Gi
set_option maxHeartbeats 8000000
set_option maxRecDepth 100000 in
def XV :Gc 16:=⟨fN Tryz.func173,fN Tryz.func91,fN Tryz.func30,fN Tryz.func172,fN Tryz.func174,fN Tryz.func92,fN Tryz.func355,fN Tryz.func90,fN Tryz.func29,fN Tryz.func356,fN Tryz.func245,fN Tryz.func248,fN Tryz.func408,fN Tryz.func94,fN Tryz.func33,fN Tryz.func93,trivial⟩
set_option maxRecDepth 100000 in
def XW :Gc 17:=⟨fN Tryz.func32,fN Tryz.func28,fN Tryz.func176,fN Tryz.func353,fN Tryz.func175,fN Tryz.func308,fN Tryz.func8,fN Tryz.func254,fN Tryz.func178,fN Tryz.func315,UP,fN Tryz.func267,fN Tryz.func95,fN Tryz.func357,fN Tryz.func369,fN Tryz.func326,trivial⟩
set_option maxRecDepth 100000 in
def XX :Gc 18:=⟨fN Tryz.func359,fN Tryz.func361,fN Tryz.func97,UQ,UR,US,fN Tryz.func86,fN Tryz.func386,fN Tryz.func385,fN Tryz.func88,fN Tryz.func233,fN Tryz.func349,fN Tryz.func350,fN Tryz.func23,fN Tryz.func242,fN Tryz.func297,trivial⟩
set_option maxRecDepth 100000 in
def XY :Gc 19:=⟨fN Tryz.func83,fN Tryz.func346,fN Tryz.func345,fN Tryz.func160,fN Tryz.func235,fN Tryz.func236,fN Tryz.func231,fN Tryz.func162,fN Tryz.func75,fN Tryz.func157,fN Tryz.func84,fN Tryz.func72,fN Tryz.func158,fN Tryz.func232,fN Tryz.func234,fN Tryz.func215,trivial⟩
set_option maxRecDepth 100000 in
def XZ :Gc 20:=⟨fN Tryz.func344,fN Tryz.func71,fN Tryz.func70,fN Tryz.func74,fN Tryz.func159,fN Tryz.func25,fN Tryz.func168,fN Tryz.func87,fN Tryz.func244,fN Tryz.func85,fN Tryz.func243,fN Tryz.func169,fN Tryz.func24,fN Tryz.func299,fN Tryz.func348,fN Tryz.func300,trivial⟩
set_option maxRecDepth 100000 in
def X0 :Gc 21:=⟨fN Tryz.func301,fN Tryz.func347,fN Tryz.func7,fN Tryz.func27,fN Tryz.func298,fN Tryz.func237,fN Tryz.func239,fN Tryz.func164,fN Tryz.func240,fN Tryz.func351,fN Tryz.func80,fN Tryz.func302,fN Tryz.func238,fN Tryz.func296,fN Tryz.func77,fN Tryz.func73,trivial⟩
set_option maxRecDepth 100000 in
def X1 :Gc 22:=⟨fN Tryz.func166,fN Tryz.func81,fN Tryz.func167,fN Tryz.func82,fN Tryz.func214,fN Tryz.func78,fN Tryz.func79,fN Tryz.func163,fN Tryz.func76,fN Tryz.func161,fN Tryz.func26,fN Tryz.func69,fN Tryz.func295,fN Tryz.func294,fN Tryz.func304,fN Tryz.func165,trivial⟩
set_option maxRecDepth 100000 in
def X2 :Gc 23:=⟨fN Tryz.func241,fN Tryz.func384,fN Tryz.func303,UT,trivial⟩
end Go.Proofs.YtndiampmpmbfoaaGreat
