/- Of this proof. -/
import Derived.Test.YtpfadfkomcbecaaGreatGtfa
import Derived.KernelRfl
set_option linter.unusedSimpArgs false
set_option linter.unusedVariables false
namespace Go.Proofs.YtpfadfkomcbecaaGreat
open Go Go.RowKit Gi
set_option maxHeartbeats 8000000
set_option maxRecDepth 100000 in
theorem TF :Gc 0:=⟨fN Tryz.func342,fN Tryz.func341,fN Tryz.func228,fN Tryz.func321,fN Tryz.func322,fN Tryz.func89,fN Tryz.func158,fN Tryz.func275,fN Tryz.func315,fN Tryz.func318,fN Tryz.func95,fN Tryz.func85,fN Tryz.func317,fN Tryz.func153,fN Tryz.func221,fN Tryz.func222,trivial⟩
set_option maxRecDepth 100000 in
theorem TG :Gc 1:=⟨fN Tryz.func226,fN Tryz.func155,fN Tryz.func87,fN Tryz.func156,fN Tryz.func278,fN Tryz.func88,fN Tryz.func160,fN Tryz.func227,fN Tryz.func220,fN Tryz.func223,fN Tryz.func274,fN Tryz.func92,fN Tryz.func90,fN Tryz.func86,fN Tryz.func161,fN Tryz.func29,trivial⟩
set_option maxRecDepth 100000 in
theorem TH :Gc 2:=⟨fN Tryz.func7,fN Tryz.func28,fN Tryz.func84,fN Tryz.func30,fN Tryz.func94,fN Tryz.func91,fN Tryz.func279,fN Tryz.func320,fN Tryz.func280,fN Tryz.func281,fN Tryz.func319,fN Tryz.func277,fN Tryz.func224,fN Tryz.func154,fN Tryz.func283,fN Tryz.func150,trivial⟩
set_option maxRecDepth 100000 in
theorem TI :Gc 3:=⟨fN Tryz.func270,fN Tryz.func215,fN Tryz.func80,fN Tryz.func269,fN Tryz.func216,fN Tryz.func219,fN Tryz.func79,fN Tryz.func218,fN Tryz.func311,fN Tryz.func151,fN Tryz.func78,fN Tryz.func272,fN Tryz.func217,fN Tryz.func268,fN Tryz.func82,fN Tryz.func81,trivial⟩
set_option maxRecDepth 100000 in
theorem TJ :Gc 4:=⟨fN Tryz.func77,fN Tryz.func152,fN Tryz.func271,fN Tryz.func27,fN Tryz.func273,fN Tryz.func313,fN Tryz.func340,fN Tryz.func354,fN Tryz.func338,fN Tryz.func163,fN Tryz.func282,fN Tryz.func225,fN Tryz.func3,fN Tryz.func237,fN Tryz.func171,fN Tryz.func164,trivial⟩
set_option maxRecDepth 100000 in
theorem TK :Gc 5:=⟨fN Tryz.func96,fN Tryz.func287,fN Tryz.func324,fN Tryz.func285,fN Tryz.func230,fN Tryz.func355,fN Tryz.func344,fN Tryz.func34,fN Tryz.func286,fN Tryz.func231,fN Tryz.func356,fN Tryz.func346,fN Tryz.func345,fN Tryz.func326,fN Tryz.func289,fN Tryz.func234,trivial⟩
set_option maxRecDepth 100000 in
theorem TL :Gc 6:=⟨fN Tryz.func235,fN Tryz.func290,fN Tryz.func236,fN Tryz.func291,fN Tryz.func233,fN Tryz.func165,fN Tryz.func167,fN Tryz.func98,fN Tryz.func33,fN Tryz.func166,fN Tryz.func168,fN Tryz.func99,fN Tryz.func327,fN Tryz.func97,fN Tryz.func32,fN Tryz.func328,trivial⟩
end Go.Proofs.YtpfadfkomcbecaaGreat
