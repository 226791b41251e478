/- Of this proof. -/
import Derived.Test.YtbeaonmepfkmmaaGreatGtfav
import Derived.KernelRfl
set_option linter.unusedSimpArgs false
set_option linter.unusedVariables false
namespace Go.Proofs.YtbeaonmepfkmmaaGreat
open Go Go.RowKit Gi
set_option maxHeartbeats 8000000
set_option maxRecDepth 100000 in
theorem V7 :Gc 6:=⟨fN Tryz.func159,fN Tryz.func161,fN Tryz.func90,fN Tryz.func42,fN Tryz.func160,fN Tryz.func162,fN Tryz.func91,fN Tryz.func336,fN Tryz.func89,fN Tryz.func41,fN Tryz.func184,fN Tryz.func230,fN Tryz.func233,fN Tryz.func373,fN Tryz.func93,fN Tryz.func45,trivial⟩
set_option maxRecDepth 100000 in
theorem V8 :Gc 7:=⟨fN Tryz.func92,fN Tryz.func44,fN Tryz.func40,fN Tryz.func13,fN Tryz.func334,fN Tryz.func163,fN Tryz.func296,fN Tryz.func10,fN Tryz.func237,fN Tryz.func165,fN Tryz.func21,fN Tryz.func114,fN Tryz.func107,fN Tryz.func188,fN Tryz.func185,fN Tryz.func264,trivial⟩
set_option maxRecDepth 100000 in
theorem V9 :Gc 8:=⟨fN Tryz.func56,fN Tryz.func116,fN Tryz.func187,fN Tryz.func110,fN Tryz.func20,fN Tryz.func59,fN Tryz.func109,fN Tryz.func111,fN Tryz.func55,fN Tryz.func112,fN Tryz.func54,fN Tryz.func58,fN Tryz.func57,fN Tryz.func53,fN Tryz.func186,fN Tryz.func113,trivial⟩
set_option maxRecDepth 100000 in
theorem Wa :Gc 9:=⟨fN Tryz.func108,fN Tryz.func14,fN Tryz.func115,fN Tryz.func134,fN Tryz.func128,fN Tryz.func68,fN Tryz.func278,fN Tryz.func322,fN Tryz.func276,fN Tryz.func202,fN Tryz.func363,fN Tryz.func352,fN Tryz.func25,fN Tryz.func277,fN Tryz.func203,fN Tryz.func364,trivial⟩
set_option maxRecDepth 100000 in
theorem Vw :Gc 10:=⟨fN Tryz.func354,fN Tryz.func353,fN Tryz.func324,fN Tryz.func280,fN Tryz.func206,fN Tryz.func207,fN Tryz.func281,fN Tryz.func208,fN Tryz.func282,fN Tryz.func205,fN Tryz.func129,fN Tryz.func131,fN Tryz.func70,fN Tryz.func24,fN Tryz.func130,fN Tryz.func71,trivial⟩
set_option maxRecDepth 100000 in
theorem Vx :Gc 11:=⟨fN Tryz.func325,fN Tryz.func69,fN Tryz.func23,fN Tryz.func326,fN Tryz.func201,fN Tryz.func204,fN Tryz.func371,fN Tryz.func73,fN Tryz.func27,fN Tryz.func72,fN Tryz.func26,fN Tryz.func22,fN Tryz.func133,fN Tryz.func323,fN Tryz.func132,fN Tryz.func279,trivial⟩
set_option maxRecDepth 100000 in
theorem Vy :Gc 12:=⟨fN Tryz.func6,fN Tryz.func209,fN Tryz.func135,fN Tryz.func220,fN Tryz.func148,fN Tryz.func141,fN Tryz.func77,fN Tryz.func285,fN Tryz.func327,fN Tryz.func283,fN Tryz.func213,fN Tryz.func365,fN Tryz.func355,fN Tryz.func34,fN Tryz.func284,fN Tryz.func214,trivial⟩
end Go.Proofs.YtbeaonmepfkmmaaGreat
