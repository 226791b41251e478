/- Of this proof. -/
import Derived.Test.YtbeaonmepfkmmaaGreatGtfad
import Derived.KernelRfl
set_option linter.unusedSimpArgs false
set_option linter.unusedVariables false
namespace Go.Proofs.YtbeaonmepfkmmaaGreat
open Go Go.RowKit Gi
set_option maxHeartbeats 8000000
set_option maxRecDepth 100000 in
theorem UX :Gc 6:=⟨fN Tryz.func93,fN Tryz.func45,fN Tryz.func92,fN Tryz.func44,fN Tryz.func40,fN Tryz.func13,fN Tryz.func334,fN Tryz.func163,fN Tryz.func296,fN Tryz.func10,fN Tryz.func237,fN Tryz.func165,fN Tryz.func117,fN Tryz.func60,fN Tryz.func16,fN Tryz.func114,trivial⟩
set_option maxRecDepth 100000 in
theorem UY :Gc 7:=⟨fN Tryz.func107,fN Tryz.func188,fN Tryz.func185,fN Tryz.func264,fN Tryz.func56,fN Tryz.func116,fN Tryz.func187,fN Tryz.func110,fN Tryz.func20,fN Tryz.func59,fN Tryz.func109,fN Tryz.func111,fN Tryz.func55,fN Tryz.func112,fN Tryz.func54,fN Tryz.func58,trivial⟩
set_option maxRecDepth 100000 in
theorem UZ :Gc 8:=⟨fN Tryz.func57,fN Tryz.func53,fN Tryz.func15,fN Tryz.func186,fN Tryz.func113,fN Tryz.func108,fN Tryz.func14,fN Tryz.func115,fN Tryz.func134,fN Tryz.func128,fN Tryz.func68,fN Tryz.func278,fN Tryz.func322,fN Tryz.func276,fN Tryz.func202,fN Tryz.func363,trivial⟩
set_option maxRecDepth 100000 in
theorem U0 :Gc 9:=⟨fN Tryz.func352,fN Tryz.func25,fN Tryz.func277,fN Tryz.func203,fN Tryz.func364,fN Tryz.func354,fN Tryz.func353,fN Tryz.func324,fN Tryz.func280,fN Tryz.func206,fN Tryz.func207,fN Tryz.func281,fN Tryz.func208,fN Tryz.func282,fN Tryz.func205,fN Tryz.func129,trivial⟩
set_option maxRecDepth 100000 in
theorem Uo :Gc 10:=⟨fN Tryz.func131,fN Tryz.func70,fN Tryz.func24,fN Tryz.func130,fN Tryz.func71,fN Tryz.func325,fN Tryz.func69,fN Tryz.func23,fN Tryz.func326,fN Tryz.func201,fN Tryz.func204,fN Tryz.func371,fN Tryz.func73,fN Tryz.func27,fN Tryz.func72,fN Tryz.func26,trivial⟩
set_option maxRecDepth 100000 in
theorem Up :Gc 11:=⟨fN Tryz.func22,fN Tryz.func133,fN Tryz.func323,fN Tryz.func132,fN Tryz.func279,fN Tryz.func6,fN Tryz.func209,fN Tryz.func135,fN Tryz.func220,fN Tryz.func148,fN Tryz.func141,fN Tryz.func77,fN Tryz.func285,fN Tryz.func327,fN Tryz.func283,fN Tryz.func213,trivial⟩
end Go.Proofs.YtbeaonmepfkmmaaGreat
