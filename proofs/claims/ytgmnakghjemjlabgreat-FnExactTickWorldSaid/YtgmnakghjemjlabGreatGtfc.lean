/- Of this proof. -/
import Derived.Test.YtgmnakghjemjlabGreatGtfa
import Derived.KernelRfl
set_option linter.unusedSimpArgs false
set_option linter.unusedVariables false
namespace Go.Proofs.YtgmnakghjemjlabGreat
open Go Go.RowKit Gi
set_option maxHeartbeats 8000000
set_option maxRecDepth 100000 in
theorem RY :Gc 7:=⟨fN Tryz.func100,fN Tryz.func39,fN Tryz.func99,fN Tryz.func38,fN Tryz.func34,fN Tryz.func169,fN Tryz.func319,fN Tryz.func9,fN Tryz.func285,fN Tryz.func8,fN Tryz.func239,fN Tryz.func171,fN Tryz.func117,fN Tryz.func110,fN Tryz.func180,fN Tryz.func177,trivial⟩
set_option maxRecDepth 100000 in
theorem RZ :Gc 8:=⟨fN Tryz.func241,fN Tryz.func50,fN Tryz.func181,fN Tryz.func179,fN Tryz.func112,fN Tryz.func113,fN Tryz.func116,fN Tryz.func111,fN Tryz.func114,fN Tryz.func49,fN Tryz.func115,fN Tryz.func48,fN Tryz.func52,fN Tryz.func51,fN Tryz.func47,fN Tryz.func178,trivial⟩
set_option maxRecDepth 100000 in
theorem R2 :Gc 9:=⟨fN Tryz.func13,fN Tryz.func12,fN Tryz.func118,fN Tryz.func108,fN Tryz.func101,fN Tryz.func175,fN Tryz.func172,fN Tryz.func240,fN Tryz.func43,fN Tryz.func176,fN Tryz.func174,fN Tryz.func103,fN Tryz.func104,fN Tryz.func107,fN Tryz.func102,fN Tryz.func105,trivial⟩
set_option maxRecDepth 100000 in
theorem Rn :Gc 10:=⟨fN Tryz.func42,fN Tryz.func106,fN Tryz.func41,fN Tryz.func45,fN Tryz.func44,fN Tryz.func40,fN Tryz.func173,fN Tryz.func11,fN Tryz.func46,fN Tryz.func10,fN Tryz.func109,fN Tryz.func125,fN Tryz.func119,fN Tryz.func53,fN Tryz.func244,fN Tryz.func289,trivial⟩
set_option maxRecDepth 100000 in
theorem Ro :Gc 11:=⟨fN Tryz.func242,fN Tryz.func183,fN Tryz.func341,fN Tryz.func323,fN Tryz.func17,fN Tryz.func243,fN Tryz.func184,fN Tryz.func342,fN Tryz.func325,fN Tryz.func324,fN Tryz.func291,fN Tryz.func246,fN Tryz.func187,fN Tryz.func188,fN Tryz.func247,fN Tryz.func189,trivial⟩
set_option maxRecDepth 100000 in
theorem Rp :Gc 12:=⟨fN Tryz.func248,fN Tryz.func186,fN Tryz.func120,fN Tryz.func122,fN Tryz.func55,fN Tryz.func16,fN Tryz.func121,fN Tryz.func56,fN Tryz.func292,fN Tryz.func54,fN Tryz.func15,fN Tryz.func293,fN Tryz.func182,fN Tryz.func185,fN Tryz.func351,fN Tryz.func58,trivial⟩
set_option maxRecDepth 100000 in
theorem Rq :Gc 13:=⟨fN Tryz.func19,fN Tryz.func57,fN Tryz.func18,fN Tryz.func14,fN Tryz.func124,fN Tryz.func290,fN Tryz.func123,fN Tryz.func245,fN Tryz.func4,fN Tryz.func190,fN Tryz.func126,fN Tryz.func212,fN Tryz.func146,fN Tryz.func139,fN Tryz.func74,fN Tryz.func263,trivial⟩
end Go.Proofs.YtgmnakghjemjlabGreat
