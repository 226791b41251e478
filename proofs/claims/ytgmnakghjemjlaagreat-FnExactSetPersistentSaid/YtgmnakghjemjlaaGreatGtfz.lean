/- Of this proof. -/
import Derived.Test.YtgmnakghjemjlaaGreatGtfa
import Derived.KernelRfl
namespace Go.Proofs.YtgmnakghjemjlaaGreat
open Go Go.RowKit Gi
set_option linter.unusedSimpArgs false
set_option linter.unusedVariables false
set_option maxHeartbeats 8000000
set_option maxRecDepth 100000 in
theorem QL :Gc 14:=⟨fN Tryz.func335,fN Tryz.func321,fN Tryz.func23,fN Tryz.func248,fN Tryz.func193,fN Tryz.func336,fN Tryz.func323,fN Tryz.func322,fN Tryz.func294,fN Tryz.func251,fN Tryz.func196,fN Tryz.func197,fN Tryz.func252,fN Tryz.func198,fN Tryz.func253,fN Tryz.func195,trivial⟩
set_option maxRecDepth 100000 in
theorem QM :Gc 15:=⟨fN Tryz.func132,fN Tryz.func134,fN Tryz.func68,fN Tryz.func22,fN Tryz.func133,fN Tryz.func135,fN Tryz.func69,fN Tryz.func295,fN Tryz.func67,fN Tryz.func21,fN Tryz.func296,fN Tryz.func191,fN Tryz.func194,fN Tryz.func344,fN Tryz.func71,fN Tryz.func25,trivial⟩
set_option maxRecDepth 100000 in
theorem QN :Gc 16:=⟨fN Tryz.func70,fN Tryz.func24,fN Tryz.func20,fN Tryz.func137,fN Tryz.func293,fN Tryz.func136,fN Tryz.func250,fN Tryz.func6,fN Tryz.func200,fN Tryz.func139,fN Tryz.func262,fN Tryz.func78,fN Tryz.func298,fN Tryz.func339,fN Tryz.func300,fN Tryz.func302,trivial⟩
set_option maxRecDepth 100000 in
theorem QO :Gc 17:=⟨fN Tryz.func147,Ow,fN Tryz.func320,fN Tryz.func319,fN Tryz.func185,fN Tryz.func290,fN Tryz.func291,fN Tryz.func18,fN Tryz.func241,fN Tryz.func287,fN Tryz.func286,fN Tryz.func128,fN Tryz.func187,fN Tryz.func188,fN Tryz.func183,fN Tryz.func130,trivial⟩
set_option maxRecDepth 100000 in
theorem QP :Gc 18:=⟨fN Tryz.func65,fN Tryz.func125,fN Tryz.func243,fN Tryz.func62,fN Tryz.func126,fN Tryz.func184,fN Tryz.func186,fN Tryz.func189,fN Tryz.func285,fN Tryz.func61,fN Tryz.func59,fN Tryz.func64,fN Tryz.func127,fN Tryz.func19,fN Tryz.func5,fN Tryz.func244,trivial⟩
set_option maxRecDepth 100000 in
theorem QQ :Gc 19:=⟨fN Tryz.func289,fN Tryz.func245,fN Tryz.func246,fN Tryz.func288,fN Tryz.func242,fN Tryz.func190,fN Tryz.func179,fN Tryz.func123,fN Tryz.func181,fN Tryz.func283,fN Tryz.func57,fN Tryz.func234,fN Tryz.func178,fN Tryz.func240,fN Tryz.func54,fN Tryz.func63,trivial⟩
set_option maxRecDepth 100000 in
theorem QR :Gc 20:=⟨fN Tryz.func284,fN Tryz.func58,fN Tryz.func236,fN Tryz.func180,fN Tryz.func55,fN Tryz.func56,fN Tryz.func122,fN Tryz.func53,fN Tryz.func129,fN Tryz.func17,fN Tryz.func60,fN Tryz.func239,fN Tryz.func238,fN Tryz.func237,fN Tryz.func124,fN Tryz.func182,trivial⟩
set_option maxRecDepth 100000 in
theorem QS :Gc 21:=⟨fN Tryz.func318,fN Tryz.func235,Ox,trivial⟩
end Go.Proofs.YtgmnakghjemjlaaGreat
