/- Of this proof. -/
import Derived.Test.YtpfadfkomcbecaaGreatGtfa
import Derived.KernelRfl
set_option linter.unusedSimpArgs false
set_option linter.unusedVariables false
namespace Go.Proofs.YtpfadfkomcbecaaGreat
open Go Go.RowKit Gi
set_option maxHeartbeats 8000000
set_option maxRecDepth 100000 in
theorem Te :Gc 14:=⟨fN Tryz.func141,fN Tryz.func71,fN Tryz.func263,fN Tryz.func306,fN Tryz.func261,fN Tryz.func206,fN Tryz.func349,fN Tryz.func335,fN Tryz.func24,fN Tryz.func262,fN Tryz.func207,fN Tryz.func350,fN Tryz.func337,fN Tryz.func336,fN Tryz.func308,fN Tryz.func265,trivial⟩
set_option maxRecDepth 100000 in
theorem Tf :Gc 15:=⟨fN Tryz.func210,fN Tryz.func211,fN Tryz.func266,fN Tryz.func212,fN Tryz.func267,fN Tryz.func209,fN Tryz.func142,fN Tryz.func144,fN Tryz.func73,fN Tryz.func23,fN Tryz.func143,fN Tryz.func145,fN Tryz.func74,fN Tryz.func309,fN Tryz.func72,fN Tryz.func22,trivial⟩
set_option maxRecDepth 100000 in
theorem Tg :Gc 16:=⟨fN Tryz.func310,fN Tryz.func205,fN Tryz.func208,fN Tryz.func358,fN Tryz.func76,fN Tryz.func26,fN Tryz.func75,fN Tryz.func25,fN Tryz.func21,fN Tryz.func147,fN Tryz.func307,fN Tryz.func146,fN Tryz.func264,fN Tryz.func6,fN Tryz.func214,fN Tryz.func149,trivial⟩
set_option maxRecDepth 100000 in
theorem Ti :Gc 17:=⟨fN Tryz.func276,QO,fN Tryz.func157,fN Tryz.func312,fN Tryz.func353,fN Tryz.func83,fN Tryz.func314,fN Tryz.func316,fN Tryz.func159,QP,fN Tryz.func334,fN Tryz.func333,fN Tryz.func199,fN Tryz.func304,fN Tryz.func305,fN Tryz.func66,trivial⟩
set_option maxRecDepth 100000 in
theorem Tj :Gc 18:=⟨fN Tryz.func255,fN Tryz.func301,fN Tryz.func70,fN Tryz.func300,fN Tryz.func137,fN Tryz.func201,fN Tryz.func202,fN Tryz.func197,fN Tryz.func139,fN Tryz.func69,fN Tryz.func134,fN Tryz.func257,fN Tryz.func65,fN Tryz.func135,fN Tryz.func198,fN Tryz.func200,trivial⟩
set_option maxRecDepth 100000 in
theorem Tk :Gc 19:=⟨fN Tryz.func203,fN Tryz.func299,fN Tryz.func64,fN Tryz.func62,fN Tryz.func68,fN Tryz.func136,fN Tryz.func19,fN Tryz.func5,fN Tryz.func18,fN Tryz.func20,fN Tryz.func258,fN Tryz.func303,fN Tryz.func259,fN Tryz.func260,fN Tryz.func302,fN Tryz.func256,trivial⟩
set_option maxRecDepth 100000 in
theorem Tl :Gc 20:=⟨fN Tryz.func204,fN Tryz.func193,fN Tryz.func132,fN Tryz.func195,fN Tryz.func297,fN Tryz.func59,fN Tryz.func248,fN Tryz.func192,fN Tryz.func254,fN Tryz.func56,fN Tryz.func67,fN Tryz.func298,fN Tryz.func60,fN Tryz.func250,fN Tryz.func194,fN Tryz.func57,trivial⟩
set_option maxRecDepth 100000 in
theorem Tm :Gc 21:=⟨fN Tryz.func140,fN Tryz.func58,fN Tryz.func61,fN Tryz.func131,fN Tryz.func55,fN Tryz.func138,fN Tryz.func17,fN Tryz.func63,fN Tryz.func253,fN Tryz.func252,fN Tryz.func251,fN Tryz.func133,fN Tryz.func196,fN Tryz.func332,fN Tryz.func249,QQ,trivial⟩
end Go.Proofs.YtpfadfkomcbecaaGreat
