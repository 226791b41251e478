/- Of this proof. -/
import Derived.Test.YtgmnakghjemjlabGreatGtfa
import Derived.KernelRfl
set_option linter.unusedSimpArgs false
set_option linter.unusedVariables false
namespace Go.Proofs.YtgmnakghjemjlabGreat
open Go Go.RowKit Gi
set_option maxHeartbeats 8000000
set_option maxRecDepth 100000 in
theorem Rr :Gc 14:=⟨fN Tryz.func301,fN Tryz.func261,fN Tryz.func205,fN Tryz.func343,fN Tryz.func329,fN Tryz.func27,fN Tryz.func262,fN Tryz.func206,fN Tryz.func344,fN Tryz.func331,fN Tryz.func330,fN Tryz.func303,fN Tryz.func265,fN Tryz.func209,fN Tryz.func210,fN Tryz.func266,trivial⟩
set_option maxRecDepth 100000 in
theorem Rs :Gc 15:=⟨fN Tryz.func211,fN Tryz.func267,fN Tryz.func208,fN Tryz.func140,fN Tryz.func142,fN Tryz.func76,fN Tryz.func26,fN Tryz.func141,fN Tryz.func143,fN Tryz.func77,fN Tryz.func304,fN Tryz.func75,fN Tryz.func25,fN Tryz.func305,fN Tryz.func204,fN Tryz.func207,trivial⟩
set_option maxRecDepth 100000 in
theorem Rt :Gc 16:=⟨fN Tryz.func352,fN Tryz.func79,fN Tryz.func29,fN Tryz.func78,fN Tryz.func28,fN Tryz.func24,fN Tryz.func145,fN Tryz.func302,fN Tryz.func144,fN Tryz.func264,fN Tryz.func6,fN Tryz.func213,fN Tryz.func147,fN Tryz.func159,fN Tryz.func272,fN Tryz.func154,trivial⟩
set_option maxRecDepth 100000 in
theorem Ru :Gc 17:=⟨fN Tryz.func306,fN Tryz.func347,fN Tryz.func225,fN Tryz.func308,fN Tryz.func310,fN Tryz.func156,Pf,fN Tryz.func328,fN Tryz.func327,fN Tryz.func195,fN Tryz.func299,fN Tryz.func300,fN Tryz.func23,fN Tryz.func69,fN Tryz.func253,fN Tryz.func296,trivial⟩
set_option maxRecDepth 100000 in
theorem Rv :Gc 18:=⟨fN Tryz.func295,fN Tryz.func132,fN Tryz.func197,fN Tryz.func198,fN Tryz.func72,fN Tryz.func193,fN Tryz.func134,fN Tryz.func71,fN Tryz.func129,fN Tryz.func255,fN Tryz.func68,fN Tryz.func130,fN Tryz.func194,fN Tryz.func196,fN Tryz.func199,fN Tryz.func294,trivial⟩
set_option maxRecDepth 100000 in
theorem Rw :Gc 19:=⟨fN Tryz.func67,fN Tryz.func65,fN Tryz.func70,fN Tryz.func131,fN Tryz.func21,fN Tryz.func256,fN Tryz.func298,fN Tryz.func257,fN Tryz.func258,fN Tryz.func297,fN Tryz.func5,fN Tryz.func254,fN Tryz.func200,fN Tryz.func137,fN Tryz.func127,fN Tryz.func191,trivial⟩
set_option maxRecDepth 100000 in
theorem Rx :Gc 20:=⟨fN Tryz.func259,fN Tryz.func63,fN Tryz.func201,fN Tryz.func136,fN Tryz.func252,fN Tryz.func60,fN Tryz.func22,fN Tryz.func260,fN Tryz.func64,fN Tryz.func203,fN Tryz.func138,fN Tryz.func61,fN Tryz.func62,fN Tryz.func73,fN Tryz.func135,fN Tryz.func59,trivial⟩
set_option maxRecDepth 100000 in
theorem Ry :Gc 21:=⟨fN Tryz.func133,fN Tryz.func20,fN Tryz.func66,fN Tryz.func251,fN Tryz.func250,fN Tryz.func249,fN Tryz.func128,fN Tryz.func192,fN Tryz.func326,fN Tryz.func202,Pg,trivial⟩
end Go.Proofs.YtgmnakghjemjlabGreat
