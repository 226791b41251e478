/- Of this proof. -/
import Derived.Test.YtbeaonmepfkmmaaGreatGtfav
import Derived.KernelRfl
set_option linter.unusedSimpArgs false
set_option linter.unusedVariables false
namespace Go.Proofs.YtbeaonmepfkmmaaGreat
open Go Go.RowKit Gi
set_option maxHeartbeats 8000000
set_option maxRecDepth 100000 in
theorem V1 :Gc 0:=⟨fN Tryz.func312,fN Tryz.func255,fN Tryz.func254,fN Tryz.func252,fN Tryz.func176,fN Tryz.func308,fN Tryz.func177,fN Tryz.func101,fN Tryz.func178,fN Tryz.func313,fN Tryz.func344,fN Tryz.func12,fN Tryz.func197,fN Tryz.func179,fN Tryz.func198,fN Tryz.func155,trivial⟩
set_option maxRecDepth 100000 in
theorem V2 :Gc 1:=⟨fN Tryz.func83,fN Tryz.func151,fN Tryz.func273,fN Tryz.func318,fN Tryz.func50,fN Tryz.func104,fN Tryz.func311,fN Tryz.func251,fN Tryz.func257,fN Tryz.func345,fN Tryz.func310,fN Tryz.func180,fN Tryz.func271,fN Tryz.func256,fN Tryz.func261,fN Tryz.func272,trivial⟩
set_option maxRecDepth 100000 in
theorem V3 :Gc 2:=⟨fN Tryz.func258,fN Tryz.func66,fN Tryz.func306,fN Tryz.func49,fN Tryz.func67,fN Tryz.func275,fN Tryz.func174,fN Tryz.func100,fN Tryz.func175,fN Tryz.func181,fN Tryz.func102,fN Tryz.func274,fN Tryz.func199,fN Tryz.func123,fN Tryz.func196,fN Tryz.func124,trivial⟩
set_option maxRecDepth 100000 in
theorem V4 :Gc 3:=⟨fN Tryz.func125,fN Tryz.func195,fN Tryz.func260,fN Tryz.func65,fN Tryz.func18,fN Tryz.func126,fN Tryz.func253,fN Tryz.func64,fN Tryz.func37,fN Tryz.func340,fN Tryz.func250,fN Tryz.func99,fN Tryz.func105,fN Tryz.func200,fN Tryz.func127,fN Tryz.func182,trivial⟩
set_option maxRecDepth 100000 in
theorem V5 :Gc 4:=⟨fN Tryz.func51,fN Tryz.func319,fN Tryz.func347,fN Tryz.func342,fN Tryz.func316,fN Tryz.func307,fN Tryz.func262,fN Tryz.func5,fN Tryz.func236,fN Tryz.func164,fN Tryz.func158,fN Tryz.func88,fN Tryz.func295,fN Tryz.func333,fN Tryz.func293,fN Tryz.func231,trivial⟩
set_option maxRecDepth 100000 in
theorem V6 :Gc 5:=⟨fN Tryz.func367,fN Tryz.func358,fN Tryz.func43,fN Tryz.func294,fN Tryz.func232,fN Tryz.func314,fN Tryz.func263,fN Tryz.func359,fN Tryz.func335,fN Tryz.func297,fN Tryz.func235,fN Tryz.func19,fN Tryz.func106,fN Tryz.func52,fN Tryz.func183,fN Tryz.func234,trivial⟩
end Go.Proofs.YtbeaonmepfkmmaaGreat
