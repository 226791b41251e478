/- Of this proof. -/
import Derived.Test.YtebnmoogdmpepaaGreatGtfa
import Derived.KernelRfl
set_option linter.unusedSimpArgs false
set_option linter.unusedVariables false
namespace Go.Proofs.YtebnmoogdmpepaaGreat
open Go Go.RowKit Gi
set_option maxHeartbeats 8000000
set_option maxRecDepth 100000 in
theorem VF :Gc 0:=⟨fN Tryz.func402,fN Tryz.func401,fN Tryz.func337,fN Tryz.func278,fN Tryz.func275,fN Tryz.func114,fN Tryz.func38,fN Tryz.func115,fN Tryz.func9,fN Tryz.func36,fN Tryz.func376,fN Tryz.func377,fN Tryz.func62,fN Tryz.func152,fN Tryz.func110,fN Tryz.func201,trivial⟩
set_option maxRecDepth 100000 in
theorem VG :Gc 1:=⟨fN Tryz.func327,fN Tryz.func370,fN Tryz.func373,fN Tryz.func336,fN Tryz.func103,fN Tryz.func372,fN Tryz.func193,fN Tryz.func269,fN Tryz.func270,fN Tryz.func273,fN Tryz.func195,fN Tryz.func105,fN Tryz.func196,fN Tryz.func228,fN Tryz.func106,fN Tryz.func197,trivial⟩
set_option maxRecDepth 100000 in
theorem VH :Gc 2:=⟨fN Tryz.func274,fN Tryz.func268,fN Tryz.func155,fN Tryz.func326,fN Tryz.func108,fN Tryz.func107,fN Tryz.func104,fN Tryz.func198,fN Tryz.func35,fN Tryz.func379,fN Tryz.func276,fN Tryz.func204,fN Tryz.func277,fN Tryz.func113,fN Tryz.func37,fN Tryz.func63,trivial⟩
set_option maxRecDepth 100000 in
theorem VI :Gc 3:=⟨fN Tryz.func330,fN Tryz.func375,fN Tryz.func331,fN Tryz.func332,fN Tryz.func374,fN Tryz.func329,fN Tryz.func271,fN Tryz.func194,fN Tryz.func334,fN Tryz.func190,fN Tryz.func203,fN Tryz.func109,fN Tryz.func100,fN Tryz.func202,fN Tryz.func112,fN Tryz.func267,trivial⟩
set_option maxRecDepth 100000 in
theorem VJ :Gc 4:=⟨fN Tryz.func99,fN Tryz.func266,fN Tryz.func230,fN Tryz.func191,fN Tryz.func98,fN Tryz.func324,fN Tryz.func154,fN Tryz.func199,fN Tryz.func102,fN Tryz.func101,fN Tryz.func97,fN Tryz.func192,fN Tryz.func227,fN Tryz.func34,fN Tryz.func325,fN Tryz.func368,trivial⟩
set_option maxRecDepth 100000 in
theorem VK :Gc 5:=⟨fN Tryz.func346,fN Tryz.func386,fN Tryz.func400,fN Tryz.func333,fN Tryz.func272,fN Tryz.func3,fN Tryz.func287,fN Tryz.func212,fN Tryz.func205,fN Tryz.func116,fN Tryz.func11,fN Tryz.func380,fN Tryz.func338,fN Tryz.func280,fN Tryz.func413,fN Tryz.func404,trivial⟩
set_option maxRecDepth 100000 in
theorem VL :Gc 6:=⟨fN Tryz.func42,fN Tryz.func339,fN Tryz.func281,fN Tryz.func414,fN Tryz.func406,fN Tryz.func405,fN Tryz.func382,fN Tryz.func341,fN Tryz.func284,fN Tryz.func285,fN Tryz.func342,fN Tryz.func286,fN Tryz.func343,fN Tryz.func283,fN Tryz.func206,fN Tryz.func208,trivial⟩
set_option maxRecDepth 100000 in
theorem VM :Gc 7:=⟨fN Tryz.func118,fN Tryz.func41,fN Tryz.func207,fN Tryz.func209,fN Tryz.func119,fN Tryz.func383,fN Tryz.func117,fN Tryz.func40,fN Tryz.func384,fN Tryz.func279,fN Tryz.func282,fN Tryz.func419,fN Tryz.func121,fN Tryz.func44,fN Tryz.func120,fN Tryz.func43,trivial⟩
end Go.Proofs.YtebnmoogdmpepaaGreat
