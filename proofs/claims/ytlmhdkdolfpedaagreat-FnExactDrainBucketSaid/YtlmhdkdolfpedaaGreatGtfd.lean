/- Of this proof. -/
import Derived.Test.YtlmhdkdolfpedaaGreatGtfa
import Derived.KernelRfl
set_option linter.all false
namespace Go.Proofs.YtlmhdkdolfpedaaGreat
open Go Go.RowKit Gi
set_option maxHeartbeats 8000000
set_option maxRecDepth 100000 in
def aff :Gc 16:=⟨fN Tryz.func235,fN Tryz.func295,fN Tryz.func236,fN Tryz.func296,fN Tryz.func233,fN Tryz.func157,fN Tryz.func159,fN Tryz.func76,fN Tryz.func23,fN Tryz.func158,fN Tryz.func160,fN Tryz.func77,fN Tryz.func343,fN Tryz.func75,fN Tryz.func22,fN Tryz.func344,trivial⟩
set_option maxRecDepth 100000 in
def afg :Gc 17:=⟨fN Tryz.func229,fN Tryz.func232,fN Tryz.func400,fN Tryz.func79,fN Tryz.func26,fN Tryz.func78,fN Tryz.func25,fN Tryz.func21,fN Tryz.func162,fN Tryz.func341,fN Tryz.func161,fN Tryz.func293,fN Tryz.func6,fN Tryz.func238,fN Tryz.func164,fN Tryz.func304,trivial⟩
set_option maxRecDepth 100000 in
def afh :Gc 18:=⟨ab6,fN Tryz.func312,fN Tryz.func172,fN Tryz.func345,fN Tryz.func381,fN Tryz.func357,fN Tryz.func347,fN Tryz.func349,fN Tryz.func174,ab7,ab8,ab9,fN Tryz.func147,fN Tryz.func373,fN Tryz.func372,fN Tryz.func149,trivial⟩
set_option maxRecDepth 100000 in
def afi :Gc 19:=⟨fN Tryz.func221,fN Tryz.func5,fN Tryz.func338,fN Tryz.func339,fN Tryz.func65,fN Tryz.func287,fN Tryz.func282,fN Tryz.func144,fN Tryz.func335,fN Tryz.func334,fN Tryz.func140,fN Tryz.func223,fN Tryz.func224,fN Tryz.func219,fN Tryz.func142,fN Tryz.func68,trivial⟩
set_option maxRecDepth 100000 in
def afj :Gc 20:=⟨fN Tryz.func137,fN Tryz.func145,fN Tryz.func64,fN Tryz.func138,fN Tryz.func220,fN Tryz.func222,fN Tryz.func151,fN Tryz.func333,fN Tryz.func63,fN Tryz.func61,fN Tryz.func67,fN Tryz.func139,fN Tryz.func18,fN Tryz.func153,fN Tryz.func148,fN Tryz.func20,trivial⟩
set_option maxRecDepth 100000 in
def afk :Gc 21:=⟨fN Tryz.func71,fN Tryz.func155,fN Tryz.func289,fN Tryz.func146,fN Tryz.func72,fN Tryz.func288,fN Tryz.func228,fN Tryz.func69,fN Tryz.func284,fN Tryz.func337,fN Tryz.func285,fN Tryz.func286,fN Tryz.func336,fN Tryz.func19,fN Tryz.func70,fN Tryz.func283,trivial⟩
set_option maxRecDepth 100000 in
def afl :Gc 22:=⟨fN Tryz.func225,fN Tryz.func216,fN Tryz.func135,fN Tryz.func217,fN Tryz.func332,fN Tryz.func59,fN Tryz.func276,fN Tryz.func215,fN Tryz.func281,fN Tryz.func56,fN Tryz.func66,fN Tryz.func226,fN Tryz.func60,fN Tryz.func227,fN Tryz.func143,fN Tryz.func152,trivial⟩
set_option maxRecDepth 100000 in
def afm :Gc 23:=⟨fN Tryz.func150,fN Tryz.func57,fN Tryz.func58,fN Tryz.func154,fN Tryz.func134,fN Tryz.func55,fN Tryz.func141,fN Tryz.func17,fN Tryz.func62,fN Tryz.func73,fN Tryz.func280,fN Tryz.func279,fN Tryz.func278,fN Tryz.func136,fN Tryz.func218,fN Tryz.func371,trivial⟩
set_option maxRecDepth 100000 in
def afn :Gc 24:=⟨fN Tryz.func277,aca,trivial⟩
end Go.Proofs.YtlmhdkdolfpedaaGreat
