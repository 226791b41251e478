/- Of this proof. -/
import Derived.Test.YtpnolnkjijmfjaaGreatGtfa
import Derived.KernelRfl
set_option linter.all false
namespace Go.Proofs.YtpnolnkjijmfjaaGreat
open Go Go.RowKit Gi
set_option maxHeartbeats 8000000
set_option maxRecDepth 100000 in
def afR :Gc 16:=⟨fN Tryz.func276,fN Tryz.func214,fN Tryz.func215,fN Tryz.func277,fN Tryz.func216,fN Tryz.func278,fN Tryz.func213,fN Tryz.func132,fN Tryz.func134,fN Tryz.func63,fN Tryz.func22,fN Tryz.func133,fN Tryz.func135,fN Tryz.func64,fN Tryz.func323,fN Tryz.func62,trivial⟩
set_option maxRecDepth 100000 in
def afS :Gc 17:=⟨fN Tryz.func21,fN Tryz.func324,fN Tryz.func209,fN Tryz.func212,fN Tryz.func404,fN Tryz.func66,fN Tryz.func25,fN Tryz.func65,fN Tryz.func24,fN Tryz.func20,fN Tryz.func137,fN Tryz.func321,fN Tryz.func136,fN Tryz.func275,fN Tryz.func6,fN Tryz.func218,trivial⟩
set_option maxRecDepth 100000 in
def afT :Gc 18:=⟨fN Tryz.func139,fN Tryz.func332,acF,fN Tryz.func296,fN Tryz.func155,fN Tryz.func365,fN Tryz.func378,fN Tryz.func342,fN Tryz.func367,fN Tryz.func369,fN Tryz.func157,acG,acH,acI,fN Tryz.func126,fN Tryz.func391,trivial⟩
set_option maxRecDepth 100000 in
def afU :Gc 19:=⟨fN Tryz.func390,fN Tryz.func204,fN Tryz.func261,fN Tryz.func18,fN Tryz.func360,fN Tryz.func361,fN Tryz.func56,fN Tryz.func267,fN Tryz.func314,fN Tryz.func200,fN Tryz.func357,fN Tryz.func356,fN Tryz.func196,fN Tryz.func263,fN Tryz.func264,fN Tryz.func259,trivial⟩
set_option maxRecDepth 100000 in
def afV :Gc 20:=⟨fN Tryz.func198,fN Tryz.func121,fN Tryz.func193,fN Tryz.func201,fN Tryz.func118,fN Tryz.func194,fN Tryz.func260,fN Tryz.func262,fN Tryz.func124,fN Tryz.func355,fN Tryz.func117,fN Tryz.func115,fN Tryz.func120,fN Tryz.func195,fN Tryz.func54,fN Tryz.func127,trivial⟩
set_option maxRecDepth 100000 in
def afW :Gc 21:=⟨fN Tryz.func203,fN Tryz.func19,fN Tryz.func58,fN Tryz.func130,fN Tryz.func269,fN Tryz.func202,fN Tryz.func59,fN Tryz.func268,fN Tryz.func205,fN Tryz.func17,fN Tryz.func5,fN Tryz.func57,fN Tryz.func316,fN Tryz.func359,fN Tryz.func317,fN Tryz.func318,trivial⟩
set_option maxRecDepth 100000 in
def afX :Gc 22:=⟨fN Tryz.func358,fN Tryz.func55,fN Tryz.func122,fN Tryz.func315,fN Tryz.func265,fN Tryz.func208,fN Tryz.func191,fN Tryz.func257,fN Tryz.func319,fN Tryz.func113,fN Tryz.func270,fN Tryz.func207,fN Tryz.func313,fN Tryz.func110,fN Tryz.func119,fN Tryz.func206,trivial⟩
set_option maxRecDepth 100000 in
def afY :Gc 23:=⟨fN Tryz.func114,fN Tryz.func266,fN Tryz.func199,fN Tryz.func125,fN Tryz.func123,fN Tryz.func111,fN Tryz.func112,fN Tryz.func129,fN Tryz.func128,fN Tryz.func109,fN Tryz.func197,fN Tryz.func53,fN Tryz.func116,fN Tryz.func60,fN Tryz.func312,fN Tryz.func311,trivial⟩
set_option maxRecDepth 100000 in
def afZ :Gc 24:=⟨fN Tryz.func310,fN Tryz.func192,fN Tryz.func258,fN Tryz.func389,fN Tryz.func271,acJ,trivial⟩
end Go.Proofs.YtpnolnkjijmfjaaGreat
