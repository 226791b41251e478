/- A part. -/
import Derived.Test.YtndiampmpmbfoaaGreatGtfa
import Derived.KernelRfl
set_option linter.all false
namespace Go.Proofs.YtndiampmpmbfoaaGreat
open Go Go.RowKit Gi
set_option maxHeartbeats 8000000
set_option maxRecDepth 100000 in
def Yn :Gc 0:=⟨fN Tryz.func115,fN Tryz.func194,fN Tryz.func392,fN Tryz.func391,fN Tryz.func116,fN Tryz.func262,fN Tryz.func366,fN Tryz.func367,fN Tryz.func34,fN Tryz.func96,fN Tryz.func269,fN Tryz.func327,fN Tryz.func314,fN Tryz.func360,fN Tryz.func112,fN Tryz.func363,trivial⟩
set_option maxRecDepth 100000 in
def Yo :Gc 1:=⟨fN Tryz.func98,fN Tryz.func362,fN Tryz.func179,fN Tryz.func256,fN Tryz.func257,fN Tryz.func260,fN Tryz.func181,fN Tryz.func100,fN Tryz.func182,fN Tryz.func113,fN Tryz.func101,fN Tryz.func183,fN Tryz.func261,fN Tryz.func255,fN Tryz.func219,fN Tryz.func313,trivial⟩
set_option maxRecDepth 100000 in
def Yp :Gc 2:=⟨fN Tryz.func103,fN Tryz.func102,fN Tryz.func99,fN Tryz.func184,fN Tryz.func36,fN Tryz.func190,fN Tryz.func271,fN Tryz.func114,fN Tryz.func270,fN Tryz.func191,fN Tryz.func35,fN Tryz.func317,fN Tryz.func365,fN Tryz.func318,fN Tryz.func319,fN Tryz.func364,trivial⟩
set_option maxRecDepth 100000 in
def Yq :Gc 3:=⟨fN Tryz.func9,fN Tryz.func39,fN Tryz.func316,fN Tryz.func258,fN Tryz.func180,fN Tryz.func321,fN Tryz.func185,fN Tryz.func325,fN Tryz.func263,fN Tryz.func107,fN Tryz.func324,fN Tryz.func264,fN Tryz.func187,fN Tryz.func106,fN Tryz.func265,fN Tryz.func188,trivial⟩
set_option maxRecDepth 100000 in
def Yr :Gc 4:=⟨fN Tryz.func186,fN Tryz.func105,fN Tryz.func266,fN Tryz.func38,fN Tryz.func323,fN Tryz.func109,fN Tryz.func108,fN Tryz.func104,fN Tryz.func110,fN Tryz.func111,fN Tryz.func37,fN Tryz.func189,fN Tryz.func268,fN Tryz.func312,fN Tryz.func358,fN Tryz.func328,trivial⟩
set_option maxRecDepth 100000 in
def Ys :Gc 5:=⟨fN Tryz.func370,fN Tryz.func390,fN Tryz.func320,fN Tryz.func259,fN Tryz.func40,fN Tryz.func3,fN Tryz.func283,fN Tryz.func202,fN Tryz.func195,fN Tryz.func117,fN Tryz.func334,fN Tryz.func376,fN Tryz.func332,fN Tryz.func276,fN Tryz.func405,fN Tryz.func396,trivial⟩
set_option maxRecDepth 100000 in
def Yt :Gc 6:=⟨fN Tryz.func44,fN Tryz.func333,fN Tryz.func277,fN Tryz.func406,fN Tryz.func398,fN Tryz.func397,fN Tryz.func378,fN Tryz.func336,fN Tryz.func280,fN Tryz.func281,fN Tryz.func337,fN Tryz.func282,fN Tryz.func338,fN Tryz.func279,fN Tryz.func196,fN Tryz.func198,trivial⟩
set_option maxRecDepth 100000 in
def Yu :Gc 7:=⟨fN Tryz.func119,fN Tryz.func43,fN Tryz.func197,fN Tryz.func199,fN Tryz.func120,fN Tryz.func379,fN Tryz.func118,fN Tryz.func42,fN Tryz.func380,fN Tryz.func275,fN Tryz.func278,fN Tryz.func409,fN Tryz.func122,fN Tryz.func46,fN Tryz.func121,fN Tryz.func45,trivial⟩
end Go.Proofs.YtndiampmpmbfoaaGreat
