/- A part. -/
import Derived.Test.YtndiampmpmbfoaaGreatGtfa
import Derived.KernelRfl
set_option linter.all false
namespace Go.Proofs.YtndiampmpmbfoaaGreat
open Go Go.RowKit Gi
set_option maxHeartbeats 8000000
set_option maxRecDepth 100000 in
def Yv :Gc 8:=⟨fN Tryz.func41,fN Tryz.func201,fN Tryz.func377,fN Tryz.func200,fN Tryz.func335,fN Tryz.func10,fN Tryz.func284,fN Tryz.func203,fN Tryz.func142,fN Tryz.func134,fN Tryz.func212,fN Tryz.func209,fN Tryz.func286,fN Tryz.func56,fN Tryz.func213,fN Tryz.func211,trivial⟩
set_option maxRecDepth 100000 in
def Yw :Gc 9:=⟨fN Tryz.func136,fN Tryz.func137,fN Tryz.func141,fN Tryz.func135,fN Tryz.func138,fN Tryz.func55,fN Tryz.func139,fN Tryz.func54,fN Tryz.func58,fN Tryz.func57,fN Tryz.func53,fN Tryz.func210,fN Tryz.func140,fN Tryz.func12,fN Tryz.func143,fN Tryz.func132,trivial⟩
set_option maxRecDepth 100000 in
def XP :Gc 10:=⟨fN Tryz.func123,fN Tryz.func207,fN Tryz.func204,fN Tryz.func285,fN Tryz.func50,fN Tryz.func208,fN Tryz.func206,fN Tryz.func126,fN Tryz.func127,fN Tryz.func131,fN Tryz.func125,fN Tryz.func128,fN Tryz.func49,fN Tryz.func129,fN Tryz.func48,fN Tryz.func52,trivial⟩
set_option maxRecDepth 100000 in
def XQ :Gc 11:=⟨fN Tryz.func51,fN Tryz.func47,fN Tryz.func205,fN Tryz.func130,fN Tryz.func124,fN Tryz.func11,fN Tryz.func133,fN Tryz.func155,fN Tryz.func149,fN Tryz.func63,fN Tryz.func289,fN Tryz.func339,fN Tryz.func287,fN Tryz.func223,fN Tryz.func399,fN Tryz.func381,trivial⟩
set_option maxRecDepth 100000 in
def XR :Gc 12:=⟨fN Tryz.func20,fN Tryz.func288,fN Tryz.func224,fN Tryz.func400,fN Tryz.func383,fN Tryz.func382,fN Tryz.func341,fN Tryz.func291,fN Tryz.func227,fN Tryz.func228,fN Tryz.func292,fN Tryz.func229,fN Tryz.func293,fN Tryz.func226,fN Tryz.func150,fN Tryz.func152,trivial⟩
set_option maxRecDepth 100000 in
def XS :Gc 13:=⟨fN Tryz.func65,fN Tryz.func19,fN Tryz.func151,fN Tryz.func66,fN Tryz.func342,fN Tryz.func64,fN Tryz.func18,fN Tryz.func343,fN Tryz.func222,fN Tryz.func225,fN Tryz.func407,fN Tryz.func68,fN Tryz.func22,fN Tryz.func67,fN Tryz.func21,fN Tryz.func17,trivial⟩
set_option maxRecDepth 100000 in
def XT :Gc 14:=⟨fN Tryz.func154,fN Tryz.func340,fN Tryz.func153,fN Tryz.func290,fN Tryz.func6,fN Tryz.func230,fN Tryz.func156,fN Tryz.func253,fN Tryz.func177,fN Tryz.func170,fN Tryz.func89,fN Tryz.func307,fN Tryz.func352,fN Tryz.func305,fN Tryz.func246,fN Tryz.func401,trivial⟩
set_option maxRecDepth 100000 in
def XU :Gc 15:=⟨fN Tryz.func387,fN Tryz.func31,fN Tryz.func306,fN Tryz.func247,fN Tryz.func402,fN Tryz.func389,fN Tryz.func388,fN Tryz.func354,fN Tryz.func309,fN Tryz.func250,fN Tryz.func251,fN Tryz.func310,fN Tryz.func252,fN Tryz.func311,fN Tryz.func249,fN Tryz.func171,trivial⟩
end Go.Proofs.YtndiampmpmbfoaaGreat
