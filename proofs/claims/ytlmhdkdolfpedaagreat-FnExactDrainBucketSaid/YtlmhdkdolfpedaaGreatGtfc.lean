/- Of this proof. -/
import Derived.Test.YtlmhdkdolfpedaaGreatGtfa
import Derived.KernelRfl
set_option linter.all false
namespace Go.Proofs.YtlmhdkdolfpedaaGreat
open Go Go.RowKit Gi
set_option maxHeartbeats 8000000
set_option maxRecDepth 100000 in
def gc8 :Gc 8:=⟨fN Tryz.func260,fN Tryz.func403,fN Tryz.func104,fN Tryz.func36,fN Tryz.func103,fN Tryz.func35,fN Tryz.func31,fN Tryz.func193,fN Tryz.func364,fN Tryz.func192,fN Tryz.func323,fN Tryz.func8,fN Tryz.func266,fN Tryz.func195,fN Tryz.func124,fN Tryz.func116,trivial⟩
set_option maxRecDepth 100000 in
def gc9 :Gc 9:=⟨fN Tryz.func204,fN Tryz.func201,fN Tryz.func268,fN Tryz.func46,fN Tryz.func205,fN Tryz.func203,fN Tryz.func118,fN Tryz.func119,fN Tryz.func123,fN Tryz.func117,fN Tryz.func120,fN Tryz.func45,fN Tryz.func121,fN Tryz.func44,fN Tryz.func48,fN Tryz.func47,trivial⟩
set_option maxRecDepth 100000 in
def ae9 :Gc 10:=⟨fN Tryz.func43,fN Tryz.func202,fN Tryz.func122,fN Tryz.func10,fN Tryz.func125,fN Tryz.func114,fN Tryz.func105,fN Tryz.func199,fN Tryz.func196,fN Tryz.func267,fN Tryz.func40,fN Tryz.func200,fN Tryz.func198,fN Tryz.func108,fN Tryz.func109,fN Tryz.func113,trivial⟩
set_option maxRecDepth 100000 in
def afa :Gc 11:=⟨fN Tryz.func107,fN Tryz.func110,fN Tryz.func39,fN Tryz.func111,fN Tryz.func38,fN Tryz.func42,fN Tryz.func41,fN Tryz.func37,fN Tryz.func197,fN Tryz.func112,fN Tryz.func106,fN Tryz.func9,fN Tryz.func115,fN Tryz.func132,fN Tryz.func126,fN Tryz.func49,trivial⟩
set_option maxRecDepth 100000 in
def afb :Gc 12:=⟨fN Tryz.func271,fN Tryz.func327,fN Tryz.func269,fN Tryz.func207,fN Tryz.func391,fN Tryz.func368,fN Tryz.func14,fN Tryz.func270,fN Tryz.func208,fN Tryz.func392,fN Tryz.func370,fN Tryz.func369,fN Tryz.func329,fN Tryz.func273,fN Tryz.func211,fN Tryz.func212,trivial⟩
set_option maxRecDepth 100000 in
def afc :Gc 13:=⟨fN Tryz.func274,fN Tryz.func213,fN Tryz.func275,fN Tryz.func210,fN Tryz.func127,fN Tryz.func129,fN Tryz.func51,fN Tryz.func13,fN Tryz.func128,fN Tryz.func52,fN Tryz.func330,fN Tryz.func50,fN Tryz.func12,fN Tryz.func331,fN Tryz.func206,fN Tryz.func209,trivial⟩
set_option maxRecDepth 100000 in
def afd :Gc 14:=⟨fN Tryz.func399,fN Tryz.func54,fN Tryz.func16,fN Tryz.func53,fN Tryz.func15,fN Tryz.func11,fN Tryz.func131,fN Tryz.func328,fN Tryz.func130,fN Tryz.func272,fN Tryz.func4,fN Tryz.func214,fN Tryz.func133,fN Tryz.func237,fN Tryz.func163,fN Tryz.func156,trivial⟩
set_option maxRecDepth 100000 in
def afe :Gc 15:=⟨fN Tryz.func74,fN Tryz.func292,fN Tryz.func340,fN Tryz.func290,fN Tryz.func230,fN Tryz.func393,fN Tryz.func374,fN Tryz.func24,fN Tryz.func291,fN Tryz.func231,fN Tryz.func394,fN Tryz.func376,fN Tryz.func375,fN Tryz.func342,fN Tryz.func294,fN Tryz.func234,trivial⟩
end Go.Proofs.YtlmhdkdolfpedaaGreat
