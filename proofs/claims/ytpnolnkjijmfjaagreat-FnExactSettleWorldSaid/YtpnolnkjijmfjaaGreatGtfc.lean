/- Of this proof. -/
import Derived.Test.YtpnolnkjijmfjaaGreatGtfa
import Derived.KernelRfl
set_option linter.all false
namespace Go.Proofs.YtpnolnkjijmfjaaGreat
open Go Go.RowKit Gi
set_option maxHeartbeats 8000000
set_option maxRecDepth 100000 in
def gc8 :Gc 8:=⟨fN Tryz.func351,fN Tryz.func238,fN Tryz.func241,fN Tryz.func407,fN Tryz.func79,fN Tryz.func34,fN Tryz.func78,fN Tryz.func33,fN Tryz.func29,fN Tryz.func169,fN Tryz.func348,fN Tryz.func168,fN Tryz.func301,fN Tryz.func8,fN Tryz.func247,fN Tryz.func171,trivial⟩
set_option maxRecDepth 100000 in
def gc9 :Gc 9:=⟨fN Tryz.func99,fN Tryz.func91,fN Tryz.func180,fN Tryz.func177,fN Tryz.func249,fN Tryz.func44,fN Tryz.func181,fN Tryz.func179,fN Tryz.func93,fN Tryz.func94,fN Tryz.func98,fN Tryz.func92,fN Tryz.func95,fN Tryz.func43,fN Tryz.func96,fN Tryz.func42,trivial⟩
set_option maxRecDepth 100000 in
def afL :Gc 10:=⟨fN Tryz.func46,fN Tryz.func45,fN Tryz.func41,fN Tryz.func178,fN Tryz.func97,fN Tryz.func10,fN Tryz.func100,fN Tryz.func89,fN Tryz.func80,fN Tryz.func175,fN Tryz.func172,fN Tryz.func248,fN Tryz.func38,fN Tryz.func176,fN Tryz.func174,fN Tryz.func83,trivial⟩
set_option maxRecDepth 100000 in
def afM :Gc 11:=⟨fN Tryz.func84,fN Tryz.func88,fN Tryz.func82,fN Tryz.func85,fN Tryz.func37,fN Tryz.func86,fN Tryz.func36,fN Tryz.func40,fN Tryz.func39,fN Tryz.func35,fN Tryz.func173,fN Tryz.func87,fN Tryz.func81,fN Tryz.func9,fN Tryz.func90,fN Tryz.func107,trivial⟩
set_option maxRecDepth 100000 in
def afN :Gc 12:=⟨fN Tryz.func101,fN Tryz.func47,fN Tryz.func252,fN Tryz.func305,fN Tryz.func250,fN Tryz.func183,fN Tryz.func387,fN Tryz.func352,fN Tryz.func14,fN Tryz.func251,fN Tryz.func184,fN Tryz.func388,fN Tryz.func354,fN Tryz.func353,fN Tryz.func307,fN Tryz.func254,trivial⟩
set_option maxRecDepth 100000 in
def afO :Gc 13:=⟨fN Tryz.func187,fN Tryz.func188,fN Tryz.func255,fN Tryz.func189,fN Tryz.func256,fN Tryz.func186,fN Tryz.func102,fN Tryz.func104,fN Tryz.func49,fN Tryz.func13,fN Tryz.func103,fN Tryz.func50,fN Tryz.func308,fN Tryz.func48,fN Tryz.func12,fN Tryz.func309,trivial⟩
set_option maxRecDepth 100000 in
def afP :Gc 14:=⟨fN Tryz.func182,fN Tryz.func185,fN Tryz.func403,fN Tryz.func52,fN Tryz.func16,fN Tryz.func51,fN Tryz.func15,fN Tryz.func11,fN Tryz.func106,fN Tryz.func306,fN Tryz.func105,fN Tryz.func253,fN Tryz.func4,fN Tryz.func190,fN Tryz.func108,fN Tryz.func217,trivial⟩
set_option maxRecDepth 100000 in
def afQ :Gc 15:=⟨fN Tryz.func138,fN Tryz.func131,fN Tryz.func61,fN Tryz.func274,fN Tryz.func320,fN Tryz.func272,fN Tryz.func210,fN Tryz.func392,fN Tryz.func362,fN Tryz.func23,fN Tryz.func273,fN Tryz.func211,fN Tryz.func393,fN Tryz.func364,fN Tryz.func363,fN Tryz.func322,trivial⟩
end Go.Proofs.YtpnolnkjijmfjaaGreat
