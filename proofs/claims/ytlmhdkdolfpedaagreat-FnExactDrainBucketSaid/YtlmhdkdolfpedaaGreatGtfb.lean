/- Of this proof. -/
import Derived.Test.YtlmhdkdolfpedaaGreatGtfa
import Derived.KernelRfl
set_option linter.all false
namespace Go.Proofs.YtlmhdkdolfpedaaGreat
open Go Go.RowKit Gi
set_option maxHeartbeats 8000000
set_option maxRecDepth 100000 in
def gc0 :Gc 0:=⟨fN Tryz.func181,fN Tryz.func256,fN Tryz.func379,fN Tryz.func378,fN Tryz.func182,fN Tryz.func250,fN Tryz.func7,fN Tryz.func354,fN Tryz.func355,fN Tryz.func90,fN Tryz.func173,fN Tryz.func314,fN Tryz.func358,fN Tryz.func303,fN Tryz.func348,fN Tryz.func178,trivial⟩
set_option maxRecDepth 100000 in
def gc1 :Gc 1:=⟨fN Tryz.func351,fN Tryz.func86,fN Tryz.func350,fN Tryz.func168,fN Tryz.func244,fN Tryz.func245,fN Tryz.func248,fN Tryz.func170,fN Tryz.func88,fN Tryz.func171,fN Tryz.func179,fN Tryz.func89,fN Tryz.func175,fN Tryz.func249,fN Tryz.func243,fN Tryz.func183,trivial⟩
set_option maxRecDepth 100000 in
def gc2 :Gc 2:=⟨fN Tryz.func302,fN Tryz.func93,fN Tryz.func91,fN Tryz.func87,fN Tryz.func176,fN Tryz.func28,fN Tryz.func185,fN Tryz.func30,fN Tryz.func97,fN Tryz.func316,fN Tryz.func180,fN Tryz.func98,fN Tryz.func315,fN Tryz.func253,fN Tryz.func92,fN Tryz.func306,trivial⟩
set_option maxRecDepth 100000 in
def gc3 :Gc 3:=⟨fN Tryz.func353,fN Tryz.func307,fN Tryz.func308,fN Tryz.func352,fN Tryz.func29,fN Tryz.func95,fN Tryz.func305,fN Tryz.func246,fN Tryz.func184,fN Tryz.func169,fN Tryz.func186,fN Tryz.func310,fN Tryz.func165,fN Tryz.func299,fN Tryz.func239,fN Tryz.func83,trivial⟩
set_option maxRecDepth 100000 in
def gc4 :Gc 4:=⟨fN Tryz.func298,fN Tryz.func240,fN Tryz.func242,fN Tryz.func82,fN Tryz.func241,fN Tryz.func251,fN Tryz.func166,fN Tryz.func81,fN Tryz.func300,fN Tryz.func94,fN Tryz.func297,fN Tryz.func85,fN Tryz.func84,fN Tryz.func80,fN Tryz.func167,fN Tryz.func177,trivial⟩
set_option maxRecDepth 100000 in
def gc5 :Gc 5:=⟨fN Tryz.func27,fN Tryz.func252,fN Tryz.func313,fN Tryz.func301,fN Tryz.func346,fN Tryz.func359,fN Tryz.func382,fN Tryz.func377,fN Tryz.func309,fN Tryz.func247,fN Tryz.func96,fN Tryz.func3,fN Tryz.func265,fN Tryz.func194,fN Tryz.func187,fN Tryz.func99,trivial⟩
set_option maxRecDepth 100000 in
def gc6 :Gc 6:=⟨fN Tryz.func322,fN Tryz.func363,fN Tryz.func320,fN Tryz.func258,fN Tryz.func397,fN Tryz.func388,fN Tryz.func34,fN Tryz.func321,fN Tryz.func259,fN Tryz.func398,fN Tryz.func390,fN Tryz.func389,fN Tryz.func365,fN Tryz.func324,fN Tryz.func262,fN Tryz.func263,trivial⟩
set_option maxRecDepth 100000 in
def gc7 :Gc 7:=⟨fN Tryz.func325,fN Tryz.func264,fN Tryz.func326,fN Tryz.func261,fN Tryz.func188,fN Tryz.func190,fN Tryz.func101,fN Tryz.func33,fN Tryz.func189,fN Tryz.func191,fN Tryz.func102,fN Tryz.func366,fN Tryz.func100,fN Tryz.func32,fN Tryz.func367,fN Tryz.func257,trivial⟩
end Go.Proofs.YtlmhdkdolfpedaaGreat
