/- Of this proof. -/
import Derived.Test.YtgmnakghjemjlaaGreatGtfa
import Derived.KernelRfl
namespace Go.Proofs.YtgmnakghjemjlaaGreat
open Go Go.RowKit Gi
set_option linter.unusedSimpArgs false
set_option linter.unusedVariables false
set_option maxHeartbeats 8000000
set_option maxRecDepth 100000 in
theorem Q3 :Gc 0:=⟨fN Tryz.func328,fN Tryz.func327,fN Tryz.func214,fN Tryz.func307,fN Tryz.func308,fN Tryz.func27,fN Tryz.func79,fN Tryz.func261,fN Tryz.func301,fN Tryz.func304,fN Tryz.func80,fN Tryz.func303,fN Tryz.func143,fN Tryz.func207,fN Tryz.func208,fN Tryz.func212,trivial⟩
set_option maxRecDepth 100000 in
theorem Q4 :Gc 1:=⟨fN Tryz.func145,fN Tryz.func82,fN Tryz.func146,fN Tryz.func264,fN Tryz.func83,fN Tryz.func148,fN Tryz.func213,fN Tryz.func206,fN Tryz.func209,fN Tryz.func260,fN Tryz.func86,fN Tryz.func84,fN Tryz.func81,fN Tryz.func149,fN Tryz.func28,fN Tryz.func7,trivial⟩
set_option maxRecDepth 100000 in
theorem Q5 :Gc 2:=⟨fN Tryz.func85,fN Tryz.func265,fN Tryz.func306,fN Tryz.func266,fN Tryz.func267,fN Tryz.func305,fN Tryz.func263,fN Tryz.func210,fN Tryz.func144,fN Tryz.func269,fN Tryz.func140,fN Tryz.func256,fN Tryz.func201,fN Tryz.func75,fN Tryz.func255,fN Tryz.func202,trivial⟩
set_option maxRecDepth 100000 in
theorem Q6 :Gc 3:=⟨fN Tryz.func205,fN Tryz.func74,fN Tryz.func204,fN Tryz.func297,fN Tryz.func141,fN Tryz.func73,fN Tryz.func258,fN Tryz.func203,fN Tryz.func254,fN Tryz.func77,fN Tryz.func76,fN Tryz.func72,fN Tryz.func142,fN Tryz.func257,fN Tryz.func26,fN Tryz.func259,trivial⟩
set_option maxRecDepth 100000 in
theorem Q7 :Gc 4:=⟨fN Tryz.func299,fN Tryz.func326,fN Tryz.func340,fN Tryz.func324,fN Tryz.func268,fN Tryz.func211,fN Tryz.func3,fN Tryz.func223,fN Tryz.func157,fN Tryz.func150,fN Tryz.func87,fN Tryz.func273,fN Tryz.func310,fN Tryz.func271,fN Tryz.func216,fN Tryz.func341,trivial⟩
set_option maxRecDepth 100000 in
theorem Q8 :Gc 5:=⟨fN Tryz.func330,fN Tryz.func32,fN Tryz.func272,fN Tryz.func217,fN Tryz.func342,fN Tryz.func332,fN Tryz.func331,fN Tryz.func312,fN Tryz.func275,fN Tryz.func220,fN Tryz.func221,fN Tryz.func276,fN Tryz.func222,fN Tryz.func277,fN Tryz.func219,fN Tryz.func151,trivial⟩
set_option maxRecDepth 100000 in
theorem Q9 :Gc 6:=⟨fN Tryz.func153,fN Tryz.func89,fN Tryz.func31,fN Tryz.func152,fN Tryz.func154,fN Tryz.func90,fN Tryz.func313,fN Tryz.func88,fN Tryz.func30,fN Tryz.func314,fN Tryz.func215,fN Tryz.func218,fN Tryz.func346,fN Tryz.func92,fN Tryz.func34,fN Tryz.func91,trivial⟩
end Go.Proofs.YtgmnakghjemjlaaGreat
