/- Of this proof. -/
import Derived.Test.YtpnolnkjijmfjaaGreatGps
import Derived.Test.YtpnolnkjijmfjaaGreatGdc
set_option linter.all false
namespace Gi
open Go
set_option maxRecDepth 100000
set_option maxHeartbeats 4000000
def Ed :List PTy:=[.str, .int .i64]
def At :List Seg:=[.c .str, .c (.int .i64)]
abbrev pz :List PTy:=Ed
def MM :List PTy:=[.int .i64, .int .i64, .str]
def Mq :List Seg:=[.c (.int .i64), .c (.int .i64), .c .str]
def Ai :List PTy:=[.lst pz]
def xp :List Seg:=[.l pz ⟨66,64,69,false⟩]
def Gd :List PTy:=[.int .i64, .int .i64, .str, .lst pz]
def Es :List Seg:=[.s MM ⟨34,30,38,true⟩, .s Ai ⟨35,31,39,false⟩]
def Ag :List PTy:=[.str, .int .i64]
def xm :List Seg:=[.c .str, .c (.int .i64)]
abbrev oN :List PTy:=Ag
def Ee :List PTy:=[.int .i64, .int .i64, .int .i64, .str]
def Au :List Seg:=[.c (.int .i64), .c (.int .i64), .c (.int .i64), .c .str]
abbrev pA :List PTy:=Ee
def vO :List PTy:=[.int .i64]
def xM :List PTy:=[.lst pA, .int .i64, .lst vO, .int .i64, .bool, .bool]
def uw :List Seg:=[.l pA ⟨74,71,77,false⟩, .c (.int .i64), .l vO ⟨75,72,78,false⟩, .c (.int .i64), .c .bool, .c .bool]
def KL :List PTy:=[.int .i64, .str, .str, .int .i64, .lst oN, .lst pA, .int .i64, .lst vO, .int .i64, .bool, .bool]
def Eu :List Seg:=[.c (.int .i64), .c .str, .c .str, .c (.int .i64), .l oN ⟨42,40,44,false⟩, .s xM ⟨43,41,45,false⟩]
abbrev pP :List PTy:=Gd
def AP :List PTy:=[.int .i64, .int .i64]
def Ar :List Seg:=[.c (.int .i64), .c (.int .i64)]
abbrev mQ :List PTy:=AP
def AQ :List PTy:=[.int .i64, .int .i64, .int .i64, .int .i64, .str, .str, .int .i64]
def Ax :List Seg:=[.c (.int .i64), .c (.int .i64), .s MM ⟨34,30,38,true⟩, .c .str, .c (.int .i64)]
abbrev lm :List PTy:=AQ
def yA :List PTy:=[.str, .lst pP, .int .i64]
def Av :List Seg:=[.c .str, .l pP ⟨53,52,55,false⟩, .c (.int .i64)]
def Aj :List PTy:=[.str, .lst pP, .int .i64, .lst mQ, .lst lm]
def xq :List Seg:=[.s yA ⟨22,20,24,false⟩, .l mQ ⟨48,46,50,false⟩, .l lm ⟨49,47,51,false⟩]
abbrev ou :List PTy:=yA
def nM :List PTy:=[.int .u8]
def vP :List PTy:=[.int .i64, .int .i64, .int .i64, .lst nM, .bool]
def sw :List Seg:=[.c (.int .i64), .c (.int .i64), .c (.int .i64), .l nM ⟨255,251,259,false⟩, .c .bool]
def Af :List PTy:=[.str, .str, .int .i64, .int .i64, .int .i64, .lst nM, .bool]
def xl :List Seg:=[.c .str, .c .str, .s vP ⟨281,280,282,false⟩]
abbrev oM :List PTy:=Af
def Ec :List PTy:=[.int .i64, .lst oM]
def As :List Seg:=[.c (.int .i64), .l oM ⟨273,271,275,false⟩]
abbrev py :List PTy:=Ec
def vN :List PTy:=[.str, .str]
def su :List Seg:=[.c .str, .c .str]
abbrev jH :List PTy:=vN
def ot :List PTy:=[.str, .int .i64, .int .i64, .int .i64]
def lQ :List Seg:=[.c .str, .c (.int .i64), .c (.int .i64), .c (.int .i64)]
def vL :List PTy:=[.lst py]
def sk :List Seg:=[.l py ⟨253,249,257,false⟩]
def vM :List PTy:=[.str, .int .i64, .lst ou, .lst jH]
def so :List Seg:=[.c .str, .c (.int .i64), .l ou ⟨60,57,63,false⟩, .l jH ⟨266,263,269,false⟩]
def KJ :List PTy:=[.str, .int .i64, .lst ou, .lst jH, .lst nM, .int .i64]
def Er :List Seg:=[.s vM ⟨254,250,258,false⟩, .l nM ⟨255,251,259,false⟩, .c (.int .i64)]
def Ah :List PTy:=[.int .i64, .int .i64, .lst lm]
def xn :List Seg:=[.c (.int .i64), .c (.int .i64), .l lm ⟨49,47,51,false⟩]
def KO :List PTy:=[.int .i64, .int .i64, .lst lm, .int .i64, .int .i64]
def Ew :List Seg:=[.s Ah ⟨267,264,270,false⟩, .c (.int .i64), .c (.int .i64)]
def qq :List PTy:=[.str, .lst pP, .int .i64, .int .i64, .int .i64, .int .i64, .lst lm, .int .i64, .int .i64]
def uy :List Seg:=[.s yA ⟨22,20,24,false⟩, .c (.int .i64), .s KO ⟨256,252,260,false⟩]
def Ae :List PTy:=[.str, .str, .str, .int .i64, .int .i64, .int .i64, .lst py, .str, .int .i64, .lst ou, .lst jH, .lst nM, .int .i64, .str, .lst pP, .int .i64, .int .i64, .int .i64, .int .i64, .lst lm, .int .i64, .int .i64, .int .i64, .bool]
def xk :List Seg:=[.c .str, .c .str, .s ot ⟨231,227,235,true⟩, .s vL ⟨232,228,236,false⟩, .s KJ ⟨233,229,237,false⟩, .s qq ⟨234,230,238,false⟩, .c (.int .i64), .c .bool]
abbrev eR :List PTy:=Ae
abbrev nN :List PTy:=KL
def KK :List PTy:=[.str, .int .i64, .bool, .bool]
def Et :List Seg:=[.c .str, .c (.int .i64), .c .bool, .c .bool]
abbrev mR :List PTy:=KK
def OR :List PTy:=[.int .i64, .int .i64, .int .i64]
def No :List Seg:=[.c (.int .i64), .c (.int .i64), .c (.int .i64)]
abbrev mS :List PTy:=OR
def mo :List PTy:=[.str]
def KN :List PTy:=[.str, .int .i64, .lst mo, .bool]
def Ev :List Seg:=[.c .str, .c (.int .i64), .l mo ⟨204,200,208,false⟩, .c .bool]
abbrev nO :List PTy:=KN
abbrev fL :List PTy:=Aj
def kS :List PTy:=[.lst eR]
def uz :List Seg:=[.l eR ⟨167,163,171,false⟩]
def jd :List PTy:=[.lst mR]
def qm :List Seg:=[.l mR ⟨168,164,172,false⟩]
def kR :List PTy:=[.lst mS]
def uu :List Seg:=[.l mS ⟨169,165,173,false⟩]
def jh :List PTy:=[.int .i64, .bool, .int .i64, .lst eR, .lst nN, .int .i64, .lst mR, .lst mS, .lst nO, .lst fL]
def Aw :List Seg:=[.c (.int .i64), .c .bool, .c (.int .i64), .s kS ⟨133,127,139,false⟩, .l nN ⟨134,128,140,false⟩, .c (.int .i64), .s jd ⟨135,129,141,false⟩, .s kR ⟨136,130,142,false⟩, .l nO ⟨137,131,143,false⟩, .l fL ⟨138,132,144,false⟩]
def Lx :AFn:=jL Es
def LF :AFn:=jy Es
def Lo :AFn:=jx Es
def Lz :AFn:=jL Eu
def LI :AFn:=jy Eu
def Lr :AFn:=jx Eu
def Hj :AFn:=jL xq
def Hu :AFn:=jy xq
def G2 :AFn:=jx xq
def Ji :AFn:=jL Av
def Ju :AFn:=jy Av
def I6 :AFn:=jx Av
def NG :AFn:=jL Mq
def Hi :AFn:=jL xp
def NH :AFn:=jy Mq
def Ht :AFn:=jy xp
def NF :AFn:=jx Mq
def G1 :AFn:=jx xp
def Fa :AFn:=OL 2 70
def Fb :AFn:=jL uw
def Fl :AFn:=OY 24 2 ⟨73,0,0,true⟩ [(.str []),(.int .i64 0)]
def Fo :AFn:=jy uw
def EF :AFn:=tK 27 (jf 2 76)
def EG :AFn:=jx uw
def Di :AFn:=szF
def Hl :AFn:=OL 7 79
def Dn :AFn:=OY 16 2 ⟨80,0,0,true⟩ [(.int .i64 0),(.int .i64 0)]
def Hw :AFn:=OY 72 7 ⟨81,0,0,true⟩ [(.int .i64 0),(.int .i64 0),(.int .i64 0),(.int .i64 0),(.str []),(.str []),(.int .i64 0)]
def C3 :AFn:=tK 27 (jf 2 82)
def G5 :AFn:=tK 27 (jf 7 83)
def Jd :AFn:=OL 4 5
def Jp :AFn:=OY 56 4 ⟨7,0,0,false⟩ [(.int .i64 0),(.int .i64 0),(.str []),(.lst [])]
def IZ :AFn:=tK 27 (jf 4 9)
def Hk :AFn:=OL 3 20
def Hv :AFn:=OY 48 3 ⟨22,0,0,false⟩ [(.str []),(.lst []),(.int .i64 0)]
def G4 :AFn:=tK 27 (jf 3 24)
def He :AFn:=OL 2 87
def Hp :AFn:=OY 24 2 ⟨89,0,0,true⟩ [(.str []),(.int .i64 0)]
def GX :AFn:=tK 27 (jf 2 91)
def Hg :AFn:=jL xm
def Hf :AFn:=OL 4 92
def Lw :AFn:=szF
def Hr :AFn:=jy xm
def Hq :AFn:=OY 40 4 ⟨93,0,0,true⟩ [(.int .i64 0),(.int .i64 0),(.int .i64 0),(.str [])]
def LD :AFn:=toE 8 (.int .i64 0)
def GZ :AFn:=jx xm
def GY :AFn:=tK 27 (jf 4 94)
def Ln :AFn:=tK 26 uk
def Jk :AFn:=jL Ax
def Fg :AFn:=jy Ar
def Jw :AFn:=jy Ax
def EB :AFn:=jx Ar
def I8 :AFn:=jx Ax
def Jb :AFn:=jL At
def Jn :AFn:=jy At
def IX :AFn:=jx At
def Jc :AFn:=jL Au
def Jo :AFn:=jy Au
def IY :AFn:=jx Au
def Jj :AFn:=jL Aw
def Jv :AFn:=jy Aw
def I7 :AFn:=jx Aw
def Ff :AFn:=jL uz
def Jg :AFn:=OL 11 10
def B7 :AFn:=jL qm
def E9 :AFn:=jL uu
def Jh :AFn:=OL 4 166
def Fe :AFn:=OL 5 15
def Fs :AFn:=jy uz
def Js :AFn:=OY 144 11 ⟨12,0,0,false⟩ [(.int .i64 0),(.str []),(.str []),(.int .i64 0),(.lst []),(.lst []),(.int .i64 0),(.lst []),(.int .i64 0),(.bool false),(.bool false)]
def B9 :AFn:=jy qm
def Fj :AFn:=jy uu
def Jt :AFn:=OY 56 4 ⟨170,0,0,false⟩ [(.str []),(.int .i64 0),(.lst []),(.bool false)]
def Fq :AFn:=OY 96 5 ⟨17,0,0,false⟩ [(.str []),(.lst []),(.int .i64 0),(.lst []),(.lst [])]
def EL :AFn:=jx uz
def I4 :AFn:=tK 27 (jf 11 14)
def BQ :AFn:=jx qm
def EE :AFn:=jx uu
def I5 :AFn:=tK 27 (jf 4 174)
def EJ :AFn:=tK 27 (jf 5 19)
def E7 :AFn:=OL 24 198
def Je :AFn:=OL 4 199
def Jf :AFn:=szF
def LA :AFn:=jL Ev
def Fh :AFn:=OY 328 24 ⟨201,0,0,false⟩ [(.str []),(.str []),(.str []),(.int .i64 0),(.int .i64 0),(.int .i64 0),(.lst []),(.str []),(.int .i64 0),(.lst []),(.lst []),(.lst []),(.int .i64 0),(.str []),(.lst []),(.int .i64 0),(.int .i64 0),(.int .i64 0),(.int .i64 0),(.lst []),(.int .i64 0),(.int .i64 0),(.int .i64 0),(.bool false)]
def Jq :AFn:=OY 32 4 ⟨202,0,0,true⟩ [(.str []),(.int .i64 0),(.bool false),(.bool false)]
def Jr :AFn:=OY 24 3 ⟨203,0,0,true⟩ [(.int .i64 0),(.int .i64 0),(.int .i64 0)]
def LJ :AFn:=jy Ev
def EC :AFn:=tK 27 (jf 24 205)
def I2 :AFn:=tK 27 (jf 4 206)
def I3 :AFn:=tK 27 (jf 3 207)
def Lt :AFn:=jx Ev
def Hb :AFn:=jL xk
def Ly :AFn:=jL Et
def ic :Q7:=(.mk _:RD [] 0x8462215598568727f85345a2145a3a0a999abec88f22ef8b00a9848c9f2d5f930126ef03c31d4).v
attribute [local irreducible] ic
def lW :AFn:=(.mk _:RF [ic] 0x15274d27e59350427a44eece301808df2695813d024d382832b430445a0983).v
def Hm :AFn:=jy xk
def LG :AFn:=jy Et
def LH :AFn:=jy No
def Ft :AFn:=toE 16 (.str [])
def GU :AFn:=jx xk
def Lp :AFn:=jx Et
def Lq :AFn:=jx No
def EM :AFn:=tK 26 uk
def yU :AFn:=jL lQ
def Dj :AFn:=jL sk
def Lv :AFn:=jL Er
def Fc :AFn:=jL uy
def yV :AFn:=jy lQ
def Do :AFn:=jy sk
def LC :AFn:=jy Er
def Fp :AFn:=jy uy
def yT :AFn:=jx lQ
def C4 :AFn:=jx sk
def Lm :AFn:=jx Er
def EH :AFn:=jx uy
def Hc :AFn:=OL 2 262
def Dk :AFn:=jL so
def I9 :AFn:=szF
def LB :AFn:=jL Ew
def Hn :AFn:=OY 32 2 ⟨265,0,0,false⟩ [(.int .i64 0),(.lst [])]
def Dp :AFn:=jy so
def Jl :AFn:=toE 1 (.int .u8 0)
def LK :AFn:=jy Ew
def GV :AFn:=tK 27 (jf 2 268)
def C5 :AFn:=jx so
def IV :AFn:=tK 26 uk
def Lu :AFn:=jx Ew
def Ja :AFn:=jL As
def B6 :AFn:=OL 2 272
def Hh :AFn:=jL xn
def Jm :AFn:=jy As
def B8 :AFn:=OY 32 2 ⟨274,0,0,true⟩ [(.str []),(.str [])]
def Hs :AFn:=jy xn
def IW :AFn:=jx As
def BP :AFn:=tK 27 (jf 2 276)
def G0 :AFn:=jx xn
def E8 :AFn:=OL 7 277
def Dl :AFn:=jL su
def Fi :AFn:=OY 88 7 ⟨278,0,0,false⟩ [(.str []),(.str []),(.int .i64 0),(.int .i64 0),(.int .i64 0),(.lst []),(.bool false)]
def Dq :AFn:=jy su
def ED :AFn:=tK 27 (jf 7 279)
def C6 :AFn:=jx su
def Hd :AFn:=jL xl
def Ho :AFn:=jy xl
def GW :AFn:=jx xl
def Dm :AFn:=jL sw
def Dr :AFn:=jy sw
def C7 :AFn:=jx sw
def sN :AFn:=wl [.k [.int .i64, .bool, .int .i64], .s kS 426, .l nN 427, .k [.int .i64], .s jd 428, .s kR 429, .l nO 430, .l fL 431]
def B5 :AFn:=jO 432 mo [⟨[],0⟩]
def BY :AFn:=mr 432 mo [⟨[],0⟩]
def ET :AFn:=DA [.k [.int .i64, .bool, .int .i64], .s kS 435, .l nN 436, .k [.int .i64], .s jd 437, .s kR 438, .l nO 439, .l fL 440]
def p9 :AFn:=wl [.l eR 441]
def EY :AFn:=jO 432 nN [⟨[0],0⟩,⟨[1],0⟩,⟨[2],0⟩,⟨[3],0⟩,⟨[4],442⟩,⟨[5,0],443⟩,⟨[5,1],0⟩,⟨[5,2],444⟩,⟨[5,3],0⟩,⟨[5,4],0⟩,⟨[5,5],0⟩]
def zt :AFn:=wl [.l mR 445]
def B2 :AFn:=wl [.l mS 446]
def EZ :AFn:=jO 432 nO [⟨[0],0⟩,⟨[1],0⟩,⟨[2],421⟩,⟨[3],0⟩]
def B4 :AFn:=jO 432 fL [⟨[0,0],0⟩,⟨[0,1],447⟩,⟨[0,2],0⟩,⟨[3],448⟩,⟨[4],449⟩]
def Ha :AFn:=txF
def BX :AFn:=DA [.l eR 462]
def ER :AFn:=mr 432 nN [⟨[0],0⟩,⟨[1],0⟩,⟨[2],0⟩,⟨[3],0⟩,⟨[4],463⟩,⟨[5,0],464⟩,⟨[5,1],0⟩,⟨[5,2],465⟩,⟨[5,3],0⟩,⟨[5,4],0⟩,⟨[5,5],0⟩]
def zq :AFn:=DA [.l mR 466]
def BU :AFn:=DA [.l mS 467]
def ES :AFn:=mr 432 nO [⟨[0],0⟩,⟨[1],0⟩,⟨[2],422⟩,⟨[3],0⟩]
def BW :AFn:=mr 432 fL [⟨[0,0],0⟩,⟨[0,1],468⟩,⟨[0,2],0⟩,⟨[3],469⟩,⟨[4],470⟩]
def BZ :AFn:=jO 432 eR [⟨[0],0⟩,⟨[1],0⟩,⟨[2,0],0⟩,⟨[2,1],0⟩,⟨[2,2],0⟩,⟨[2,3],0⟩,⟨[6,0],471⟩,⟨[7,0,0],0⟩,⟨[7,0,1],0⟩,⟨[7,0,2],472⟩,⟨[7,0,3],473⟩,⟨[7,4],474⟩,⟨[7,5],0⟩,⟨[13,0,0],0⟩,⟨[13,0,1],447⟩,⟨[13,0,2],0⟩,⟨[13,3],0⟩,⟨[13,4,0,0],0⟩,⟨[13,4,0,1],0⟩,⟨[13,4,0,2],449⟩,⟨[13,4,3],0⟩,⟨[13,4,4],0⟩,⟨[22],0⟩,⟨[23],0⟩]
def B3 :AFn:=jO 432 oN [⟨[0],0⟩,⟨[1],0⟩]
def Df :AFn:=jO 432 pA [⟨[0],0⟩,⟨[1],0⟩,⟨[2],0⟩,⟨[3],0⟩]
def G7 :AFn:=jO 432 vO [⟨[],0⟩]
def EW :AFn:=jO 432 mR [⟨[0],0⟩,⟨[1],0⟩,⟨[2],0⟩,⟨[3],0⟩]
def EX :AFn:=jO 432 mS [⟨[0],0⟩,⟨[1],0⟩,⟨[2],0⟩]
def EV :AFn:=jO 432 pP [⟨[0,0],0⟩,⟨[0,1],0⟩,⟨[0,2],0⟩,⟨[3,0],475⟩]
def AW :AFn:=jO 432 mQ [⟨[0],0⟩,⟨[1],0⟩]
def Dh :AFn:=jO 432 lm [⟨[0],0⟩,⟨[1],0⟩,⟨[2,0],0⟩,⟨[2,1],0⟩,⟨[2,2],0⟩,⟨[5],0⟩,⟨[6],0⟩]
def BR :AFn:=mr 432 eR [⟨[0],0⟩,⟨[1],0⟩,⟨[2,0],0⟩,⟨[2,1],0⟩,⟨[2,2],0⟩,⟨[2,3],0⟩,⟨[6,0],480⟩,⟨[7,0,0],0⟩,⟨[7,0,1],0⟩,⟨[7,0,2],481⟩,⟨[7,0,3],482⟩,⟨[7,4],483⟩,⟨[7,5],0⟩,⟨[13,0,0],0⟩,⟨[13,0,1],468⟩,⟨[13,0,2],0⟩,⟨[13,3],0⟩,⟨[13,4,0,0],0⟩,⟨[13,4,0,1],0⟩,⟨[13,4,0,2],470⟩,⟨[13,4,3],0⟩,⟨[13,4,4],0⟩,⟨[22],0⟩,⟨[23],0⟩]
def BV :AFn:=mr 432 oN [⟨[0],0⟩,⟨[1],0⟩]
def Da :AFn:=mr 432 pA [⟨[0],0⟩,⟨[1],0⟩,⟨[2],0⟩,⟨[3],0⟩]
def G6 :AFn:=mr 432 vO [⟨[],0⟩]
def EP :AFn:=mr 432 mR [⟨[0],0⟩,⟨[1],0⟩,⟨[2],0⟩,⟨[3],0⟩]
def EQ :AFn:=mr 432 mS [⟨[0],0⟩,⟨[1],0⟩,⟨[2],0⟩]
def EO :AFn:=mr 432 pP [⟨[0,0],0⟩,⟨[0,1],0⟩,⟨[0,2],0⟩,⟨[3,0],484⟩]
def AV :AFn:=mr 432 mQ [⟨[0],0⟩,⟨[1],0⟩]
def Dc :AFn:=mr 432 lm [⟨[0],0⟩,⟨[1],0⟩,⟨[2,0],0⟩,⟨[2,1],0⟩,⟨[2,2],0⟩,⟨[5],0⟩,⟨[6],0⟩]
def Dd :AFn:=jO 432 py [⟨[0],0⟩,⟨[1],485⟩]
def Dg :AFn:=jO 432 ou [⟨[0],0⟩,⟨[1],447⟩,⟨[2],0⟩]
def zr :AFn:=jO 432 jH [⟨[0],0⟩,⟨[1],0⟩]
def EU :AFn:=jO 432 nM [⟨[],0⟩]
def De :AFn:=jO 432 pz [⟨[0],0⟩,⟨[1],0⟩]
def C8 :AFn:=mr 432 py [⟨[0],0⟩,⟨[1],494⟩]
def Db :AFn:=mr 432 ou [⟨[0],0⟩,⟨[1],468⟩,⟨[2],0⟩]
def zp :AFn:=mr 432 jH [⟨[0],0⟩,⟨[1],0⟩]
def EN :AFn:=mr 432 nM [⟨[],0⟩]
def C9 :AFn:=mr 432 pz [⟨[0],0⟩,⟨[1],0⟩]
def B1 :AFn:=jO 432 oM [⟨[0],0⟩,⟨[1],0⟩,⟨[2,0],0⟩,⟨[2,1],0⟩,⟨[2,2],0⟩,⟨[2,3],474⟩,⟨[2,4],0⟩]
def BS :AFn:=mr 432 oM [⟨[0],0⟩,⟨[1],0⟩,⟨[2,0],0⟩,⟨[2,1],0⟩,⟨[2,2],0⟩,⟨[2,3],483⟩,⟨[2,4],0⟩]
def il :AFn:=(.mk _:RF [] 0x871d298c8787cdd288f71bfde9303fff286dcab9eb4ffac72784cc18b9c9a83231805be02fa0806abdfb27a9174518d1fa1f11d159e7ff9c6523abbe707178031ae0cb35f61536b43bb42c0c0177677a08e2016157862f7ec8e86ce91b22df8c8210e7a2146f520c08d41488f239d4e040d92a08f3168560bd43a6b870a069f20484891f7bdfcbf00e1ce13f7dd0a793913a702472fcc0a021cdf844c986ce99fe8a7ad108de1136f156d09953220682e483df435a626ce96136f01e2de0ed092ca99103415441efa1ad836f0177833fb6ec75e780800003c4b007899fc4ca9cf03bad32f1778303c4fe3af3c0400001e25803c4cfe2654e3b26ce997919bc163dc663af3c0400001e25803c4cfe2654e001d5e9d044d9d3a0c37826a265f52440cd1881c9401a122864d3f4c48fef2dd5fffd1b302d40ba0d14405b93).v
def zw :AFn:=(.mk _:RF [] 0x54bb15e42b87e5e56603686c5389c6eba0c8a711f).v
def uK :AFn:=(.mk _:RF [] 0xa9762bc8570fcbcacc06d0c88b8ec6eba0c8a711f).v
def ya :AFn:=(.mk _:RF [] 0x1291c027e2d1696b39294304be03cb209a120c426eac97647e3c90ac78ae7375598991fc9f92d2d2e1c707d93eb36152a1b953e196085c5e30e8a52000000e8d4a50fe8f9816a000000e8d4a50fe8f981aa52f9960859de30540b56ca5f2048715835d068a23bf).v
def x5 :AFn:=(.mk _:RF [] 0x4a470607d4441dd0f1819c94aeb08f80fc3dfa4814e9bab25d90c084f220fdf29f4b61347953d10243937be9cfa048961da51b2ba042c9ccb821725e38076946cae8000003a352943fa3e605a8000003a352943fa3e606a96be65c10b93e381b2a05ab65af902439de9d068a21f83).v
def pI :Q7:=(.mk _:RD [] 0x91cd339fa16cfa0c370b4ec3c7b8d9a54f254f1ffa25dc13e8f966920228d2a0a4eaa1da40df46d7547f64da5db97d9078c5d04d443cc21236a00da28ceb1f614965599ccb4f96afc98085f344c11d4).v
attribute [local irreducible] pI
def wK :AFn:=(.mk _:RF [pI] 0xb443f44aa0085f1481d57f3c604e812221783).v
def mE :Q7:=(.mk _:RD [] 0x1239a673f42d9f4186dd4bc986446f53aeb51918f1ff70ec09cd15269df39dc2ab527a4299a437fc7af889b1308ddb97d907541b59a87c307d19900da28cedef614965599a734f96afc98085f344c11d4).v
attribute [local irreducible] mE
def sM :AFn:=(.mk _:RF [mE] 0xb443f44aa0085f1485d57f3c604e812223bf).v
def lB :Q7:=(.mk _:RD [] 0x2d7499284c3261d1cdd455f12ef8b135258e67012c8c82942f6ac3fdd59f21074b04a113a522fd0845d1678f4f96afc65049812ef27842b4).v
attribute [local irreducible] lB
def qP :AFn:=(.mk _:RF [lB] 0xc03541915fcf181060c9a1a54e1583).v
def lP :Q7:=(.mk _:RD [] 0x234d5e38e3d868537a4c947d117bd77977cf55825089d2437c21064251cc9f2d5f8ca093022b707832b4).v
attribute [local irreducible] lP
def uT :AFn:=(.mk _:RF [lP] 0x6304457f3c604182268495a0783).v
def nZ :AFn:=(.mk _:RF [] 0x2d1fe7ad2438b21050a57e65f350019a310252805509263272ec4ae86750c113424ad15f).v
def pG :Q7:=(.mk _:RD [] 0x58797c3ecd06b7bdfcbf1e64668b42f282feee2cf957dd409990ec87e6c9f655c2a4cd68597227490fba121724a7aa7cb57e32824c09a5c9822b4).v
attribute [local irreducible] pG
def wE :AFn:=(.mk _:RF [pG] 0x16894b0abe12a802569cb042f4bc61d14a4000001d1a94a1fd1f302d5b297ccb042d4bc61d14a467e6582164bc61d14a467e658216178c1000000746a5287f47cc0b56ca5f204a73cbfeafe78c09d068a23d83).v
def pC :Q7:=(.mk _:RD [] 0xdc615630b8d5bdefe5f8edf9a254ca08eee2b64fadc854996eb32e44f3a130424622298487004345c426f96afc9ab4424a2).v
attribute [local irreducible] pC
def wA :AFn:=(.mk _:RF [pC] 0xb44a5855f0954012b4e58217a5e30e8a52000000e8d4a50fe8f9816ad96be658216a5e30e8a520bf32c10b25e30e8a520bf32c10b0bc608000003a352943fa3e605ab65af90245f30bfeafe78c2604d1c2ba9d068a23ff).v
def jY :Q7:=(.mk _:RD [] 0x72d77cca82a3428200f8bd56c0107918018937419f2d5f93012628ac19d4).v
attribute [local irreducible] jY
def qU :AFn:=(.mk _:RF [jY] 0x1806a8122bf9e30200d22772722a50c091109f).v
def qI :AFn:=(.mk _:RF [] 0x18094249ec9c8a1c1bda1cf49ab9bbb2b769356b6e6162d26aa4f6a18122227).v
def uU :AFn:=(.mk _:RF [] 0x25223b1c8b19c64a06934d5998846dc2d3725500e9614a7a83c14b160a9c9c93d36dcc1519390a4e39df43068a20bf).v
def uN :AFn:=(.mk _:RF [] 0x25223b1c8b19c64a06934d5998846dc2d372551769614a7a83c14b160acc9c93d36dcc1579390a4e39df43068a20bf).v
def qB :AFn:=(.mk _:RF [] 0x30328497393915a4bac9e7e048b8b4312d4b4686ea9c4f).v
def mU :AFn:=(.mk _:RF [] 0xc08a125de4e450bcc9e7e0459c5a18168d0955a37).v
def pF :Q7:=(.mk _:RD [] 0xa5e3c8f556f4988439e621a5db97d9078c5d04d443cc21236a00da28ceb1f614965599a2cf96afc98085f344c11d4).v
attribute [local irreducible] pF
def wD :AFn:=(.mk _:RF [pF] 0x30128f02d5b297c85f1451d57f3c604e812220bf).v
def wz :AFn:=(.mk _:RF [] 0x6025e8f02d4a5ee4e52157409110b).v
def uc :AFn:=(.mk _:RF [] 0x3002e0ded0e7a4d5cddd95bb49ab5b730b169355278a6f802281).v
def gB :Q7:=(.mk _:RD [] 0x1b8c2ac58a7a85385b38c696f1e45e2d601c3ab0cc4efd2f96afc9ab4424a2).v
attribute [local irreducible] gB
def jQ :AFn:=(.mk _:RF [gB] 0x300d504457f3c61334195418222d09f).v
def nB :Q7:=(.mk _:RD [] 0xfe2d0ccccee2ef26290cbbe2013ac48ea53a6f37c20fe0947327cb57e32824c083707832b4).v
attribute [local irreducible] nB
def tY :AFn:=(.mk _:RF [nB] 0x300d504457f3c60418168d0955a33f).v
def nC :Q7:=(.mk _:RD [] 0xa7937b161d71a2b9cef49928fc557852416e1eab04a113a4878e423812ac64f96afc65049812ef1b83ab4).v
attribute [local irreducible] nC
def tZ :AFn:=(.mk _:RF [nC] 0xfa0608957f3c604e81822684aa5b44983).v
def kL :Q7:=(.mk _:RD [] 0x7a7f740bcbf8174350abf1d973a1e4b2dd3186996f40142b2b04568a305f54cb57e32824c081795852b4).v
attribute [local irreducible] kL
def wP :AFn:=(.mk _:RF [kL] 0xddd7af15a712afe78c085e5ebe028112a30d0648c05022547810f78090e15da80a044a8c68a530b83).v
def tL :AFn:=(.mk _:RF [] 0x30228497f93914303279f8109c5a18168d0955a37).v
def pJ :AFn:=(.mk _:RF [] 0xba903fcf5a48716422169c196654cb5016cd1881494032849839394e0a50eeae81822684aa5b46ff).v
def jp :Q7:=(.mk _:RD [] 0x193c81c00302e86a1518ecb9d0f25b4e989edd325689648cea6f0d0480e8a515d1c82c68df426f96afca256b427a2).v
attribute [local irreducible] jp
def sI :AFn:=(.mk _:RF [jp] 0x6eebd7cd69a4abf9e3098109c5ba8de5ebe028112a30d0648c05022547810cf8090e19da80a044a8c68a530783).v
def jZ :Q7:=(.mk _:RD [] 0x108c442abe933625db27b1a028b3c3be93f229129f39cd1133bdf6a60b81e294528a0673cdce94dfb7c20f5a4880284430fd7d564265f8cc424c083026aac0245e0f0e774).v
attribute [local irreducible] jZ
def lF :Q7:=(.mk _:RD [jZ] 0xf4fedefb90633c26a77fcb57e32824c094f9583ab4).v
attribute [local irreducible] lF
def qV :AFn:=(.mk _:RF [jZ,lF] 0xc04895251fcf18106043068a22783).v
def t9 :AFn:=(.mk _:RF [] 0xb4441624c09adcc1899393690e0f43068a207).v
def mI :Q7:=(.mk _:RD [] 0x6baa04fdda6d622eb412d7dd6eb21efce426096e39526802832e5b4b0a53a6f40141e58693706ea65abf194126041b9582ab4).v
attribute [local irreducible] mI
def sU :AFn:=(.mk _:RF [mI] 0xc0488fa55fcf18106043068a227f).v
def jX :Q7:=(.mk _:RD [] 0x717013f0722060924925ce9cc2cf0efa4fc89dc2c6b9e1651138bf2bb4c1703c528a514c3c4eceb979a37f84ec84cbf2899e7429a2).v
attribute [local irreducible] jX
def lA :Q7:=(.mk _:RD [jX] 0x13f646e1a46c6784d8e8f5d9f75524604789a1c790d17109be5abf2116942622).v
attribute [local irreducible] lA
def qJ :AFn:=(.mk _:RF [jX,lA] 0x6026642947f3c6130253887506043068a21583).v
def tR :AFn:=(.mk _:RF [] 0xb4441624c09adcc1919393690e0f43068a207).v
def mD :Q7:=(.mk _:RD [] 0x39d1c7548fef83f3f00fb85065f0e95e619b220cbd2d2c293f663e37d535d0c0901d14a2ba39058d1be84df2d5f9437942522).v
attribute [local irreducible] mD
def sE :AFn:=(.mk _:RF [mD] 0xc04ce32957f3c6130213867506043068a213f).v
def iz :Q7:=(.mk _:RD [] 0x1d624fc1a4c6f480614d971732626522e2d601c3ab0cc4efd2f96afc9ab4424a2).v
attribute [local irreducible] iz
def mK :AFn:=(.mk _:RF [iz] 0x300d504457f3c61334195418222d09f).v
def oV :AFn:=(.mk _:RF [] 0x549ef96828b192f33653e9d5268585d84048727ae83434ad11f).v
def iu :Q7:=(.mk _:RD [] 0x75893f06931bd20185365c5cc70c90e2d601c3ab0cc4efd2f96afc9ab4424a2).v
attribute [local irreducible] iu
def lX :AFn:=(.mk _:RF [iu] 0x300d504457f3c61334195418222d09f).v
def k7 :AFn:=(.mk _:RF [] 0x5a30ec2684048716ba0d092940f).v
def pE :Q7:=(.mk _:RD [] 0xaa753e571160e9e10a4bea667131e34c32b0bdd5902969037d689f547fd1be131308ddb97d907541b59a87d7a1f46640368a33b7bd8525ac03ac6e9f2d5f93010beef13c21d4).v
attribute [local irreducible] pE
def wC :AFn:=(.mk _:RF [pE] 0xc0ca6c56be45817c5c895abf9e302741914e1d83).v
def wR :AFn:=(.mk _:RF [] 0x69f7af0a558811301602e8f035f2738572970b5d0e6d011301602e8c68ad337).v
def jj :Q7:=(.mk _:RD [] 0x1d624fc1a4c6f480614d971734319bce2d601c3ab0cc4efd2f96afc9ab4424a2).v
attribute [local irreducible] jj
def n5 :AFn:=(.mk _:RF [jj] 0x300d504457f3c61334195418222d09f).v
def qC :AFn:=(.mk _:RF [] 0xa25822aafe6ad0b48716ba0d092940f).v
def uQ :AFn:=(.mk _:RF [] 0x3022849b193914367279f8129c5a18168d0955a37).v
def tU :AFn:=(.mk _:RF [] 0x69f7af0a558811301602e8f036b2738572970b5d0e6d011301602e8c68ad337).v
def qW :AFn:=(.mk _:RF [] 0x2d20c012a6c49811670cad398699302d41112ca04182268495a07).v
def kG :Q7:=(.mk _:RD [] 0x1cb5df32a0a5b3b1901d403a585194500507c70d26ebf4cb57e32824c085b9582ab4).v
attribute [local irreducible] kG
def pa :AFn:=(.mk _:RF [kG] 0x60244512afe78c083021834511df).v
def mG :Q7:=(.mk _:RD [] 0xb16e2a98cad992cec118919f2749341d305d3ab1b9ba7eb3b33280005fec5b60e6038b092421639708d235f7ea26abbc899bea37ca7d6984d1985586bb4).v
attribute [local irreducible] mG
def lZ :AFn:=(.mk _:RF [mG] 0x3012281783f810978242ceafe7ac0b50200d04f0f7c090e255a7301313c52cd9014e4e42b42aa8df068a21d83).v
def kF :Q7:=(.mk _:RD [] 0xf4fee81887ec65d2d1dfa571eb491005088617ada3fb4aeee244e92200a110c33c82a54cb57e32824c091795872b4).v
attribute [local irreducible] kF
def lI :AFn:=(.mk _:RF [kF] 0x60244952afe78c08034526e64ebc98122f22792ce9cc04c4f14b3641b79390942aa8df068a21d83).v
def qK :AFn:=(.mk _:RF [] 0x2d20c012a6c49811670cad398699302d41112ca04182268495a07).v
def kE :Q7:=(.mk _:RD [] 0x3dac90596e419d6283a8bb4afcc947c81269c188896405e38f68d18284df2d5f9437942522).v
attribute [local irreducible] kE
def oW :AFn:=(.mk _:RF [kE] 0xc04ce24957f3c6130219c33a830218345109f).v
def mC :Q7:=(.mk _:RD [] 0xc9e054df850f18ad0a4202bca164d3d07cca07e4b00000cca2e512fbc34abe2af1e58678c84a65abf1a61562094).v
attribute [local irreducible] mC
def lU :AFn:=(.mk _:RF [mC] 0x5a22cfdf11f1c1431c4d43a4c52a6d0019b953e102538d5500682787be048712ad3980989e2966c85fe42b42aa8df068a21583).v
def kD :Q7:=(.mk _:RD [] 0xf4195781775632e4a4734ae3c765e6a4af4aeee243f66421003fc91888a6121c790d17109be5abf211da742922).v
attribute [local irreducible] kD
def lH :AFn:=(.mk _:RF [kD] 0x602663c957f3c61302538e750069be4dfc9d79302438a569cc04c4f14b3641bd93909432a8df068a20f83).v
def wM :AFn:=(.mk _:RF [] 0xdd9d788001e4ae5b8129c8f74e8006345060f).v
def iK :Q7:=(.mk _:RD [] 0x75893f06931bd20185365c5cc70c90e2d601c3ab0cc4efd2f96afc9ab4424a2).v
attribute [local irreducible] iK
def ng :AFn:=(.mk _:RF [iK] 0x300d504457f3c61334195418222d09f).v
def sK :AFn:=(.mk _:RF [] 0x5a30ec2684048716ba0d092940f).v
def qN :AFn:=(.mk _:RF [] 0xdd9d788001e4ae5b8129c8f74e8006345060f).v
def nE :Q7:=(.mk _:RD [] 0x9b858c666465cefbf647f3817689fb4f78b6c54ed3a99795d728c302edd169d4c91ed5333f9b3b800e866d6dd467eeac97649cceb0187ba43b84d92f81ef8475296ba54e3db9407cabeea04cc87643f364fb0985499ad0b2e44e921f742219254f561f2d5f8ca0930245c9822b4).v
attribute [local irreducible] nE
def t6 :AFn:=(.mk _:RF [nE] 0x1689024aa00930253b156afe78c09d068a23b83).v
def j7 :Q7:=(.mk _:RD [] 0x90d90c38f424b55f2eef778324d2676bc4894e563381abe7604a709c9f52bf1a14ce95411161a94).v
attribute [local irreducible] j7
def n6 :AFn:=(.mk _:RF [j7] 0x30222817813c3df16078c33abf9e73023382966c8000003a352943fa3e605a8ca5f2684aa8054205e9c44f19d4df0445a0b83).v
def qa :AFn:=(.mk _:RF [] 0xc08840bc5c0926e64e499a1a369be088b44f).v
def ny :Q7:=(.mk _:RD [] 0xc1b18ccd2e83dbefd91ebe1c7b51c85f9ba013ba4a7373e51a409da3366200aa0ed08bc8775683f24e67580c3dd21bcac9793df08ea52d74a9c7d527f64fadc85499aab32e4610a3f5a7db1e30f0265453090e008a6986e04cf96afc9ab4424a2).v
attribute [local irreducible] ny
def tP :AFn:=(.mk _:RF [ny] 0x2d12049540126048bea15abf9e3098121c2ba9d068a22983).v
def j6 :Q7:=(.mk _:RD [] 0x1f880c210296ea1e1ddf2eef778324d2676bc48924264191abe6704a709c9f52bf1a23ce95421161894).v
attribute [local irreducible] j6
def nX :AFn:=(.mk _:RF [j6] 0xc088a05e04f0f7c581e2eceafe79cc08f60a59b2000000e8d4a50fe8f9816a32d7c9a10aa01501db939341954df0445a0983).v
def pS :AFn:=(.mk _:RF [] 0xc08840bc5c0926fe4e499a1a369be088b44f).v
def sF :AFn:=(.mk _:RF [] 0x18090837144776a6f8122227).v
def kY :Q7:=(.mk _:RD [] 0x1657ee473cc033cc0c5264740b8a1279097b06222590178eb3ad59b757c13456c86968f337ef1ca94e64a47ea7cb57e4c0498b0dc2dd4).v
attribute [local irreducible] kY
def ub :AFn:=(.mk _:RF [kY] 0x6ad56f15a712afe78c08de55be028112a3151bfd7a5689754050225462268494bb0b83).v
def lN :Q7:=(.mk _:RD [] 0x15b82c8006066060a259b6dfbcf8b6f74e8b5bea6250bf01dda6222987874528a514a2bd9d72f346ff09be5abf2885b426a2).v
attribute [local irreducible] lN
def uO :AFn:=(.mk _:RF [lN] 0x356ab7975a5d2afe78c266852a85e55be028112a31515fd7a5688754050225462268494bb17).v
def j3 :AFn:=(.mk _:RF [] 0x5a4f24a06050b36945ff4069d186d751e10d04e8bf6654d40140c151ed1ff930ed055e45b1dc3feeb0202eefad59b80bd7769fe71d3a091524220b914edbafeacc3a582310a6f3f420fe0a1a0d3081e94075492832722d0cf1ab45ab46f0b7800c66001e52aba2028112a30b4684ea59766783).v
def gv :AFn:=(.mk _:RF [] 0xb49e4951a0a166d28bfeadd31876ba8f08682727fb32a6a00a8d092747ff261da0abaaac3e0af1d06b566dfb74eda7fa7b4c491524220b914edb7c4b30f1d08c429bcfd083f8286834c2072501d524a4c9c8b425f1ab452b42f1d7800c66001e4aaba2028112a30b4684ea59766583).v
def uX :AFn:=(.mk _:RF [] 0xddd7d7ceba1423af5ef120dc08adc8ee2b3aacbebc80202c0580ab1868ae845510040580b015631a29664f).v
def uP :AFn:=(.mk _:RF [] 0x303284a8593915a543c9e7e040b8b4312d4b4686ea9c4f).v
def o7 :AFn:=(.mk _:RF [] 0xddafafed7428475eadc076e4e70228e2d10040580b015631a29660f).v
def jJ :Q7:=(.mk _:RD [] 0xf6ad795ac241d935654809548def3a7557de011643b0f86653ebb44d150498129e178631f4).v
attribute [local irreducible] jJ
def t8 :AFn:=(.mk _:RF [jJ] 0x15ddad6b59941b5bb0b9fbe36b5aca41ed42d7179ddef2d1d3ff0c258b2dd035da7ebf0962d7165da0ac64c22af984bc40df3a7d2027abe6128fb3f9ff886ec442f37b0df309b0c1be74fa4051c2da69dc31522227fd9c29f06c578832f05851637bce9d55f7804590ec3e1994faed1345412604a781d63e97f3c302af0b7800c8406be4e4d28a7574000c64d0d55b13c86d93).v
def kj :Q7:=(.mk _:RD [] 0x22216f6398483b26abb2799884e11521062f34d2cdfe5279dea7de011779d8b83329f4ea268a824c084f1bcbdef4).v
attribute [local irreducible] kj
def iP :AFn:=(.mk _:RF [kj] 0x4cdf55b3766d51bda2fd0e4acb369b414cc17d3dfe940b2450f43bc4b28ac23bc5e40ddfc091860361f30d7e3a82b15ac8acf5c32f56f8bf1eeaa40c1bdbcfbfabd5c32d7bf3e86c971b43588ebe7fda859329ac6875f4dbcfbde1eb866cbdf17e3dd54a718237c0a134f9b01a3ef8dada25ca231f9ef445f6f89d1ecf7e6e57d4b6c7c0c59e487e7ac30726f9ecca4d2bf1aec107d245cacd308409409509283272ad69dad3aea67e55be028112a32106ff26ad36ea73e83a6eab7837f94d69a961ca51b9741b7939171e51c0394a372e80a72722f5ad1c0d90a364e4d5a316f4e880a044a8d2d4b4686ad6cb3c89993).v
def gW :Q7:=(.mk _:RD [] 0x1110b7b1cc241d93568cc09548def3a7557de011643b1706653ebc49345412604abe378c31f4).v
attribute [local irreducible] gW
def kM :AFn:=(.mk _:RF [gW] 0x2ea5b63a58b36b9267f32a6db1d2c08cd1d2dbee1d975b593bb9b4374b0c66d94996ed0dd2dbeb7267d62c48e874dbd4b471c4c2104434530919fe54ba0422e6eb2f8e90db3419eb04d5e887e5608461286834c20825025424c1c9c8b1d946ba83e16f0019080dac9c9a516eae80018c9a1aab6279af).v
def kh :Q7:=(.mk _:RD [] 0x22216f6398483b26ace646213ad61062f70d2cdfe5279dea7de011779d8b83329f4f249a2a0930215f1bc8def4).v
attribute [local irreducible] kh
def ky :AFn:=(.mk _:RF [kh] 0x99beab68a9cce3f88971bb3170b454ab7599bf3ac04cea4a9aac8e67aeeb4f5dccb369b414c686eec14a05923501d1f024618de6ae8c97c3b3fd3607755a2f223eff918431a9c2e8724afc7c75f7fd1c71d0f2a785f203a294574c2668e989e38f0a538810ad13d08989d21b668345d183937cd99a3a6278e34c10ad248b9834c20d25025424a4c9cab5a76b4bba83f2f5f01408951908afe7356957539f41d375ebc57f3a6b4d4b0e528dcba17f917ad68e06c852b2726ad168f4e880a044a8d2d4b4686ad6cb3c87f93).v
def iA :Q7:=(.mk _:RD [] 0x75893f06931bd20185365c5cd0f337ee2d601c3ab0cc4efd2f96afc9ab4424a2).v
attribute [local irreducible] iA
def mL :AFn:=(.mk _:RF [iA] 0x300d504457f3c61334195418222d09f).v
def sJ :AFn:=(.mk _:RF [] 0x549ef96828b192f33653e9d5268585d84048727ae83434ad11f).v
def oG :Q7:=(.mk _:RD [] 0x4dc2c6333232e77dfb23f9c0bb44fda7b9d3dd117e9abd6d475eb3becbcaebd886c0bb745a752bb0355d5299b3b9114c336b6ea33f7556ab24e67580c3dd21dc26c97c08b3834c07d23ef84133bcec87e6c9f59b0a933544e5a58529d379f741e592553161f2d5f8ca0930205c9822b4).v
attribute [local irreducible] oG
def uS :AFn:=(.mk _:RF [oG] 0x5a25286baa70325f4a9c7b727f29f4e709bb6164012a802569cb042c2f18233f204a764c7d5fcf1813a0d14405193).v
def qb :AFn:=(.mk _:RF [] 0x1057295a15a12221951c3b862abde98c303f7deb9e45647515e173e13b77a984a6263bd1b8156cba5a6b7f4ce3904c8a72f79ac8167587917422381432d2f10253c04a71aad1cc6088961ca51b97405393917ed68e06c80a727295a0f418168d0955a2d83).v
def oF :Q7:=(.mk _:RD [] 0x306c63337d1136fbf647af871ed47217e713e6fb9d3d6452b66a345d75db2abaa5336772229866d6dd467eeaad5649cceb0187ba4379592f245a1ba5fda2ebca85499ab679852c214730b0fb68c30f0261901d14a2ba381594d7e6e04cf96afc9ab4424a2).v
attribute [local irreducible] oF
def uM :AFn:=(.mk _:RF [oF] 0x5a25286baa70325f4a9c7d527f29f4e709bb6164012a802569cb042c2f1820bf2048bea58fabf9e3098101c2ba9d068a23f83).v
def pT :AFn:=(.mk _:RF [] 0xa939cae7522c6b62f7f62be3397c53a8db8c07ef6a158bde97ece95c7ca10f92ef8695e900c29b34420a2501552552c9c8129e02538f67473182225872946e5d0bfc8b975a381b217f94ad0e8f418168d0955a3bf).v
def wJ :AFn:=(.mk _:RF [] 0x630444e6d82225941911cc03541112da0418222d1b).v
def pZ :AFn:=(.mk _:RF [] 0x5706c08ee3f602f78913825c39cdc6863da003293bc0bb0d06754f0c111686f).v
def jr :Q7:=(.mk _:RD [] 0x58797c4218c6b7bdfcbef3ed7517422c22be9fffd8804bfb7ed0baadf2033cf9b482e663ade5156f317f5c0f6c0509f6980f957e10099de7643f364fad63c2a4cd5a4e6968c66f3ee83dc78829b2c3e5abf26ca9f8a62c94).v
attribute [local irreducible] jr
def gD :Q7:=(.mk _:RD [jr] 0x162d99df1d2e13109adcdd4bd6b38523de7761567d0cd0ca1c98bc04d26545590c2e8e760be0750d64ef630fb2f05d8801c6e9f53e5f5f71c623802e861f491f6d81a5bec84df8570ff2980e28b9cba7dedf9de54ca08f1f15b27d83d95266a9d7b4b2aa8c8f4356ba3fa660b9fe258f12c01e29878745444e3faa66158028485c1ce77964265f8ca09302697959bab4).v
attribute [local irreducible] gD
def ma :AFn:=(.mk _:RF [jr,gD] 0x4f3aa88640c9589c653c417578d9631e1c0017fb16d83980e2c25f4d7f4387c12823c6cb190318337194f0129f8d96350664e22e04be9afe870f80fc3df0de000bfd8b6a19c481612710ff06a7b64ef06acdfbbcc4d1b3e52d0421cf310d64f9cb8c5d77bdd56f06679f41c5077d4631d9764fb2f7854a5953e126041e3867bd3a0d1440cd93).v
def iy :Q7:=(.mk _:RD [] 0x47bdd97dae2e1c310954dcdd49cd47a223de7761572adb71ca1c9924045dca91328f4a39d82f81cb84d87d46b8f0ab5ea4312fafee9e070e45e647720a44817df04fb6f1fc227dfc237665301c516f3e9f7b7e779532823c7c56c9f6310a93354ef9a5c1ca9d83d0d4fa914e4cc23e8ecc4e7f8963c4b0078a61e1d1511380eaa9ac55b8133e5abf19923e0522083c22).v
attribute [local irreducible] iy
def kg :Q7:=(.mk _:RD [iy] 0x25cdf0e862bd29adcd6adef7f2fbcfb5d45b46dabafa7fff62012fed2340baadf2033cfbdbe534a9ac34733d4e97f64fb1112a4cb7a7b69691747b33ab48120c5863c24769e703c5313473eb29afcdc09ac84cbf2eaa4891220ddc22).v
attribute [local irreducible] kg
def ig :AFn:=(.mk _:RF [iy,kg] 0x147f4dc9fbf78549826310bae87946d0549cc55150be410873cc43516e0ae39d77bdd56f9019e7d07141df518c765d93eb58f0a90de564bc73a73e97f68bb11785486f2b25e39800003691d6afba9a7a550af549fd93ebc7c2a43795f24aa0895d397042fa5e38076946cae858f2732e285d4bc700ed28d95df4228d9816ad96be65c10b92f1c0d9000000746a52746c7cc0b5196be4090e1db60d3a0d1440cd93).v
def pH :Q7:=(.mk _:RD [] 0x4dc2c6333232e77dfb23d4ac8bc093f67b49d5a22be40641c363f930a746d2357a446bf7bc66d6dd467eeab31324e67580c3dd266b42cb8f22fdd07c724aa7d3e5abf1941260425c9822b4).v
attribute [local irreducible] pH
def wH :AFn:=(.mk _:RF [pH] 0x3013d34a6702d5b297c95a72c10b25e30e8a52000000e8d4a50fe8f9816ad94be658216178c119f90253a463eafe78c09d068a23583).v
def kX :Q7:=(.mk _:RD [] 0x9b858c66c7464efbf647d8cc7cbddda0fc1c597dd147d6fe56a4a375f7e2428a3eb0b4faa667f3677001d0cdadba8cfdd579f324e67580c3dd21dff9b25f03e9c0c97d2a71edca03e55f75026643b21f9b27d7770a9338d38192fa550aedc97227490fba103709cbd587cb57e32824c08adc982ab4).v
attribute [local irreducible] kX
def nF :Q7:=(.mk _:RD [kX] 0xf4fee820f8072a6440d05bd4534b4799bf8028485c13877964265f8ca0930269795992b4).v
attribute [local irreducible] nF
def t7 :AFn:=(.mk _:RF [kX,nF] 0x5482d968242a8d5f608c4cb94fa9dc26ed85730bc74a1ddce87a2560a5cc2e2f182146c9c8b48b88e1ef47e5e3025fcf1813a0d14406f93).v
def jq :Q7:=(.mk _:RD [] 0x52f1e47ae0364c421cf304fc50cd6aa080364f7f44cae8dab8948af9027c30695fab63f930af90848be82be4244ec1a57ead8fe4c29d20886bf4574611398336b6ea33f7564bb24e67580c3dd266ad48f4b0c4ca45f742219253c961f2d5f8ca0930245c9822b4).v
attribute [local irreducible] jq
def sR :AFn:=(.mk _:RF [jq] 0x16893e4aa00930253ac56afe78c09d068a23ff).v
def iC :Q7:=(.mk _:RD [] 0x234d5e392dac6b7bdfcd6e5966616968b1673dbfbaacbec2f492ce579697116feeab332e7aefdbedd57bb851fe4fe64d51504788aca7d71126820a1b3878f014305cff14c4d1cfac66f37c2110c509e590997e2e05303c7554).v
attribute [local irreducible] iC
def ie :Q7:=(.mk _:RD [iC] 0xbcbee67b90633c26a784ca991032ef2b25e39800003691d6afba9a7a550aedc9fd93eb7215265bd5074ae44fa12cecdd0c173fc53134702b19bcfba110c2b1e3e5abf19412604a7c983ab4).v
attribute [local irreducible] ie
def qd :AFn:=(.mk _:RF [iC,ie] 0x2d10fd12a8024c094e1f8568fe78c09d068a217f).v
def jo :Q7:=(.mk _:RD [] 0xce9b40d444c86210e798915a873e4b9b81ccd91716538470c8827074574611398336b6ea33f7564bb24e67580c3dd266ad5434b82a29263d3ed94f30f02627f14a2944b1e294528a512c80e8960003c53071e294528a61e1e18d38071535116e04cf96afc9ab4424a2).v
attribute [local irreducible] jo
def sC :AFn:=(.mk _:RF [jo] 0x2d127c9540126048be815abf9e3098121c2ba9d068a23bf).v
def ix :Q7:=(.mk _:RD [] 0x32074fcea6c7e756f7bf9ae7daf0b4b722d7b7f75597d85ff76abcb4b88b7f75599973d77edf6eabddc28fdeb0dabebb90e52f23082228418eaadd0c173fc5313473eb1a37d09d90997e603b0082fa2).v
attribute [local irreducible] ix
def ib :Q7:=(.mk _:RD [ix] 0x1234b91ffd18d8cf09b1efb98aba10fafe86cca991032ef2b25e39800003691d6afba9a7a550af549fd93eb7215265bd5bb4ae4610b296856d1860b44c4e7f8a6268e056535f9b8133e5abf198f1425a2).v
attribute [local irreducible] ib
def pW :AFn:=(.mk _:RF [ix,ib] 0x5a21fa25500498122f09c2b47f3c613024387753a0d14405193).v
def pD :Q7:=(.mk _:RD [] 0x60d8c6631d5d6df7ec8f84226f653370e9605b3b33f138931c6bdf21c73e30c4b284ae733ac061ee932dd665cc9529f48398689a576fa8f96afc9ab4424a2).v
attribute [local irreducible] pD
def wB :AFn:=(.mk _:RF [pD] 0xc04f4d299c0b56cb5f2569cb042c978c3a2948000003a352943fa3e605ab65af99608585e30417e40917cfb1f57f3c6130211c2ba9d068a22b83).v
def kV :Q7:=(.mk _:RD [] 0x1e00a29565a05dbefd91f83dd7e05f20da3a02acc8be497e51a409da3366200aa0ed027d21dd5a0fc9399d6030f7486f2b25e4fa70325f4a9c7d527f64fadc85499c69c0c97d2a857aa4b91842cbd6aab63c60b44ca8a5134380229a61b8133e5abf198f1425a2).v
attribute [local irreducible] kV
def nA :Q7:=(.mk _:RD [kV] 0x13eec3b416831ca99103416f57dd2d1f18fee4a4169888a61e1d14a294528af673ebcd1bfc2764265f8a35222f43722).v
attribute [local irreducible] nA
def tQ :AFn:=(.mk _:RF [kV,nA] 0xa905b2d048551abec11899729f53b84ddb0ae6178e943bb9d0f44ac14b985c5e30429593916917b57bd1f978c2604d2f54ea5fcf184c08a387753a0d14405993).v
def n7 :AFn:=(.mk _:RF [] 0x6027a294f73593d1d302d4652f996085ce5e30e8a5233f32c10b5978c3a29480a72732cb42c978c3a294fa1146cc0b56ca5f32c10b3bc60fa1146cc0b56ca5f20487175d068a213f).v
def gO :AFn:=(.mk _:RF [] 0x5482d5e43603908afb05f46812d2c27aa28dda1ace00000da475abeea69e9538f6e4fe53ec4b3c26ed0d67adce97f5c27570784ddb0acf5aad2cc5b3b6f6c6f84dda1acf59bd2fe62eb8bc26ede5b4e1ed826b8bc560a5cc2c978c3a29485bf2732db42c978c3a2948cfccb042cef18233f204873ff5d068a23583).v
def vm :AFn:=(.mk _:RF [] 0x9ed930ce60793d4fc090f38dfdd566e11da02b18dce6c9f62d15218117009172beba0c9a1a54e0bf).v
def lD :Q7:=(.mk _:RD [] 0x9b858c6601854efbf67201d9f31dd59d5869037d1b5d51fd936976e5f641e317413510f30848da80368a33ac7d852595667504f96afc98085f344c11d4).v
attribute [local irreducible] lD
def qS :AFn:=(.mk _:RF [lD] 0x18094d8302d5b297c85f1469d57f3c604e812220b83).v
def gM :AFn:=(.mk _:RF [] 0x5482d5e43603908afb05f46821d2c27aa28dda1ace00000da475abeea69e9538faa4fe53ec4b3c26ed0d67afae97f5c27570784ddb0acf5e6d2cc5b3b6f6c6f84dda1acf5d7d2fe62eb8bc26ede5b4e1ed826b8bc560a5cc2c978c3a29485cf2732db42c978c3a29482fccb042cef1820bf204873ff5d068a23583).v
def oX :AFn:=(.mk _:RF [] 0x4f5238c15072b24864e1f8767edd87755bf453a4199aa65048b4ad93ec804a94808122e025383fae8168d0955a17).v
def qG :AFn:=(.mk _:RF [] 0x60251cd8302d4a5ee4e52157409110b).v
def nY :AFn:=(.mk _:RF [] 0x3013d14a7b9ac9e8e9816a32d7ccb042e72f187452905f996085acbc61d14a42ff32cb42c978c3a294fa1146cc0b56cb5f32c10b3bc60fa1146cc0b56cb5f20487175d068a213f).v
def gC :Q7:=(.mk _:RD [] 0x1f06ffd012cb42b62f59b27df78b388f25336d21dd7c66efc210e7991530851c0ec68268401541d9f4cde42b4212be8fb7f54ca08cc61ed6158c5d265b800003691d6afba9a7a54e3db92e3c8bbe24312214dcb57e4c049ab03c35d4).v
attribute [local irreducible] gC
def ni :AFn:=(.mk _:RF [gC] 0x1809467e4093762eabf9e3020114b549e040bc0433e022ce191e8605d068a23983).v
def lC :Q7:=(.mk _:RD [] 0x26e16319991973befd91f9acfb0c9471314cceb573d5de6a88d9e53aba09325084cb2b3d38a19750f6c20313401f7b7928b5d3ec2b89a00d1ed5333f9b3b800e866d6dd467eeac97649cceb0187ba4cd5000006d23ad5f7534f4aa15db92e44e921f742219254f561f2d5f8ca0930245c9822b4).v
attribute [local irreducible] lC
def qQ :AFn:=(.mk _:RF [lC] 0x5a24ccaa00930253b156afe78c09d068a23b83).v
def iW :Q7:=(.mk _:RD [] 0x26e1631a2d6a33befd91f3e1dc263252f9fb16105a4d041ef775478ef87b0be9340f021ea999fcd9dc1f2e19b5b7519fbaacc4c9399d6030f7499ab325d2c28ca27dd07c70c198587cb57e32824c084bc9852b4).v
attribute [local irreducible] iW
def iX :Q7:=(.mk _:RD [iW] 0x128035e6dbebd4407d8647985e138e192200a10370586487182103715c1c256c3a97e2e05582f20e154).v
attribute [local irreducible] iX
def gR :Q7:=(.mk _:RD [iW,iX] 0x1cb5dfa432df68e39164b1f7bdfcbf204d3c6261da06642233d79879111627d917d6a42c231b9a08c741c6438ff57af6c0296359928fe096f339638f61222f74684ad273d9def7f2fbe5e0cc7390ea7a8c74e12fb647fbeee1d617559ff99e8737c3a2fea614765c84f4ae44e92200a103706c7483fd64265f8ca0930229795962b4).v
attribute [local irreducible] gR
def qR :AFn:=(.mk _:RF [iW,iX,gR] 0x5482d96981efb046265ca7d4ee1376c2c4655004ad39608592f1874529f432605a8ca5f32c10b0bc608cfc8122ec387be8fe5e3025fcf1813a0d1440c993).v
def sQ :AFn:=(.mk _:RF [] 0x16894b0acf631d2cc3d3b6f6c5709bb4359c00001b48eb57dd4d3d2a71edc9fca7d4ee1376c2b985e3a50eee743d12b052e617778c10a364e45a439df5d068a20bf).v
def gA :Q7:=(.mk _:RD [] 0xb1717050fd3d82145d65ef43a39cc421cf304afc223ed5c4bd785f8ae7399bf82d61d265b800003691d6afba9a7a54e3ea92e88fd4c2767a2d7aef96afca256b427a2).v
attribute [local irreducible] gA
def nc :AFn:=(.mk _:RF [gA] 0xc04a0bf2048bd13aafe78c264b549e040bc0433e022ce19dd0605d068a21b83).v
def gu :Q7:=(.mk _:RD [] 0x49187c75ded6e39d5bdefe5f8070e70ac76e62e777f8e5f6179f2f6c6614d0dfac69fbb4ff136993b9489aa248ca6e222363204a4379592f1cd667f64fad512a4cb7599722916c7d69c9483174c0d68ed3ce078a514a298789d9cfaf535fedc09ac84cbf2e16cd48836a2).v
attribute [local irreducible] gu
def fU :Q7:=(.mk _:RD [gu] 0x384130d6457e384b1a309681e3861789e436e343925b8033997898f7623a0a0932cacf4e2865d2e400d0626803f28d204ed19b310055076845e43bab41f92733ac061ee9335400001b48eb57dd4d3d2a857aa4b91842cbd6a15b1e305a2618f134380229a61b8133e5abf198f1425a2).v
attribute [local irreducible] fU
def qF :AFn:=(.mk _:RF [gu,fU] 0x2d12665500498122f2bc2b47f3c613024387753a0d14407393).v
def jV :Q7:=(.mk _:RD [] 0x34a8ea796bf934536fbf6479841a8638bc33b0b5df81a51cadcebe51a5f42d19b3100550767ec521dd5a0fc9399d6030f7499ab361d2e0a4fafab258a50319becca896405e380694d426e04cf96afca9627f432a2).v
attribute [local irreducible] jV
def jW :Q7:=(.mk _:RD [jV] 0x1d44fc025ef9ae7ceadef7f2ff94b553f98d8f199088e7fa61e444589f645f5e18a50c6f65431d077b7e7f1de77d1bd6359c811c7b0ad37ba352285b61fdef7f2fc30b34cf38e5f5070195598b0702a46817825bff33cfa0e1ce190880bb7825a7c17a1cdf430f4130dbe9927e95c8a44a7e4a06897aa41771865d1da861e121cf114d30dc09ac84cbf1d523fe522093c22).v
attribute [local irreducible] jW
def iO :AFn:=(.mk _:RF [jV,jW] 0x15dd1fc6621916b4e672cab7bfc6a08b5a68d439fb9def7f2fc03981efb4063b2ec9f5ddc2a43796232a822574e5c10b92f1c03b4a36577d0c9816a32d7ccb82170bc7036417e4090e2dcfd3a0d14409f93).v
def sB :AFn:=(.mk _:RF [] 0x16894b0acf67cd2cc3d3b6f6c5709bb4359c00001b48eb57dd4d3d2a71f549fca7d4ee1376c2b985e3a50eee743d12b052e617778c10a564e45a439df5d068a20bf).v
def iY :Q7:=(.mk _:RD [] 0x6baa0500d71f26210e84beea4005b0c03ce4ec279cc129e72c0dfe386b6b50cbfa020af6072d0240fa334c44f2274dfbef601089d37f006c06d83ac84cbf170298ac9154).v
attribute [local irreducible] iY
def gS :Q7:=(.mk _:RD [iY] 0x1797dbdf180c6784d400995322065d76d93c7e768bd327777626e64677f1f0f56701d21aedb278fd21693b9489a7233bf8f87ab380e932e2165c89d37efbd806aa7d372d5f930126ec4c15d4).v
attribute [local irreducible] gS
def qX :AFn:=(.mk _:RF [iY,gS] 0x5a21fa25500498a13c3a8fe78c09d0244405993).v
def mH :Q7:=(.mk _:RD [] 0x469abc71c7b0d0a70b6717aac12844e944df083fa128e64f96afc65049810b707832b4).v
attribute [local irreducible] mH
def sP :AFn:=(.mk _:RF [mH] 0x300d504457f3c604182268495a33f).v
def jG :Q7:=(.mk _:RD [] 0x3068772e953058019ddeba827528af8a585b2bfc15ee366f9d65e26271cffd7ebd45ae6046f4e2c58544db573d0f107702747d0cc4d658b4efce42617b831daf8f01a48bef10729cd9cd0cc4d658b4efdc52448641a2897984f96afc980934f15c41d4).v
attribute [local irreducible] jG
def qf :AFn:=(.mk _:RF [jG] 0x1f4190f55bc6b55be8980b01547a8980b0154783c2b57f3db0201d02581c9c8b0d5a35d5d11301602a8d1301602a8c44d09d539575da84793).v
def nD :Q7:=(.mk _:RD [] 0x5ea06e6478a1bc830db8d5d4587f4c937a6fbd54799f0e51b609db100d6b342ca29c25f6c9041bf70eb0baacb099e7d96164d14f81941804c59f2afc20133bf764639b27d6ce15266ad4534b4799bf80283e3886792c3e5abf170298ac5954).v
attribute [local irreducible] nD
def kN :AFn:=(.mk _:RF [nD] 0xba922127489a800595322065e32bee2550445e61c03b4a36577d08a36605ab652f997042e178e06cfa1146cc0b56ca5f204a7109fe803530211c2baba0d14404993).v
def qH :AFn:=(.mk _:RF [] 0xb44a5855a27ce954012b4e58216a5e30e8a52000000e8d4a50fe8f9816a32d7ccb042c978c3a294f9f9302d465af9960859de30740b56cb5f2048707f5d068a233f).v
def sA :AFn:=(.mk _:RF [] 0x60450960b27228c1e4f3f0219c5a18168d0955a37).v
def f7 :AFn:=(.mk _:RF [] 0xb4804c242584c9ca4d1a16ba0b68695a37).v
def jE :Q7:=(.mk _:RD [] 0x3068772e953058019ddeba827528af8a585b2bfc15ee366f9d65e26271cffd7ebd45ae6046f4e2c58544db573d0f107702747d0da5d658b4efce42617b831daf8f01a48bef10729cd9cd0da5d658b4efdc52448641a2897984f96afc980934f15c41d4).v
attribute [local irreducible] jE
def pY :AFn:=(.mk _:RF [jE] 0x1f4190f55bc6b55be8980b01547a8980b0154783c2b57f3db0201d02585c9c8b0d5a35d5d11301602a8d1301602a8c44d09d539575da84793).v
def nw :Q7:=(.mk _:RD [] 0x10c71a18d1a1b57186dc651f04bf99edad366a85e59e94b217553eb4205915d563deef3ef6fcd12a650484c56c9f60f654996f57dd2bf6fa8642b232dba616a2834530f0e8a514a29457b3905ea6bfdb8133e5abf2885b426a2).v
attribute [local irreducible] nw
def tM :AFn:=(.mk _:RF [nw] 0xb44a5d2bee2550045cc30e8a53e8451b302d5b2d7ccb042c2f183e8451b302d5b2d7c8122f4eb7abf9e309810ce25d401a98108e19d5d068a23783).v
def qT :AFn:=(.mk _:RF [] 0xb44a5855a27ce954012b4e58216a5e30e8a52000000e8d4a50fe8f9816a3297ccb042c978c3a294f9f9302d4652f9960859de30740b56ca5f2048707f5d068a233f).v
def ki :Q7:=(.mk _:RD [] 0x7b572d2d6183f8f3562a689acb4ab775c4b78438dfd829be04a15bfa0c37be1a76c8f6d988bbcec5bb329f51049a3288bc89ef4).v
attribute [local irreducible] ki
def lO :Q7:=(.mk _:RD [ki] 0x2cafdc8e80fec9e231d5c20b989304e10a338334d0bf1d5c1cc42165ba5a319bcf1c83f822070c2cc9a118eae17dcc4982712b16a41c4cf048bdde19f2b59055c6640c47b6d04acdbe7e43712c4e96129310a6f3c720fe09b161372d5f8ca093021df1b862b4).v
attribute [local irreducible] lO
def uR :AFn:=(.mk _:RF [ki,lO] 0x302221fc251fcf18100adb3cb4a6f82268495a1bf).v
def iL :Q7:=(.mk _:RD [] 0x1d624fc1a4c6f480614d97173251944e2d601c3ab0cc4efd2f96afc9ab4424a2).v
attribute [local irreducible] iL
def nh :AFn:=(.mk _:RF [iL] 0x300d504457f3c61334195418222d09f).v
def pV :AFn:=(.mk _:RF [] 0x5a30ec2684048716ba0d092940f).v
def fB :Q7:=(.mk _:RD [] 0x210e99b9d95fd3106d77552b09c70c90e2d6021422b0cc4efd2f96afc9ab4424a2).v
attribute [local irreducible] fB
def gI :AFn:=(.mk _:RF [fB] 0x601aa088afe78c266832a8305b434ad09f).v
def j9 :Q7:=(.mk _:RD [] 0x4443170730c1fc79aaf1e93596958b0b42208da766ae024e6d41862e0ccd855cb7234651378f21f4).v
attribute [local irreducible] j9
def lM :Q7:=(.mk _:RD [j9] 0xd7fbfa82b2564f114c75f7fd1c71cc4216d3a5badc9415de6bdc67824d6ef0cf95ac82ac5309e23df276b36eaf90dc4b8ba584a4c43b2fcecdd0c0901d14a2ba3ae58d1be84df2d5f8eaf0f42822).v
attribute [local irreducible] lM
def uL :AFn:=(.mk _:RF [j9,lM] 0x30223ccd28fe78c26040b8c7500adb3cb4a6f82268495a3983).v
def wS :AFn:=(.mk _:RF [] 0x13db264f8e851c1bf5ad5e1e1ae20c2ddcca80c408894b9f210f902b7dbc15890e90c08bc1465afa92a04253b1d075d0928494593977028adc9bbaafc083a763a0e820b50928b272ee0514b8c775d0665a343554e2383).v
def p8 :AFn:=(.mk _:RF [] 0x13db264f8e851c1bf5ad5e1e1ae3ce2ddcca80c408894b9f210f902b7dbc15890e90c08bc1465afa92a04253b1d075d0928494d93977028adc9bbaafc083a763a0e820b50929b272ee0514b8c775d0665a343554e2383).v
def sS :AFn:=(.mk _:RF [] 0x69c75bda3d0a10b785c6842aa7875bc0000020280040522028e315033393948f433a80000020280040522028e3113424a1f64f).v
def sD :AFn:=(.mk _:RF [] 0x69c7ebda3d0a11d785c6842aa787ebc0000020280040522028e3150cd64e748f433a80000020280040522028e3113424a1f64f).v
def gQ :Q7:=(.mk _:RD [] 0x1e9fdd0310fe05d3710ab589e993b995de5910d316ab32c2b0050af970457d88df7d532d5f8ca0930269795872b4).v
attribute [local irreducible] gQ
def ik :Q7:=(.mk _:RD [gQ] 0x25a7dbf8f17f02e85a90abf1d973a1e593dd3186996f37c2159e3c1159ea4d8beb04265f8ca093020f2f07952b4).v
attribute [local irreducible] ik
def fW :Q7:=(.mk _:RD [gQ,ik] 0xb2bf7239b233f02e9c12156843d12dcacbcb299a62979951de390afbbc115f848a817f5861d4bf19412604dcbc6e0dc2b4).v
attribute [local irreducible] fW
def oe :AFn:=(.mk _:RF [gQ,ik,fW] 0xddc7ebca3d31c251ff5e3064411d7ef3c97dc4e1547e5e3054411d78f9e5bdca8475fb9e06b727385365e2d08ebe79e06b327385272e815abf9e3044411d7ecf29fdca8475ea5f0355939c28b38856a787ebc0000020280040522028e30d11e875500000040500080a44051c63450e607393).v
def fO :Q7:=(.mk _:RD [] 0x19cdcdb800c0ba16a42a31d973a1e5997d313dba64acf519cccae5e1a1703c53134720b1a37d09be5abf2c5f8742f22).v
attribute [local irreducible] fO
def da :Q7:=(.mk _:RD [fO] 0x27dd876800c0ba704853043d12dcacbcb34da63699e64afbf7d8cca128f72d0401e259018675adcd183c2764265f8a35222f43722).v
attribute [local irreducible] da
def lV :AFn:=(.mk _:RF [fO,da] 0x6ee3f5f31e81e128fcbc613026e5e6a37c75fbcf52957f3c613020f2f351be3af1f3c28475fb9e06cf27385365e2d08ebe79e06cb27385272f168475fb3c0d8e4e7026978b423af59e06c32738516712ad570fd780000040500080a44051c61a23d10aa00000080a001014880a38c68a1cc2f).v
def ee :Q7:=(.mk _:RD [] 0x7a7f740b53f8174ad0abaede89f72b3796a1f4c531995230050ae8c115d1928df54cb57e32824c097795832b4).v
attribute [local irreducible] ee
def vl :AFn:=(.mk _:RF [ee] 0x1bb9d7894c255fcf181078ebc0061b000f15540031a2831ff).v
def u0 :AFn:=(.mk _:RF [] 0x3779fd7ce7d0a14fd7ae781c5c9ce4f45978b423afdef12b96e04d6e47b8aceab4febc822028101400202c4c4c059e30d19f422a8822028101400202c4c4c059e31a2a7991f).v
def vi :AFn:=(.mk _:RF [] 0x37675e20007933feb7025396f74e8006345060f).v
def vj :AFn:=(.mk _:RF [] 0x37675e2000792bab7025392f74e8006345060f).v
def uY :AFn:=(.mk _:RF [] 0x1bbef5f3ed0a11d79ef13de370216e477159d56debc80202c4e8c3476845510040589d18d15a64f).v
def ve :AFn:=(.mk _:RF [] 0x6eebebc6b451eb2800405022563c96ff6dc0bb4bcb75f27bcb702e5ef235f0dfe716ba1c6f400101408958c68a5991f).v
def dy :Q7:=(.mk _:RD [] 0x48d2e48018174ad0a7bb7a27dcacde5aa5d313cd1992bbcaac675279b42fe294528963c528a514a25901d12c00078a60e3c528a514c3c3c31a71ee268c2309be5abf198f1425a2).v
attribute [local irreducible] dy
def p7 :AFn:=(.mk _:RF [dy] 0x3773af2e52c957f3c613025387751b8ebc0061b000f19540031a2830bf).v
def kq :Q7:=(.mk _:RD [] 0x839245034958c43313d327732bbcb569a627a9551f2434d5aed0b9fe258f12c01e29878745444e3faa68d1584df2d5f9437942522).v
attribute [local irreducible] kq
def sH :AFn:=(.mk _:RF [kq] 0x18099c4d2afe78c26283aa80369fdc64a6f8122207f).v
def sG :AFn:=(.mk _:RF [] 0x37675e20007933feb7025396f74e8006345060f).v
def p4 :AFn:=(.mk _:RF [] 0x37675e2000792bab7025392f74e8006345060f).v
def tW :AFn:=(.mk _:RF [] 0x69f7af9f68508ebcf789ef1b810ce4774e880202c4e8c68ad337).v
def qO :AFn:=(.mk _:RF [] 0x6eebebc6b451eb2800405022563c96ff6dc0bb4bcb75f27bcb702e5ef235f0afe716ba1c6f400101408958c68a5991f).v
def vk :AFn:=(.mk _:RF [] 0x1bbafd7cd7a142dfaf6f9e07432739bd1bcbc5a14fd7ee781cfc9ce4f4d97c5a11d7cedc0e764e70a4f38556ab2fd79101602c050202c0580b01408980a0000405890202c0580b131312b8c3457a1154440580b014080b01602c050226028000101624080b01602c4c4c4ae31a29732ff).v
def uW :AFn:=(.mk _:RF [] 0xdde7ebe73d0a11d799e2478dc084bc8ee9d08ebe6e07472738129c2ab55a7ebc822028101409c61a33d08aa20880a040502718d153991f).v
def qL :AFn:=(.mk _:RF [] 0x1bbafd796bd0a16fd7b79781d4c9ce6f46f2f16853f5fb2f03a7939c9e9bef168475f3b703a5939c2938e2d1101602c050202c0580b01408980a0000405890202c0580b131312b8c68a5ccef).v
def tV :AFn:=(.mk _:RF [] 0x6ef3faf2e7d0a14fd7acbc0eae4e727a2e7c5a11d7ef7895cb7026ce47ba74411014080a001016262602cf18d153cc6f).v
def iE :Q7:=(.mk _:RD [] 0x3d3fba05a9fc0ba5685625ceb939e5ba4d313932910050ae8c115d1928df54cb57e32824c097795832b4).v
attribute [local irreducible] iE
def uZ :AFn:=(.mk _:RF [iE] 0x1bb9d7894c255fcf181078ebc0061b000f15540031a2831ff).v
def uV :AFn:=(.mk _:RF [] 0x6ef3f5e1726cfb2c050000202c4ce3c0b965e241b8176f7915f07632739b5d0e4f5014000080b1338c68a9cc6f).v
def vh :AFn:=(.mk _:RF [] 0xddf7ebcbd28bdacb016028101602c0580a044ee3c1d9c9ce2ebb67c05cadc1bfce2d74383a80b014080b01602c050227718d15b981f).v
def sV :AFn:=(.mk _:RF [] 0x18090c307adc516f76a6f8122227).v
def ff :Q7:=(.mk _:RD [] 0x290e66100181742a241fcbd4edce8bf12f987b450c83968852248d74c52e750684b9de2d0b81e294528a61e27677abcd1bfc2764265f8bda5f42c22).v
attribute [local irreducible] ff
def it :Q7:=(.mk _:RD [ff] 0x5decaa000c0ba568882e75c9cf878188ba581ee33c26c7478d6cb7a0966823c4d0e77f03c4d18489f08264659a08f13438f21a2e2137cb57e2f6d342722).v
attribute [local irreducible] it
def oY :AFn:=(.mk _:RF [ff,it] 0x1bb9d7ccab528fe78c2604a714ea178ebc0061b000f25540031a2832d83).v
def tT :AFn:=(.mk _:RF [] 0x1bbcfd785c9bdecb014000080b1338f02e597c076e4e702ed6e076b2739b5d0e0ea028000101626718d153981f).v
def p6 :AFn:=(.mk _:RF [] 0xddf7ebcbd28bdacb016028101602c0580a044ee3c1dbc9ce2ebb67c05cadc15fce2d74383a80b014080b01602c050227718d15b981f).v
def p5 :AFn:=(.mk _:RF [] 0x3779faf9cf428475e67891e370212f23ba7423afbbc4c307adc09372dee2b3aad3f5e411014080a04e30d19e845510440502028138c68a9ccef).v
def jK :Q7:=(.mk _:RD [] 0x1e9fdd02eb7e05d0d441fcbd4edce8bcf6f987ca4320e5a18d891ead314b9d29bf80283d9dc1fe9fde2d0b81e294528a61e276720bccdfc0141e585dbc7cb57e32824c08179584ab4).v
attribute [local irreducible] jK
def ua :AFn:=(.mk _:RF [jK] 0x1bb9ebc4d46957f3c604ae3d7810148c344010148f024386568080a46345133bf).v
def jc :Q7:=(.mk _:RD [] 0x7a7f740c43f8174408567fd85cac79d1e8a54ca8a00a15a1c115a846fbea996afc650498109795872b4).v
attribute [local irreducible] jc
def wT :AFn:=(.mk _:RF [jc] 0x377debc76a04abf9e30257dbd780040589d23f0d0ad09c9400202c4e8f267f2dc0b94bc8d7c0b8ef017438567a00080b13bbfc68ad31383).v
def vg :AFn:=(.mk _:RF [] 0x3175f5fdae85097af9b81dcc9ce2d29c2ab5597d7c0580a040580ab1868ae845540580a040580ab18d14b307).v
def gh :Q7:=(.mk _:RD [] 0x408893e00302e8810acfec2e563cd2744f32992b505ce33e53c69112c80bc71ed1a30509be5abf2899e7429a2).v
attribute [local irreducible] gh
def oZ :AFn:=(.mk _:RF [gh] 0x377debe7b4f255fcf184c08671eea27dbd780040589d23f0d0ad09c9400202c4e8f267f2dc0b94bc8d7c0b89f017438667a00080b13bbfc68ad30f83).v
def tX :AFn:=(.mk _:RF [] 0x1bb5f5fdae85097af9b81ddc9ce2d21c5a80b014080b015631a29660f).v
def vd :AFn:=(.mk _:RF [] 0x6eebd7ceb428475e7bc4b7fb6e042dcb7dc5675597af0202c0551868ad08aa0202c05518d14a64f).v
def qM :AFn:=(.mk _:RF [] 0xd3af5f3ad0a11d79ef12dfedb810ce5bee9d0101602a8c68a5337).v
def fD :AFn:=(.mk _:RF [] 0x2a63223c37ca35ef678a71f0789dd9db5ae1bda9d9d7ce34fd78e501298222181ef47800038865071105c87df6a99e906cbb635470f23f242b66209c90fa6ed596d537e2fe1d33c1eace46b0d60cd88d61ac3583371b419400711bad588d61ac3778786e8d70e9a18e834d3f074e6739080b4a2949d87da1a1778146bfa07f9173a65e8e47593e0035833623586b0d60cdc955a73829741f4a798f841d7d65adfb2fa69f11e20ee6af1d68685de0518642cf01f13bb3b6b5c37a474152d70de5ddef2d1d3fbaacb3879f53e42702de0e90e32bc622f5c381b215dc9ca71e977bd012a081c9c8b8aaa810a1951e7272ee0b028adc833a1800000080a001014880a38c64d0d55b0f3c87193).v
def fC :AFn:=(.mk _:RF [] 0x54c644796c7529123cb9d58639530d11a42753e051bf4d7580ff13bb3b6b5cb65a08ebe71a7ba8f267f8bf874cf863b391ac35833623586b0d60cdc6d065001c46eb5623586b0dde1e1ba5a63684d0c741a69f83a6c972b8d7aa24a4ec3ed0b4d3e051afe81fe45ce997a391d74ca00d60cd88d61ac358337254ef86bc29741f4a796d10a025e36dfb30171f11e20ee6af1d685a69f028c3216780f89dd9db5ae5b2d0475f37c27c84e05f81d21c6578c45cbc38072946e5c10b93c703642bd939171e987bd014a082c9c8b1655025432a4be4e5dc160517bc8b3a6fc3f5e00000101400202910147190866b2739a3d1eea1800000080a001014880a38c6467f0d55b0f3c86f93).v
def gX :AFn:=(.mk _:RF [] 0x54e272886fa9d44d67973a8eea54afe010e373e22e5e0c1e677a5a3790498688d0d563e0514d86320d71c17c6b99c85e946d8c3ffed21e0e219b8b754cbc6b066c46b0b28f8dc8b4b7e94ba0cd28d32ef13362346f116b79c1af64dfb30879f11f0d93d82378eb430b8f8146fc659e573203de8f0000710ca0e220b90fbeb84f4152d932f8970497ddfff4f371276ece4a1668c86f48e82a5b265e5ddf09f213818d07487195e31176f0e06c85772722e3d2ecf405a82072722c55540a50ca8f393977058145ef20ce8600000020280040522028e32119fc4556e1c7c86b93).v
def eZ :AFn:=(.mk _:RF [] 0x15389ca25b3275030f8bd561946d0810e374a014d5a1f2f3645574c3c77fd648c0b51c17c6b99c85e946d8c3ffed21e0e219b8b754cbc6b066c46b0b28f8dbf29bea1388334a35712933623472957a4e706bd937ecc21e7c47c364f617f79ec424eba65006b066c46b0d61ac19b92ab5c3bc055e6fcd5e3ad0c2e3e051bf140b5897ddfff4f371276ece4a1668c96c6d242d7a965e5ddf09f213818d07487195e31176f0e06c857b2722e3d2ecf405a820b2722c55540a50ca92f93977058145ef20ce8600000020280040522028e32119fc4556e1c7c85f93).v
def iB :Q7:=(.mk _:RD [] 0x6e27be6c1cc65e08dec2f48394e889cb9703c6ae066f78c4f33d0005b19145fffc03790b4db965b69d2e8ac613fc27b2357c55e45cb0826463b98100000789600f133f89953cd0aca74fbe5abf1b712a7e2ae1894).v
attribute [local irreducible] iB
def qc :AFn:=(.mk _:RF [iB] 0xcdc75be78f42842df4fc04a79a8678eb79d8e83cc885032b2d64e5dc16047a891eafe78c095e1d6f00000080a001014880a38c740cce4e451e8a7500000040500080a44051c632686943cf2983).v
def kU :Q7:=(.mk _:RD [] 0x3713df360e632f056c817a41c6efd5672e086e5edf37bc62792e001e456c7c34e99a16a27acb6d3a5d1d7527f84f646af8abc89f0826463db4100000789600f133f89953cd0aca74fbe5abf1b712a7e2ae1894).v
attribute [local irreducible] kU
def pU :AFn:=(.mk _:RF [kU] 0xcdc7ebe78f428475f4fc04a79a8678fd79d8e83c887d0cacb7939ddc16047a811eafe78c095e1faf00000080a001014880a38c74335939c51e8a7500000040500080a44051c632686943cf2583).v
def iD :Q7:=(.mk _:RD [] 0xf4fee817d3fdeb988d6f363e374ae3d6948c0142278dc1113a523005089e370cf654a29532d5f906093024c52f2b0a674).v
attribute [local irreducible] iD
def jF :Q7:=(.mk _:RD [iD] 0x25a7dbf8d73fdeb9820c9d83177a8eddc8ef730200000f12c01e267f132a73d19f2cda7a303ddb30603d474ae3d6948b7c2113c6e0889d2916f842278dc33d981796ac84cbf20c1260498a5e0f22674).v
attribute [local irreducible] jF
def qe :AFn:=(.mk _:RF [iD,jF] 0xddc75be47a1b84a3f2f1812fe78c085e1d6f00000080a001014880a38c347163f275e11e887500000040500080a44051c63450e604f93).v
def jD :Q7:=(.mk _:RD [] 0x193c81c003dedb456a0f9cd3123c76221fb3232a53da99e6d0bf8a514a258f14a2945289640744b0001e29838f14a294530f0f0c69c7b89a308c26f96afca256b427a2).v
attribute [local irreducible] jD
def kW :Q7:=(.mk _:RD [jD] 0xce6e6dc0063fb6d06b566e4dff3da83d834c48f95888baca265c116b93cda17f14a2944b1e294528a512c80e8960003c53071e294528a61e1e18d3ad713461184ec84cbf2c5f8742f22).v
attribute [local irreducible] kW
def pX :AFn:=(.mk _:RF [jD,kW] 0x3771faf98f55a51f978c260498a5e655a5fcf184c09316714ad0bc3f5e000001014002029101471868e2c864e708f443a80000020280040522028e31a28732983).v
def gJ :AFn:=(.mk _:RF [] 0x54ac021332aa76546d07909118da1d89098c1e1dee9831402622a2961b8511da151ec1811e2944fc75b1272cdd500d9d303cba5d028d034ae44fa0442689cea5408857ea09beb0c3121d2462251c60c51134eecdcd2c41ee2241908891886a50b8a0b65f354023f30f18287b2f22d7587b74dae08afb3d2e085d7be38072946e5d0b064e45e6ba381b2172c9c9bbd16f7a37b75be02c050202c0580b014089dc6321d0c9d78bbd12ea1880b014080b01602c0502277185a342752dbec85193).v
def nj :AFn:=(.mk _:RF [] 0x302a35aeb7823a0e02687c9ca75e9dd7a6d0b75bdbdb807432722ef44baab975bc880b016028101602c0580a044c050000202c48101602c058989895c63207132722af43baba0880b016028101602c0580a044c050000202c48101602c058989895c6168d09d4b2fb35f).v
def wI :AFn:=(.mk _:RF [] 0x31c1d371d6fae3d15085bd6be1794daa9cfa0e9b8eb7d71e8a961e4a362ede1c0dbb8a33a77c17e16f001929d8e83a483502688c9cab5e828bde391d0f875bc0000020280040522028e3210333939347a2dd5d00000010140020291014718ccb4686ead879e4d83).v
def gG :AFn:=(.mk _:RF [] 0xa95804266554eca8da0f212231b43b1213183c3bd0d8314026238372cdd3209dd30425a5d028d3f4ae44fa0442689cea5404c56fa09beb0c3121d2462251c60c51134eecfad2c41ee2241908891886a50b828b65f354023f30f18287b2f22d7587b74dae08afb3d2e085d7be38072946e5d0b364e45e6ba381b2176c9c9bbd12f7a576eb7c0580a040580b016028113b8c643a993af177a1dd431016028101602c0580a044ee30b4684ea5b7d9af).v
def nf :AFn:=(.mk _:RF [] 0x302a35afd7823a0e09a2b2739abd0baf4da16fd7b7ce177a21553cbf5e440580b014080b01602c050226028000101624080b01602c4c4c4ae3192af43aaba0880b016028101602c0580a044c050000202c48101602c058989895c6168d09d4b2fb31f).v
def gz :AFn:=(.mk _:RF [] 0x31309d62740ae69b25a3651c5309368dac1a9b21e5ca897fa346e02858c5c992398918b2ca545dd6528ca95be1e615682f49425136e8c3ead685d11b21686a38c71e9b31a8b7a5f186599c387a37c7da34e2c9f6e96cc4863c0885ca2e2d774026217a70eb691c0b34a04c212ffa23ea851f164cce2646839db29daa1961e4bea5305bc042a058e974aec2bb3a6010a4808eccfbbabb9617d75f77e4b77031ec76508d61ff2d59b9d029befec7c7865584061bbd8d3b6731d883ff172b510aded604b6777071ec98015e0da952aa780b72a006584ab55ea68115562de7d43606fea16c195364af9d4c0803c4b2030d057ca669d1fd3c38de5f366863298a13ca622ca6695f99d646754d65d6d64eee600000da475abeea69e9538f6e4c3379d21bcad404ae0a5f6bc2fdc38076946cae85eb2732e5a17abc70360c29f43fc0fdb5be02c4c4c0580b01602ec66234741d6424a28bc9c8b48be4ddd57e5adf016028101602ac65a1d9c9d7a75d20ea1800080a044ac680b014080b01563212b4688ad0e5ef58fa8b393).v
def dq :AFn:=(.mk _:RF [] 0x62613ac4e815cd364b46ca38470bb8ee764a6c879b96fba89b8df0ba8fa9269b1624628c0d6836182df00d27703f1c9b7dd426d8955851eca71babb55389cde7092115dcdd8bd80c3e434d3845e514d83cc7c2c8ed195cfd811744b6784ea271375debb7a9d9d3d32995ab72ac64dec87a442191529371c28d3bf9724ec712c242731c144a6226933920a160fbea59399ab5a22b75d3bb61d6c9b9a14c8c5cb814bee39f139f9d0c8d4b9572375f0376e685323172bb3eb904644e7e7432352e55c7b4fed2d689cd905d0ed646d97faa3f93495eb0dd55f27221bb522f85a5f4c03abcd8a34331371f1cf6280dbe151ad54ff13f5bca12f9b34318db0293c6d816cb59f81eed19f83a5975b593bb9800003691d6afba9a7a54e3ea930cde7486f2b5012b8297daf0bf70e01e4a362e9f0e06c85ff2722d2af34a7d2ff1255bebe02c4c4c0580b01602ec66a34741d8428a28fc9c8b4abcabbaef97d7800405022563310dae4e74eba49d55f97d7c0580a040580ab196876f273a75d20ea1800080a044ac680b014080b01563212b4688ad0e5ef58fa8b593).v
def gH :AFn:=(.mk _:RF [] 0x66f1fafaf1e85097d78caea2f5d260137afc9d4b7ebdbd832bd53f7a1601262b1c8f55f0fd780000040500080a44051c65a19ac9ceec7a31d40000010140020291014718ad252b474d15d438f0783).v
def ku :Q7:=(.mk _:RD [] 0xc1f17c678483b26ad192257037bce9d55f5a045dfbb1c8cca7d45093454126043df278731f4).v
attribute [local irreducible] ku
def lY :AFn:=(.mk _:RF [ku] 0x18151ad56f9e1bad35085bcb7c35bfd9788edbe9e010f7cb73df47abf9e183a273182aad56f9d68a966c85eb2726ad14aa17956f0202c05518c81dcc9c8ab443a860080b0154622684aa59766183).v
def jt :AFn:=(.mk _:RF [] 0x6382aad75be57a4154e7d0555aeb781c4c9cbbaf4d4b0e528dcba168c9c8bcebd1c0d90b464e455e83d3a0880b016028101602c0580a044c050000202c48101602c058989895c6168d09d4b2fb35f).v
def uG :Q7:=(.mk _:RD [] 0x757fba0ccf352bf4b03bb12d40265a613c1541e0ea25ea9cfda7f5f1622d22ec79b329f60049a2a093025df2b8d35f4).v
attribute [local irreducible] uG
def js :AFn:=(.mk _:RF [uG] 0xba950032c3bb68c33f995350032c09901d2efdb8765d6d64eee74bad2c2fbb65265bd2eb4bbf6b7267d62888e3bb7a26f0811f8b0c845222034c3268b0f76f44de0ac4846a1f4b7144d8186645c3bb7a26f0bd1f8b0c845226712ba7d13a436bdff1bcc4cc22f6d43e96e28aa8422914341a61049280ea96a8f39390213c04a78d28c7695e16f0018c81aac9c8a514eae800185a342752c6c86593).v
def lS :AFn:=(.mk _:RF [] 0x1693dc64e6c08c126d06f16f89b41bc7be6b75b7874216f2df03ba6327ffd3299c9e7e042df1ace9cc60aab55bfb5a2a59b217fc9c9ab44aa95cab78101602a8c640eee4e455a1dd430040580aa30b4684ea597653f).v
def ii :AFn:=(.mk _:RF [] 0x18e0aab5faf0e364e74af483a9cfa0aab5faf0e364e7775e9a961ca51b9742d7939179d7a381b216bc9c8abd07a741101602c050202c0580b01408980a0000405890202c0580b131312b8c2d1a13a965f66ff).v
def nH :AFn:=(.mk _:RF [] 0x17526502e98779b37b63f050d0d995331eae98a62987874528a514a2bdb1bd9a112604339a9d1016262602c0580b017631a54ad996f).v
def gx :AFn:=(.mk _:RF [] 0x1526073e81d026f797127e2de5d32ba9422df2ece2ff9419f16f2e31143a738a9e30642202ba760f5e544bb33c403cbb85a6d4d314b1dce8ffd1365586b84bf2ca6a8f3e1b8710f448ac9fa07409c1bdffaad4e9f6b7e6bbba696cf897dbe33609adde0a424aedf7a1308320f93670932654da80294c3be775ffb2fcb89f3a5504498489d53c085491ef27204a79dae9d5680e896ad359390213c04a7808a5cb23d39e816a0aab5adedd7454b0e528dcba167c9c8bcf74703642c193935746a3d07cb5bc002028112b18c81afc9c8aba2dd43000101408958c2d1a13a965ec85d93).v
def Ca :AFn:=(.mk _:RF [] 0x169051c5ae5e90825365c0bb050a830445a07).v
def mF :Q7:=(.mk _:RD [] 0x6baa04fe0f29610e1140f3fe633fa89ab1d625ec8d5f59032d6d0c0bb1582bb4).v
attribute [local irreducible] mF
def sO :AFn:=(.mk _:RF [mF] 0x60244412afe78c08d810c091115f).v
def nG :AFn:=(.mk _:RF [] 0x17526502e98779b37b63f050d0d995331eae98a62987874528a514a2bdb1bd9a112604339a9d1016262602c0580b017631a54ad996f).v
def ji :Q7:=(.mk _:RD [] 0x3dab5e56b09e6aa6ac7e6199362fc240a82fed2ceaafbc022c8761f0cca7d50c49a2a093022b7c2f14e1ef4).v
attribute [local irreducible] ji
def fG :AFn:=(.mk _:RF [ji] 0x94b362f107d07c3cdefd8fa7a1d6f0ef10d6b327375d52c7b0360fb1a3d495eccce04bfd61bd2b5d71ae9cb5e521955fe4dd5869d3ffbe77e8873f1b17087691f9df0a7ea274ca1dbb4e02f6fd441d9cef0711b29396ff370e3e40af6c3fdc9e41caa8c8210ead9baf102e83c764226e7a63427ff618572872f128154a729d4cf7c978ce67ebd7774d1f544f9f7c66c13da4c148111dbcf9f79c1575a2e33e2a8d5f6f8c4cb94faa909386d4622f3c38072946e5d0b764e45e7ba381b2166c9ca75d2aa7d4f0215247cc9c8129e76ba415a03aa49319390253c6ae8c56abcbebc002028112b18c86d72738aba29d43000101408958c2d1a13a965ec8a593).v
def mB :Q7:=(.mk _:RD [] 0x6baa04fe0f2961436264a3fe633fa89ab1d625ec8d5f59032d6d0c0bb1582bb4).v
attribute [local irreducible] mB
def sy :AFn:=(.mk _:RF [mB] 0x60244412afe78c08d810c091115f).v
def pR :AFn:=(.mk _:RF [] 0x5a30f22684040716ba0d092940f).v
def kl :Q7:=(.mk _:RD [] 0x6e27be6c0241d9355e2b4aa60ef43d5489be42c88f7995980da90126ef15c316f4).v
attribute [local irreducible] kl
def vf :AFn:=(.mk _:RF [kl] 0xa9706ee6097881c57228547e60947d9fcffc43584242f37ad9b9826c30715c8a1e8b910ba0f8ae83e74931522227fdaa2218044dbc56945c1de87aa9137c85911ef32b301b52024dde036b7a5fcf0c080e87bc97bbc46792ea6f83229c04993).v
def tab :List (Option AFn):=[none,none,none,none,none,some Lx,none,some LF,none,some Lo,some Lz,none,some LI,none,some Lr,some Hj,none,some Hu,none,some G2,some Ji,none,some Ju,none,some I6,none,none,none,none,none,some NG,some Hi,none,none,some NH,some Ht,none,none,some NF,some G1,some Fa,some Fb,some Fl,some Fo,some EF,some EG,some Di,some Hl,some Dn,some Hw,some C3,some G5,some Jd,some Jp,none,some IZ,none,some Hk,some zw,none,some Hv,some uK,none,some G4,some He,some ya,some Hp,some x5,none,some GX,some Hg,some Hf,some Lw,some Hr,some Hq,some LD,some GZ,some GY,some Ln,some Jk,some Fg,some Jw,some EB,some I8,none,none,none,some Jb,some wK,some Jn,some sM,some IX,some Jc,some Jo,some IY,none,none,none,none,none,none,none,none,none,some Jj,none,some Jv,none,some I7,none,none,none,none,none,none,none,none,none,none,none,none,none,none,none,none,none,none,some Ff,some Jg,some B7,some E9,some Jh,some Fe,some Fs,some Js,some B9,some Fj,some Jt,some Fq,some EL,some I4,some BQ,some EE,some I5,some EJ,some qP,none,some uT,some nZ,some wE,none,some wA,none,some qU,some qI,none,none,none,none,none,none,some uU,some uN,some E7,some Je,some Jf,some LA,some Fh,some Jq,some Jr,some LJ,some EC,some I2,some I3,some Lt,some qB,some mU,some wD,some wz,none,none,some uc,some jQ,none,some tY,none,some tZ,some wP,some tL,none,some pJ,some sI,some qV,some t9,some sU,some qJ,some tR,some sE,some Hb,some Ly,some lW,some Hm,some LG,some LH,some Ft,some GU,some Lp,some Lq,some EM,some mK,some oV,some lX,some k7,some wC,some wR,some n5,some qC,some uQ,some tU,some qW,some pa,some lZ,some lI,some qK,some oW,some lU,some lH,some yU,some Dj,some Lv,some Fc,some yV,some Do,some LC,some Fp,some yT,some C4,some Lm,some EH,some wM,some ng,some sK,some qN,some t6,some n6,some qa,some tP,some nX,some pS,some Hc,some Dk,some I9,some LB,some Hn,some Dp,some Jl,some LK,some GV,some C5,some IV,some Lu,some sF,some Ja,some B6,some Hh,some Jm,some B8,some Hs,some IW,some BP,some G0,some E8,some Dl,some Fi,some Dq,some ED,some C6,some Hd,some Ho,some GW,some Dm,some Dr,some C7,none,none,none,none,none,none,none,none,none,none,none,none,none,none,none,none,none,none,none,none,none,none,none,none,none,none,none,none,some ub,none,some uO,none,none,none,none,none,none,none,none,none,some j3,none,none,some gv,none,none,some uX,none,none,none,some uP,some o7,none,none,none,some t8,some iP,none,some kM,some ky,none,none,none,some mL,some sJ,none,none,some uS,some qb,none,none,some uM,some pT,none,none,none,some wJ,none,none,some pZ,none,none,none,none,none,none,none,none,none,none,some ma,some ig,some wH,some t7,some sR,some qd,some sC,some pW,some wB,some tQ,some n7,some gO,some vm,some qS,some gM,some oX,some qG,some nY,some ni,some qQ,some qR,some sQ,some nc,some qF,some iO,some sB,some qX,some sP,some qf,some kN,some qH,some sA,some f7,some pY,some tM,some qT,some uR,some nh,some pV,some gI,some uL,some wS,some p8,none,none,none,none,some sN,some B5,some BY,some sS,some sD,some ET,some p9,some EY,some zt,some B2,some EZ,some B4,some Ha,some oe,some lV,some BX,some ER,some zq,some BU,some ES,some BW,some BZ,some B3,some Df,some G7,some EW,some EX,some EV,some AW,some Dh,some vl,some u0,some vi,some vj,some uY,some ve,some p7,some sH,some sG,some p4,some tW,some qO,some BR,some BV,some Da,some G6,some EP,some EQ,some EO,some AV,some Dc,some Dd,some Dg,some zr,some EU,some De,some vk,some uW,some qL,some tV,some C8,some Db,some zp,some EN,some C9,some B1,some uZ,some uV,some vh,some sV,some oY,some tT,some p6,some p5,some BS,some ua,some wT,some vg,some oZ,some tX,some vd,some qM,none,none,none,none,none,none,none,none,none,none,none,none,none,none,none,none,none,none,none,none,none,none,none,none,none,none,none,none,none,none,none,none,none,none,none,none,none,none,none,none,none,none,none,none,none,none,none,none,none,none,none,none,none,none,none,none,none,none,none,none,none,none,none,none,none,none,none,none,none,none,none,none,none,none,none,none,none,none,none,none,none,none,none,none,none,none,none,none,none,none,none,none,none,none,none,none,none,none,none,none,none,none,none,none,none,none,none,none,none,none,none,none,none,none,none,some il,none,none,none,none,none,none,none,none,some fD,some fC,some gX,some eZ,some qc,some pU,some qe,some pX,none,none,none,none,none,none,none,none,none,none,none,none,some gJ,some nj,some wI,some gG,some nf,some gz,some dq,some gH,none,none,none,none,none,none,none,none,none,none,none,none,none,none,none,none,some lY,some jt,some js,some lS,some ii,some nH,some gx,some Ca,some sO,some nG,some fG,some sy,none,none,none,none,none,none,none,some pR,some vf,none]
def Ph (k:Nat):Option AFn:=(tab[k]?).getD none
end Gi
