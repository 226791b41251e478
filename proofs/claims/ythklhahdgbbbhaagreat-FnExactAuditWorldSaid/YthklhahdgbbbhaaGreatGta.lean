/- Of this proof. -/
import Derived.Test.YthklhahdgbbbhaaGreatGpb
namespace Gi
open Go
set_option maxRecDepth 100000
set_option maxHeartbeats 4000000
def sC : List PTy := [.str, .int .i64]
def uh : List Seg := [.c .str, .c (.int .i64)]
abbrev dx : List PTy := sC
def xL : List PTy := [.int .i64, .int .i64, .str]
def D7 : List Seg := [.c (.int .i64), .c (.int .i64), .c .str]
def n9 : List PTy := [.lst dx]
def qQ : List Seg := [.l dx ⟨66, 64, 69, false⟩]
def sE : List PTy := [.int .i64, .int .i64, .str, .lst dx]
def xU : List Seg := [.s xL ⟨34, 30, 38, true⟩, .s n9 ⟨35, 31, 39, false⟩]
def pP : List PTy := [.str, .int .i64]
def qO : List Seg := [.c .str, .c (.int .i64)]
abbrev iV : List PTy := pP
def sD : List PTy := [.int .i64, .int .i64, .int .i64, .str]
def uj : List Seg := [.c (.int .i64), .c (.int .i64), .c (.int .i64), .c .str]
abbrev pO : List PTy := sD
def qH : List PTy := [.int .i64]
def nI : List PTy := [.lst pO, .int .i64, .lst qH, .int .i64, .bool, .bool]
def oV : List Seg := [.l pO ⟨74, 71, 77, false⟩, .c (.int .i64), .l qH ⟨75, 72, 78, false⟩, .c (.int .i64), .c .bool, .c .bool]
def sH : List PTy := [.int .i64, .str, .str, .int .i64, .lst iV, .lst pO, .int .i64, .lst qH, .int .i64, .bool, .bool]
def xW : List Seg := [.c (.int .i64), .c .str, .c .str, .c (.int .i64), .l iV ⟨42, 40, 44, false⟩, .s nI ⟨43, 41, 45, false⟩]
abbrev fO : List PTy := sE
def oZ : List PTy := [.int .i64, .int .i64]
def uf : List Seg := [.c (.int .i64), .c (.int .i64)]
abbrev gc : List PTy := oZ
def sJ : List PTy := [.int .i64, .int .i64, .int .i64, .int .i64, .str, .str, .int .i64]
def um : List Seg := [.c (.int .i64), .c (.int .i64), .s xL ⟨34, 30, 38, true⟩, .c .str, .c (.int .i64)]
abbrev fP : List PTy := sJ
def m6 : List PTy := [.str, .lst fO, .int .i64]
def uk : List Seg := [.c .str, .l fO ⟨53, 52, 55, false⟩, .c (.int .i64)]
def m4 : List PTy := [.str, .lst fO, .int .i64, .lst gc, .lst fP]
def qR : List Seg := [.s m6 ⟨22, 20, 24, false⟩, .l gc ⟨48, 46, 50, false⟩, .l fP ⟨49, 47, 51, false⟩]
abbrev gM : List PTy := m6
def OJ : List PTy := [.int .i64, .str, .int .i64, .int .i64, .str, .lst dx, .str]
def Kd : List Seg := [.c (.int .i64), .c .str, .s xL ⟨34, 30, 38, true⟩, .s n9 ⟨35, 31, 39, false⟩, .c .str]
def jb : List PTy := [.int .u8]
def lW : List PTy := [.int .i64, .int .i64, .int .i64, .lst jb, .bool]
def nk : List Seg := [.c (.int .i64), .c (.int .i64), .c (.int .i64), .l jb ⟨255, 251, 259, false⟩, .c .bool]
def pN : List PTy := [.str, .str, .int .i64, .int .i64, .int .i64, .lst jb, .bool]
def qN : List Seg := [.c .str, .c .str, .s lW ⟨281, 280, 282, false⟩]
abbrev gA : List PTy := pN
def sA : List PTy := [.int .i64, .lst gA]
def ug : List Seg := [.c (.int .i64), .l gA ⟨273, 271, 275, false⟩]
abbrev dK : List PTy := sA
def lV : List PTy := [.str, .str]
def nj : List Seg := [.c .str, .c .str]
abbrev jc : List PTy := lV
def iL : List PTy := [.str, .int .i64, .int .i64, .int .i64]
def jp : List Seg := [.c .str, .c (.int .i64), .c (.int .i64), .c (.int .i64)]
def lS : List PTy := [.lst dK]
def nh : List Seg := [.l dK ⟨253, 249, 257, false⟩]
def lU : List PTy := [.str, .int .i64, .lst gM, .lst jc]
def ni : List Seg := [.c .str, .c (.int .i64), .l gM ⟨60, 57, 63, false⟩, .l jc ⟨266, 263, 269, false⟩]
def wj : List PTy := [.str, .int .i64, .lst gM, .lst jc, .lst jb, .int .i64]
def xT : List Seg := [.s lU ⟨254, 250, 258, false⟩, .l jb ⟨255, 251, 259, false⟩, .c (.int .i64)]
def pQ : List PTy := [.int .i64, .int .i64, .lst fP]
def qP : List Seg := [.c (.int .i64), .c (.int .i64), .l fP ⟨49, 47, 51, false⟩]
def wm : List PTy := [.int .i64, .int .i64, .lst fP, .int .i64, .int .i64]
def xY : List Seg := [.s pQ ⟨267, 264, 270, false⟩, .c (.int .i64), .c (.int .i64)]
def nJ : List PTy := [.str, .lst fO, .int .i64, .int .i64, .int .i64, .int .i64, .lst fP, .int .i64, .int .i64]
def oW : List Seg := [.s m6 ⟨22, 20, 24, false⟩, .c (.int .i64), .s wm ⟨256, 252, 260, false⟩]
def mZ : List PTy := [.str, .str, .str, .int .i64, .int .i64, .int .i64, .lst dK, .str, .int .i64, .lst gM, .lst jc, .lst jb, .int .i64, .str, .lst fO, .int .i64, .int .i64, .int .i64, .int .i64, .lst fP, .int .i64, .int .i64, .int .i64, .bool]
def qM : List Seg := [.c .str, .c .str, .s iL ⟨231, 227, 235, true⟩, .s lS ⟨232, 228, 236, false⟩, .s wj ⟨233, 229, 237, false⟩, .s nJ ⟨234, 230, 238, false⟩, .c (.int .i64), .c .bool]
abbrev dm : List PTy := mZ
abbrev uz : List PTy := sH
def wk : List PTy := [.str, .int .i64, .bool, .bool]
def xV : List Seg := [.c .str, .c (.int .i64), .c .bool, .c .bool]
abbrev sF : List PTy := wk
def zA : List PTy := [.int .i64, .int .i64, .int .i64]
def E4 : List Seg := [.c (.int .i64), .c (.int .i64), .c (.int .i64)]
abbrev sG : List PTy := zA
def ir : List PTy := [.str]
def wl : List PTy := [.str, .int .i64, .lst ir, .bool]
def xX : List Seg := [.c .str, .c (.int .i64), .l ir ⟨204, 200, 208, false⟩, .c .bool]
abbrev j9 : List PTy := wl
abbrev jR : List PTy := m4
def uA : List PTy := [.lst dm]
def oX : List Seg := [.l dm ⟨167, 163, 171, false⟩]
def qg : List PTy := [.lst sF]
def lY : List Seg := [.l sF ⟨168, 164, 172, false⟩]
def uy : List PTy := [.lst sG]
def oU : List Seg := [.l sG ⟨169, 165, 173, false⟩]
def sI : List PTy := [.int .i64, .bool, .int .i64, .lst dm, .lst uz, .int .i64, .lst sF, .lst sG, .lst j9, .lst jR]
def ul : List Seg := [.c (.int .i64), .c .bool, .c (.int .i64), .s uA ⟨133, 127, 139, false⟩, .l uz ⟨134, 128, 140, false⟩, .c (.int .i64), .s qg ⟨135, 129, 141, false⟩, .s uy ⟨136, 130, 142, false⟩, .l j9 ⟨137, 131, 143, false⟩, .l jR ⟨138, 132, 144, false⟩]
def Dw : AFn := ij xU
def DD : AFn := gL xU
def Do : AFn := gK xU
def Dy : AFn := ij xW
def DG : AFn := gL xW
def Dr : AFn := gK xW
def AG : AFn := ij qR
def AR : AFn := gL qR
def Av : AFn := gK qR
def BZ : AFn := ij uk
def Cc : AFn := gL uk
def BN : AFn := gK uk
def Fo : AFn := ij D7
def AF : AFn := ij qQ
def Fp : AFn := gL D7
def AQ : AFn := gL qQ
def Fm : AFn := gK D7
def Au : AFn := gK qQ
def yx : AFn := FY 2 70
def yy : AFn := ij oV
def yG : AFn := Gd 24 2 73 [(.str []), (.int .i64 0)] true
def yH : AFn := gL oV
def yn : AFn := oe 27 (gF 2 76)
def yo : AFn := gK oV
def wK : AFn := Od
def AI : AFn := FY 7 79
def wP : AFn := Gd 16 2 80 [(.int .i64 0), (.int .i64 0)] true
def AT : AFn := Gd 72 7 81 [(.int .i64 0), (.int .i64 0), (.int .i64 0), (.int .i64 0), (.str []), (.str []), (.int .i64 0)] true
def wF : AFn := oe 27 (gF 2 82)
def Ax : AFn := oe 27 (gF 7 83)
def BU : AFn := FY 4 5
def B7 : AFn := Gd 56 4 7 [(.int .i64 0), (.int .i64 0), (.str []), (.lst [])] false
def BI : AFn := oe 27 (gF 4 9)
def AH : AFn := FY 3 20
def AS : AFn := Gd 48 3 22 [(.str []), (.lst []), (.int .i64 0)] false
def Aw : AFn := oe 27 (gF 3 24)
def AB : AFn := FY 2 87
def AM : AFn := Gd 24 2 89 [(.str []), (.int .i64 0)] true
def Aq : AFn := oe 27 (gF 2 91)
def AD : AFn := ij qO
def AC : AFn := FY 4 92
def Dv : AFn := Od
def AO : AFn := gL qO
def AN : AFn := Gd 40 4 93 [(.int .i64 0), (.int .i64 0), (.int .i64 0), (.str [])] true
def DC : AFn := OZ 8 (.int .i64 0)
def As : AFn := gK qO
def Ar : AFn := oe 27 (gF 4 94)
def Dn : AFn := oe 26 oP
def B2 : AFn := ij um
def yC : AFn := gL uf
def Ce : AFn := gL um
def yj : AFn := gK uf
def BP : AFn := gK um
def GW : AFn := ij Kd
def GX : AFn := gL Kd
def GV : AFn := gK Kd
def BS : AFn := ij uh
def B5 : AFn := gL uh
def BG : AFn := gK uh
def BT : AFn := ij uj
def B6 : AFn := gL uj
def BH : AFn := gK uj
def pk : AFn := (.mk _ : RF [] 0x28064ed373c6b4d03b0c55087a8783518ee456089e1b0e6f7e15b961b71fe75dd05fc84126377b5a06939c479b2e0c5a8acb0a1000327f093e021ff2e6271ff0b648c0d4572b8b217326a9652093c32e8d68a04d4cb5cd6267ebd16a43cbfc42c07ee59c0b2135748f90db9b774b9c5b934dd55460bb743425c77c6a86bfe0de9c1129388e8bad7db92606f07306cdcd54ad8712620478).v
def tv : AFn := (.mk _ : RF [] 0x269f414601b76d1e6838fd5e14976359540d22ecad61f001a20ede0138c91bfd7d703150e8be1006d3b5e614fb1ad33909307cf3191f58b5c80201f2b1cb063e766ed1b5434893aa3d1b87c4267d984c6e176986eea8f7f1b3574614fe7ffaf605277f882293e430670f81eb0e4c0da8262179968e78f5a940ccf04ff3e57a7fb63fa64f85fdefef3cb00d359e066704a05fa9057b3e267931f49c9d20520d010f89ac8651a2e10bc2d1587f2fed6390585472c73a23a777c334bcb8c3943cac3f078a6eed7ad9312660638).v
def qv : AFn := (.mk _ : RF [] 0x5562ca4ba1a7e822a01a4f0105655c69b95e9567b7b12fdcc8b6e0d07599650c6732bc46b7edd3ffe2def9a3a94c5ca78774c9c03e68e45117d9ca266e918392d46bec01172a53d7326a9652093c32e8d68a04d4cb5cd6267ebd174a34e6f28c9f9fbc44702d4a08f90db9b774b9c5b934dd55460bb743425c77c6a86bfe0de9c1129388e8bad7db92606f07306cdcd54ad8712620478).v
def ov : AFn := (.mk _ : RF [] 0x2f2187aa5da4db0ff78a50a63334bdfaa20f554269f590c92679b72a7328bccad80f25c7f4945e9bfda80755ff272d73736698729c011ddc117b8f68af094bdb1adf1fdd61b05f25543e3186de389fef89005c8207330b18968f267da2cb258c54b0ef1c27d4e70c15e8fc815ee0ef22906743bc75a21c6f49247086a6afdaafa30d83dff84a777d151b80096b7d6fa155ab0e3eedefeb11d03f29234b3c80f428d2e398ce8af92fe6dc5e7e058f074c2e146da3ca36988041bf6e389f44598b85f69d7c8cde77e2bbe783984eaa42782220b98decaf15d5075ca8ab3e27c0c0f65d9f350b1e8fc9852feb6315e69b29aef56d8d1a6406b8).v
def qS : AFn := (.mk _ : RF [] 0xad9e5e4630e9b100c965e8bf963f87e5f4626c2c7c41b4c98b115ee3d624bc3532383cb6480867f78746289326b04dcc096662cb91a85f1f6776e97cc3fa8c7f8eb21d035ea457d0e07b82a633c9baa370f483a7b01c88f96f979053b392ba7c62fb659a5e747b051a3efabf694e533307919a2200c1bf4e02583cf6ccc5725714db88e9e71d3e9904faef8a4eb566126d41cc94d3801acc482adf0413b03d43cae5925c1d410e29ae65174979b90f3da131f51774fd4e6b1bd462a7bea53e52219e4ac11919a6a21bb627c9cc18d8a83f81150c0a472c6824ff28f29f438929528efecbcd882c7303323cc78a1d69694c1bfee63d1dc2e7ddf1a11214ddf325b3224d008459).v
def pT : AFn := (.mk _ : RF [] 0x5562ca4ba1a7e822a01a4f0105655c69b95e9567b7b12fdcc8b6e0d07599650c6732bc46b7edd3ffe2def9a3a94c5ca78774c9c04099ba6357b21179d402dceec6167919a95671d7326a9652093c32e8d68a04d4cb5cd6267ebd17cefb6cb1404c2da4add50ed908f90db9b774b9c5b934dd55460bb743425c77c6a86bfe0de9c1129388e8bad7db92606f07306cdcd54ad8712620478).v
def B1 : AFn := ij ul
def Cd : AFn := gL ul
def BO : AFn := gK ul
def yB : AFn := ij oX
def BX : AFn := FY 11 10
def vx : AFn := ij lY
def yw : AFn := ij oU
def BY : AFn := FY 4 166
def yA : AFn := FY 5 15
def yK : AFn := gL oX
def Ca : AFn := Gd 144 11 12 [(.int .i64 0), (.str []), (.str []), (.int .i64 0), (.lst []), (.lst []), (.int .i64 0), (.lst []), (.int .i64 0), (.bool false), (.bool false)] false
def vz : AFn := gL lY
def yF : AFn := gL oU
def Cb : AFn := Gd 56 4 170 [(.str []), (.int .i64 0), (.lst []), (.bool false)] false
def yJ : AFn := Gd 96 5 17 [(.str []), (.lst []), (.int .i64 0), (.lst []), (.lst [])] false
def yr : AFn := gK oX
def BL : AFn := oe 27 (gF 11 14)
def vv : AFn := gK lY
def ym : AFn := gK oU
def BM : AFn := oe 27 (gF 4 174)
def yq : AFn := oe 27 (gF 5 19)
def yu : AFn := FY 24 198
def BV : AFn := FY 4 199
def BW : AFn := Od
def Dz : AFn := ij xX
def yD : AFn := Gd 328 24 201 [(.str []), (.str []), (.str []), (.int .i64 0), (.int .i64 0), (.int .i64 0), (.lst []), (.str []), (.int .i64 0), (.lst []), (.lst []), (.lst []), (.int .i64 0), (.str []), (.lst []), (.int .i64 0), (.int .i64 0), (.int .i64 0), (.int .i64 0), (.lst []), (.int .i64 0), (.int .i64 0), (.int .i64 0), (.bool false)] false
def B8 : AFn := Gd 32 4 202 [(.str []), (.int .i64 0), (.bool false), (.bool false)] true
def B9 : AFn := Gd 24 3 203 [(.int .i64 0), (.int .i64 0), (.int .i64 0)] true
def DH : AFn := gL xX
def yk : AFn := oe 27 (gF 24 205)
def BJ : AFn := oe 27 (gF 4 206)
def BK : AFn := oe 27 (gF 3 207)
def Ds : AFn := gK xX
def Ay : AFn := ij qM
def Dx : AFn := ij xV
def fA : ACode := (.mk _ : RD [] 0x19c59bc97ee45a4fef04c53e43d6e5d6ee9e1597783f9b4b798368d259d11469f0398be375da8084b65bc3dc4687ae2524074cc164957d2b1763c35c8cd7066f8a32489b).v
attribute [local irreducible] fA
def jr : AFn := (.mk _ : RF [fA] 0x18d8f74c97af52e00f77b9b12e26a81ffe93c28c99b0ff5fafebe987a625713df053c5466664aca8343cbf93a5a6142990a640498).v
def AJ : AFn := gL qM
def DE : AFn := gL xV
def DF : AFn := gL E4
def yL : AFn := OZ 16 (.str [])
def An : AFn := gK qM
def Dp : AFn := gK xV
def Dq : AFn := gK E4
def yt : AFn := oe 26 oP
def s6 : AFn := ij jp
def wL : AFn := ij nh
def Du : AFn := ij xT
def yz : AFn := ij oW
def s7 : AFn := gL jp
def wQ : AFn := gL nh
def DB : AFn := gL xT
def yI : AFn := gL oW
def s5 : AFn := gK jp
def wG : AFn := gK nh
def Dm : AFn := gK xT
def yp : AFn := gK oW
def Az : AFn := FY 2 262
def wM : AFn := ij ni
def BQ : AFn := Od
def DA : AFn := ij xY
def AK : AFn := Gd 32 2 265 [(.int .i64 0), (.lst [])] false
def wR : AFn := gL ni
def B3 : AFn := OZ 1 (.int .u8 0)
def DI : AFn := gL xY
def Ao : AFn := oe 27 (gF 2 268)
def wH : AFn := gK ni
def BE : AFn := oe 26 oP
def Dt : AFn := gK xY
def BR : AFn := ij ug
def vw : AFn := FY 2 272
def AE : AFn := ij qP
def B4 : AFn := gL ug
def vy : AFn := Gd 32 2 274 [(.str []), (.str [])] true
def AP : AFn := gL qP
def BF : AFn := gK ug
def vu : AFn := oe 27 (gF 2 276)
def At : AFn := gK qP
def yv : AFn := FY 7 277
def wN : AFn := ij nj
def yE : AFn := Gd 88 7 278 [(.str []), (.str []), (.int .i64 0), (.int .i64 0), (.int .i64 0), (.lst []), (.bool false)] false
def wS : AFn := gL nj
def yl : AFn := oe 27 (gF 7 279)
def wI : AFn := gK nj
def AA : AFn := ij qN
def AL : AFn := gL qN
def Ap : AFn := gK qN
def wO : AFn := ij nk
def wT : AFn := gL nk
def wJ : AFn := gK nk
def nV : AFn := (.mk _ : RF [] 0x5562ca4ba1a7e822a01a4f0105655c69b95e9567b7b12fdcc8b6e0d07599650c6732bc46b7edd3ffe2def9a3a94c5ca78774c9c06ff9cfadfc5717e545b60953101ea44d02507a97326a9652093c32e8d68a04d4cb5cd6267ebd23064078ed2dbfaa6694fa9c8d68f90db9b774b9c5b934dd55460bb743425c77c6a86bfe0de9c1129388e8bad7db92606f07306cdcd54ad8712620478).v
def oQ : AFn := (.mk _ : RF [] 0x5562ca4ba1a7e822a01a4f0105655c69b95e9567b7b12fdcc8b6e0d07599650c6732bc46b7edd3ffe2def9a3a94c5ca78774c9c071123ab71c433b8ef86eb60108f3ead94b668997326a9652093c32e8d68a04d4cb5cd6267ebd2348a3bbcc8795f15ac9ad0d54e8f90db9b774b9c5b934dd55460bb743425c77c6a86bfe0de9c1129388e8bad7db92606f07306cdcd54ad8712620478).v
def hS : AFn := (.mk _ : RF [] 0x5562ca4ba1a7e822a01a4f0105655c69b95e9567b7b12fdcc8b6e0d07599650c6732bc46b7edd3ffe2def9a3a94c5ca78774c9c08483a69912e2b4931cbcaf1109bd8f135cae13d7326a9652093c32e8d68a04d4cb5cd6267ebd27e3059ec902315cc9710c5f2a08f90db9b774b9c5b934dd55460bb743425c77c6a86bfe0de9c1129388e8bad7db92606f07306cdcd54ad8712620478).v
def oH : ACode := (.mk _ : RD [] 0x5c9cb691573cb50686f63fc8043d96823b65367bf57de8a89506115e1690a91a113b3f8b9aef62a7b0de4f188df8895ad063654b21c99701b36ed8ac1d79d2e954baedfc8d405963bed150afd462fee71527d4a685fd496a4fc25a75e66666958b80feb9ca27e42aba0c4c9b).v
attribute [local irreducible] oH
def wU : AFn := (.mk _ : RF [oH] 0x3c1030e7d689aa69ddf8212cf316fc076e00f7489a60b870bf92122c5662e1164ad87126205b8).v
def oG : ACode := (.mk _ : RD [] 0x3ced59ef27f5a4cbed2a9a4f18fb23e401b886c98b5c70812906aea0c9bfc8f0d3000acfc012a73720af7bc2939964b8099ae166076898e04c9d71a8531649875701ec7021e57cb3bae26a853).v
attribute [local irreducible] oG
def wD : AFn := (.mk _ : RF [oG] 0x39895704214f5a543d99eec3f36a5fcb74dc2ea33726ed2628e8fc03f8776d7127821301f43b188dd7e2e1164ad87126204b8).v
def yN : AFn := (.mk _ : RF [] 0xb60c138fd8803592cdc40651cc267222e0246d647a750ff8f4d6aa522dee0f43f17a75c1b09ba51fd16b3e3c31c663d20cbd40b2a2c4b8be320d928b0b066d3d0874c1bfc121268d7e648bbece914b9026ea4a560bd39b0d2fc6163676c4ce87908b256c38931036).v
def o6 : ACode := (.mk _ : RD [] 0x9982102791cff920d5acac907d25f69edb30685d75f1fafccfd8a5f88536c50027b7fbea6ecde67b9295d6bbd21c1416ca56a505fd574db5739ad69cb73798f1e1b51221c8a2928cdb7536f26ea0dc49b).v
attribute [local irreducible] o6
def yM : AFn := (.mk _ : RF [o6] 0x616546308bccb99cecfd419a3f7741b34c64a2e3b65c64e7ec9113125b4791f261ae84ef3ee7353d322cfa0625598d9d0851b9a1bdff24cb78ae486e448d0a6204f8).v
def yf : AFn := (.mk _ : RF [] 0x5ef1bfb356aa84d77244a44e0c22a0420f8cdcb8e0164cd8b2088bd9e4756f6bdc67983f8c532fee096ca9d719aafea5fa0ceabc38e83138baf95a8a3e1e3f362c14c2a1cbd1b71dd93c0b90c22fba9353f187492718ff21b02b3c38c0d3530da565128d49bda930d2fba7163b62902e6ced8da75c1ba1164ad8712620498).v
def ye : AFn := (.mk _ : RF [] 0x2943e04185550ec3ef92fa04a722468531025).v
def tx : AFn := (.mk _ : RF [] 0x156057c1042947e0572432423e4f83abe619746a4a8d0efc3c26d23e1de83e3212853302f).v
def pa : AFn := (.mk _ : RF [] 0x156057c1042947e0572432423e4f83abe619746a4a8cedf9371ec6465e283e3212853302f).v
def kI : AFn := (.mk _ : RF [] 0x71785fb71a8af7991e4522f08cea84df5fb86ed628cd4f71556c24a286c7db6460cd212278372a49af56a2a1e6d2e02109a476bdff61f2c168e8af91c7c0c9d0f7be364c686c623b51fc7ec8e27c2a1b0634fc73b724e9786d55f8fc6386a24ca7a8bb7e7e7fbad707961a589a305a6874b9b23a9eb349919700a216bf400166937d60289d0302cb18df164061deec85be0cebf8396676af29b410650e913d856c9b8c4cd54ad8712620598).v
def kG : AFn := (.mk _ : RF [] 0x7838bcc78c1f07746ae9b34a4692d1925d9ac624dfa12bc34a83ff946905a4d2b092a453496fc4f9e069bf45d23dfa3731fd6e5da32dc0d4a4e02cc224e553b9b07452cfa5d37b33da9f9f67425fc50ece76c5b4a81d25c68e629739dd3672b5c80cb0084c941a6c9e0a5c667c64cfd55bcf1422a4522c704e8cce69f9aecfd58125d1751ad765f40b4b052b7d39be698bffa00b30b10bb6e88ff5ef0215a52245d99daee8e5f509a3a44f615bdb10eed54ad87126205f8).v
def it : ACode := (.mk _ : RD [] 0x90102c876c4a89619670c8e8ced6940a324ec53682b8822fdb69e17938423cfc6cffebc6596cadd473b8b26964476d1b34233d3e7a2a18e07e017c3c38d6170f5627afd05304dd2d8d1a618ed34dad2b585a1f9ba0823baf06359fce6ca6ef044366ef5a58e9dec79f4fef7f2601402d6c00aed5ade9e6489b).v
attribute [local irreducible] it
def qz : AFn := (.mk _ : RF [it] 0xd81c40f59511b2a400d41dc1783dddb4c0a1460c205640d0a620578).v
def f6 : ACode := (.mk _ : RD [] 0x1226099c0f6463ce8b33b54f540e8826675ada934d573037a1a8d1a169a8f4e3c9e6b7be86630141a1fd45b4e751b2e1eacc2434af1e6cf0a7c0b387139c40cbbd016a5e680437054a1f654c39244c40597823b47d990e01d4a25fd9841688a4ca6ae5ca75dc6598e9dee69223b15f2601402d6c00aed5ade9e6489b).v
attribute [local irreducible] f6
def ny : AFn := (.mk _ : RF [f6] 0xda1332a358f6ee503c93825a9b40ddb4c0a1460c205640d0a620598).v
def uI : AFn := (.mk _ : RF [] 0x569779ffe974e4657abd4cd16dea607558b0289256c38931027).v
def uH : AFn := (.mk _ : RF [] 0x569779ffe974e4657abd4cd16dea607558b0289256c38931027).v
def DJ : AFn := (.mk _ : RF [] 0x3515f0ec418fc96899747f51349874b5b17dff559685404910a3c2b2e62a3a4cb78a1275146550bc8bdf3dc72bbe4908a3cb05c22284bb33c8ec005c55f01405d071a470db478bb8c0e2ae52bce50f726052a7ad9312660458).v
def Dl : AFn := (.mk _ : RF [] 0x1b895fd936835462954b37cf9ea290cd27ddf5f94b194a7fd486357656863ad0ea6c72f916e7ea5e8d6678bfc004e2070aca60c836c4eb2d53dc6c92bdfd5ec12983abfd076e8a562edf20b42fd689418b5a7dab9469c80d1b694f7605551b823e0cbb1c8190a3a957c4f66052a7ad9312660418).v
def cX : ACode := (.mk _ : RD [] 0x2a2bf92864a141489ca56070b1a65414aa5f558dd89663780975cf1415f2dd3a6ccd3c32ca3671b28eae3a03c1792897cd5710097edcb71fc46d88738920d1beacfd952294b93863b13df33b9caf6b708370a8d469b).v
attribute [local irreducible] cX
def dr : ACode := (.mk _ : RD [cX] 0x139584c5f3e17cd8d4e8f564aac083e81b5c62eb1809440e61f19d7b9a0b6bda4022829c79dce4ad5d0772f3fd21e437833ca8a1c6ee8c95a36ae990a06fe2e083a1b5e5a4c7fceee9a0189ebc5732a19a42ca9b).v
attribute [local irreducible] dr
def dV : ACode := (.mk _ : RD [cX, dr] 0xcfa30f418a733bb9b2f22191e5d051117513fcebca31a69d4f3d4f2d4a0a54186dfd7cdd46409bc5d266a3f81cb5a362c515c0680afec04f9160260a535dee0d01d3530956c1936806365952a6a1d4019f711ff8602c54090afe53facc3edf73a668284569e5bfbdd9cce6c20b360d96e715f1fab3b44a9b).v
attribute [local irreducible] dV
def fc : ACode := (.mk _ : RD [cX, dr, dV] 0x28822b03d37e7620332fa7c26b4d1a1370cc3c4a4486d70586d323f068f5befd147ba033c33f5a0a2cf7a3ce67cf51dd0d36a92277ee6e0631e27fa81f6d6db775fb57453db72a4302a8a97837ce8f41d1dd804ab597d5d701e9f41d29ade76f04bb626114b87dd6fb5cf2a1144a9b).v
attribute [local irreducible] fc
def gx : ACode := (.mk _ : RD [cX, dr, dV, fc] 0x3a30784af79ce8d95bdc40f9db46ccb326803975cce13b662f42c4b5a39eea5f984f4b41e535dc9e00bbef3db99f80e22881b0e5595b8eaea232aefd17174a0e820c44902a7339f0ca9b).v
attribute [local irreducible] gx
def mP : AFn := (.mk _ : RF [cX, dr, dV, fc, gx] 0x493ee649708bc5c451130712ddaa95b0e24c408939).v
def dS : ACode := (.mk _ : RD [] 0xb25039209870fcc30e80ff8e01240daed682aee737264da925d9b6bdc08da3e91b3b350531ec3ca209dbb54e4f40bc0aaf9ef2755ebbe565073f6ab3e341d7c81fe9c28e4c7a62e5cb980eb2ce09be1d658ce4a1477b1d7992f918082853).v
attribute [local irreducible] dS
def fa : ACode := (.mk _ : RD [dS] 0x28e9e3a66a502a9feb91cd74ca4964d36900baa0f80dfa6f48c11f4d902699bb91fc9ee54b178467c7a8bc296b9f67a1a874406d6f4aa30e0284801e62e133fa935a1715313ce9cd87f41ca10652a0bbe853).v
attribute [local irreducible] fa
def gv : ACode := (.mk _ : RD [dS, fa] 0xbe9d260a1d075adfd2cb560747e942ff97db63f939fa574eab744940f869e33fa20dc7d09ed89768bc3be3af05d7c083a9e30e5c682fac263b54f70b0200a324d2c7021e57cb3bae26a853).v
attribute [local irreducible] gv
def mD : AFn := (.mk _ : RF [dS, fa, gv] 0x257ce875f1b85cb885278fc5f8558b85898f2def55ddaa95b0e24c408419).v
def cV : ACode := (.mk _ : RD [] 0x1102cb5282d06f8a4b8a838f5dc21ddb69f4a06ef126c83d4abfae9fc8c9b7a48339d04038ce6c6c882616fa2a9cdf21fd6795358a41226d8c2e74fdd7697bddc6f825d139ae05557cee28569a21a7820a94a2f2af71360954b3cd14ceaa8ff1ec82ba4f587d40c8bbb48ef25117690b1c6f222974a6a11bb35cbd25b92390c5e46bc348fd0c5dc2792dca67843f430575b77fba8869b19d94f87b3a8846e2d4b7ada71289dd772f40e1900faabddbf5e296dd40c5ec29b92c2885e6a077da4ac6c89b).v
attribute [local irreducible] cV
def dk : AFn := (.mk _ : RF [cV] 0x2d5511782c421ea348c6687ce2777eb211b0c97a8d2be4ffcd85417ed34c3e97dee2dd9162e92210228aaab35735bf5f3c0181a28ab6caef225af039d6328bc9700c97830f0a4694a553fa62e481c2d09fbd9085e774b5f2ce30393ee8b215687880fb01eee53fa9d1bbb229a319a1fb471c16e37dc9fae84660efab156dd37822949b9fcb4d6768ca19e334477fdba13d157ad550ca4fe9ca5f1708a8c45c32b746b711b64a513e6f7e6cfccc7db2ef6535deadb1a34c808739).v
def cU : ACode := (.mk _ : RD [] 0x254e292fdfebbed66d3955eeb675031e67a27723960618f8eb74466e2e18d70f1154d2f0f99b9db5b75532547e11e13900fadd53318f32c586a9cd29555b46b631b8d3dc2de100a94608aef908525410b484decddd1ae61b3ac0727811c8c01b054891cdb8d22cab550971ab393d43edd35c6135cf145fffd846e5cc9a836ea877603c9b898916f987021e650652a0bbe853).v
attribute [local irreducible] cU
def dj : AFn := (.mk _ : RF [cU] 0xb8981c2e7c769ba08d79400275cc1ca35cae4d97e1c24ecfcdbd5679d01020ff851c558313e14ca95627413c3425f3f8468390d366e9755ec9e96d990b13a4dea37451a32074d4f1667e3843baf0ead7ae1bb8cc9bcf8bcce9892b79a79d9e6ea73d0e2c809a34cbfa0536544e0ba44e886ea769381196020a9d0c8a67809145b666506405ebe916bb17f122a9fb27536b8030ed107cee7eeb6943a7b41426e3b869b2910e932caa9470da0e0364e80861409b023d0ff6535deadb1a34c808539).v
def yO : AFn := (.mk _ : RF [] 0x66e79b1bc978d8fb908ccef38473eb8fa236bb83185bcf26e8d676c03a7c62c2e51f974f941fb2d9e0a6d25b3234d24052).v
def yg : AFn := (.mk _ : RF [] 0x66e79b1bc978d8fb908ccef38473eb93ec815b426ca3f32ee8d67af12d0025c3e51f974f941fb2d9e0a6d25b3234d24052).v
def dH : ACode := (.mk _ : RD [] 0x57355f65b1d48115e5a73be7e597de9cf299a5ddf4431b8dd6f2a1860345a7207a9804cecd7c6c02e767579392f312b5b4b59529caa476ff1237798730c46117a47ca6e4e3c9e9e64c9b).v
attribute [local irreducible] dH
def lM : AFn := (.mk _ : RF [dH] 0x124fb992580ac1511444c1c4b76aa56c38931034).v
def dD : ACode := (.mk _ : RD [] 0xc91710a708008ef13afff75d0c198209f0d026254bcdb8044d4ab67bf60dc430387136533e69a09b972e108ead1b972e5cb88307a7325ac9fae0f3f8cf9d1b97326a0a4970ba7837219efa95bf3e5b1b87021e55e75cf935e853).v
attribute [local irreducible] dD
def lH : AFn := (.mk _ : RF [dD] 0x12e3f1236cb13c8495a30189e053b4ece9e2d01956c89b25b76aa56c38931031).v
def dp : ACode := (.mk _ : RD [] 0xc7d03deeb9b7d51af31ce91875cc7a635b47be32a33d863e956990f649301191ed5198699992c36fb121f139fe46d478ce74f468689212a808baf33f1046dd06f851c239a69621c2f201a22b9b8ae85ba6ec418325d049e031a78ee1da1622a1c67a406e932ea6c4a9b).v
attribute [local irreducible] dp
def j5 : AFn := (.mk _ : RF [dp] 0x220e34b644e99582a228eb050768052a7ad9312660558).v
def jL : AFn := (.mk _ : RF [] 0x4efebd9af69f8517cae850d5e970221bddf8ba3cb4acdeceef92e9e50712775a208acf0c41dffdad6956d45790c51b6d418d6da7c623b7474dbd57f8642e0b0af2119425981c5235a8b2f86b915b5b8f93830d8586f5eaefefb81cadf8d73635ffa17cb0b9f388e95fbf374d5d2cd142850a14145142850a142850624870a0a00028a9c4245142850a1538a91525266f3d6c98d338183457).v
def fL : ACode := (.mk _ : RD [] 0xbd3a1c885fde41c0c27ebcca935cd883899d42592eb42b2574cb49fd22a67b6ceef9877c97e87c9f0c2fe347af5d6f70ef594e4dce617c2c4a6dcb2c9dcd45d2e6388a54e421fd723c834f3b4767fe6a294a9b).v
attribute [local irreducible] fL
def pq : AFn := (.mk _ : RF [fL] 0x2105987193c0d582a228ba444768051e62d8d12640478).v
def mz : AFn := (.mk _ : RF [] 0x61b02f90e0b2867600d5dd421c6e7866eb914fff2310b8495f8773b3b4a8656ff589c9e1ae8cb0d8530b9821bd54a59cd92f57408cf4df83028f316c68932031).v
def gD : ACode := (.mk _ : RD [] 0xb455f7fd4022f178808ab8206ec442d7afe69a2f34ca5369e2ac4b23fc7e2d9d311022bc4b4c6d704bc54296a99207c9a8bf8ae6a84f267bcf2898982d6ab669fe10a8533150444f79ad2e4f26f8b5e38619af38b6eef7412d01055a30da2659824eea36d205e4c9e9e64a9b).v
attribute [local irreducible] gD
def nO : AFn := (.mk _ : RF [gD] 0xac3d313b4bd5d6f3e77e9b9c3e8f7b80886ee38a19abb95a5009052a25ee24bbced7cb6ff3885662bb7052acc9f1f55928fc5a469aff58568331ae426e98549b880f4e33e124395b5f72856fbe153c31cdbc3ca00d33056d7379f3c42890328b8a9434146f2d7b4df536eb286d3da08820669f961627cf0099ec91d3af5f753d50504d72a102a2288983896ed54ad87126207d8).v
def fB : ACode := (.mk _ : RD [] 0x5b00b2a1469029ef38add71d4ec67f4bc37b160a9777ff5a70e7e476a786f70ef594e4dce617c2c4a6d6cdf4d38a23c66388a54e421fd723c834f3a8464fe6a294a9b).v
attribute [local irreducible] fB
def kH : AFn := (.mk _ : RF [fB] 0x11071a4ed9e46ac151145d2223b4028f316c68932036).v
def gB : ACode := (.mk _ : RD [] 0x42dfffe9329e5714ea09c57153aadea6796febff0f37e85a3133110be931f5baae2cd3bc5fdffefc358b3ffe72eb4d39aecfed6577357fd14d5197a4533d66c9d42feaa6850f766388b7021e556e654bf9b853).v
attribute [local irreducible] gB
def nM : AFn := (.mk _ : RF [gB] 0x50fe7a959624baa926f8db3a99954be8577a72c17eb4459cdd9fbe0e3d2e3e6ca3b3fce3e447ac18b92d83dfa677d772aacec9a77c6b6656c85924b196f8e11ddb0544872c2be3c8136d1df77221edf8bf496fc1fb8215439ffa2fa9a9ae362e457d8c17240848a533b45943d236693255922772202c9edb0ca5d2da45b162bfee8c98ed4bcd5fbe80b3fa9f09315caeed54ad8712620718).v
def nl : AFn := (.mk _ : RF [] 0x2cb2dfb56a14d9f89fb6eac3373b22ee24f22346c6c94e189451d77ab6c68d32029).v
def cC : ACode := (.mk _ : RD [] 0xaa6512deb67dd474091816852db43d231c18a42a2420f63f1de548e5e92502af376080def2d0bab10a18ea746c912e5dab2edea5a09489b).v
attribute [local irreducible] cC
def mM : AFn := (.mk _ : RF [cC] 0x894943b8b3b596b69db3cc9ece3d4fba7084b9142130a1468531033).v
def mA : AFn := (.mk _ : RF [] 0xa86df0b2aefd07ddea6166b74b73e947bfd6b10e16f6aa8391425e603646d22930a1468531026).v
def AU : AFn := (.mk _ : RF [] 0x388099ffd51ec5a85040228c4b35bc1dd46595e8af6a5ca5f65693537d60dd44407447a1f35dcda37831cbae0a49c18e89053f6a852aaf6e8c7c8fd2a3d5709ad46b51122a6842578b3d97e2d1d7222441cb4f3014a9eb64c699c60838).v
def vB : AFn := (.mk _ : RF [] 0x6d4fafac7d5cf9f302ad3953dfe67c19a6bacd3c7e0f32e3d5b5faa6a178e4cbf98879cb46e07b831d146a0d3f124f5f33448a55a372e2723f70a70a0f083084c43ddb6a2461642764389fc05e55514ac492bbd814189f4dd62d8d12632437).v
def Am : AFn := (.mk _ : RF [] 0x388099ffd51ec5a85040228c4b35bd363f6eb5d4d3140f5ea3048c28c3ed265a4f7447a1f35dcda37831cbae0a49c18e89053f6a852aaf6e8c7c8fd2a3d5709ad8a4a57af4f050942c2e5822d1d7222441cb4f3014a9eb64c699c60838).v
def vt : AFn := (.mk _ : RF [] 0x1a8d287cb86ca466f6c4d33cf541acf94dd952c4a1a6c2164e2586484821ddfd926e115f9f17696bba3455ea20c79995f44d995443291cbbba39e4393146bf4153d6e90bd531503c87d5868dea262dc793f82ccdae2b5892577b028313e9bac5b1a24c648438).v
def pw : AFn := (.mk _ : RF [] 0x2d4557cc3a5401ac13e82e136809419f6c1868a68406badb50bd885ad28ac898111a37c70e9312a3e1a049189487d8d09d884f22c0980e535e73616ff41aba227103851f4c8d0c13d61893687d60b0289256c38931037).v
def pg : AFn := (.mk _ : RF [] 0x2d4557cc3a5401ac13e82e136809419f6c1868a68406badb50bd885ad28ac898111a37c714cc60e8d20c5fbf7978936351884f22c0980eb9891d0812959b1a227103883dc57dfc73d61893687d60b0289256c38931037).v
def mq : AFn := (.mk _ : RF [] 0xb87bc6af07dfac57a4e9ea8136a52450a510a1c18d26442e4cba0cfd35e3ab16c9913302b).v
def ou : AFn := (.mk _ : RF [] 0x2cb2dfb56a16f6a2d41c305cb07d046ea4fe846847894e189451d77ab6c68d32029).v
def gC : ACode := (.mk _ : RD [] 0x12a987fd8e566142c92195b51345b17dac7d5bd57f98f7d1dd9664e3d9067d2b585a1f9ba0823baf06359fce6ca6ef044366ef5a58e9dd543d62d8ff2601402d6c00aed5ade9e6489b).v
attribute [local irreducible] gC
def nN : AFn := (.mk _ : RF [gC] 0x66af6cf92139f1bf013a91a21cbf3349ea0ceeda6050a306102b2068531037).v
def qt : AFn := (.mk _ : RF [] 0x14a1f019d162b23d4218307c97d02632068531025).v
def gj : ACode := (.mk _ : RD [] 0xe96ae118aa703db69a875b04d7dc6ae39adea7698b1a27fbff51b2077db880a9779ee584ad329308941cef821e556e654bf9b853).v
attribute [local irreducible] gj
def jU : AFn := (.mk _ : RF [gj] 0x1129288377983396d3b6ab3553d4ade2c941b0a14c8532033).v
def lD : AFn := (.mk _ : RF [] 0x2915c4e6caf6779a1983212c7f17aa8feddc8e6dab6c68931828).v
def jM : AFn := (.mk _ : RF [] 0x9da34881b73e947bfd6b10e16f6aa8391425e603643c82130008530022).v
def bv : ACode := (.mk _ : RD [] 0x6d6a19838fe49ced986f72aa452f521ab0abea947cb6c3e35f473d9c2dfcc385b79ee584ad329308941cef821e556e654bf9b853).v
attribute [local irreducible] bv
def iv : AFn := (.mk _ : RF [bv] 0x1129288377983396d3b6ab3553d4ade2c941b0a14c8532033).v
def fq : ACode := (.mk _ : RD [] 0xa3ce0e557f037eae9938e99b27654b885fdd8e131a5b74ae91f51027c3fc8dc6566d357f1e2679e80cbea67c4e6814d8c3e6388a54e421fd723c834f3ac565fe6a294a9b).v
attribute [local irreducible] fq
def ow : AFn := (.mk _ : RF [fq] 0x1129288377983396d3b685dc67fb6a9451d77ab6c68d32036).v
def DK : AFn := (.mk _ : RF [] 0x2960dbde40221b202028af700c1443dc8764be8129c890a1429220d0a631425).v
def fV : ACode := (.mk _ : RD [] 0xc6a755e42d673a9b3319f194364e5fd2befde137429510c2a3461a2e35e0084b9c606213116e43617aa3d46baf4a25cac5947001d91e13937487f62ccc592d431cd63eba47266e91fcf6a334fdb6f452516aa4aca9b).v
attribute [local irreducible] fV
def oz : AFn := (.mk _ : RF [fV] 0x96e31c5f2057bfda764ba9db49127cb071432414798b634699440898).v
def iR : ACode := (.mk _ : RD [] 0x3982bf6bc2f0ba26b32daee83b7cbf9db91abbb889d6f5f72fc38e98950d8843fed713af021e5089ce9c1cd95b1230dfe74118ee7a5814566b88453b1cf819455217b5800dc7625b1a0f4a9b).v
attribute [local irreducible] iR
def qB : AFn := (.mk _ : RF [iR] 0x726c0227e9ffc1fe89d55e0713eda5970ca2b1277d14a74f1b153c79ca53b50fe2831e55dec951f660b28bfba3ea3e48b7719b028313e9a295b0e24c6284b8).v
def og : AFn := (.mk _ : RF [] 0x2cb2dfb56a173a381aa8d90fdfa5409eb4f643a747094e189451d77ab6c68d32029).v
def yi : AFn := (.mk _ : RF [] 0x2960dbde40221b202028af700c1443dc8764be8129c890a1429220d0a631425).v
def lk : AFn := (.mk _ : RF [] 0x134af8215ce90006b5fc299b5eba89a77f5cafa8317cd2639c56de4812faf21b6ce891faf4d75cb04a198411e15ded5c27f432e298ce5ac901f0f9f514e021920a3cc5b1a34ca2052).v
def gR : ACode := (.mk _ : RD [] 0x491a2dee24f1bc828d176175e5326019c77106459eace54e07eae542e9817c61d513630c94b423af239a25c4b9226eb9a6b1d48322fe13d72d518197021e5844335b62d853).v
attribute [local irreducible] gR
def nu : AFn := (.mk _ : RF [gR] 0x397042dd5d65dc054cf124b634c9a971bcb5cd36076ceb9e4e1a1a50bee4e9b0511b37073edb4b33741a931ebab894ed6e7056785de8bce2623d779b028313e9a295b0e24c628478).v
def fb : ACode := (.mk _ : RD [] 0x47598407b5d510892d0e02abf21ee6ede766cd276d82995801e7c0dca89331b175be0f6eb31fd17be0fb0359fd8b2adda6dd72bf30df1a847423de51c2fd2d69791db7ef7a9a33e73a871c3370af820437c2cb9526e5d64ab32e7f16dd7a7e39d24e1ff4b11384d09058fb36ae3958b0e08961bbea35529b).v
attribute [local irreducible] fb
def fU : ACode := (.mk _ : RD [fb] 0x2f22ec2725873f405fe8b019e7011dbbbc975d9881f5266e91fcf6a334fdb6f4421128a0aca9b).v
attribute [local irreducible] fU
def mN : AFn := (.mk _ : RF [fb, fU] 0x1ee90a4e3bff714d2ef73c67993d79b6a91306ad605124ad8712620678).v
def oD : AFn := (.mk _ : RF [] 0x1588cb10cf0eabb9b0756d9426f293689119c3bb555dbf4f610415ad6da30289256c3893102a).v
def f7 : ACode := (.mk _ : RD [] 0x1618103b37f0d0e1eee5191ab1c1872ec475c119f1a5a0471c32cc945daa5cff3a136de81cf19e2416ae7ac131d2c5a294458613269deb2716d85ca0a8d4a984530cbd826bce29898a4d0ae87448ffa6530292c2df242b7a45b6c30603a1e22a07ca9b).v
attribute [local irreducible] f7
def nD : AFn := (.mk _ : RF [f7] 0x1c076393a1ad5db86b753b67993d79b6a91306ad605124ad8712620518).v
def eZ : ACode := (.mk _ : RD [] 0x97aec05e748a8f1164cd023c2dfd5713f823d42d86515a32fe5e90cb05ae0160a7dbd1c5e39844b11f76338800e2d87866e4a1fd846e5cc9a836ea28937b84a79c0a9e0d77b1d78281210539853).v
attribute [local irreducible] eZ
def fR : ACode := (.mk _ : RD [eZ] 0x54439a3018de946373ac97d3a601dc7682302fe4f5a7d6166d0c26ca7234ba23d5be82d7fb429e4927021e56d94c53ae4853).v
attribute [local irreducible] fR
def mB : AFn := (.mk _ : RF [eZ, fR] 0xe9d153afb1a7400ccebdd9b0fc3f289db40e3777536fab5cea91306ad605124ad8712620558).v
def oq : AFn := (.mk _ : RF [] 0x1588cb10cf0eabb9b0756d9426f29368911a06456971c74f610415ad6da30289256c3893102a).v
def f5 : ACode := (.mk _ : RD [] 0x80f965ca38626632e5de3cba1d3f663bf36ad215a9227bf717e3ca2e7565b417143b6f6c0d183372101ca6f4f2a986ea68038493f3c29aca6eb9a6b1d4798a49b44e2e44eb87021e55e75cf935e853).v
attribute [local irreducible] f5
def nr : AFn := (.mk _ : RF [f5] 0xd8a829309afe2480c506b45380c4f029da7693e43be08a9cea91306ad605124ad8712620458).v
def gd : ACode := (.mk _ : RD [] 0x3a5ab8462a9c0f6da6a1d6c135f71ab8e6b7a9da62c30ce55167e527cbb18b0107bf79ee584ad329308941cef821e556e654bf9b853).v
attribute [local irreducible] gd
def jz : AFn := (.mk _ : RF [gd] 0x1129288377983396d3b6ab3553d4ade2c941b0a14c8532033).v
def kV : AFn := (.mk _ : RF [] 0x15e18f6a5fa1cf1bebaaf9598334fff41043d2224a5a47db0544f24e7cea586106108ec3ea5f0a4092be70b16c9893202f).v
def fX : ACode := (.mk _ : RD [] 0xe96ae118aa703db69a875b04d7dc6ae39adea7698b1a27fbff51b2077db880a9779ee584ad329308941cef821e556e654bf9b853).v
attribute [local irreducible] fX
def js : AFn := (.mk _ : RF [fX] 0x1129288377983396d3b6ab3553d4ade2c941b0a14c8532033).v
def mG : AFn := (.mk _ : RF [] 0x2915c4e6caf6779a1983212c7f17aa8feddc8e6dab6c68931828).v
def dg : ACode := (.mk _ : RD [] 0x1683df5b01f0edafac9b605875859bae06c37231240426a40b65e1a8d69ea2077ad82ec707e79e135024154b818b340b2cab1c0602849414118494d85c965143cb711107b0a75bdd261376c4e0b0acf85d242c891eea5dd2a77372e2b3e8ee0bde288c51f865ccc8ee0eea6c489b).v
attribute [local irreducible] dg
def jO : AFn := (.mk _ : RF [dg] 0xeea85af1e4e51456db64578ea184d8be6f3bf47e1b4c0a14c1820564250a6605d8).v
def qC : AFn := (.mk _ : RF [] 0x2d2a5f0c9c446d1c0c582d289f4084ae890ed7e9e8abd5d91a58ee69fbc052b2002b56cb350921c2851b5524ad8712641429).v
def gI : ACode := (.mk _ : RD [] 0xe96ae118aa703db69a875b04d7dc6ae39adea7698b2a1ea6816af24015affaf0f79ee584ad329308941cef821e556e654bf9b853).v
attribute [local irreducible] gI
def kq : AFn := (.mk _ : RF [gI] 0x1129288377983396d3b6ab3553d4ade2c941b0a14c8532033).v
def mr : AFn := (.mk _ : RF [] 0x127cff0179d7f244f18768ea99de2bb48feddc8e6dab6c68931828).v
def pj : AFn := (.mk _ : RF [] 0x2cb2dfb56a18e09d1397f76fc660b8cb18f22346c6c94e189451d77ab6c68d32029).v
def ot : AFn := (.mk _ : RF [] 0x2d2a5f0c9c446d1c0c582d289f4084ae890edb14e7fa6dbe5bd8ee69fbc052b2002b56cb350921c2851b5524ad8712641429).v
def mO : AFn := (.mk _ : RF [] 0x2abc35d9b19b63606f33bc810f5e20d965272cb791fc7f923d0fa20194223b4028f316c6893202a).v
def fj : ACode := (.mk _ : RD [] 0x5688a85f3e6952de95864f6ee8b31879a3c086d6aa8316813262a0ee60f131a0a58f46867c8fd0c521cac26da8dfec2df242b7a45b6c30644a2e22a07ca9b).v
attribute [local irreducible] fj
def kZ : AFn := (.mk _ : RF [fj] 0xc92de6c83ada51a14ba9db3cc9ebcdb54898356b0289256c38931035).v
def eE : ACode := (.mk _ : RD [] 0x31db206eeec339d19adf7c0c85ce0744004549754e0bb74cc2ca92b74bc333b5397fa8a1e28bc1c700916ba51f2a4a7f3da823e67281bf032e50a2888956d0ee20679a0bdab3e8dcdc8e7f5a44e59023db007843b6b54a865f69d47087aa13ce9b).v
attribute [local irreducible] eE
def gW : AFn := (.mk _ : RF [eE] 0x20c07da571ddac1a3e87cf0f7ac9cf55ad51585f74af6c3e5df0f4baf832334adfe19f9957f65adcd7c5a7f2e844ab6cce54fa1bcdb2c3be7b1eaf300c3a7ea84ad4866cd4ad87126205d8).v
def fi : ACode := (.mk _ : RD [] 0x222abf580b7b5050b59f62a0b288eed62575bc027919d44b2aa3c093a19f5f84f610f86d042522f53130bf515a7eb415a96cdf6f40cbbadf8c6c199f5a968b9eae9ce44b65b86cea57807650c108d31f2e7b0e08961bbda154a9b).v
attribute [local irreducible] fi
def jh : AFn := (.mk _ : RF [fi] 0x7ffc08287a3c7cf298e4de4a92403a5def79bcd51ee1429674aba598ac766fbfa82f13752c20e71c58fa1bcdb2c3be7b246c363e933d2548d4866cd4ad87126205d8).v
def mC : AFn := (.mk _ : RF [] 0x2abc35d9b19b63606f33bc810f5e20d965272cb791fc7f923d0fa20194223b4028f316c6893202a).v
def fh : ACode := (.mk _ : RD [] 0x1a3cbda48cf580d1a79b7d4faad3f5852c0de4a47f2ff2bb99e2cd3bbbfa44b28ecbe85886a90effd61f08af87021e55e75cf935e853).v
attribute [local irreducible] fh
def kW : AFn := (.mk _ : RF [fh] 0x64d21200b395166e40e0f4e9c0627814ed3b5a739ff1454e754898356b0289256c38931033).v
def f0 : ACode := (.mk _ : RD [] 0x65b67313c024341afd75eef7c136d5d21cccd3be54f75febd831f65817b38af94beb58b25934c1ea83723d19219230a8d6219ee06395a8a058b0b2a7495e2089c225843a18449b).v
attribute [local irreducible] f0
def gT : AFn := (.mk _ : RF [f0] 0xf0a934198abdc1f7341a7edcbbac1e7713a1ae9a08d70883ea9ca03697905b68d19e4879b6e544ae97f7bdf25b47edbf65adcd7c5a7f2e844ab6cce54fa1bcdb2c3be7b1ebfb18e3b7ea84ad4866cd4ad8712620558).v
def fg : ACode := (.mk _ : RD [] 0xa3473b817c35bbf892fa64378201117d880b5e4a187ba467e29981fc74b15e8eb7e0a56160fa59bd0aa720aba3b6ac04c9d722328e7dd2db13ca07021e59af1a63176853).v
attribute [local irreducible] fg
def jg : AFn := (.mk _ : RF [fg] 0x3cf8423053a20e2fc4d7e76b59ba39d4a875a9ac2789f891ac60bddc2ee8add513368a798f52528ad6bb5403e185ba6f8460ec7f6922a826f8c7b90556ceda866cd4ad87126204f8).v
def qA : AFn := (.mk _ : RF [] 0xb1214666b4bd1d31e6c855bc62d0aa877d557258e040fafd1764e9af4ad8712611428).v
def gk : ACode := (.mk _ : RD [] 0xe96ae118aa703db69a875b04d7dc6ae39adea7698b1a27fbff51b2077db880a9779ee584ad329308941cef821e556e654bf9b853).v
attribute [local irreducible] gk
def jV : AFn := (.mk _ : RF [gk] 0x1129288377983396d3b6ab3553d4ade2c941b0a14c8532033).v
def nw : AFn := (.mk _ : RF [] 0x2915c4e6caf6779a1983212c7f17aa8feddc8e6dab6c68931828).v
def mF : AFn := (.mk _ : RF [] 0xb1214666b4bd1d31e6c855bc62d0aa877d557258e040fafd1764e9af4ad8712611428).v
def ew : ACode := (.mk _ : RD [] 0x16f82a82ecc6aab0fe47ab5aae8f5c9e7d8b5107c0df231eb9a5d61cca72eb18a6d2740613e0934d3624ddf03ae17e569d9fc39519f3212bcb724cadcf12e169631b71d890429e86a4a931dda75e79e89d055121c4a7f56a5f35bb7314dc2028806a9d5e91df8783926469aae783108b25fa558966a29cd7f9cb21214f056820b0c1c9292cf0b88726df7f15cd4c676f60202580b9c8c00bfeb60f70a662a0889ef35a5c9e4df16bc70c335d75f5067f4055caa92ba30da2659824eea36d101e0c9e9e64a9b).v
attribute [local irreducible] ew
def oA : AFn := (.mk _ : RF [ew] 0x48b57d6d2b443800c1338a8544b17dfb23554889f14b782a2288983896ed54ad87126207b8).v
def dE : ACode := (.mk _ : RD [] 0x77a965db75fd10dcf16730328461d29c27ced0c36c5a792c9b0c24b0703dc8f62ed81381fb7f6392db89b555b7cfd7b3e47c16c8379b3c49b).v
attribute [local irreducible] dE
def ii : AFn := (.mk _ : RF [dE] 0x75cabe40291b0caa2d344fada7520c2a3818a70f1403e97595440bd3d18221e6ac6415b69698c0730a76cd53e1a105b4e95843124c55b0a7d6b821a81c748554228066b65260190a6404b8).v
def lI : AFn := (.mk _ : RF [] 0x5b86a2fbf4268959f5b1e4e281a25b103430f9b4897d5ade35300c853202b).v
def eu : ACode := (.mk _ : RD [] 0xc3841e5591985f1b158059ae902edc0143abeeb9ba7786fea76f40682f0cc6883dc0c0370fc8cb989b8d5bec645222880e808b57a77c96b78cf4c7b3d24e101882a14c00be6ae6b5d53b421262d4621e099d75032aecea6801a48d64fd078325b99381f626c0b3386af94bfe25ac2aacd7a8c81e0f58ae7175b957703390665be11153634bbd29e617da39a9c6780af1c84b0247e821e556e654bf9b853).v
attribute [local irreducible] eu
def ol : AFn := (.mk _ : RF [eu] 0x3cc45ec4e3ebc28ca68bc3e1045da644088664e17eb68d4bcd5fbe80b3ea3e48b15caeed54ad8712620698).v
def dA : ACode := (.mk _ : RD [] 0x1d0f8a5c3d2fbababdae9a19070a687b4d8904c214de681c10abf9df92b9d99b4578eef5059bd28d2839378e285b7cdf03ba0b73343349b2449b).v
attribute [local irreducible] dA
def ig : AFn := (.mk _ : RF [dA] 0x1cf05269abafdc40b98c2aca0788da4db16759e4e435a7aae030eb69f6c61d84e76af2742a85f820819a7e5847d86ec5d62317b7abc2a9d111e026fcf7b1533b78b24a60190a640498).v
def lB : AFn := (.mk _ : RF [] 0x5b86a2fbf4268959f5b1e4e282062a2e523cf9b4897d5ade35300c853202b).v
def jq : AFn := (.mk _ : RF [] 0x5436f81a394443fcf433f2e2ed22930068531026).v
def cy : ACode := (.mk _ : RD [] 0x3b3909216ee06f8a86965e5abefa214d72825c4716dbd1a23f3a392c323eb1d99f882caf50f7f3b4e8417e983f9092819a937bd8c2d1c76ebc96cbfacfbd8867f98225dd71efef8fc44d76e425ea9dbbd3a63ccb254353e6f0a44e4ac3ad2ed53fb673f9ef02f48a8144d43e908a129ebedb1679b48c91b863e2deb40493d31cccf5cf300b2b0ab06aa81dced63dc56e059fbd6921d98e705fe69ef971f578cda1db74e8073a7af2a4d44c9b).v
attribute [local irreducible] cy
def az : ACode := (.mk _ : RD [cy] 0x21af8736fd569123d4828fae958e40a98bd4982204f0c642d71abdb1316dc5856e789fd86184cdf42a642d11b95751f446694341114411b9080b6eef52925e84911f25854d8c775ec7892fc0f87bbbd9947f639015001eef6c5ea41a69089340390ea2347d8b92bda354623173b5e26c09c424186d5a4b3c4bb710d0b19f092fbc7d45d73db22c326dd6f1f59417f3773e278c02a84cf17085d20f97e17b0d5a0879bbf4d3b596ad00b65874ca1d8369281def7551da1f88a6bf3e5abd64dc1c1d305c0fc3d2e5c0e81492c1eca653259b4972631d5506f27f661e73803cd38c08b2293f6c187d6868e11e8cba1997834920b89eea5fafda4e25677fd4b875775d45db0a23f2920b093326322df74caee7197ce80966a64e94a009aa778382111062b5ffd6bb8b1a550a9ecce420feb6e9bc69905b06ffa6b9ae2a7ac1d8bc9fe26704c603ec26d856a499324fc0357598fe951cd6017e20b5abd85bc9645b09ef4c9b).v
attribute [local irreducible] az
def jC : AFn := (.mk _ : RF [cy, az] 0x493ee6496443356451130712ddaa95b0e24c408939).v
def ce : ACode := (.mk _ : RD [] 0x1b19f56615c3e9334890e7369a7e1903349d6172fc599186ba0b8847b483572f96b75e586e640946d1304210aa69d26ef136eb3beb983ce62ea228490fc6c91e44b765f7b7f638348f5a5317df485a4391946a78ec07dce99476b2f946383bb1d7e4ca5dc620853).v
attribute [local irreducible] ce
def db : ACode := (.mk _ : RD [ce] 0x5133f906a34fe4d9a6dd55490a2b157e1a2a36b06391276dd815b2b714df9a52459ffea17c84cd62f85540e969daf37ae81e8bd1116e628e0e9675fdf5305617f41c8d561bd5e2f51a0a8853).v
attribute [local irreducible] db
def dL : ACode := (.mk _ : RD [ce, db] 0xb1e999e2657698158ed834a7cbb6bd9904ca6562c7ffffb9c6a3fabb274269afb925c754832d42386c2efc4f3f0c8a66dd5de27bad19f74c571488c0bd79f99f570b4e0ecce0701f93282bbd68258668d7349f70acc71bd3e9515e23eb86509a19669a09b972e108ead1b972e5cb88307a7325ac9fae0f3f8cf9d1b97326a0a4970ba785d84629926df1f123197021e5844335b62d853).v
attribute [local irreducible] dL
def jy : AFn := (.mk _ : RF [ce, db, dL] 0x4b8fc48dbb379ae3ec962ab3ea5bd38f17e74a3d2b163056ddaa95b0e24c408559).v
def dG : ACode := (.mk _ : RD [] 0xfc5803b8466430c7423f0369728d21f3315ccf316d6d38919b3375c6d5ce1124bc046d94ca634f24a065110c0f4282f4f01a2d8a373f100b54b72a2878be8f1c978bd4616607be1f0330f1fc3e6c8f591f63f811728eb0000076459903d475792229da0273e72fc53f4d52ee2d818fd4929f0476e521f7f7a49c17cb8869b8646e65bbe01864bd16b23b0563affe3479856afe6bc146f850eacdd5d809a95db2b565484dc717dcda3fb8ba63b1d5e00275e497c4c4192bd10a1314b83670dfcec68d167bc441712944255d92aea5d334f7a4dcaa778382111062b5ffd6bb8b1a550a9ecce420feb6e9bc69905b0574699e04889f8d6d4a1732a7360ecbbf8cf5862ca763bcc56cf64c08664b2e992140e6a82a8157241279eacc9b).v
attribute [local irreducible] dG
def ky : AFn := (.mk _ : RF [dG] 0x493ee649602b054451130712ddaa95b0e24c408459).v
def dC : ACode := (.mk _ : RD [] 0x1b48db9a0e1886a7c4a9af4ed13bfa551063b49f87c092a4699b8c534dd4d36dfbbca08c8bb34d68364035c2f289f6e7fbca53d96945815849b7728e57e731f250d79ba59290b9985f6fdfb4d87fc9a86975d4f5cd63b9286ac4235eb92e06a21d49009c825ca6fa54ae246c980aa71f562301d6dd104c6f6d60a2c55bef63d20732ff602f088ee9857a999b4be0cce09ccf28463370ed3672a83d4a6584b95385c94ba24f3dc6280289993263da06855d79dfa7410c7357db28b83424b6c81ca373261cc167f66d633298bfd60caffb669a09b972e108ead1b972e5cb88307a7325ac9fae0f3f8cf9d1b97326a0a4970ba783ecef94d7f926b4c8657021e566054a6721853).v
attribute [local irreducible] dC
def ko : AFn := (.mk _ : RF [dC] 0x4b8fc48db2c4f21256be7310631e3a12be040f2a1e532d56ddaa95b0e24c408419).v
def da : ACode := (.mk _ : RD [] 0x1035ec4ab6b3357dfc3e6b7abd2bbbac4be9a678f751eb8bf452b3e2143ece3ad97e8b36cca9d15222f3d536ccbbfc97bf1aa87dfe8568394495aadb8c33c60cf0406b7e0274bc519b2c90f3709a0c7a055996da08ab466ed300bcfe2c65aa61f1b94b0697b110c97bb7e23b1b43ead5f52b265a973935d8673d55ddd1d9e4fbd53f2583d56683a887af3aacc85442a23382419739dd70ec1fc6da1955c394e17bdf2eaa6547e8052c1e4a97fdf932f9f061ae4e46156beb4dc090d948b4b5a314d4c3cdadd76782df2a9cf819455217b5800e0b6f674a6f4a9b).v
attribute [local irreducible] da
def ku : AFn := (.mk _ : RF [da] 0x515235cfae1cfc10b9c8a4d3e41f8fefc533f719d5f083e88b3e8d8cc634eda79b6270396b3beac5b2634cc084b9).v
def cZ : ACode := (.mk _ : RD [] 0xeba5a3fa8009af8450734e5149392588306b1b2ce5c90c49987529a8e3f71bfc1bc1406b3c837a17155f987d2a611db5578dacf8c1341520930e01761e25acaa0af04b16517cb868e3f85d3f2e2e9295104d2a0c795a5549c22eca8f085b2db8fa1d6c90332c46d1b249eb3c242a3e0d28ba17be3598e4178e9fbf94e50c436114c3e12a3161985db34309c0a751d6e38afb6c72920283201c2c06d870d594548368fc41c32ff9ccbb3421e5844335b62d853).v
attribute [local irreducible] cZ
def kl : AFn := (.mk _ : RF [cZ] 0x13444046dae6846a83eaa201aecf6670d92fc4a1e322542c703fc1ba0f209acfa96f4e443d551faeb04cb59df562d931a6607f8).v
def jP : AFn := (.mk _ : RF [] 0x199eb587c59a8179013f0ff0c00b85764d5da1e8bc02f735fa7da910b1eb59f069839c80248e7dc164d2eedb4a65239777473c66b89eca70fc6d94c902a62a0790fab0d1bd44c5b8f27f0599b5c56b124b0fcc81454f35de62d8d12642437).v
def iN : AFn := (.mk _ : RF [] 0x14a101fea95691f2437f7d751453795897d5ada2e320c8532029).v
def wV : AFn := (.mk _ : RF [] 0x17077f331603e71abdf0c7f92efce9b6204efc0ca0c9a3f214ac800ad6b6d1814189f4d14ad871263142a).v
def wE : AFn := (.mk _ : RF [] 0x17077f331603e93fe340a7a3530eedb6204efc0ca0c9a3f214ac800ad6b6d1814189f4d14ad871263142a).v
def gg : ACode := (.mk _ : RD [] 0xb36c2ef7d2c6cbc135450e4d3c6a2fc5ecc2834b84c140a9cf76297a5a3217dd1cacf1d0a2d3133d1fd71331a30e73dd254c8c5ae1ef7e21e76680a0bf73d43da669936e8c39057b94f03407df4e92124488d5697eea8511b281b0eb3f7495af6ed07be73d459c6e75a46cfdf0a25639210c5d6a220087e15b011528a7a56911d88b0f045e6b2c6957661a208f7374bb99ae4add093cf4cf436c97b4acf8e9527fa5a48ca9b).v
attribute [local irreducible] gg
def gX : AFn := (.mk _ : RF [gg] 0x482ed3e695d5a776dfae72fa451c9304471f43f0f6feb9b54e5ddbef47a127564664aa6b43f7e994af4fcb6e0615d152ef27d678554ff8126e1ea58820963acfdb3aa4170b84ed3025c299082c0120b848766f984ff6c97141ea99cd95141401ab7e535deadb1a34c8084f9).v
def ft : ACode := (.mk _ : RD [] 0x1d3509e79e119624f0de307604532679a0be28b2338d552f39a0c87658cdb06474183d3968dec4e3532e41c6079ec88e30d53f8c8feafc4eb7b6950c75d7620d9ce156bf599cf56a749f509e19d1845b6a50c89b).v
attribute [local irreducible] ft
def ll : AFn := (.mk _ : RF [ft] 0xdfa14af3b30a46d3ebd9c4bb180be67644f6c17983c9ccd24b2903744271b6b9e84f183028313e9bac5b1a24c6484b8).v
def iG : AFn := (.mk _ : RF [] 0x68117c1969c7339b64681d97fdf7a3d161a1c574cfbe580b27bbc4e7712aec4e319759eaf46417e86662dd1bc4ddbf06a561cd70bee1f803b10f2580abd9e958e409d8d3882ed10aba896e4468dcaff78fb29aef56d8d1a640418).v
def fK : ACode := (.mk _ : RD [] 0x2153acc3deebc5263f095b12d3377c06b5afbddfe305eb5b37979fbfc7a11b9c1d5dc93ae2fc903e9c28e4c7a62e5cb980eb2bcc3aca4a228345ff7021e57524400ea7853).v
attribute [local irreducible] fK
def mE : AFn := (.mk _ : RF [fK] 0xd83e82442799c0cf0e3edbb34b491b8b47b0934e5273bfc0180349ccd24ae6ff7c6e4f9236cfeeb83028313e9bac5b1a24c648418).v
def gu : AFn := (.mk _ : RF [] 0x2a445a5b98535f4f3e51728dfe378e7e1b859f1e02c4ed5df3d2821ab33082584b46c2766f9cd82eb30766593afea73fde2e7cbf737068bd4de943578f324ce5e46014ed9e0b675ceb9b185394010f7c2be355a33a8d88ff07d9019647ce67e5db4035e7687053a1463bf1f6e3459fd3ac6bb4e71bacc768e71c964720cfefe0cc9627f0aab09ceb5d1f198d5c81450a1428fb3bc96cc8d348a88a18).v
def mI : AFn := (.mk _ : RF [] 0x1509a0446dbecf16a038f0eb98b04e55adc32320c853202a).v
def jJ : ACode := (.mk _ : RD [] 0x1c7ced42c473fc25f0c151989a8b50b7c7542d9ce767693f589ad4920aba324bc117e17f8f6bd16c268490a5b7664c6c098497c9901ff16d54abe449b).v
attribute [local irreducible] jJ
def qw : AFn := (.mk _ : RF [jJ] 0x1d293723f9d2fce2ca3767b2d58b6130dd8617a3cf5b16e170e419d76a5a4c4d61d65680cf1cbeacd824d884b2e730ea88e6a754993c72a414fccf4fa1c0abfcbecc4f6ae64f24f64e57ad9312660558).v
def gr : AFn := (.mk _ : RF [] 0x2a445a5b98535f4f4a0a380d1bfb40e939ccd31f9f2f9924c2af95df70a89d7311adb84570b5df3f2740a6593afea73fde2e7cbf78bc6e05941a7d62c3c8ef3852776df31fcf84fd597165b04a7f82456dd9c320d1fe3281fd8ebac247ce67e5db4035e7687053a1463bf70800d7ba72de7f02b9dbacc768e71c964720cff1f945d809712ab09ceb5d1f198d5c81450a1428fb3bc96cc8d348a88a18).v
def mo : AFn := (.mk _ : RF [] 0x564b7a86df99433e8b955897d5ad82a320c8532028).v
def jI : ACode := (.mk _ : RD [] 0x1e26d19300e05d4bbea63dbd47add733de2a560cea7e3bff02c530ffdcf1802bd16c268490a5b7664c2f189497c9901ff16d54abe449b).v
attribute [local irreducible] jI
def qr : AFn := (.mk _ : RF [jI] 0x1ce4ba856445b29e237fcf3cd5f16c2066f46aa3cf5b16e170e41ce7c3d572000bb79c5ca59cbeacd824e495a4c87b0793cbfdd4996bf799afe33e2621c0abfcbecc4f6ae64f24f64e57ad9312660538).v
def eT : ACode := (.mk _ : RD [] 0x6d6a19838fe49ced986f72aa452f521ab0abea947cb6c3e35f473d9c2dfcc385b79ee584ad329308941cef821e556e654bf9b853).v
attribute [local irreducible] eT
def jB : AFn := (.mk _ : RF [eT] 0x1129288377983396d3b6ab3553d4ade2c941b0a14c8532033).v
def gJ : ACode := (.mk _ : RD [] 0x8f43a76a32f4c97e0a86eb464190e022e3175547ae76342b05108bf35e3e020e48f755abfb97b42fbb7ce13c5efe0e966490b0adbe3799672a4182d30712bb39fc1b24abc9a5a7ba33ca9b).v
attribute [local irreducible] gJ
def ji : AFn := (.mk _ : RF [gJ] 0x24d342a3e01b7d7a596d0360aafcd60aa48c8cc61da686d57908cc76ab4adcb4d797b4ece6ca883f6bc7bf29aef56d8d1a6404f8).v
def gz : AFn := (.mk _ : RF [] 0xa0ba06a386b57a63ea5e53b60fefa05b8e0b54d1977bc9e9ac63c496722c5c9e7f97046f6e130e2c37f836ace0ae3313f3cf0fe9f4a049a1cd1b247dc6b398e050c3304d1fddb83209a8d15bb8be837319c5b882bcff9c4c586cdbecd78d5d7bcd38ef41dae7d8be4dd71e0c50e51ef0ea4a12a95649b8914343c988ce095bd5226573c7852be1097b9d8a9621834bd8265de2b987235af73328adc5082038518f8880ec8bd9d52e206846390d77ab6c691328648a78).v
def bM : ACode := (.mk _ : RD [] 0x2c8252ce4b36464fec78cb56ae92ac6220cd36db01b9c02d3d01bc188b601c4108ed46d9b30454442af88a1521b5818fb71d81685c82c015062eed8bf5b020d1dc696e19ff40e8318a69eef520dba0501ce821e59af1a63176853).v
attribute [local irreducible] bM
def cg : AFn := (.mk _ : RF [bM] 0x91070d0e5895bc62d418337b2713765e6f3872870a11ac0d402c24e3f0f1b32d33c37426930564250a660518).v
def j4 : AFn := (.mk _ : RF [] 0x2bf5ae7410efb740f7e92cb35e126feea0c7b3ffeb1d335fe0b449019ddb1138cd7cde0bdadc00717d3fb118faa4a4555ad72b140d94d77ab6c68d32031).v
def gy : AFn := (.mk _ : RF [] 0x4f1089f38864dca26c984e23f350c724d8b5939dd55a73d6bed8ffd309a1e307110bdaab6895d373b45d39ed7729d63dca3d97c00980082d1ae54a9f96303da2911d370bc2b571c2e09524272312d0f5a5db7ee8b93f6eb7aa2d2ddf459ca1cd5cfd8055acdc328129cfc00d85dba1a5db2ba75c23e5c798e44d67f79f5d3d05034c168c6b924f8430faabb21895944998dbd49edafa743d2c5fb018518f2577e085d9d52e206846390d77ab6c691328648a58).v
def kw : AFn := (.mk _ : RF [] 0x9e06d394593c366909028a142851fddc2088c8002850a1429a3010a650422).v
def gS : ACode := (.mk _ : RD [] 0x31f40f7bae6df546bcc73a461d731e98d6d1ef8ca8cf618fa55a643d924c04647b54661a6664b0dbf94d7447c109dd366a2ba81df982e114faa68c87c2e36752ceae11cd34b10e3173880da22839dba9633330e938c1e031a78ee1da1622a1c67a447ea32ea6c4a9b).v
attribute [local irreducible] gS
def py : AFn := (.mk _ : RF [gS] 0x220e34b644e99582a228eb050768052a7ad9312660558).v
def px : AFn := (.mk _ : RF [] 0x5f668cecbbc6817a304729f39aed0664f9d2f53dbb988f97b1b7bccbbfe6b1e5620f80a4611a850f7dea67ae671b31f99028a142851f6534ad871265142b).v
def nC : AFn := (.mk _ : RF [] 0x17c7e6d12708379f3fa169080e61533c63aa28711c0969743733e2f6a17d555ae23d30a14c853202d).v
def jt : AFn := (.mk _ : RF [] 0x16e1a8bec16f9053dc1d5c0b87d6ed38617623d9e621fd49873897d5ade3530a14c853202b).v
def km : AFn := (.mk _ : RF [] 0x9e06d394593c366909028a142851fddc2088c8002850a1429a3010a650422).v
def ph : AFn := (.mk _ : RF [] 0xb87bc6af08041f902bb29b5b047029693515644ba13a4c2e4cba0cfd35e3ab16c9913302b).v
def kY : AFn := (.mk _ : RF [] 0x2ca126e03f91e923ad5deffab6aedccf39af878ca8a8e944fa981d5a399028a142851f6534ad8712651428).v
def ee : ACode := (.mk _ : RD [] 0x112217bd337ee83b382381615a8ec9db514c14e108fec6e065b7d53f152b4fc7f40fc4177d1d4a52966e9601f5e53ba485eff821e57cb3bae26a853).v
attribute [local irreducible] ee
def hU : AFn := (.mk _ : RF [ee] 0x9106abc5ba6d56d8aabc0a558e5dbe0b114547d3bb5103b4caedb804bf40884727a95bc5d30564190a640458).v
def nq : AFn := (.mk _ : RF [] 0x17c7e6d12712f159ceffbbbc6875533c63aa28711c0969743733e2f6a17d555ae23d30a14c853202d).v
def il : AFn := (.mk _ : RF [] 0x2dcd9d4761c44613aefe0bd5aef8cf8e0a896f78c5413de066fe3eef6c45a00d96425c3a51aaaa506adddbc5f3130a14c853202e).v
def dh : ACode := (.mk _ : RD [] 0x97ac063a5c5cbb707bfc39ac509bdd8fd06bbf29982bf298a71a1d75eb52c43ad10559d92d8428d525e6b1d593fa6fdd3b50b0857d5771901642054e987709e993cab25e9b).v
attribute [local irreducible] dh
def oC : AFn := (.mk _ : RF [dh] 0x197918d63e77dc19ace217c45a8bbcc4ee6443d9302ebda085812244dadd7e2c4d1e226efac06a5cfcdf1d8313cc758f5f651ce71bfd025ca5fb7b60aec0dcba004a187afe1598a4ddfd7137d0fce385329e58affd8c49dfcf0c8dd7abd141644d52205d2a554a98600f6149b4c9f484be82d5c17cb41090db5caa6eb64d9b3ff0ed68ff5b9094ac92234df1715fdcc5db4aa842bbf674d9810d75dedfb30e71f62b1ae393334fb9104ca6ea19fe31ad3568ea33b2202352d526d9a0eb226cf8a495d6e4b153de512be24357716717b3dccf020706dac99f6989aed36fd318f8d0918cc4c81b3480af43f7da36ab2f5f203a403f7bb7a7501550dceece6dc49bbe627db626515cd25b768f187204250b8a05d0a88d29de1a79a9c77ad931a6704d106d9).v
def gh : ACode := (.mk _ : RD [] 0x13f1026d04874f7fc506e16a95e15273e3adae9a467da7546ecaa171748534198d1d779040f49799c3895283a3616ab4df31bc72e4ade089769d13c5477f44dd80299be5f4970814af67140b950fcecc030385d2b10299121ec29da52de26b06e09b).v
attribute [local irreducible] gh
def cP : AFn := (.mk _ : RF [gh] 0x381d01930c4f4b2acc8d998e949fe184c63e69ba5a4252060a24d0f22366d8ae54e675a931db02414f731f8140be80e12e0a5e3fc607fb4d9fdca566fbe0b62cbe1d351048568c5b2d398990f9c30d8ccdb37dc18182d36be0fd8a6adc109befab99af5ea968ee9912ef9f6cb43d35003a12096f4246ae046feeca26e129a36b78fe886ecf06469b13c346408696378ee47ae114f7d65cc00f9db41518f90514bfcad98c30452359ff6c710fec88ce15314497ee5c09e0b3e9e435176a300ca40d71bff02d227701c668d7fddd0d7351b2505289edb7c19759b0067a97803999c2196394817f65874cc600fb99ac8a11d93ee47550b38da0e44ec6560c3251f51496a2b872dade3a3f9687dc699e71bc0937fb5e6fb07b1170f8468c8c38dae82154ed0230c91415aff3a51917aa9b6a877a7d7fcb5e45d35edaafc7f51e9187bc06e6f05380e8d775212e5e1c37896e4d1f1f1c867ac5cb5cd615a286ab93aae48ef40a94a7805ad8ad6106c6081900c658535472b77c09e11be9a8b0e4c11b05dc4c6b8c42994592cf775ca7017cdf55120b704cbf17be60fff547ad79afa6ce810ec7ebc56adb6e3e1129522e4fc9ba6bc7562d932a670cd10999).v
def kU : AFn := (.mk _ : RF [] 0x16cac76576e14ba6a4330a6da5f928855d44b722346c8d66b9d94d77ab6c68d3202a).v
def fo : ACode := (.mk _ : RD [] 0xc52bd0589692dfb49462c6e77e6ee748fb60dba562e6b05ba5a6b98979eb5079170283cc836bb175017832594fd0f264bc3234127a9ffb4a85e196e52af017feca1ae45e9b).v
attribute [local irreducible] fo
def iT : AFn := (.mk _ : RF [fo] 0xbe6f046dfccae5b634f2e1a252ba8f04178d59d974206bc2fd34596976ba2e6aebb963bac5fb2ecde5be12d9d7c710401d5fc7a2dc166a61ea113cd25f42424f3a425fe23948f8db7a4d15e397adc836f0157e1e0700570ce60f251603af9169d809faefd1d72547da83d6b47d18c0b7103ef1f76adf910f8c45d4a9745c39e72a95c85333eb6b549b61e496b0df5b3bb801bb8d65cf53f37072fdfc6e814f05b72ea6d4d42c6599f5c62efecd6621d1a16083cab9d902a70ddfc2e61fb031720e1a79a9c77ad931a6704d104b9).v
def fJ : ACode := (.mk _ : RD [] 0x87a66c0219338f074c3f67d29d7d7d89b14e9735c32eeaf079dc97401bd1263f6cab67c49f53a5ac4d6645db956f6f202198cffcc750d7801c52d0d1f5c2b175e73d80c38f798ac18931af3134a140d42af4e09b).v
attribute [local irreducible] fJ
def cY : AFn := (.mk _ : RF [fJ] 0xc62cec315545b8f1494cd526245305afbd576f1882ef7e85d2c9ed023e06b21a9929bc83b9978014a7c4d701e00d63493ee987107b9ddd58dd0ca83910f167cee99db2fad85c08b973a143a5b821ceff349d17b81752b9c4e7d8c37ee8ff30702210f933d8e30f5df9171ca5b7f7a385a16899a0799186c111d7a35134d6e88bbfa6c3e5f7d6e11e164704033153f3a3b4691dfdfe6b374d80b42c46f7d9feade9f4af709b8fdc80702274277014c6899f26165597ea40ac1e88a1215b41e21b4203fbf266a63ea30a99b6dfc8118b0c6b0b66d84754e6b99e51e7e9e77603babab2fc878fbf845b3a4374342001da8c89ba99dbb17634d058e031416ef9dc40e46570f8bd5b4312f8ea648b1ddae7a0ec974046d69b6673fe54a29b892128a77f9691e38df42d02106bd2f9fe1beb662d8275312e834d8faf74d240855c34710b7ad0b72203925cd8988696b3ff47263f973a39305907fe628e0584f8a9056828a88b33373c6e293e1129522e4fc9ba6bc7562d932a670cd107f9).v
def lc : ACode := (.mk _ : RD [] 0x44bc1096b90a34f29ffacf08b946a28947437885dd1d26d2a8463df5215f211c1fb14002216bd7ba6f6142cc63d00580de93312d2a40ba97fed7e5a44a58fdfb272ae91bdb66a404a02767a95bc62a07c89b).v
attribute [local irreducible] lc
def tw : AFn := (.mk _ : RF [lc] 0xc9b2fa15f38c01fd80a88a2878fb3f86c60c1d30a1468531036).v
def pt : AFn := (.mk _ : RF [] 0x1533b364276cf19329b25be04bf3b122f931e39aebec2cd8b141b0a14c853202a).v
def ib : ACode := (.mk _ : RD [] 0x31c6807c912a9c5a2867ee4bde79c0daa6c095dc0219471a9b5fd53cb978cb4b4874c4a25cdb7c7cbaa2b27aa88c51f862c0bcee0eba0c489b).v
attribute [local irreducible] ib
def lJ : AFn := (.mk _ : RF [ib] 0x3425e28b26530886aef7cc544a81f8173ede61dd97554a2d5ad82930068531037).v
def gf : ACode := (.mk _ : RD [] 0xe96ae118aa703db69a875b04d7dc6ae39adea7698b4210a64490d294f9a3325c379ee584ad329308941cef821e556e654bf9b853).v
attribute [local irreducible] gf
def jA : AFn := (.mk _ : RF [gf] 0x1129288377983396d3b6ab3553d4ade2c941b0a14c8532033).v
def nv : AFn := (.mk _ : RF [] 0x15e18f6a5fa1cf1bebaaf9598334fff41043d2224a5a47db0544f24e7cea586106108ec3ea5f0a4092be70b16c9893202f).v
def la : ACode := (.mk _ : RD [] 0x2ef196508b9fd8fdb01368f6794bd087a37b69066c0721995269a2099651a8e283932ae312202bdbb1bf2b6e95a9f60ff2b0f5873f9759c4782f4f65b67274ad3421e556e654bf9b853).v
attribute [local irreducible] la
def tu : AFn := (.mk _ : RF [la] 0xcac04295cb5006448e412f0c45df3e2b9f476b7f86c60c1d30a1468531035).v
def hY : ACode := (.mk _ : RD [] 0x1ee1c685538f6b2fddc385b84671413a9f699f5e87338869afbd24347ce0e310a9ac94733620b43421e56d94c53ae4853).v
attribute [local irreducible] hY
def lC : AFn := (.mk _ : RF [hY] 0x346ceec63c723a8b1487246f370dc93523f8e808f610e1a867256d7a95bc5b2930068531036).v
def eW : ACode := (.mk _ : RD [] 0x5c986b5fca80e0198110eac58fb1ed5f755b66eed34aad717888a23490e8ce89319f13e3616c23c615651cbf21bf44203b9e03be9c01af92cadbd18eb8f99e2357496f8242ffafeaa0336d9e4c4c0f1602618c78d0c6132a3d28faf0b244e5c3c45ca25b047df350cb6a59fa99c97e2e4685b5399a1977c510ed7fb156eb43a0f6f2a51a52cea81ed5e39235c9fefbc6d1b6f8cca8d76d45641735ca3a4e57b2804541b8f559eea19c9ecd1bcf94d33c56de1e340ceba30da2659824eea36d142e1c9e9e64a9b).v
attribute [local irreducible] eW
def pn : AFn := (.mk _ : RF [eW] 0x2d3a6aac7816c3c5eaeb496b580ae1b4554452fc81e2cdde458a3169fe7f1b51bab6e90199fc8fb4b80937e0980c473b9374a560fea15ce52d679376e19a439ebd02609bce783a23f8368db7b61e9625f32f2e16d939054451130712ddaa95b0e24c408519).v
def f9 : AFn := (.mk _ : RF [] 0x81f579c5884886589166a8d64f2cbf63a8fef7f006cdf2f6d5caf93ae702a47a32ad09699162799bc18a8977a276db4c057e12c7578534b60492f11eb018cc6ac2b23d7b9eaad6747a88b07b1c4c02170367cfa79d85c8bae00307861a27a4660688c0c98a46c941fba8c68eadddbc9559fe083d4fa9d342162cf7f7f826a6ff1fc5c93c1f9130940a709310a8bab7f8a8a963aa6f64db7e997449f5421af8e981e242b93724ae58578c8e6c57140625e6a7dd528a3aef56d8d1a6406d8).v
def cO : ACode := (.mk _ : RD [] 0x291e9f5faeca2d5aed2203500c89e474e2c22c13af5d713a1ce119c698ae5f400114d2ad8f499a160384e9601f5e53ba485eff821e57cb3bae26a853).v
attribute [local irreducible] cO
def dW : AFn := (.mk _ : RF [cO] 0x9106abc5ba6d56d8aabc0a558e5dbe0b114547d3bb5103b4caedb804bf40884727a95bc5d30564190a640458).v
def eR : ACode := (.mk _ : RD [] 0xc8e82caa022af14cd9b9c5b575ca7a63c101f2922053d8265065d23027557210531debb7d54856af5a27c1cb7d657a4e113bb7d8b7ef7345a1d26fc3ebeacb9529f61c9869ea8c65a22e6f4f5eeb9f12e1518806becdec5af8e9d40cabb36d6e4486b8830f56b06eb592c170643f540fbc5b4323b11a1039b0dee34d38dc101515a3e3fb2c2e8a208619ff353bb9841a3a09a7313b0247e821e556e654bf9b853).v
attribute [local irreducible] eR
def pe : AFn := (.mk _ : RF [eR] 0xa550af9bbe78cbad0d130983049e5c7e206bfd7027c00a2928f0561deb426b4f760b3cc0a7f56edeec2ad404f5d2464a330e137e8c82e27bb20eacadc146be20cd46d26455da049a355a0c07a8fcd4bcd5fbe80b3ee5678d15caeed54ad87126207f8).v
def f8 : AFn := (.mk _ : RF [] 0x10642812aa14f958ff8981baa8110cd4d3c6a43ca427250f877b4e429861d67e1203b768215b37d6cb65c18ce4499c8921db13ae769f829830c3e9e2cb4fb72846f0a2e56429ea9fa760b0bd3f73be1146983ef087ae32b7655d785e3951197ff883a84d93c723400e1007426d1b96b3e6c5c4ff485401ee1c779fe79ef4c0b224bbd74f5109c6fb97ebd3789f80abfdd528a3aef56d8d1a640598).v
def vA : AFn := (.mk _ : RF [] 0x148376b12e1ac1cf135ce4e2eb86d9c764e4a866d1488a0113aecd41dd3576faaee81d52905a1dca9245954aa9f0390c9576f7a326cd8b141b0a14c853202f).v
def rW : AFn := (.mk _ : RF [] 0x2bbc2b84e201e4b77770c50ff5ea9788d9f4d5301b0e8867984c48bd9984d75df7aff8c00465d63a141ec09378c3576fbb7844f96e08a1dca9245954aa9f03914c60859f0d6fe4c941b0a14c8532032).v
def qy : AFn := (.mk _ : RF [] 0x431465d377aaceae3c5c719a42c85cd387c915f5ef5ed1f5e569101b0a14c8532027).v
def iH : AFn := (.mk _ : RF [] 0xf7197c63fa3cde6e1b346ef821e7ad4258aafe35128e6b6c3d476e655a704f7fc3b36deb1f5a156eede2d94adab0a14c853202d).v
def dU : ACode := (.mk _ : RD [] 0x5849d38abaca8e31edf611047b3578fc5b36d25855bb2e983923400d27cae32945262127600a78d6e0a56f7dd9ad1545360ba30da2659824eea36d205e4c9e9e64a9b).v
attribute [local irreducible] dU
def mH : AFn := (.mk _ : RF [dU] 0x42752cd2de657993c12032de3b4abc2ca493ca058778cf848a321592aeb590d8ada70c53bc4c44898fe790f13bd8568b8fd5c5ea6cad2b0d3ba005a5658c0bd2d75eedcba894542847277f7caacb99bfe82a2288983896ed54ad87126205b8).v
def dQ : ACode := (.mk _ : RD [] 0x360ad1b7a50e62f73c2a94daa3a312a14fd77585a2dace0241898fc95fa2e482284dd3a254198f63aa11780c1f0a3947ab16155b6dd47ff81a4b7021e556e654bf9b853).v
attribute [local irreducible] dQ
def mn : AFn := (.mk _ : RF [dQ] 0x21680830014e8b0c39a1ec51c66b788cac806157d1decab357ea2fc9c2cdea87746b59c189d2bc5aaf7322d40419c422b7f10450dce9bfed5150eb711f3ce4671aa9233f602a04fcea43a10122f71263c823d04d4bcd5fbe80b3fa9f09315caeed54ad8712620578).v
def cB : ACode := (.mk _ : RD [] 0x5010fbf2345710fea421f541804b09254bbae3f1aeb19cd92a68ab4ce8751cef7355f64b0dccc60e37ad17e10a7a54b0a2e0b3e2eb1fac564c878bfe9dfa2e290e598c8f3ce15f0c7e79b2b5e3e08cf8bb12e08bbb553f579d96cabc8c328107f40994f6ae826acacf6275bf9730ce67a00919246900a961ae7245a2846dbda0004dc704317a9d072f460862298bec187483714a01449b).v
attribute [local irreducible] cB
def dy : ACode := (.mk _ : RD [cB] 0x221af5f36721471658a18db86852d029ac9abe2802c349fb616604bc78d78d78f3f20d04e4b6e1ef86e3a6691dc30ec67f604b5992ec86fe020131544d64ab73464eaf1b32c5d36707d62c7b02477627294b413c8982a2f40759bf44c373b84a959dcc949efbdcf38f5c6cf993637262e73e4b7f4b3254b31cfe78a3b9024e4ed4b61f6fea97cd4fcb99b48426c9af17f030832a5e36dd7b30305578401889d4a825371abbb3d13aef0a3cf5fd7b07696d16a5430cc69bc3da68f175a5b7e79884a33a10506c8db34cf79976b6c4c9b8c26c671ec434b07f1ac64995b7b3766a23858078b23f272215b6711ef47e5e20485921ca9b3f6707bc16e49c312cf4328b108bd86783a8d9dfd7945e5afdb61623360a03fbc68cebcf4b96f1c6e61ffc7531b604c62083644fe50504ec533c19bde2d9184f8a52ca9b).v
attribute [local irreducible] dy
def pp : AFn := (.mk _ : RF [cB, dy] 0x262c2132cb5ddb57b5a28cd762d15c5f95f39486d0cff19f05347ae207d394f28c7237be4c1702cb906415ff34b6152fb539d3c8fd99082fced70919e4302aa13b5459e68c703dbed995e2c3ffa38a5d71f9fc84ea74418c5defd81912cf26e2e1e31f861230eacf8a0039819a07544424f04cb152d724940cc281d6d749f009d94ac41839a9514e094d4c7829f439a726fe7898f5269fd5befa7c08f7cd22f677817dd0bdf8d0673519c84d9230356680726a71fc455b53a946b1a7cde4110bb62a603605ae423dbc7b5f1941ffe5c862d49b72ace59f2a180abd11ed5f9af12ce44eef3dc5be2746a0ee942c66fd7b0947fb8058dd80a1b04d8f004e4365aaeabad4f8e9e6944156f84611bb47c69f861ddaa95b0e24c408cd9).v
def df : ACode := (.mk _ : RD [] 0x18869f15c62c76218d8de6a30ea8faf1458b27964de72494c9075b11618cb0593a9d7196b461dac75c087a8e0f5b3ab3b4e3931e1fe4a78b55a3d3c12ab53280702bc065f320a221bb25f92049265af55ce2f1848677281b13e55693d0932a666c3e0c87e123d7f57e234903603de61617bd76214e6cbf80fec8985290acba6559a168c43db769bf2e543ccbde6284057141208c5d00003c8bae68e8125989d0428e1509f7fd8aba99b96cc0b2c1cf8bd9d91808578dd2719cd1166176517d45b8120761ab7bc16ab6e29f11a77ce910ed548cba9d5bb8a014ed7657a4ed40b5edd8050605457c9a713ee887b918a4ee4b1d125d62d5f84bd23e22aa09c5966bf0dd2136e8e9ade402db4b95fa5850e6d79ba6694d0dde821e51cf0bf420d8da168853).v
attribute [local irreducible] df
def gQ : ACode := (.mk _ : RD [df] 0x548f349d6ddbada817ef7d5d649ce264de624f304e26297897bac76d502d948c3a361677f35bedbde22b7abeb79a41ebf5241cb5ad06b929407f73a97b52c678912b7c0b0642431bc679c8043e8cccf772785d269bf953a347fd161dd6ad1d657241fc2b1b94687cb949a10a2928766e2f5410ffe460d6ddc80d255f4edd750dbc75957924de00f150345e5cd296d05c5153d4dcfd71d59444548adbf976284686abd8ec4a149b9a7b153c8a5d7bc7e1feb1defb1d8511414501e19c328853).v
attribute [local irreducible] gQ
def pf : AFn := (.mk _ : RF [df, gQ] 0x5be03ff9aaabb129307d16e8fedf1cabd031d36927eefb986b5f6c4634cd15cd4625777816a00c730b3d0c68e0d41b4e7b22b91d374f8434b9d60d49282d3d6ce9b7e8b354c33f1f56898a7183a4b317c2ab42d101b640281ed12b09a5097d20cf81fa475d8b283932250e6a8002f9c9fed16cd4e79eafa7dfc490d1d72aa0cd30d1c7256093887a45431ee65cc1dd7e6ca6455c17a1bcfe4cc5587811c47d1d2959664fe455024c8b09419023cb0dd4b3a1ec43fb89dcf6b79f718485a8ead418d55dae52560bc9adecfa9e4ab48723742412faadb331022d1dfb4b9b8fa6f02cce4e0fcff7baedc87a9c7e668244198196f8f27a8cecf8475465cf3a57ae06253d88d363e19ef8b9a89ddaa95b0e24c408cd9).v
def eL : ACode := (.mk _ : RD [] 0x2984c4ccd8793deae27411a986182956123f5b8f9a16210bd1bfdcbf7966b99fc247bb8fca4c2d0853e320def3502e78445819ce9f9bb0f58653681c7a69f0e9db6e57f63a1e2e7b55a8fb29c9ff5927dedcdc65db7153f8efc03acddd3c3e1c5411d1756dd0923013b5bb1dbbf2503b1705aa10970986ba30da2659824eea36d183e2c9e9e64a9b).v
attribute [local irreducible] eL
def qx : AFn := (.mk _ : RF [eL] 0xa0c36f3953877767617c2b12518badc55ebb20d136b3d302032c7a8db078b760883c304fc246ee7f8fb32c16456336b025d20cf4f4d2ebdbd17077452dd20f288b7742d11e6cda4c5b1b9cf7acd613875c82a2288983896ed54ad8712620758).v
def dF : ACode := (.mk _ : RD [] 0x18036ead68ff771d514d46adba2cefdb525a160881877c09cee4e6892d0fcebb6435a1146110279b800d75dad85795135aa232add359b8abbdca8ea536f8a3ae2b720729d50f3722af3f6bc42b4af59272d7fc3ec755665e4bc0a9c6f5c259faef1e9f989f50bd857bc18a67e980a45c7b167198420156417479d4945d159a0034920970e7e8ff10de970e79a1ce0cac29872898ae7f7274aceb219738eacc69f9c6617a6b9b72c6c39e574bf1c0a715f6845ef359addd1d5796a242df242b7a45b6c30685a3e219e7ca9b).v
attribute [local irreducible] dF
def gn : ACode := (.mk _ : RD [dF] 0x3344015a4b7d2e0ba14e8501a134bb42e1705c8e627a8362ff9e48bb1638ea62cdeee98849e5622952b937d60650cfce4bdeeb161820abc64bf0520f4c78a61c169eaf80f327c630a869229a4b4a9b).v
attribute [local irreducible] gn
def oB : AFn := (.mk _ : RF [dF, gn] 0xcb12e513ddde8f9ab5a7118b49612558db5c11f789a4e4c7a9fc747988e02da5e47287cdd95387b808a2078001f1a5252bca60ea7108512b7389555e546759dee709fcb5c1c12dfe7c38cbe4e8b6da059ba3fd162c86ef3e7b721c9e2d52225b8ea3046a4069993d7d44254451130712ddaa95b0e24c4086f9).v
def fD : ACode := (.mk _ : RD [] 0x5e433cec89ee39c44b700d79148b7f3f21a5f66816b96c5e07c0bfdf9bf99764407ad6bc7c33b4019e2e3f2893049f0bdb965dfd741ec18ebf2b17e03e798afd2efb57b38e5744f05461534d3cd6ced137e356d1ebff1780d53d9f7865661f4fc04f6c6377b3bafeec6a0cccd4f33c3f184d6d8ea33873dcdf9089f63bf00eb3774f793b241d08706937c6e8680d6f894e2b33f215f505e34cb6bbb66ba30da2659824eea36d101e0c9e9e64a9b).v
attribute [local irreducible] fD
def nB : AFn := (.mk _ : RF [fD] 0x43b8682604760ee43a58d8ae51f9d508e600543b442d782a2288983896ed54ad8712620718).v
def bp : ACode := (.mk _ : RD [] 0xc75bc268b14ea98157a20fe40a2f5ace5815fab506ce9b6039b1b696c575313fd0e61410bb3afa422a3775e001c7682339b158817c9933d44fc251b1ec21eac0db321b51fe536ad097ab54b4336a60f06b113aa44514220760be65f8f7b7e779315f66a69402cc0674045fbe8af4402454e76f833e37acde63aa7570004a11a62e164bdaa5afe0ab1255f8f645c7ae676726b1d497536b1ff3ffca9cbedfd94e0442dc6b8077a16ba4bc69b).v
attribute [local irreducible] bp
def fC : ACode := (.mk _ : RD [bp] 0x6c724e5a4f047d59cfda021922457c81033cc61fca24f420a55b70bda603dd5635007e4c92ba0c282a13b9676bffc332fad7ff4566eef0a809541ef3289a21a77c5e7beb5297b5961255d1526f45616eefd2b12c1b6d48f94595fbc993cf1bb64ff6c809d7b6c42d18f29266e91fcf6a334fdb6f44211279eaca9b).v
attribute [local irreducible] fC
def lK : AFn := (.mk _ : RF [bp, fC] 0xad5aa543d7bb04b0789519182e4f0cf937920b9f77b0eca32c7356451130712ddaa95b0e24c408579).v
def fy : ACode := (.mk _ : RD [] 0x14a734d246492d8106bd3b8d8f397acfa1d8f212740e6a99f3e63b91c346ad96c9b9a516c96edf388a0cbd0d0e88dfadbc62cd85418d2445b9da5dd96a93c7ef41aee2509a775abd81e64799ece625b0009fc9fc823eccd90060630c973a2dde7633daf213b0694ce5c6cafca75ce5cb971f40db680bf7f8ed6b5e0c13c55ce60cede5e039bed278fe2387b529d8dfc9b0247e821e556e654bf9b853).v
attribute [local irreducible] fy
def np : AFn := (.mk _ : RF [fy] 0x38ae925154f3dba5b418f69a793542d15bf5ff0f3df68d4bcd5fbe80b3ea3e48b15caeed54ad8712620598).v
def bo : ACode := (.mk _ : RD [] 0x7dc81e1d1ca4103a77a9b560b0f64c7311924cb25cf2cff41ec2d69e7a0a191db7c94df34da82240cb1df26dd00651f2329e87804ded3592570b8c3100aadb2492fc6f8a28f22298241a55d6ced0a0204ca0095c624d1d29450de1b196385f70f4652c6bdd4254122c2a238652fa80b1d822870b097cdb02768775a5537bfc3ca48f8c0c3e02e977b1d7dd3ae2f25d853).v
attribute [local irreducible] bo
def fx : ACode := (.mk _ : RD [bo] 0x1114ea6099e010441de1d96220bb8bc6852cc78e2114f0bacfe203d32f9b91794fa0e441f0f11ecbc12ce275ed4dc10581d39643e280fc384af87fead71af26d663b68844e58fc421a55dbe6a28dee8876b588f16d4a9d724deeb7563506e03ff7848138e2295109c003f076deac6df721e821e566054a6721853).v
attribute [local irreducible] fx
def lF : AFn := (.mk _ : RF [bo, fx] 0x55a91bebdbdb1d010b7c5b1c9c3f2f7cf82ceceb092674dd47d8788b35c02832b38abb1f0cf77ad15ddaa95b0e24c408519).v
def eK : ACode := (.mk _ : RD [] 0x4a7ae0d7b628164c68631227a31e9b6a8d472a9c37c11badbc5654638580c4de16457e1f2661fb5802b8ed06ab2bf67f406823ebf6baee004bed7d1420aeacc1962ebdf2e891388eeba4a024d39ae50c88b0a8f6dee251a3a1a0baa6939713d30229ac21e556e654bf9b853).v
attribute [local irreducible] eK
def qu : AFn := (.mk _ : RF [eK] 0x1319226c4baf92a64ca3922dbb81e1c12cd5d3b2e64b2444c1b299210867936925909ef852f3f99f84f6eadf561de1a9cb04a60f76cf405741fb45b78e00edace236fd984ed2b1df42fccba12179a99fcd4bcd5fbe80b3f26ea8f15caeed54ad87126206b8).v
def dB : ACode := (.mk _ : RD [] 0x1965f1757291915eb8a0dcd5c70ecc71d4d9b8f0b52f3125c9d4cb8d4527add17687361e720c42e2809e9e96e0b7f4927a45a5af9d1cde4993a7a5ecc21238125393e2b0702d489bfab116a8cea15b3401132d27d65d3665d6f4e5561636cde629ca7dbd8e42c23da75f88434abb7cde840bbda6bc3d64b7ff951df6c47b9766146bde138bbd87ae81e581ecf8bd3cca625b02e7829437df721e821e566054a6721853).v
attribute [local irreducible] dB
def gi : ACode := (.mk _ : RD [dB] 0x43fb421b021892e9eba96ae558e066091c278598ebf0f2bf2eb3362f8ae94454cea34a25dbe70a3931e98b972e603abec365a02ed1da4336a931dec75aa72ea9de03e70a853).v
attribute [local irreducible] gi
def om : AFn := (.mk _ : RF [dB, gi] 0xbd1bcb143e94ee4fb9beef85e399b9d3713a56b880b60e224408a6b37b0c33614537648e4c3ab0e545b59a986babfc6a923883380a136c364bf6119980579191626fde3569c304484c0f8e03fdf0e7a8719c38ace5104e8dae9f120af9e6320b31e71e5a550c31446882f48751befa355fd50465b82832b38abb379e183ad15ddaa95b0e24c408599).v
def eD : AFn := (.mk _ : RF [] 0xf74d5f786ac5230e26ce950a8364039f0ed4362a2e7121ec3689d953b898cb660c3caabfd55bc4fa907032f9c3b70984797dffe6ed6cc8085e69d9e32970728d8fc4b90f8022376ace36990adfd787c332c29e5e77b44acad85f164061deec85be1412455f4202a5a36af29b410650e913d856787784cd54ad8712620458).v
def dZ : AFn := (.mk _ : RF [] 0x16a80bd7b7c2305276fd6eda1ea407a3ac5395196036d1e78c097f8386dfccfd258258a0890ed534c14480c489e226c9575698945e6d6a775b188efe702ed35a11cbdd9a01bb04e042c4c01b7d42089d87238e88b4d8f7f9d29495c2992f65769f1d8c75765b9c89e93b93c9b272b741f3b610c4da76dd29a4468a726510889dfb4354580b3b1ded2b0b49ace7742e2bdd624acd2d38f2c20661a17e8b43e816b6a2ba23b94d69d92a06939990ba2d017439d4b1db9e5698dee6f549a02c5a4693561c61deec85be0e393558b9f61608e913d8573b7a84cd54ad8712620758).v
def pz : AFn := (.mk _ : RF [] 0x2ecf42cc31d792b225de3c4e243c95302282b1e53331b41bcd9f1c0b2657a72ce3b610cdc5c9ca504e28ca2db6fcb62f345e8f0e0f6e87806bcd8fa73d58ceee76bd6c98933037).v
def fT : ACode := (.mk _ : RD [] 0x24aa0eef0a76f015127b3bfaa306222d637270aa5495848a68de92953eb27a7e1f7ef903a55fd6355639f05304dd2d8d1a618ed34dad2b585a1f9ba0823baf06359fce6ca6ef044366ef5a58e9de0dee59643f2601402d6c00aed5ade9e6489b).v
attribute [local irreducible] fT
def mL : AFn := (.mk _ : RF [fT] 0x1b3e362d12f8bb72fc7b66184bbea0c22aa62bddb4c0a1460c205640d0a6204b8).v
def dY : AFn := (.mk _ : RF [] 0x16a80bd7b7c2305276fd6eda1ea407a3ac5395196190ce6d881339a553a8e3ebce78db3bd5919bfa19c14651dff6379154344336f34b4905b58660686cdfdf2c53dfdecee162c1c7ac86ed2eafe36bf4e2826bfeaf2c1f65fec806b73395c42dfa462d5a2c79ba96a8cbdf2201810de1be00be3731b5731d6ed49b33ba1f4a323a7f4e0ade686f3f5bac9b8ce7742e2bdd624acd2d38f2c20661a17e8b43e816b6a2ba23b94db13711e9e0f9836718dae0a9e4b1db9e5698dee6f76ec57c39f0b7682061deec85be0e39359b440a2a10e913d8573b7a84cd54ad8712620758).v
def kX : AFn := (.mk _ : RF [] 0xc320cbcff57acb7971ab77e662a20d0ac5d895addea1e1057de9c36efbcfa670fb3641a3923c0483e5f89d3feb3a6d7da52db5c95bfd152bea6e87d5274555dda8c2fd10aba896e4468dcaff78fb29aef56d8d1a640418).v
def mw : AFn := (.mk _ : RF [] 0x2943e031820ada63d4218307c97d02632068531025).v
def ez : AFn := (.mk _ : RF [] 0xf74d5f786ac5230e26ce950a8364039f1d4b0d4b03f5819d95abaa6b6c6321792e6a09fc65fc2a9a94a17d04740e2ec9eac8e5121370c8085e8d88d71b172286e63aa5c5b82a376ace36990adfd787c332c29e64e7243a69d6cb4c4c61deec85be1412455f4202a5a36bba397d4268e913d856787784cd54ad8712620458).v
def eh : ACode := (.mk _ : RD [] 0x3add02450ff2740146070b885171452a9fddbdf6a3e2f6f1fe8ba866869d62e34c0cd8b701b8226f75ca2de8dacf1c4e6a21075679c71e67e2edac7ed3a2be15e752ae18aecad857e6a48325083c63d6dab0c0983e210383ab5b8ee3ab6d20bd8bc73cf42df68f71ecf69161ec289b3bd08834e1f84bc04bb955e318140a7c402c50f10bf6e73681f28f47e4f4061734dc82d5609fd180ebba28361affe19c97ba33c89b).v
attribute [local irreducible] eh
def jX : AFn := (.mk _ : RF [eh] 0x28b3e7a503d4bdff9806db6dc6d8922374d6e7ca5d4bdf422e9741a9a97bd969974491feaca95f03d08905f94d37254ea49abd4884bea24891306cdcd54ad8712620798).v
def cM : ACode := (.mk _ : RD [] 0xb7c1541766355587f23d5ad5747ae4f3ec5a88436cb46774fd1aaff5e5336892797b4f403779d23108694d7309225edfb498a60dd215353e4a4bfec6189da4298ce66c46deb00ea888674f44585c054f930b32161ddfcfb06a0bf821634960e2534260f559ffc06ec195324952bc822044d71ef2dd52f5086ff7023a88aebdaa94f7cc0ebc34992973c636db2600d24057436f0acc096c5b314771a334db1a83c3f03d64aa89e11e5e4df16bc70c335d75f5067f4055caa92ba30da2659824eea36d101e0c9e9e64a9b).v
attribute [local irreducible] cM
def mJ : AFn := (.mk _ : RF [cM] 0x48b57d6c2dd46f71498f128544b17dfb23554889f14b782a2288983896ed54ad87126207b8).v
def dq : ACode := (.mk _ : RD [] 0xd6ae4058b08a16a4bd60c966f83f10d99c4da5ef71dc5177d5aae628b78c09c444ed6041b8a6c4769a6f529eb1ce69de81a3fa7259e92ecf35e14f8c347bd0d1e3b3a55450c9810ec2944394e0e2cfc94812d596ec478b0d72130359aa885f379a70ad506c8b356ec826a678f1d00246a074d50bafd357eec4470856844162a9cf819455217b5800e08635b09ef4a9b).v
attribute [local irreducible] dq
def fS : ACode := (.mk _ : RD [dq] 0x1bcbdd0f8876316f9f90c0853d1564a8e1657ef3448dee3abf57a69d01041154f3dba27e9f22ffe654bab40b6fa291187db03418ed92b213e9fcf7c4008f0b7a6a09050134d85633bdd424a35e04e1d0fd21ba2a41594736f6b454469b).v
attribute [local irreducible] fS
def cW : ACode := (.mk _ : RD [dq, fS] 0x89fab4d4b45c0bc8128ac505b9fc7e6ac2c03e1d3403ec06a2f7d393d136ebdcb393d1fb4373e821e030c640910a7795c3215f449ee97acc5bb33103ce929893c65c9f70a3726890139343cb7f2f3001eea3324f0d38a77b51de0729593bf4fdca1fe9062aad458702002b8b636bd3e547e045e84e55bad30aff3f501c12c924af0da48bd279d08f3ce3de9d8751991121aa69362fc89a6ac1318000e1009f8f209ce99cc2cf770594b7751d739cd8cb58a733f378f0778c34d5b04000edfa8621ecca5fba61d267b8d91569621343d5547f6e796ea6ad67ab802ab23a27dd6f1d97884392045e7a17f7d7b5bd7aca11ebc1f0a2c30168e0d5b546398ec355b13115bf0be2e7917a424a9b).v
attribute [local irreducible] cW
def mK : AFn := (.mk _ : RF [dq, fS, cW] 0x45a9da4ec1d3872631326ba237ad8c4fec50fffd07af4d51933f76e4631cf347f6bed548b7eaa608b91cfd5f4006b058c072cfca0b2df8c82a3e78b3c3a35726516e0a94d6b8d3c22f6f63a457b43034e6d88a2221224203e5e74053fc3c80e682e331aecda090ffc870d64ea09486ead16538a932dcf93e82ce1a83423cf8bf29ce61bf91ec307ba0b9cb89b2bd6144169993d7d44254451130712ddaa95b0e24c408c99).v
def gY : AFn := (.mk _ : RF [] 0x1b789553f5b862ebda395aae296907ed13d6827f7610933d882b8f508ba3ddc397391fbcbe677410e0c55b0e75b79a96fc50444f53057929cc94cbfc8a49801c4941746ee5fab96ad4276db7174724005018b7768e0c2c028e58940261e88149590015c7d70e6aa56c38931037).v
def ed : ACode := (.mk _ : RD [] 0x299467375257281788f6690ffbf47f94f87bef99f2d71cf5a1755709116cd09aa493c132e748127061c0e606eb0b68734fbbc6fb5d68e7fd10293a7af3a977e91fe178fc379e60359cb0d7088c215736f7bb8fdd4116feb4a409c32ff9ccbb3421e5844335b62d853).v
attribute [local irreducible] ed
def jT : AFn := (.mk _ : RF [ed] 0x1fb685c66f74eedbe65a153b7b88be2072b79fcf901c576407c405a555091c5c2e54af81e84482fca69b92a7524d5ea44366e5f6a91306cdcd54ad87126205b8).v
def aF : ACode := (.mk _ : RD [] 0x458369a615c962d34762bbeaa6204a2353cc2b33e47f80d077c2921d960301dea052327a9ae1597dd37887e6531466288a3bf068f94bf4c10d9255f5a4c1455dfcb696c348c526388a66482b5a19442b2753d0ebd74335aa735ae126d1fca2577f2156d266305ce45c8aaab4d5e4d31cd5f40954b1e6b28fea87c61a436a90cd52ef8e10196a7a2cfab64498469334a61fc9b1f97da86686a284e49c4d962f5a36ff770f46f239b01edbb9d376f3b81f1ddce60cee1d5f2c2b3eb6f27d022ab70edaae99befb1d6a23d10c4ef707853).v
attribute [local irreducible] aF
def cL : ACode := (.mk _ : RD [aF] 0x1e7886211e0ad0b324f994501d3b771d96b4b6c5bcea0423e0d1ad5b30fd5b9324baed55905595c6b3a2521528cbe09ad9db83b1593879c275f54b04376a01222363765e8f8dd6e078a64461ac75701efb53dd69b4800b775af9b1fd1955a6f4624c034d970e30ada1717f26d9b8cbf87970ea7ad58b060552d3f4f23441ea034d197c748dd2e5ea27e60c0a623dcbb30a35ef0acafe0cb3a49c5352e3aab6a625b02e7829437df721e821e566054a6721853).v
attribute [local irreducible] cL
def mt : AFn := (.mk _ : RF [aF, cL] 0x6705c1a1a3da2d80762754ae6990a6f0dce6f4670e3f40ea473d448b35c02832b38abb1f0cf77ad15ddaa95b0e24c408739).v
def dR : ACode := (.mk _ : RD [] 0x3d4297ed34759460cc67cf93bce93fd8e69227df485ab120c17adf42fe2c6f5b6e8e7d1d20eaa5c38917f478bc87c092a0c4931134cb429ff435efeea469484e8b9b562e9332647d6dcbad87e8014cf3a087f03f286f922aa3c0167389c85929857f4d5d9cdc25aa4d39072b77d885197e6ff5bac0db426871b8db8530355398c6633e821e62a97c3e8ef853).v
attribute [local irreducible] dR
def eY : ACode := (.mk _ : RD [dR] 0x23cb17f6df2a61fa2a121e624953e5a3d9c809258e4d876555203efb345109cac84d497974bd5513e9e45d6f820e33c094e174120c6f6bcac3ee2f6169e3632661cb6fce5de5ed42de3b423af0f1ce5ca3d23077024efff52fdb12146eda122e13b7409fa33ed372011ff04154885c094d7adcb92c4b4c964835fc347bf28ccb29b287ff9cb1d001c53e9aa592598669797ab66094158d904e28207b231be10300307f9473a21526d6ae57aa7f4c738282adf55edad4c719f88c78d1812e5b287c8f48b3fc1c43075f9d8a8092d94f51d7ce1dfe67135742910e36e351de12242e08cb4c52822f4e8fd6a7d170a54e1316bb10c0930251a51ce0848a22addefb1d73968ce60ff6da768853).v
attribute [local irreducible] eY
def gq : AFn := (.mk _ : RF [dR, eY] 0x514e104fffca48be090aa60afd6da634c5df3e93c99eeeade52ee81000aa17d7ac20ccbce0d04e57cccb290dd3c38021e4afd72088358f92b4067290d919f8def9e9391c212b820d193683fffb19ba3ea64274ca9b7704629c01503fd239204c8a551bdc65d32d53b157f2f4ea75fce4cabd71471b41c070c514308977530652adbab2cc1b42dc3f4227ddaa95b0e24c4089f9).v
def gU : AFn := (.mk _ : RF [] 0x1b789553f5b862ebda4464c4e15ebfc47e13afabbf6058a885fc219fb7a3ddc397391fbcbe677410e0c55b0e75c43f2fc2cac760b6bbb94c4c67019c8a49801c4941746ee5fab96ad4276db7174724005018b7768e0c2c028e58d68c75fc8949590015c7d70e6aa56c38931037).v
def cD : ACode := (.mk _ : RD [] 0x199099566090d2ac5bccbc4e959befd574a508ff7f6de8d6f9997a5975ea93e5889a1cacc9501c110a9e635092497d5ac4c128d29b1a63b202a5082021388c4f3b65bb4e0a535f5787b2bb939b870b758bf1a8f8daf9444e269ac91c97da1bde0187e194f41a59bc5dd19efd5ef7072289bbe13b3c03424e0f43adab9ac0b3e3a1b9e46ec624bffa36469b).v
attribute [local irreducible] cD
def fe : ACode := (.mk _ : RD [cD] 0x64c6c7015eacc551698c6af016d4b142baf404414c9ffa352500ea8dfce09fe86a80ba17d5c937026aebcd10dcd0a914b2d83d64a04a7ce79eef80cc4b736d0c61600c16cb16a4998ae44050c5298152336d2fa0cf7f939bc98663a03574f152a110e29c9b4a1b702ba18f5651d2c382925f7aea212ca4cd83e42e6a404a02767a95bc619e7c89b).v
attribute [local irreducible] fe
def mQ : AFn := (.mk _ : RF [cD, fe] 0x159486e4d4390fbf03bdd9cfda5465748ca88bfc6a81428c1840ac81a14c408599).v
def iF : ACode := (.mk _ : RD [] 0x5b00b2a1469029ef38add71d4ec67f4bc37b160a9777ff5a70e7e476a786f70ef598ea82dbdb21c848a23bd82f10f4b66388a54e421fd723c834f3b0666fe6a294a9b).v
attribute [local irreducible] iF
def nA : AFn := (.mk _ : RF [iF] 0x11071a4ed9e46ac151145d2223b4028f316c68932036).v
def ic : ACode := (.mk _ : RD [] 0x8bfbc32a05bd37201ce49f88ba05f817ee5d3ad790d096b9d9ed6ea08ec6b3cdf42784f203b379d732759ed0e485b6dc9160c8627ea60ed9c3bbdec4c120c1321d4f7128c50cf22d01fbc5e7adc589b61c7d04907e4f8b6790ffd51228e89af63c4624cd13cede9dcf0cae21d976bd854cb6b6c82ad1e379b5ae8447ac8a0a0d54e01602db1cee3fdacbfe59f8881b4951721161444ec99e02ae5983f475e041ab3d5266fc2da2758e5658f83aec7a98489b).v
attribute [local irreducible] ic
def lL : AFn := (.mk _ : RF [ic] 0x282524d462ba218a1c64ef5835adc13f96e6203579d0b8dac23b251ee428bee3c10294542830e908f09efd98f6f55d5b5ee42111124ba9a01fc0c1442e980b410e1428ba2eb16c691330658c918479).v
def gm : ACode := (.mk _ : RD [] 0x2338eb4815e3de4b0e55c9163cefa2b6fe0f9c45a91e48cc08e577e948ffe7f6d6a71122f9fd4217bd0aa84b6dbf70bffb6e6d34410ce77cb3150db01f762f40ae0551d4bac8df54142b2870378100a160a723ab2c0e3e6d5ad46edc46eb18a59b21e6ece89599a4e657ab27818bd85696f86f6814339bb5774fa0ac373300be207432eb8ffbddef61812cfcbb23bc1eb76ff503af22f3ec39782f9ae5311f6aede7229a90148cf6d5a21469b).v
attribute [local irreducible] gm
def iU : AFn := (.mk _ : RF [gm] 0x4f9c336019ed0d5a29ca8ab740c8f048167c30e4dbaec932c3f642392640e964553914d8994dc89c3c3198297f2c6a60b1d786ac2c0f3891e61075742efe1d3021d28c247bdd375af3c47eaa7bec5f17f7b1b5f9599a6934f50b822cfc9baa3c56a19aa95b0e24c408499).v
def io : AFn := (.mk _ : RF [] 0xd7d6e75e23f5dce139725ce00a9261b62cb07b97f6ba6ce208f0df036d8022f00cb3d1516a6a4695c644158ae31dd2fa014b38cf5dbe9b9590900550c5e6990ad2d40dc6ac76428e4ad7a35b2d3131877bb216f834ba0935e9faee8e5f509a3a44f615c5cf066aa56c38931036).v
def nn : AFn := (.mk _ : RF [] 0x2cb2dfb56a2418e549f1f92f1a8eb6c5c0fa6407c7494e189451d77ab6c68d32029).v
def dO : AFn := (.mk _ : RF [] 0x5329100a9aa4fc58a01a210e243747f25868058fe28e70b37098932029).v
def ia : ACode := (.mk _ : RD [] 0x8bfbc32a05bd37201ce49f88ba05f817ee5d3ad790d096b9d9ed6ea08ec6b3cdf42784f203b379d732759ed0e485b6dc9160c8627ea60ed9c3bbdec4c120c1321d4f7128c50cf22d01fbc5e7adc589b61c7d04907e4f8b6790ffd51228e89afa79172b6ba196e794adf4f01385bdf52050019d865e55e379b5ae8447ac8a0a0d54e01602db1cf5f80c3f44551e8cb04c34e29161444ec99e02ae5983f475e041ab3d5266fc2da2758e5658f83aec7a98489b).v
attribute [local irreducible] ia
def lG : AFn := (.mk _ : RF [ia] 0x282524d462ba218a1c64ef5835adc13f96e6203579d0b8dac23b251ee428bee3c10294542830e908f09f1f639a3bb1936ee42111124ba9a01fc0c1442e980b410e1428ba2eb16c691330658c918479).v
def fm : ACode := (.mk _ : RD [] 0x566cbb23b51c9da8314368b72bdac973ef08bae40df976688176a44055a575d9091e9b9d1e9dac0cf0f882442c56df995df297e2ed8be105d47091758bb9fb3769f464b79d33cf7ddae06dc0926d4754a8a46c1886c3b04f8c78ac442f8e9ff127f78ce1e4b9c61caccd93691357ab972f3eca56a4ad9849e2264508ebfbe821e57524400ea7853).v
attribute [local irreducible] fm
def oh : AFn := (.mk _ : RF [fm] 0x4f7818e9f7b788597f2cb1aba3cdea10b4197a366675d4c84989a8e5623ee4581e1bb8db55e40b199d8b7bae81baa8fa8a3bf7e69b69ef499e8796376bcd6a6ecdddc841f1eeedb477f7234f628a6570e0991dfb6cef005a2cf58326118a2584eec10cd54ad8712620778).v
def iq : AFn := (.mk _ : RF [] 0xd7d6e75e23f5dce139725ce00a9261b62cb07b97f6ba6ce208f0df036d8022f00cb3d1516a6a4695c644158ae2e84c8c16d130d95c0db8843c840550c5e6990ad2d40dc6ac7628d08b1927617c5901877bb216f834ba0935e9fabca6d041943a44f615c5cf066aa56c38931036).v
def iE : ACode := (.mk _ : RD [] 0xf0bb2d81f93c9bacd2e79777e44bbd0327368feeb2e048c5e402f0e154829ca092bf4c5157bb3fcac2e9e67a83998728693d40753ce4cdc41f1abd5855f5f7443e0e57c4e3e957b2a87ff23fd58a123935f6bead3609b).v
attribute [local irreducible] iE
def jo : ACode := (.mk _ : RD [iE] 0x1327cfd1ac7ae4a0c6392bb1c65f1365a058c9a03511f1a5800779e655fbd68220e4cfdf330146253bfaf100c32cb98c3c50b445f70348c21b68c7b1977760f21bf67a586063d2a5b1c066fe0ebacac54b570e7493a91e41ddf7537890beb3a5cccf43505c4c4bd2130340d781175c26c816cd6885df8824f8835fa83d570935032b4faaf23e8b2efa4f5a4326aab7effd6c19ab5706e77abc1d312303f1f0b034ba03283d8b31e83354916c47ad9207904c998a9934759f6c10214e942054e987749e68f9a524a9b).v
attribute [local irreducible] jo
def pm : AFn := (.mk _ : RF [iE, jo] 0x308266373f76930845417fa55c3e928a85a30feb1675b5c9b2c5b1a24c808619).v
def gl : ACode := (.mk _ : RD [] 0xe96ae118aa703db69a875b04d7dc6ae39adea7698b222351405e5223c9b43dcd379ee584ad329308941cef821e556e654bf9b853).v
attribute [local irreducible] gl
def jW : AFn := (.mk _ : RF [gl] 0x1129288377983396d3b6ab3553d4ade2c941b0a14c8532033).v
def lE : AFn := (.mk _ : RF [] 0x2915c4e6caf6779a1983212c7f17aa8feddc8e6dab6c68931828).v
def ct : ACode := (.mk _ : RD [] 0x41a60f4eefef915b5b7611995cb5fe10039a971b2b2184c23e74c0b01df6e202a5e27ed251987b29308941cef821e556e654bf9b853).v
attribute [local irreducible] ct
def eH : AFn := (.mk _ : RF [ct] 0x114b7ad47e8763fe015e188bbe7c573e8ed434028f337098932033).v
def iD : ACode := (.mk _ : RD [] 0x1977765e34f26632599e6caf56ed09a2cc4faad365b10f9abfca8da60d06596b1113771ee95059b003ea4decab9b58db62d33a2104b83d3db3f49566e1b3aed589b).v
attribute [local irreducible] iD
def jn : ACode := (.mk _ : RD [iD] 0x783815f241aaf94968cc19085eb9d4779af693a1e0111f9d74e0f120d31d094811392efbefc06818145e59086681d0288e11f47f2d057f26d2dbd69f6ae9cf90942c1662a27f4146995ead70610b870db3022a4ff877df8d78be068d5a0b3c779ebcfe2eb9a6b1da4712025a25c6ba6c67021e58bd2b089f0853).v
attribute [local irreducible] jn
def pd : AFn := (.mk _ : RF [iD, jn] 0x26d88e38ec1d68cf72f0112e33c71900b8720c5deeefd93fbd5487f58b3adae4d962d8d12640798).v
def jQ : AFn := (.mk _ : RF [] 0x403c7e5a3a220b77dc8ed39aa58564a7cc6ca46a3e29d24342ea5612a3753fa59453bc623f3cb153e4b7f6581275df495edc1e43df19341f96aec7901190df900e7de70b918e93b3fed96597d02e8413718760836d7ccdded4447ffe375efb1f5eafbd9fc6fa8b4384c2058575ee06f147887a99222dc6bef8d25d4133c2740fa759df562d931a660638).v
def gV : AFn := (.mk _ : RF [] 0x403c7e5a3a220b77dc8ed39aa58564a7cc6ca46a507c432c82f99a0835a457e98dff5c09923dac6ea63b8a6cf81d446333a89683df19341f96aec7901190df900e7de70b918e93b3fed96597d02e84137187608c7d0c6d2e18997eeb7eef2c0f9eb7bd9fc6fa8b4384c2058575ee06f14790ed41f3c2d4c2f8d25d4133c2740fa759df562d931a660638).v
def Qk : List (Option AFn) := [none, none, none, none, none, some Dw, some wU, some DD, some wD, some Do, some Dy, none, some DG, none, some Dr, some AG, none, some AR, none, some Av, some BZ, none, some Cc, none, some BN, none, none, none, none, none, some Fo, some AF, some yN, some yM, some Fp, some AQ, some yf, some ye, some Fm, some Au, some yx, some yy, some yG, some yH, some yn, some yo, some wK, some AI, some wP, some AT, some wF, some Ax, some BU, some B7, none, some BI, none, some AH, some tx, none, some AS, some pa, none, some Aw, some AB, some kI, some AM, some kG, none, some Aq, some AD, some AC, some Dv, some AO, some AN, some DC, some As, some Ar, some Dn, some B2, some yC, some Ce, some yj, some BP, some GW, some GX, some GV, some BS, some qz, some B5, some ny, some BG, some BT, some B6, some BH, some pk, some tv, none, some qv, some ov, none, some qS, some pT, none, some B1, some uI, some Cd, some uH, some BO, some DJ, some Dl, none, none, none, none, some mP, some mD, some dk, some dj, none, none, some yO, some yg, some lM, some lH, none, none, some yB, some BX, some vx, some yw, some BY, some yA, some yK, some Ca, some vz, some yF, some Cb, some yJ, some yr, some BL, some vv, some ym, some BM, some yq, some j5, some jL, some pq, some mz, some nO, some kH, some nM, some nl, some mM, some mA, none, none, some AU, some vB, some Am, some vt, some pw, some pg, some yu, some BV, some BW, some Dz, some yD, some B8, some B9, some DH, some yk, some BJ, some BK, some Ds, some mq, some ou, some nN, some qt, some jU, some lD, some jM, some iv, none, some ow, some DK, some oz, some qB, some og, some yi, some lk, some nu, some mN, some oD, some nD, some mB, some oq, some nr, some Ay, some Dx, some jr, some AJ, some DE, some DF, some yL, some An, some Dp, some Dq, some yt, some jz, some kV, some js, some mG, some jO, some qC, some kq, some mr, some pj, some ot, some mO, some kZ, some gW, some jh, some mC, some kW, some gT, some jg, some s6, some wL, some Du, some yz, some s7, some wQ, some DB, some yI, some s5, some wG, some Dm, some yp, some qA, some jV, some nw, some mF, some oA, some ii, some lI, some ol, some ig, some lB, some Az, some wM, some BQ, some DA, some AK, some wR, some B3, some DI, some Ao, some wH, some BE, some Dt, some jq, some BR, some vw, some AE, some B4, some vy, some AP, some BF, some vu, some At, some yv, some wN, some yE, some wS, some yl, some wI, some AA, some AL, some Ap, some wO, some wT, some wJ, none, none, none, none, none, none, none, none, none, some nV, none, some oQ, none, some jC, some jy, none, none, some ky, some ko, none, none, some ku, some kl, some jP, some iN, some wV, some wE, some gX, some ll, some iG, some mE, none, some gu, some mI, some qw, some gr, some mo, some qr, some jB, some ji, some gz, some cg, some j4, some gy, some kw, some py, some px, some nC, some jt, some km, some ph, some kY, some hU, some nq, some il, some oC, some cP, some kU, some iT, some cY, some tw, some pt, some lJ, some jA, some nv, some tu, some lC, some pn, some f9, some dW, none, some pe, some f8, none, some vA, some rW, some qy, none, none, some iH, none, none, none, none, none, none, none, some hS, some mH, some mn, some pp, some pf, some qx, some oB, some nB, some lK, some np, some lF, some qu, some om, some eD, some dZ, some pz, some mL, some dY, some kX, some mw, some ez, some jX, some mJ, some mK, some gY, some jT, some mt, some gq, some gU, some mQ, some nA, some lL, some iU, some io, some nn, some dO, some lG, some oh, some iq, some pm, some jW, some lE, some eH, some pd, some jQ, some gV]
def Ph (k : Nat) : Option AFn := (Qk[k]?).getD none
end Gi
