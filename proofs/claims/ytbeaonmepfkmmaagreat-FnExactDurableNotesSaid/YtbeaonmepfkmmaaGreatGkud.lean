/- Of this proof. -/
import Derived.Test.YtbeaonmepfkmmaaGreatGksd
set_option linter.unusedSimpArgs false
set_option linter.unusedVariables false
namespace Gi
open Go Go.RowKit
set_option maxHeartbeats 8000000
set_option maxRecDepth 4000
attribute [local simp] start pa a9 b6 cP dS cO dR d5 dZ pR p5 pS p6 pT p7 pU p8 pV p9 pW qa pX qb pY qc pZ qd V.cells plain bf fO isInt isStr isBool bin bN gA bO gB dV un asList L.view av V.view viewL aR aw bS bq bE comp aK bv cL bK bj bh bi aB aq aH am az aW ap aY bH aI bm bo V.flat L.flat cX cN br putAt thaw thawL thawT V.ow dY cR cS bQ dX bR cQ freezeVs freezeLs freezeL V.mut L.mut aJ cy fQ aX bu aP dN co bG cJ L.ren aM dd bP dq bF bB wp_seq wp_block aV cV bT bt bU wp_skip wp_exit wp_ret ce b9 ct cf cF cG cE bJ aL L.notArr bA bw bz cT b8 storeD aT eS bc bZ aU mf L.mov L.closed V.closed PV.bare PV.flat
abbrev v3 (n k:Int)(b:Bool):V:= .tup [(false,[.pv (.int .i64 n)]),(false,[.pv (.int .i64 k)]),(false,[.pv (.bool b)])]
def qE (D:List UInt8)(a:Nat):V:=match qS D with
 |some (n,k)=>v3 n (a+k:Nat) true
 |none=>v3 0 0 false
def Tb (D:List UInt8)(k:Nat):Bool:=match D[k]? with
 |some b=>bX b.toNat 128
 |none=>false
theorem KT {D:List UInt8}{k:Nat}(h:k<D.length):Tb D k=bX D[k].toNat 128:=by simp[Tb,h]
theorem Qd {D:List UInt8}{k:Nat}(h:k<D.length)(e:Tb D k=false):128≤D[k].toNat:=by
 rw[KT h]at e
 have:=of_decide_eq_false e
 omega
theorem MQ {D:List UInt8}{k:Nat}(hk:k<D.length)(h6:k<6)(hp:∀j,j<k→Tb D j=false)(hx:D[k].toNat<128):
 qS D=if 0<k∧D[k].toNat=0 then none else if m5 (D.take (k+1))≤1000000000000 then some (m5 (D.take (k+1)),k+1)else none:=by
 have e:=ML 6 k false D hk h6 (fun j hj hjk=>Qd hj (hp j hjk)) hx
 unfold qS
 rw[e]
 by_cases c:0<k∧D[k].toNat=0<;>simp[c]
theorem MP {D:List UInt8}(hp:∀j,j<min 6 D.length→Tb D j=false):qS D=none:=by
 unfold qS
 rw[Jj 6 false D fun j hj h6=>Qd hj (hp j (by omega))]
theorem EE {D:List UInt8}{k:Nat}(h:k<D.length):m5 (D.take (k+1))=m5 (D.take k)+D[k].toNat%128*128^k:=by
 rw[List.take_succ_eq_append_getElem h,ED,List.length_take,Nat.min_eq_left (by omega)]
theorem GK {k:Nat}(h:k<6):128^k≤34359738368∧(128:Nat)^(k+1)=128^k*128:=by
 refine⟨Nat.le_trans (Nat.pow_le_pow_right (by decide) (show k≤5 by omega)) (by decide),Nat.pow_succ ..⟩
theorem T7 {x k:Nat}(hx:x<128)(hk:k<6):ii .shl .i64 (x:Int) (7*(k:Int))=some (aa .i64 ((x*128^k:Nat):Int)):=by
 have h1:=(GK hk).1
 have e:(min (7*(k:Int)).toNat IntKind.i64.bits)=7*k:=by show min _ 64=_;omega
 simp only[ii]
 rw[if_neg (by omega)]
 simp only[e]
 have e2:((2:Int)^(7*k))=((128^k:Nat):Int):=by rw[Int.pow_mul];simp
 have h2:x*128^k≤127*34359738368:=Nat.mul_le_mul (by omega) h1
 have q:IntKind.i64.wrap ((x*128^k:Nat):Int)=((x*128^k:Nat):Int):=by
  generalize x*128^k=g at*
  rw[IntKind.wrap_i64];omega
 rw[e2,←Int.natCast_mul,q]
theorem U5 {n x k:Nat}(hn:n<128^k)(hx:x<128)(hk:k<6):IntKind.i64.wrap ((BitVec.ofInt IntKind.i64.bits (n:Int)|||BitVec.ofInt IntKind.i64.bits ((x*128^k:Nat):Int)).toNat:Int)=((n+x*128^k:Nat):Int):=by
 have h1:=(GK hk).1
 have h2:x*128^k≤127*34359738368:=Nat.mul_le_mul (by omega) h1
 have h3:(128:Nat)^k=2^(7*k):=by rw[Nat.pow_mul]
 have e3:=Nat.two_pow_add_eq_or_of_lt (i:=7*k) (b:=n) (by rw[←h3];exact hn) x
 rw[←h3,Nat.mul_comm _ x]at e3
 generalize x*128^k=g at*
 have e1:(BitVec.ofInt IntKind.i64.bits (n:Int)).toNat=n:=by
  show(BitVec.ofInt 64 (n:Int)).toNat=n
  simp[BitVec.toNat_ofInt];omega
 have e2:(BitVec.ofInt IntKind.i64.bits (g:Int)).toNat=g:=by
  show(BitVec.ofInt 64 (g:Int)).toNat=g
  simp[BitVec.toNat_ofInt];omega
 rw[BitVec.toNat_or,e1,e2,Nat.or_comm,←e3,IntKind.wrap_i64]
 omega
theorem wE {s D:List UInt8}{a k:Nat}(hD:s.drop a=D)(hk:k<D.length):(ag s)[a+k]? =some [.int .u8 D[k].toNat]∧a+k<s.length:=by
 subst hD
 have:a+k<s.length:=by simp at hk;omega
 refine⟨?_,this⟩
 rw[mN this];simp
theorem Jm {D:List UInt8}{a k m x:Nat}(h:qS D=if 0<k∧x=0 then none else if m≤1000000000000 then some (m,k+1)else none):
 qE D a=if(decide (0<k)&&decide (x=0))||decide (1000000000000<m)then v3 0 0 false else v3 m (a+(k+1):Nat) true:=by
 unfold qE
 rw[h]
 by_cases c:0<k∧x=0
 ·simp[c]
 ·by_cases d:m≤1000000000000
  ·have d':¬1000000000000<m:=by omega
   rw[if_neg c,if_pos d]
   simp[d']
   intro q;exact fun e=>(c ⟨q,e⟩).elim
  ·have d':1000000000000<m:=by omega
   rw[if_neg c,if_neg d]
   simp[d']
theorem cH {s:List UInt8}(hl:s.length≤1048576){a:Nat}(ha:a≤1048576):ah Ph aN 579 [aQ (ag s),aa .i64 a]=some (qE (s.drop a) a):=by
 have a1:bX (a:Int) 0=false:=fK (by omega)
 by_cases h:s.length≤a
 ·have a2:bX (a:Int) (s.length:Int)=false:=fK (by omega)
  have e:qE (s.drop a) a=v3 0 0 false:=by rw[List.drop_eq_nil_of_le h];rfl
  rw[e]
  refine ae (fn:=gr) rfl ?_
  simp +contextual (maxSteps:=9999999) [gr,a1,a2,aj]
 have a2:bX (a:Int) (s.length:Int)=true:=dW (by omega)
 generalize hD:s.drop a=D
 have hDl:D.length=s.length-a:=by rw[←hD];simp
 refine ae (fn:=gr) rfl ?_
 simp(maxSteps:=9999999) [gr,a1,a2,aj]
 refine bD cC Cl.fin [.t,.t,.f,.f,.f,.f,.f,.t,.t,.f,.f,.f,.f,.f,.f,.f,.f,.f,.f,.f,.f,.f,.f,.f,.f,.f,.f,.f,.f,.f,.f,.f,.f,.f,.f,.f,.f,.f,.f,.f,.f,.f,.f,.f,.f,.f,.f,.f,.f,.f,.f,.f,.f,.f,.f,.f,.f,.f,.f,.f,.f] (fun k=>[(7,aa .i64 (m5 (D.take k):Nat)),(8,aa .i64 k)]) (min 6 D.length) (Tb D) rfl (by simp[m5]) (fun k hk hp=> ?_) (fun hp _=> ?_)
 ·have h6:k<6:=by omega
  have hkD:k<D.length:=by omega
  obtain⟨g1,g2⟩:=wE hD hkD
  have c1:bX (k:Int) 6=true:=dW (by omega)
  have c2:bX ((a:Int)+(k:Int)) (s.length:Int)=true:=dW (by omega)
  have w1:IntKind.i64.wrap ((a:Int)+(k:Int))=(a:Int)+(k:Int):=by rw[IntKind.wrap_i64];omega
  have w2:((a:Int)+(k:Int)).toNat=a+k:=by omega
  have w3:(0:Int)≤(a:Int)+(k:Int):=by omega
  have w4:=tg D[k]
  have w5:IntKind.i64.wrap (7*(k:Int))=7*(k:Int):=by rw[IntKind.wrap_i64];omega
  have w6:IntKind.i64.wrap ((k:Int)+1)=(k:Int)+1:=by rw[IntKind.wrap_i64];omega
  have w7:IntKind.i64.wrap ((a:Int)+((k:Int)+1))=(a:Int)+((k:Int)+1):=by rw[IntKind.wrap_i64];omega
  have hx:=D[k].toNat_lt
  have s1:=T7 (x:=D[k].toNat%128) (by omega) h6
  have s2:=EE hkD
  have s3:=vy (D.take k)
  rw[List.length_take,Nat.min_eq_left (by omega)]at s3
  have s4:=GK h6
  have s5:m5 (D.take (k+1))<128^(k+1):=by have:=vy (D.take (k+1));rwa[List.length_take,Nat.min_eq_left (by omega)]at this
  have s6:=fun hx=>Jm (a:=a) (MQ hkD h6 hp hx)
  have lb:=KT hkD
  have r1:(D[k].toNat:Int).tmod 128=((D[k].toNat%128:Nat):Int):=by rw[Int.tmod_eq_emod_of_nonneg (by omega)];omega
  generalize m5 (D.take (k+1))=m at*
  generalize m5 (D.take k)=n at*
  generalize hy:D[k].toNat%128=y at*
  generalize y*128^k=g at*
  generalize D[k].toNat=x at*
  have s8:IntKind.i64.wrap ((n:Int)+(g:Int))=(m:Int):=by rw[IntKind.wrap_i64];omega
  rw[lb]
  cases hc:bX (x:Int) 128 with
  |false=>simp(maxSteps:=9999999) [d9,a1,c1,c2,w1,w2,w3,w4,w5,w6,s8,g1,r1,s1,hc,aj]
  |true=>
   rw[s6 (by have:=of_decide_eq_true hc;omega)]
   have b1:bX 0 (k:Int)=decide (0<k):=decide_eq_decide.2 (by omega)
   have b2:((x:Int)==0)=decide (x=0):=by rw[Bool.eq_iff_iff];simp
   have b3:bX 1000000000000 (m:Int)=decide (1000000000000<m):=decide_eq_decide.2 (by omega)
   generalize decide (0<k)=p1 at b1⊢
   generalize decide (x=0)=p2 at b2⊢
   generalize decide (1000000000000<m)=p3 at b3⊢
   cases p1<;>cases p2<;>cases p3<;>simp(maxSteps:=9999999) [d9,a1,c1,c2,w1,w2,w3,w4,w5,w7,s8,g1,r1,s1,hc,b1,b2,b3,aj,Int.add_assoc]
 ·have ev:qE D a=v3 0 0 false:=by unfold qE;rw[MP hp]
  rw[ev]
  by_cases h6:6≤D.length
  ·have hm:min 6 D.length=6:=by omega
   have c1:bX 6 6=false:=rfl
   rw[hm]
   simp(maxSteps:=9999999) [d9,c1]
  ·have hm:min 6 D.length=D.length:=by omega
   have c1:bX (D.length:Int) 6=true:=dW (by omega)
   have c2:bX ((a:Int)+(D.length:Int)) (s.length:Int)=false:=fK (by omega)
   have w1:IntKind.i64.wrap ((a:Int)+(D.length:Int))=(a:Int)+(D.length:Int):=by rw[IntKind.wrap_i64];omega
   rw[hm]
   simp(maxSteps:=9999999) [d9,a1,c1,c2,w1,aj]
theorem dx {s:List UInt8}(hl:s.length≤1048576){a:Nat}(ha:a≤1048576):ah Ph aN 573 [aQ (ag s),aa .i64 a]=some (qE (s.drop a) a):=by
 have a1:bX (a:Int) 0=false:=fK (by omega)
 generalize hD:s.drop a=D
 have hDl:D.length=s.length-a:=by rw[←hD];simp
 refine ae (fn:=kT) rfl ?_
 simp(maxSteps:=9999999) [kT,a1,aj]
 refine bD cC Cl.fin [.t,.t,.f,.f,.f,.f,.f,.t,.t,.f,.f,.f,.f,.f,.f,.f,.f,.f,.f,.f,.f,.f,.f,.f,.f,.f,.f,.f,.f,.f,.f,.f,.f,.f,.f,.f,.f,.f,.f,.f,.f,.f,.f,.f,.f,.f,.f,.f,.f,.f,.f,.f,.f,.f,.f] (fun k=>[(7,aa .i64 (m5 (D.take k):Nat)),(8,aa .i64 k)]) (min 6 D.length) (Tb D) rfl (by simp[m5]) (fun k hk hp=> ?_) (fun hp _=> ?_)
 ·have h6:k<6:=by omega
  have hkD:k<D.length:=by omega
  obtain⟨g1,g2⟩:=wE hD hkD
  have c1:bX (k:Int) 6=true:=dW (by omega)
  have c2:bX (a:Int) ((s.length:Int)-(k:Int))=true:=dW (by omega)
  have c3:IntKind.i64.wrap ((s.length:Int)-(k:Int))=(s.length:Int)-(k:Int):=by rw[IntKind.wrap_i64];omega
  have w1:IntKind.i64.wrap ((a:Int)+(k:Int))=(a:Int)+(k:Int):=by rw[IntKind.wrap_i64];omega
  have w2:((a:Int)+(k:Int)).toNat=a+k:=by omega
  have w3:(0:Int)≤(a:Int)+(k:Int):=by omega
  have w4:=tg D[k]
  have w5:IntKind.i64.wrap (7*(k:Int))=7*(k:Int):=by rw[IntKind.wrap_i64];omega
  have w6:IntKind.i64.wrap ((k:Int)+1)=(k:Int)+1:=by rw[IntKind.wrap_i64];omega
  have w7:IntKind.i64.wrap ((a:Int)+((k:Int)+1))=(a:Int)+((k:Int)+1):=by rw[IntKind.wrap_i64];omega
  have hx:=D[k].toNat_lt
  have s1:=T7 (x:=D[k].toNat%128) (by omega) h6
  have s2:=EE hkD
  have s3:=vy (D.take k)
  rw[List.length_take,Nat.min_eq_left (by omega)]at s3
  have s4:=GK h6
  have s5:m5 (D.take (k+1))<128^(k+1):=by have:=vy (D.take (k+1));rwa[List.length_take,Nat.min_eq_left (by omega)]at this
  have s6:=fun hx=>Jm (a:=a) (MQ hkD h6 hp hx)
  have lb:=KT hkD
  have r1:=Pp (n:=D[k].toNat) (by omega)
  have s8:=U5 (n:=m5 (D.take k)) (x:=D[k].toNat%128) s3 (by omega) h6
  rw[←s2]at s8
  generalize m5 (D.take (k+1))=m at*
  generalize m5 (D.take k)=n at*
  generalize hy:D[k].toNat%128=y at*
  generalize y*128^k=g at*
  generalize D[k].toNat=x at*
  rw[lb]
  cases hc:bX (x:Int) 128 with
  |false=>simp(maxSteps:=9999999) [ee,a1,c1,c2,c3,w1,w2,w3,w4,w5,w6, ↓s8,g1, ↓r1,s1,hc,aj]
  |true=>
   rw[s6 (by have:=of_decide_eq_true hc;omega)]
   have b1:bX 0 (k:Int)=decide (0<k):=decide_eq_decide.2 (by omega)
   have b2:((x:Int)==0)=decide (x=0):=by rw[Bool.eq_iff_iff];simp
   have b3:bX 1000000000000 (m:Int)=decide (1000000000000<m):=decide_eq_decide.2 (by omega)
   generalize decide (0<k)=p1 at b1⊢
   generalize decide (x=0)=p2 at b2⊢
   generalize decide (1000000000000<m)=p3 at b3⊢
   cases p1<;>cases p2<;>cases p3<;>simp(maxSteps:=9999999) [ee,a1,c1,c2,c3,w1,w2,w3,w4,w5,w7, ↓s8,g1, ↓r1,s1,hc,b1,b2,b3,aj,Int.add_assoc]
 ·have ev:qE D a=v3 0 0 false:=by unfold qE;rw[MP hp]
  rw[ev]
  by_cases h6:6≤D.length
  ·have hm:min 6 D.length=6:=by omega
   have c1:bX 6 6=false:=rfl
   rw[hm]
   simp(maxSteps:=9999999) [ee,c1]
  ·have hm:min 6 D.length=D.length:=by omega
   have c1:bX (D.length:Int) 6=true:=dW (by omega)
   have c2:bX (a:Int) ((s.length:Int)-(D.length:Int))=false:=fK (by omega)
   have w1:IntKind.i64.wrap ((s.length:Int)-(D.length:Int))=(s.length:Int)-(D.length:Int):=by rw[IntKind.wrap_i64];omega
   rw[hm]
   simp(maxSteps:=9999999) [ee,a1,c1,c2,w1,aj]
def qR (D:List UInt8)(a m:Nat):V:=match AH m D with
 |some (b,k)=> .tup [(false,[.own 1 (ag b)]),(false,[.pv (.int .i64 (a+k:Nat))]),(false,[.pv (.bool true)])]
 |none=> .tup [(false,[.own 1 []]),(false,[.pv (.int .i64 0)]),(false,[.pv (.bool false)])]
theorem Qv {D:List UInt8}{n k:Nat}(h:qS D=some (n,k))(m:Nat):AH m D=if n≤m∧n≤D.length-k then some ((D.drop k).take n,k+n)else none:=by
 have hk:=(kC h).2.1
 unfold AH Qu
 rw[h]
 by_cases c:n≤D.length-k
 ·have e:((D.drop k).take n).length=n:=by simp;omega
  by_cases d:n≤m<;>simp[c,d,e]
 ·simp[c]
theorem zz (s:List UInt8)(i n:Nat):((ag s).drop i).take n=ag ((s.drop i).take n):=by
 unfold ag
 rw[←List.map_drop,←List.map_take]
theorem cu {s:List UInt8}(hl:s.length≤1048576){a:Nat}(ha:a≤s.length){m:Nat}(hm:m≤1048576):ah Ph aN 578 [aQ (ag s),aa .i64 a,aa .i64 m]=some (qR (s.drop a) a m):=by
 have e1:=cH hl (a:=a) (by omega)
 generalize hD:s.drop a=D at*
 have hDl:D.length=s.length-a:=by rw[←hD];simp
 have ws:=ej s
 cases e:qS D with
 |none=>
  have e2:qR D a m= .tup [(false,[.own 1 []]),(false,[.pv (.int .i64 0)]),(false,[.pv (.bool false)])]:=by simp[qR,AH,Qu,e]
  simp only[qE,e]at e1
  rw[e2]
  refine ae (fn:=dG) rfl ?_
  simp +contextual (maxSteps:=9999999) [dG,e1,aj]
 |some p=>
  obtain⟨n,k⟩:=p
  obtain⟨k1,k2,k3⟩:=kC e
  have e2:=Qv e m
  simp only[qE,e]at e1
  have b1:bX (m:Int) (n:Int)=decide (m<n):=decide_eq_decide.2 (by omega)
  have w1:IntKind.i64.wrap ((s.length:Int)-((a:Int)+(k:Int)))=((D.length-k:Nat):Int):=by rw[IntKind.wrap_i64];omega
  have b2:bX ((D.length-k:Nat):Int) (n:Int)=decide (D.length-k<n):=decide_eq_decide.2 (by omega)
  by_cases c:n≤m∧n≤D.length-k
  ·have d1:¬m<n:=by omega
   have d2:¬D.length-k<n:=by omega
   have hc:=zz s (a+k) n
   rw[show(s.drop (a+k))=D.drop k by rw[←hD,List.drop_drop]]at hc
   have w2:IntKind.i64.wrap ((a:Int)+(k:Int)+(n:Int))=(a:Int)+(k:Int)+(n:Int):=by rw[IntKind.wrap_i64];omega
   have w3:((a:Int)+(k:Int)+(n:Int)).toNat=a+k+n:=by omega
   have w4:((a:Int)+(k:Int)).toNat=a+k:=by omega
   have w5:(0:Int)≤(a:Int)+(k:Int)∧(a:Int)+(k:Int)≤(a:Int)+(k:Int)+(n:Int)∧(a:Int)+(k:Int)+(n:Int)≤(s.length:Int):=by omega
   have hq:((D.drop k).take n).length=n:=by simp;omega
   have e3:qR D a m= .tup [(false,[.own 1 (ag ((D.drop k).take n))]),(false,[.pv (.int .i64 ((a:Int)+(k:Int)+(n:Int)))]),(false,[.pv (.bool true)])]:=by
    unfold qR;rw[e2,if_pos c];simp;omega
   rw[e3]
   generalize (D.drop k).take n=q at*
   have hf:=uS q
   have hw:=ej q
   have e4:=px (R:=ag q) ⟨hf,hw,by rw[aj];omega⟩
   refine ae (fn:=dG) rfl ?_
   simp +contextual (maxSteps:=9999999) [dG,e1,e4,b1,b2,d1,d2,w1,w2,w3,w4,w5,hc,hq,hf,hw, ↓ws,aj]
  ·have e3:qR D a m= .tup [(false,[.own 1 []]),(false,[.pv (.int .i64 0)]),(false,[.pv (.bool false)])]:=by
    unfold qR;rw[e2,if_neg c]
   rw[e3]
   by_cases d1:m<n
   ·(refine ae (fn:=dG) rfl ?_;simp +contextual (maxSteps:=9999999) [dG,e1,b1,b2,d1,w1,aj])
   ·have d2:D.length-k<n:=by omega
    refine ae (fn:=dG) rfl ?_
    simp +contextual (maxSteps:=9999999) [dG,e1,b1,b2,d1,d2,w1,aj]
theorem dP {s:List UInt8}(hl:s.length≤1048576){a:Nat}(ha:a≤s.length){m:Nat}(hm:m≤1048576):ah Ph aN 572 [aQ (ag s),aa .i64 a,aa .i64 m]=some (qR (s.drop a) a m):=by
 have e1:=dx hl (a:=a) (by omega)
 generalize hD:s.drop a=D at*
 have hDl:D.length=s.length-a:=by rw[←hD];simp
 have ws:=ej s
 cases e:qS D with
 |none=>
  have e2:qR D a m= .tup [(false,[.own 1 []]),(false,[.pv (.int .i64 0)]),(false,[.pv (.bool false)])]:=by simp[qR,AH,Qu,e]
  simp only[qE,e]at e1
  rw[e2]
  refine ae (fn:=dJ) rfl ?_
  simp +contextual (maxSteps:=9999999) [dJ,e1,aj]
 |some p=>
  obtain⟨n,k⟩:=p
  obtain⟨k1,k2,k3⟩:=kC e
  have e2:=Qv e m
  simp only[qE,e]at e1
  have b1:bX (m:Int) (n:Int)=decide (m<n):=decide_eq_decide.2 (by omega)
  have w1:IntKind.i64.wrap ((s.length:Int)-((a:Int)+(k:Int)))=((D.length-k:Nat):Int):=by rw[IntKind.wrap_i64];omega
  have b2:bX ((D.length-k:Nat):Int) (n:Int)=decide (D.length-k<n):=decide_eq_decide.2 (by omega)
  by_cases c:n≤m∧n≤D.length-k
  ·have d1:¬m<n:=by omega
   have d2:¬D.length-k<n:=by omega
   have hc:=zz s (a+k) n
   rw[show(s.drop (a+k))=D.drop k by rw[←hD,List.drop_drop]]at hc
   have w2:IntKind.i64.wrap ((a:Int)+(k:Int)+(n:Int))=(a:Int)+(k:Int)+(n:Int):=by rw[IntKind.wrap_i64];omega
   have w3:((a:Int)+(k:Int)+(n:Int)).toNat=a+k+n:=by omega
   have w4:((a:Int)+(k:Int)).toNat=a+k:=by omega
   have w5:(0:Int)≤(a:Int)+(k:Int)∧(a:Int)+(k:Int)≤(a:Int)+(k:Int)+(n:Int)∧(a:Int)+(k:Int)+(n:Int)≤(s.length:Int):=by omega
   have hq:((D.drop k).take n).length=n:=by simp;omega
   have e3:qR D a m= .tup [(false,[.own 1 (ag ((D.drop k).take n))]),(false,[.pv (.int .i64 ((a:Int)+(k:Int)+(n:Int)))]),(false,[.pv (.bool true)])]:=by
    unfold qR;rw[e2,if_pos c];simp;omega
   rw[e3]
   generalize (D.drop k).take n=q at*
   have hf:=uS q
   have hw:=ej q
   have e4:n≤140737488355328∧n≤9223372036854775807:=by omega
   refine ae (fn:=dJ) rfl ?_
   simp +contextual (maxSteps:=9999999) [dJ,e1,e4,b1,b2,d1,d2,w1,w2,w3,w4,w5,hc,hq,hf,hw, ↓ws,aj]
  ·have e3:qR D a m= .tup [(false,[.own 1 []]),(false,[.pv (.int .i64 0)]),(false,[.pv (.bool false)])]:=by
    unfold qR;rw[e2,if_neg c]
   rw[e3]
   by_cases d1:m<n
   ·(refine ae (fn:=dJ) rfl ?_;simp +contextual (maxSteps:=9999999) [dJ,e1,b1,b2,d1,w1,aj])
   ·have d2:D.length-k<n:=by omega
    refine ae (fn:=dJ) rfl ?_
    simp +contextual (maxSteps:=9999999) [dJ,e1,b1,b2,d1,d2,w1,aj]
def oN (s:List UInt8)(a:Nat×List (List UInt8)):Option (Nat×List (List UInt8)):=match AH 4000 (s.drop a.1)with
 |none=>none
 |some (d,k)=>match qS (s.drop (a.1+k))with
  |none=>none
  |some (m,j)=>if(m:Int)=jY (101::(a.2.length:Int)::zc d)then some (a.1+k+j,a.2++[d])else none
def Pd (s:List UInt8):Nat→Nat×List (List UInt8)→Nat×List (List UInt8)
 |0,a=>a
 |f+1,a=>match oN s a with
  |none=>a
  |some b=>Pd s f b
def oO (s:List UInt8):Nat×List (List UInt8):=Pd s (s.length+1) (0,[])
theorem uZ {s:List UInt8}{a b:Nat×List (List UInt8)}(h:oN s a=some b):∃d k m j,AH 4000 (s.drop a.1)=some (d,k)∧qS (s.drop (a.1+k))=some (m,j)∧(m:Int)=jY (101::(a.2.length:Int)::zc d)∧
 b=(a.1+k+j,a.2++[d])∧a.1<b.1∧b.1≤s.length∧d.length≤4000:=by
 unfold oN at h
 split at h
 ·cases h
 ·rename_i d k e
  split at h
  ·cases h
  ·rename_i m j e2
   split at h
   ·rename_i e3
    cases h
    have h1:=jk (eH e).1
    have h2:=kC e2
    simp only[List.length_drop]at h1 h2
    exact⟨d,k,m,j,e,e2,e3,rfl,by show a.1<a.1+k+j;omega,by show a.1+k+j≤s.length;omega,(eH e).2⟩
   ·cases h
theorem Qb {s:List UInt8}{a:Nat×List (List UInt8)}(h:oN s a=none):∀f,Pd s f a=a
 |0=>rfl
 |f+1=>by simp only[Pd,h]
def Ta (s:List UInt8)(a:Nat×List (List UInt8)):Prop:=a.1≤s.length∧a.2.length≤a.1∧(∀d∈a.2,d.length≤4000)∧∃f,s.length<f+a.1∧Pd s f a=oO s
theorem Qc (s:List UInt8):Ta s (0,[]):=⟨Nat.zero_le _,Nat.le_refl _,fun d h=>absurd h (by simp),s.length+1,by show s.length<s.length+1+0;omega,rfl⟩
theorem sK {s:List UInt8}{a b:Nat×List (List UInt8)}(ia:Ta s a)(h:oN s a=some b):s.length-b.1<s.length-a.1∧Ta s b:=by
 obtain⟨h1,h2,h3,f,h4,h5⟩:=ia
 obtain⟨d,k,m,j,_,_,_,rfl,q1,q2,q3⟩:=uZ h
 simp only at q1 q2
 refine⟨by simp only;omega,q2,by simp only[List.length_append,List.length_singleton];omega,fun x hx=> ?_,?_⟩
 ·rcases List.mem_append.1 hx with hx|hx
  ·exact h3 x hx
  ·rw[List.mem_singleton.1 hx];exact q3
 ·cases f with
  |zero=>omega
  |succ f=>
   simp only[Pd,h]at h5
   exact⟨f,by simp only;omega,h5⟩
theorem Mr {s:List UInt8}{a:Nat×List (List UInt8)}(ia:Ta s a)(h:oN s a=none):oO s=a:=by
 obtain⟨h1,h2,h3,f,h4,h5⟩:=ia
 rw[←h5,Qb h]
theorem Ms (s:List UInt8):(oO s).1≤s.length∧(oO s).2.length≤(oO s).1∧∀d∈(oO s).2,d.length≤4000:=by
 have key:∀f a,Ta s a→(Pd s f a).1≤s.length∧(Pd s f a).2.length≤(Pd s f a).1∧∀d∈(Pd s f a).2,d.length≤4000:=by
  intro f
  induction f with
  |zero=>exact fun a ia=>⟨ia.1,ia.2.1,ia.2.2.1⟩
  |succ f ih=>
   intro a ia
   cases e:oN s a with
   |none=>simp only[Pd,e];exact⟨ia.1,ia.2.1,ia.2.2.1⟩
   |some b=>simp only[Pd,e];exact ih b (sK ia e).2
 exact key _ _ (Qc s)
def FB (b:List UInt8):List PV:=[.lst (ag b)]
def Oq (a:Nat×List (List UInt8)):V:= .tup [(false,[.own 1 (a.2.map FB)]),(false,[.pv (.int .i64 a.1)])]
theorem AE {s:List UInt8}(hl:s.length≤1048576):ah Ph aN 562 [aQ (ag s)]=some (Oq (oO s)):=by
 refine ae (fn:=oE) rfl ?_
 simp(maxSteps:=9999999) [oE]
 refine nK cC Cl.fin [.t,.f,.f,.f,.t,.t,.f,.f,.f,.f,.f,.f,.f,.f,.f,.f,.f,.f,.f,.f,.f,.f,.f,.f,.f,.f,.f,.f,.f,.f,.f,.f,.f,.f,.f,.f,.f,.f,.f,.f,.f,.f,.f,.f,.f,.f,.f,.f] (fun a=>[(4, .one (.arr 0)),(5,aa .i64 (a.1:Nat))]) (fun a=>[.arr 1 (a.2.map FB)]) (oN s) (fun a=>s.length-a.1) (Ta s) (0,[]) (Qc s) rfl (by simp) (fun a b ia ha=> ?_) (fun a ia ha=> ?_)
 ·obtain⟨a,l⟩:=a
  refine⟨(sK ia ha).1,(sK ia ha).2,?_⟩
  obtain⟨h1,h2,h3,_⟩:=ia
  obtain⟨d,k,m,j,e1,e2,e3,rfl,q1,q2,q3⟩:=uZ ha
  simp only at h1 h2 h3 e1 e2 e3 q1 q2⊢
  have r1:=cu hl h1 (m:=4000) (by omega)
  rw[show(((4000:Nat):Int))=4000 from rfl]at r1
  simp only[qR,e1]at r1
  have r2:=cH hl (a:=a+k) (by omega)
  rw[Int.natCast_add]at r2
  simp only[qE,e2]at r2
  have r3:=qw (s:=d) (by omega) (l.length:Int)
  rw[←e3]at r3
  have m1:=iz (m:=l.length+1) (z:=24) (by omega) (by omega)
  have hm:(l++[d]).map FB=l.map FB++[[.lst (ag d)]]:=by simp[FB]
  have c1:bX (a:Int) (s.length:Int)=true:=dW (by omega)
  generalize hW:l.map FB=W at*
  have hWl:W.length=l.length:=by rw[←hW];simp
  generalize hU:(l++[d]).map FB=W' at*
  subst hm
  simp(maxSteps:=9999999) [fW,r1,r2,r3,m1,hWl,c1,aj,-cy]
  exact Kn.of [2] (by decide) (by simp) (by simp)
 ·obtain⟨a,l⟩:=a
  rw[Mr ia ha]
  obtain⟨h1,h2,h3,_⟩:=ia
  simp only at h1 h2 h3⊢
  have r1:=cu hl h1 (m:=4000) (by omega)
  rw[show(((4000:Nat):Int))=4000 from rfl]at r1
  unfold Oq
  simp only
  generalize hW:l.map FB=W at*
  have hWl:W.length=l.length:=by rw[←hW];simp
  unfold oN at ha
  simp only at ha
  cases e1:AH 4000 (s.drop a)with
  |none=>
   simp only[qR,e1]at r1
   simp(maxSteps:=9999999) [fW,r1,aj]
  |some p=>
   obtain⟨d,k⟩:=p
   simp only[qR,e1]at r1 ha
   have h4:=jk (eH e1).1
   have h5:=(eH e1).2
   simp only[List.length_drop]at h4
   have r2:=cH hl (a:=a+k) (by omega)
   rw[Int.natCast_add]at r2
   cases e2:qS (s.drop (a+k))with
   |none=>
    simp only[qE,e2]at r2
    simp(maxSteps:=9999999) [fW,r1,r2,aj]
   |some q=>
    obtain⟨m,j⟩:=q
    simp only[qE,e2]at r2 ha
    have r3:=qw (s:=d) (by omega) (l.length:Int)
    split at ha
    ·cases ha
    ·rename_i e3
     have e4:((m:Int)==jY (101::(l.length:Int)::zc d))=false:=beq_eq_false_iff_ne.2 e3
     generalize jY (101::(l.length:Int)::zc d)=hv at*
     simp(maxSteps:=9999999) [fW,r1,r2,r3,e4,hWl,aj]
theorem AN {s:List UInt8}(hl:s.length≤1048576):ah Ph aN 559 [aQ (ag s)]=some (Oq (oO s)):=by
 refine ae (fn:=oI) rfl ?_
 simp(maxSteps:=9999999) [oI]
 refine nK cC Cl.fin [.t,.f,.f,.f,.t,.t,.f,.f,.f,.f,.f,.f,.f,.f,.f,.f,.f,.f,.f,.f,.f,.f,.f,.f,.f,.f,.f,.f,.f,.f,.f,.f,.f,.f,.f,.f,.f,.f,.f,.f,.f,.f,.f,.f,.f,.f,.f,.f,.f,.f] (fun a=>[(4, .one (.arr 0)),(5,aa .i64 (a.1:Nat))]) (fun a=>[.arr 1 (a.2.map FB)]) (oN s) (fun a=>s.length-a.1) (Ta s) (0,[]) (Qc s) rfl (by simp) (fun a b ia ha=> ?_) (fun a ia ha=> ?_)
 ·obtain⟨a,l⟩:=a
  refine⟨(sK ia ha).1,(sK ia ha).2,?_⟩
  obtain⟨h1,h2,h3,_⟩:=ia
  obtain⟨d,k,m,j,e1,e2,e3,rfl,q1,q2,q3⟩:=uZ ha
  simp only at h1 h2 h3 e1 e2 e3 q1 q2⊢
  have r1:=dP hl h1 (m:=4000) (by omega)
  rw[show(((4000:Nat):Int))=4000 from rfl]at r1
  simp only[qR,e1]at r1
  have r2:=dx hl (a:=a+k) (by omega)
  rw[Int.natCast_add]at r2
  simp only[qE,e2]at r2
  have r3:=qI (s:=d) (by omega) (l.length:Int)
  rw[←e3]at r3
  have m1:=iz (m:=l.length+1) (z:=24) (by omega) (by omega)
  have hm:(l++[d]).map FB=l.map FB++[[.lst (ag d)]]:=by simp[FB]
  have c1:bX (a:Int) (s.length:Int)=true:=dW (by omega)
  generalize hW:l.map FB=W at*
  have hWl:W.length=l.length:=by rw[←hW];simp
  generalize hU:(l++[d]).map FB=W' at*
  subst hm
  simp(maxSteps:=9999999) [ff,r1,r2,r3,m1,hWl,c1,aj,-cy]
  exact Kn.of [2] (by decide) (by simp) (by simp)
 ·obtain⟨a,l⟩:=a
  rw[Mr ia ha]
  obtain⟨h1,h2,h3,_⟩:=ia
  simp only at h1 h2 h3⊢
  have r1:=dP hl h1 (m:=4000) (by omega)
  rw[show(((4000:Nat):Int))=4000 from rfl]at r1
  unfold Oq
  simp only
  generalize hW:l.map FB=W at*
  have hWl:W.length=l.length:=by rw[←hW];simp
  unfold oN at ha
  simp only at ha
  by_cases c:s.length≤a
  ·have c1:bX (a:Int) (s.length:Int)=false:=fK (by omega)
   simp(maxSteps:=9999999) [ff,c1,aj]
  have c1:bX (a:Int) (s.length:Int)=true:=dW (by omega)
  cases e1:AH 4000 (s.drop a)with
  |none=>
   simp only[qR,e1]at r1
   simp(maxSteps:=9999999) [ff,r1,c1,aj]
  |some p=>
   obtain⟨d,k⟩:=p
   simp only[qR,e1]at r1 ha
   have h4:=jk (eH e1).1
   have h5:=(eH e1).2
   simp only[List.length_drop]at h4
   have r2:=dx hl (a:=a+k) (by omega)
   rw[Int.natCast_add]at r2
   cases e2:qS (s.drop (a+k))with
   |none=>
    simp only[qE,e2]at r2
    simp(maxSteps:=9999999) [ff,r1,r2,c1,aj]
   |some q=>
    obtain⟨m,j⟩:=q
    simp only[qE,e2]at r2 ha
    have r3:=qI (s:=d) (by omega) (l.length:Int)
    split at ha
    ·cases ha
    ·rename_i e3
     have e4:((m:Int)==jY (101::(l.length:Int)::zc d))=false:=beq_eq_false_iff_ne.2 e3
     generalize jY (101::(l.length:Int)::zc d)=hv at*
     simp(maxSteps:=9999999) [ff,r1,r2,r3,e4,hWl,c1,aj]
def ua (r:XRecord):V:=cond (cI r.fs) (aQ (ag (nT r))) (.one (.own 1 []))
theorem vm (r:XRecord):cX (ua r)=aQ (ag (nT r)):=by
 unfold ua
 cases c:cI r.fs
 ·simp[nT,c,cX,cN,ag]
 ·rfl
theorem m8 {r:XRecord}(h:r.Ok maxLen):ah Ph aN 226 [r.v]=some (ua r):=by
 have e1:=ir h
 unfold ua
 refine ae (fn:=hZ) rfl ?_
 cases c1:cI r.fs<;>rw[c1]at e1
 ·simp(maxSteps:=9999999) [hZ,e1]
 obtain⟨hf,ho⟩:=mP (r:=r) c1
 have e2:=eY (b:=[]) (by simp) (n:=r.fs.length) (by omega)
 rw[List.nil_append,show ag []=[]from rfl]at e2
 simp(maxSteps:=9999999) [hZ,e1,e2]
 refine bD cC Cl.fin [.f,.f,.f,.t,.f,.f,.f,.f,.f,.f,.f,.f,.f,.f,.f,.t,.t,.t,.f,.f,.f,.f,.f,.f,.f,.f,.f,.f,.f,.f,.f] (fun k=>[(3,aQ (ag (jo r.fs.length++fR (r.fs.take k)))),(17,aa .i64 k)]) r.fs.length (fun _=>false) rfl (by simp[fR]) (fun k hk _=> ?_) (fun _ _=> ?_)
 ·have hx:=XField.e.eq_1 r.fs[k]
  have hq:=ho _ (List.getElem_mem hk)
  have l1:=jn r.fs.length
  have l2:=tA (r.fs.take k) (fun f hf=>ho f (List.mem_of_mem_take hf))
  have l3:(r.fs.take k).length≤6:=by rw[List.length_take];omega
  have l4:=jn r.fs[k].name.length
  have e3:=nM (b:=jo r.fs.length++fR (r.fs.take k)) (s:=r.fs[k].name) (by rw[List.length_append];omega) (by have:=hq.1;omega)
  have e4:=eY (b:=jo r.fs.length++fR (r.fs.take k)++mc r.fs[k].name) (by simp only[List.length_append,mc];have:=hq.1;omega) (n:=r.fs[k].n.toNat) (by have:=hq.2.2;omega)
  rw[show((r.fs[k].n.toNat:Nat):Int)=r.fs[k].n by have:=hq.2.1;omega]at e4
  have ht:fR (r.fs.take (k+1))=fR (r.fs.take k)++(mc r.fs[k].name++jo r.fs[k].n.toNat):=by
   unfold fR;rw[List.take_succ_eq_append_getElem hk,List.flatMap_append];simp[NI]
  have ha:jo r.fs.length++fR (r.fs.take (k+1))=jo r.fs.length++fR (r.fs.take k)++mc r.fs[k].name++jo r.fs[k].n.toNat:=by rw[ht];simp
  rw[ha]
  generalize jo r.fs.length++fR (r.fs.take k)=W at e3 e4⊢
  generalize W++mc r.fs[k].name=W2 at e3 e4⊢
  generalize W2++jo r.fs[k].n.toNat=W3 at e4⊢
  simp(maxSteps:=9999999) [gv,hk,hx,e3,e4,bW h.1 hk,cB hk]
 ·have he:nT r=jo r.fs.length++fR r.fs:=by simp[nT,c1]
  rw[he]
  simp(maxSteps:=9999999) [gv]
theorem sZ {r:XRecord}(h:r.Ok maxLen):ah Ph aN 222 [r.v]=some (ua r):=by
 have e1:=fj h
 unfold ua
 refine ae (fn:=ib) rfl ?_
 cases c1:cI r.fs<;>rw[c1]at e1
 ·simp(maxSteps:=9999999) [ib,e1]
 obtain⟨hf,ho⟩:=mP (r:=r) c1
 have e2:=fa (b:=[]) (by simp) (n:=r.fs.length) (by omega)
 rw[List.nil_append,show ag []=[]from rfl]at e2
 simp(maxSteps:=9999999) [ib,e1,e2]
 refine bD cC Cl.fin [.f,.t,.f,.t,.t,.f,.f,.f,.f,.f,.f,.f,.f,.f,.f,.f,.f,.f,.f,.f,.f,.f,.f,.f,.f,.f,.f,.f,.f,.f,.f,.f,.f,.f,.f,.f,.f,.f] (fun k=>[(3,aQ (ag (jo r.fs.length++fR (r.fs.take k)))),(4,aa .i64 k)]) r.fs.length (fun _=>false) rfl (by simp[fR]) (fun k hk _=> ?_) (fun _ _=> ?_)
 ·have hx:=XField.e.eq_1 r.fs[k]
  have hq:=ho _ (List.getElem_mem hk)
  have l1:=jn r.fs.length
  have l2:=tA (r.fs.take k) (fun f hf=>ho f (List.mem_of_mem_take hf))
  have l3:(r.fs.take k).length≤6:=by rw[List.length_take];omega
  have l4:=jn r.fs[k].name.length
  have e3:=nP (b:=jo r.fs.length++fR (r.fs.take k)) (s:=r.fs[k].name) (by rw[List.length_append];omega) (by have:=hq.1;omega)
  have e4:=fa (b:=jo r.fs.length++fR (r.fs.take k)++mc r.fs[k].name) (by simp only[List.length_append,mc];have:=hq.1;omega) (n:=r.fs[k].n.toNat) (by have:=hq.2.2;omega)
  rw[show((r.fs[k].n.toNat:Nat):Int)=r.fs[k].n by have:=hq.2.1;omega]at e4
  have ht:fR (r.fs.take (k+1))=fR (r.fs.take k)++(mc r.fs[k].name++jo r.fs[k].n.toNat):=by
   unfold fR;rw[List.take_succ_eq_append_getElem hk,List.flatMap_append];simp[NI]
  have ha:jo r.fs.length++fR (r.fs.take (k+1))=jo r.fs.length++fR (r.fs.take k)++mc r.fs[k].name++jo r.fs[k].n.toNat:=by rw[ht];simp
  rw[ha]
  generalize jo r.fs.length++fR (r.fs.take k)=W at e3 e4⊢
  generalize W++mc r.fs[k].name=W2 at e3 e4⊢
  generalize W2++jo r.fs[k].n.toNat=W3 at e4⊢
  simp(maxSteps:=9999999) [gx,hk,hx,e3,e4,bW h.1 hk,cB hk]
 ·have he:nT r=jo r.fs.length++fR r.fs:=by simp[nT,c1]
  rw[he]
  simp(maxSteps:=9999999) [gx]
theorem pB {n:Int}(h1: -9223372036854775808≤n)(h2:n≤9223372036854775807):IntKind.i64.wrap n=n:=by rw[IntKind.wrap_i64];omega
theorem wrap_u8 (n:Int):IntKind.u8.wrap n=n%256:=by simp[IntKind.wrap,IntKind.signed,IntKind.bits]
theorem AK {x:Nat}{b:Int}{k:Nat}(hk:k≤63)(h:b=(k:Int)):ii .shr .i64 (x:Int) b=some (aa .i64 ((x/2^k:Nat):Int)):=by
 subst h
 simp only[ii]
 rw[if_neg (by omega),show min (Int.toNat (k:Int)) IntKind.i64.bits=k by rw[Int.toNat_natCast];exact Nat.min_eq_left (Nat.le_succ_of_le hk)]
 rw[Int.fdiv_eq_ediv_of_nonneg _ (Int.le_of_lt (Int.pow_pos (by decide)))]
 norm_cast
end Gi
