/- Of this proof. -/
import Derived.Test.YtebnmoogdmpepaaGreatGks
set_option linter.unusedSimpArgs false
set_option linter.unusedVariables false
namespace Gi
open Go Go.RowKit
set_option maxHeartbeats 8000000
set_option maxRecDepth 4000
attribute [local simp] start rB bj cf dG fp dF fo fx fw tJ tT tK tU tL tV tM tW tN tX tO tY tP tZ tQ t6 tR t7 V.cells plain bo gn isInt isStr isBool bin cC iT cD iU fq un asList L.view am V.view viewL aY ar cH bP bM comp aJ bH df bY bz bw bx bG bc ca aN bB aT aO bE cd bD bA bF V.flat L.flat dO di bv putAt thaw thawL thawT V.ow fv dK dL cE fu cF dJ freezeVs freezeLs freezeL V.mut L.mut aG ez ie aW bm aF dz bL bf bS L.ren aV dA ce dM bO bh wp_seq wp_block bt dP cI bR cJ wp_skip wp_exit wp_ret cA cy cP cB cW cX cV bX aM L.notArr aS aQ aR dN bp storeD aX fD br ct bd m9 L.mov L.closed V.closed PV.bare PV.flat
abbrev v3 (n k:Int)(b:Bool):V:= .tup [(false,[.pv (.int .i64 n)]),(false,[.pv (.int .i64 k)]),(false,[.pv (.bool b)])]
def Jg (D:List UInt8)(a:Nat):V:=match Ln D with
 |some (n,k)=>v3 n (a+k:Nat) true
 |none=>v3 0 0 false
def Ub (D:List UInt8)(k:Nat):Bool:=match D[k]? with
 |some b=>cQ b.toNat 128
 |none=>false
theorem MX {D:List UInt8}{k:Nat}(h:k<D.length):Ub D k=cQ D[k].toNat 128:=by simp[Ub,h]
theorem RB {D:List UInt8}{k:Nat}(h:k<D.length)(e:Ub D k=false):128≤D[k].toNat:=by
 rw[MX h]at e
 have:=of_decide_eq_false e
 omega
theorem Oz {D:List UInt8}{k:Nat}(hk:k<D.length)(h6:k<6)(hp:∀j,j<k→Ub D j=false)(hx:D[k].toNat<128):
 Ln D=if 0<k∧D[k].toNat=0 then none else if nY (D.take (k+1))≤1000000000000 then some (nY (D.take (k+1)),k+1)else none:=by
 have e:=Ox 6 k false D hk h6 (fun j hj hjk=>RB hj (hp j hjk)) hx
 unfold Ln
 rw[e]
 by_cases c:0<k∧D[k].toNat=0<;>simp[c]
theorem Oy {D:List UInt8}(hp:∀j,j<min 6 D.length→Ub D j=false):Ln D=none:=by
 unfold Ln
 rw[Lm 6 false D fun j hj h6=>RB hj (hp j (by omega))]
theorem Hx {D:List UInt8}{k:Nat}(h:k<D.length):nY (D.take (k+1))=nY (D.take k)+D[k].toNat%128*128^k:=by
 rw[Z5 h,Hw,Zy,Xh (by omega)]
theorem Je {k:Nat}(h:k<6):128^k≤34359738368∧(128:Nat)^(k+1)=128^k*128:=by
 refine⟨Zc (Nat.pow_le_pow_right (by decide) (show k≤5 by omega)) (by decide),Nat.pow_succ ..⟩
theorem UU {x k:Nat}(hx:x<128)(hk:k<6):jN .shl .i64 (x:Int) (7*(k:Int))=some (aa .i64 ((x*128^k:Nat):Int)):=by
 have h1:=(Je hk).1
 have e:(min (7*(k:Int)).toNat IntKind.i64.bits)=7*k:=by show min _ 64=_;omega
 simp only[jN]
 rw[if_neg (by omega)]
 simp only[e]
 have e2:((2:Int)^(7*k))=((128^k:Nat):Int):=by rw[Int.pow_mul];simp
 have h2:x*128^k≤127*34359738368:=Nat.mul_le_mul (by omega) h1
 have q:IntKind.i64.wrap ((x*128^k:Nat):Int)=((x*128^k:Nat):Int):=by
  generalize x*128^k=g at*
  rw[IntKind.wrap_i64];omega
 rw[e2,←Int.natCast_mul,q]
theorem VW {n x k:Nat}(hn:n<128^k)(hx:x<128)(hk:k<6):IntKind.i64.wrap ((BitVec.ofInt IntKind.i64.bits (n:Int)|||BitVec.ofInt IntKind.i64.bits ((x*128^k:Nat):Int)).toNat:Int)=((n+x*128^k:Nat):Int):=by
 have h1:=(Je hk).1
 have h2:x*128^k≤127*34359738368:=Nat.mul_le_mul (by omega) h1
 have h3:(128:Nat)^k=2^(7*k):=by rw[Nat.pow_mul]
 have e3:=Nat.two_pow_add_eq_or_of_lt (i:=7*k) (b:=n) (by rw[←h3];exact hn) x
 rw[←h3,Yy _ x]at e3
 generalize x*128^k=g at*
 have e1:(BitVec.ofInt IntKind.i64.bits (n:Int)).toNat=n:=by
  show(BitVec.ofInt 64 (n:Int)).toNat=n
  simp[BitVec.toNat_ofInt];omega
 have e2:(BitVec.ofInt IntKind.i64.bits (g:Int)).toNat=g:=by
  show(BitVec.ofInt 64 (g:Int)).toNat=g
  simp[BitVec.toNat_ofInt];omega
 rw[BitVec.toNat_or,e1,e2,Nat.or_comm,←e3,IntKind.wrap_i64]
 omega
theorem zh {s D:List UInt8}{a k:Nat}(hD:s.drop a=D)(hk:k<D.length):(ag s)[a+k]? =some [.int .u8 D[k].toNat]∧a+k<s.length:=by
 subst hD
 have:a+k<s.length:=by simp at hk;omega
 refine⟨?_,this⟩
 rw[xt this];simp
theorem Lo {D:List UInt8}{a k m x:Nat}(h:Ln D=if 0<k∧x=0 then none else if m≤1000000000000 then some (m,k+1)else none):
 Jg D a=if(decide (0<k)&&decide (x=0))||decide (1000000000000<m)then v3 0 0 false else v3 m (a+(k+1):Nat) true:=by
 unfold Jg
 rw[h]
 by_cases c:0<k∧x=0
 ·simp[c]
 ·by_cases d:m≤1000000000000
  ·have d':¬1000000000000<m:=by omega
   rw[if_neg c,if_pos d]
   simp[d']
   intro q;exact fun e=>(c ⟨q,e⟩).elim
  ·have d':1000000000000<m:=by omega
   rw[if_neg c,if_neg d]
   simp[d']
theorem kG {s:List UInt8}(hl:s.length≤1048576){a:Nat}(ha:a≤1048576):ah Ph au 579 [ba (ag s),aa .i64 a]=some (Jg (s.drop a) a):=by
 have a1:cQ (a:Int) 0=false:=kQ (by omega)
 by_cases h:s.length≤a
 ·have a2:cQ (a:Int) (s.length:Int)=false:=kQ (by omega)
  have e:Jg (s.drop a) a=v3 0 0 false:=by rw[List.drop_eq_nil_of_le h];rfl
  rw[e]
  refine ae (fn:=gK) rfl ?_
  simp +contextual (maxSteps:=9999999) [gK,a1,a2,ak]
 have a2:cQ (a:Int) (s.length:Int)=true:=hY (by omega)
 generalize hD:s.drop a=D
 have hDl:D.length=s.length-a:=by rw[←hD];simp
 refine ae (fn:=gK) rfl ?_
 simp(maxSteps:=9999999) [gK,a1,a2,ak]
 refine aC aU Cl.fin [.t,.t,.f,.f,.f,.f,.f,.t,.t,.f,.f,.f,.f,.f,.f,.f,.f,.f,.f,.f,.f,.f,.f,.f,.f,.f,.f,.f,.f,.f,.f,.f,.f,.f,.f,.f,.f,.f,.f,.f,.f,.f,.f,.f,.f,.f,.f,.f,.f,.f,.f,.f,.f,.f,.f,.f,.f,.f,.f,.f,.f] (fun k=>[(7,aa .i64 (nY (D.take k):Nat)),(8,aa .i64 k)]) (min 6 D.length) (Ub D) rfl (by simp[nY]) (fun k hk hp=> ?_) (fun hp _=> ?_)
 ·have h6:k<6:=by omega
  have hkD:k<D.length:=by omega
  obtain⟨g1,g2⟩:=zh hD hkD
  have c1:cQ (k:Int) 6=true:=hY (by omega)
  have c2:cQ ((a:Int)+(k:Int)) (s.length:Int)=true:=hY (by omega)
  have w1:IntKind.i64.wrap ((a:Int)+(k:Int))=(a:Int)+(k:Int):=by rw[IntKind.wrap_i64];omega
  have w2:((a:Int)+(k:Int)).toNat=a+k:=by omega
  have w3:(0:Int)≤(a:Int)+(k:Int):=by omega
  have w4:=JQ D[k]
  have w5:IntKind.i64.wrap (7*(k:Int))=7*(k:Int):=by rw[IntKind.wrap_i64];omega
  have w6:IntKind.i64.wrap ((k:Int)+1)=(k:Int)+1:=by rw[IntKind.wrap_i64];omega
  have w7:IntKind.i64.wrap ((a:Int)+((k:Int)+1))=(a:Int)+((k:Int)+1):=by rw[IntKind.wrap_i64];omega
  have hx:=D[k].toNat_lt
  have s1:=UU (x:=D[k].toNat%128) (by omega) h6
  have s2:=Hx hkD
  have s3:=xR (D.take k)
  rw[Zy,Xh (by omega)]at s3
  have s4:=Je h6
  have s5:nY (D.take (k+1))<128^(k+1):=by have:=xR (D.take (k+1));rwa[Zy,Xh (by omega)]at this
  have s6:=fun hx=>Lo (a:=a) (Oz hkD h6 hp hx)
  have lb:=MX hkD
  have r1:(D[k].toNat:Int).tmod 128=((D[k].toNat%128:Nat):Int):=by rw[Int.tmod_eq_emod_of_nonneg (by omega)];omega
  generalize nY (D.take (k+1))=m at*
  generalize nY (D.take k)=n at*
  generalize hy:D[k].toNat%128=y at*
  generalize y*128^k=g at*
  generalize D[k].toNat=x at*
  have s8:IntKind.i64.wrap ((n:Int)+(g:Int))=(m:Int):=by rw[IntKind.wrap_i64];omega
  rw[lb]
  cases hc:cQ (x:Int) 128 with
  |false=>simp(maxSteps:=9999999) [eM,a1,c1,c2,w1,w2,w3,w4,w5,w6,s8,g1,r1,s1,hc,ak]
  |true=>
   rw[s6 (by have:=of_decide_eq_true hc;omega)]
   have b1:cQ 0 (k:Int)=decide (0<k):=decide_eq_decide.2 (by omega)
   have b2:((x:Int)==0)=decide (x=0):=by rw[Bool.eq_iff_iff];simp
   have b3:cQ 1000000000000 (m:Int)=decide (1000000000000<m):=decide_eq_decide.2 (by omega)
   generalize decide (0<k)=p1 at b1⊢
   generalize decide (x=0)=p2 at b2⊢
   generalize decide (1000000000000<m)=p3 at b3⊢
   cases p1<;>cases p2<;>cases p3<;>simp(maxSteps:=9999999) [eM,a1,c1,c2,w1,w2,w3,w4,w5,w7,s8,g1,r1,s1,hc,b1,b2,b3,ak,Int.add_assoc]
 ·have ev:Jg D a=v3 0 0 false:=by unfold Jg;rw[Oy hp]
  rw[ev]
  by_cases h6:6≤D.length
  ·have hm:min 6 D.length=6:=by omega
   have c1:cQ 6 6=false:=rfl
   rw[hm]
   simp(maxSteps:=9999999) [eM,c1]
  ·have hm:min 6 D.length=D.length:=by omega
   have c1:cQ (D.length:Int) 6=true:=hY (by omega)
   have c2:cQ ((a:Int)+(D.length:Int)) (s.length:Int)=false:=kQ (by omega)
   have w1:IntKind.i64.wrap ((a:Int)+(D.length:Int))=(a:Int)+(D.length:Int):=by rw[IntKind.wrap_i64];omega
   rw[hm]
   simp(maxSteps:=9999999) [eM,a1,c1,c2,w1,ak]
theorem kJ {s:List UInt8}(hl:s.length≤1048576){a:Nat}(ha:a≤1048576):ah Ph au 573 [ba (ag s),aa .i64 a]=some (Jg (s.drop a) a):=by
 have a1:cQ (a:Int) 0=false:=kQ (by omega)
 generalize hD:s.drop a=D
 have hDl:D.length=s.length-a:=by rw[←hD];simp
 refine ae (fn:=lQ) rfl ?_
 simp(maxSteps:=9999999) [lQ,a1,ak]
 refine aC aU Cl.fin [.t,.t,.f,.f,.f,.f,.f,.t,.t,.f,.f,.f,.f,.f,.f,.f,.f,.f,.f,.f,.f,.f,.f,.f,.f,.f,.f,.f,.f,.f,.f,.f,.f,.f,.f,.f,.f,.f,.f,.f,.f,.f,.f,.f,.f,.f,.f,.f,.f,.f,.f,.f,.f,.f,.f] (fun k=>[(7,aa .i64 (nY (D.take k):Nat)),(8,aa .i64 k)]) (min 6 D.length) (Ub D) rfl (by simp[nY]) (fun k hk hp=> ?_) (fun hp _=> ?_)
 ·have h6:k<6:=by omega
  have hkD:k<D.length:=by omega
  obtain⟨g1,g2⟩:=zh hD hkD
  have c1:cQ (k:Int) 6=true:=hY (by omega)
  have c2:cQ (a:Int) ((s.length:Int)-(k:Int))=true:=hY (by omega)
  have c3:IntKind.i64.wrap ((s.length:Int)-(k:Int))=(s.length:Int)-(k:Int):=by rw[IntKind.wrap_i64];omega
  have w1:IntKind.i64.wrap ((a:Int)+(k:Int))=(a:Int)+(k:Int):=by rw[IntKind.wrap_i64];omega
  have w2:((a:Int)+(k:Int)).toNat=a+k:=by omega
  have w3:(0:Int)≤(a:Int)+(k:Int):=by omega
  have w4:=JQ D[k]
  have w5:IntKind.i64.wrap (7*(k:Int))=7*(k:Int):=by rw[IntKind.wrap_i64];omega
  have w6:IntKind.i64.wrap ((k:Int)+1)=(k:Int)+1:=by rw[IntKind.wrap_i64];omega
  have w7:IntKind.i64.wrap ((a:Int)+((k:Int)+1))=(a:Int)+((k:Int)+1):=by rw[IntKind.wrap_i64];omega
  have hx:=D[k].toNat_lt
  have s1:=UU (x:=D[k].toNat%128) (by omega) h6
  have s2:=Hx hkD
  have s3:=xR (D.take k)
  rw[Zy,Xh (by omega)]at s3
  have s4:=Je h6
  have s5:nY (D.take (k+1))<128^(k+1):=by have:=xR (D.take (k+1));rwa[Zy,Xh (by omega)]at this
  have s6:=fun hx=>Lo (a:=a) (Oz hkD h6 hp hx)
  have lb:=MX hkD
  have r1:=QP (n:=D[k].toNat) (by omega)
  have s8:=VW (n:=nY (D.take k)) (x:=D[k].toNat%128) s3 (by omega) h6
  rw[←s2]at s8
  generalize nY (D.take (k+1))=m at*
  generalize nY (D.take k)=n at*
  generalize hy:D[k].toNat%128=y at*
  generalize y*128^k=g at*
  generalize D[k].toNat=x at*
  rw[lb]
  cases hc:cQ (x:Int) 128 with
  |false=>simp(maxSteps:=9999999) [eQ,a1,c1,c2,c3,w1,w2,w3,w4,w5,w6, ↓s8,g1, ↓r1,s1,hc,ak]
  |true=>
   rw[s6 (by have:=of_decide_eq_true hc;omega)]
   have b1:cQ 0 (k:Int)=decide (0<k):=decide_eq_decide.2 (by omega)
   have b2:((x:Int)==0)=decide (x=0):=by rw[Bool.eq_iff_iff];simp
   have b3:cQ 1000000000000 (m:Int)=decide (1000000000000<m):=decide_eq_decide.2 (by omega)
   generalize decide (0<k)=p1 at b1⊢
   generalize decide (x=0)=p2 at b2⊢
   generalize decide (1000000000000<m)=p3 at b3⊢
   cases p1<;>cases p2<;>cases p3<;>simp(maxSteps:=9999999) [eQ,a1,c1,c2,c3,w1,w2,w3,w4,w5,w7, ↓s8,g1, ↓r1,s1,hc,b1,b2,b3,ak,Int.add_assoc]
 ·have ev:Jg D a=v3 0 0 false:=by unfold Jg;rw[Oy hp]
  rw[ev]
  by_cases h6:6≤D.length
  ·have hm:min 6 D.length=6:=by omega
   have c1:cQ 6 6=false:=rfl
   rw[hm]
   simp(maxSteps:=9999999) [eQ,c1]
  ·have hm:min 6 D.length=D.length:=by omega
   have c1:cQ (D.length:Int) 6=true:=hY (by omega)
   have c2:cQ (a:Int) ((s.length:Int)-(D.length:Int))=false:=kQ (by omega)
   have w1:IntKind.i64.wrap ((s.length:Int)-(D.length:Int))=(s.length:Int)-(D.length:Int):=by rw[IntKind.wrap_i64];omega
   rw[hm]
   simp(maxSteps:=9999999) [eQ,a1,c1,c2,w1,ak]
def HW (D:List UInt8)(a m:Nat):V:=match RV m D with
 |some (b,k)=> .tup [(false,[.own 1 (ag b)]),(false,[.pv (.int .i64 (a+k:Nat))]),(false,[.pv (.bool true)])]
 |none=> .tup [(false,[.own 1 []]),(false,[.pv (.int .i64 0)]),(false,[.pv (.bool false)])]
theorem RX {D:List UInt8}{n k:Nat}(h:Ln D=some (n,k))(m:Nat):RV m D=if n≤m∧n≤D.length-k then some ((D.drop k).take n,k+n)else none:=by
 have hk:=(DA h).2.1
 unfold RV TG
 rw[h]
 by_cases c:n≤D.length-k
 ·have e:((D.drop k).take n).length=n:=by simp;omega
  by_cases d:n≤m<;>simp[c,d,e]
 ·simp[c]
theorem BZ (s:List UInt8)(i n:Nat):((ag s).drop i).take n=ag ((s.drop i).take n):=by
 unfold ag
 rw[←List.map_drop,←List.map_take]
theorem qH {s:List UInt8}(hl:s.length≤1048576){a:Nat}(ha:a≤s.length){m:Nat}(hm:m≤1048576):ah Ph au 578 [ba (ag s),aa .i64 a,aa .i64 m]=some (HW (s.drop a) a m):=by
 have e1:=kG hl (a:=a) (by omega)
 generalize hD:s.drop a=D at*
 have hDl:D.length=s.length-a:=by rw[←hD];simp
 have ws:=dy s
 cases e:Ln D with
 |none=>
  have e2:HW D a m= .tup [(false,[.own 1 []]),(false,[.pv (.int .i64 0)]),(false,[.pv (.bool false)])]:=by simp[HW,RV,TG,e]
  simp only[Jg,e]at e1
  rw[e2]
  refine ae (fn:=eC) rfl ?_
  simp +contextual (maxSteps:=9999999) [eC,e1,ak]
 |some p=>
  obtain⟨n,k⟩:=p
  obtain⟨k1,k2,k3⟩:=DA e
  have e2:=RX e m
  simp only[Jg,e]at e1
  have b1:cQ (m:Int) (n:Int)=decide (m<n):=decide_eq_decide.2 (by omega)
  have w1:IntKind.i64.wrap ((s.length:Int)-((a:Int)+(k:Int)))=((D.length-k:Nat):Int):=by rw[IntKind.wrap_i64];omega
  have b2:cQ ((D.length-k:Nat):Int) (n:Int)=decide (D.length-k<n):=decide_eq_decide.2 (by omega)
  by_cases c:n≤m∧n≤D.length-k
  ·have d1:¬m<n:=by omega
   have d2:¬D.length-k<n:=by omega
   have hc:=BZ s (a+k) n
   rw[show(s.drop (a+k))=D.drop k by rw[←hD,List.drop_drop]]at hc
   have w2:IntKind.i64.wrap ((a:Int)+(k:Int)+(n:Int))=(a:Int)+(k:Int)+(n:Int):=by rw[IntKind.wrap_i64];omega
   have w3:((a:Int)+(k:Int)+(n:Int)).toNat=a+k+n:=by omega
   have w4:((a:Int)+(k:Int)).toNat=a+k:=by omega
   have w5:(0:Int)≤(a:Int)+(k:Int)∧(a:Int)+(k:Int)≤(a:Int)+(k:Int)+(n:Int)∧(a:Int)+(k:Int)+(n:Int)≤(s.length:Int):=by omega
   have hq:((D.drop k).take n).length=n:=by simp;omega
   have e3:HW D a m= .tup [(false,[.own 1 (ag ((D.drop k).take n))]),(false,[.pv (.int .i64 ((a:Int)+(k:Int)+(n:Int)))]),(false,[.pv (.bool true)])]:=by
    unfold HW;rw[e2,if_pos c];simp;omega
   rw[e3]
   generalize (D.drop k).take n=q at*
   have hf:=ji q
   have hw:=dy q
   have e4:=fY (R:=ag q) ⟨hf,hw,by rw[ak];omega⟩
   refine ae (fn:=eC) rfl ?_
   simp +contextual (maxSteps:=9999999) [eC,e1,e4,b1,b2,d1,d2,w1,w2,w3,w4,w5,hc,hq,hf,hw, ↓ws,ak]
  ·have e3:HW D a m= .tup [(false,[.own 1 []]),(false,[.pv (.int .i64 0)]),(false,[.pv (.bool false)])]:=by
    unfold HW;rw[e2,if_neg c]
   rw[e3]
   by_cases d1:m<n
   ·(refine ae (fn:=eC) rfl ?_;simp +contextual (maxSteps:=9999999) [eC,e1,b1,b2,d1,w1,ak])
   ·have d2:D.length-k<n:=by omega
    refine ae (fn:=eC) rfl ?_
    simp +contextual (maxSteps:=9999999) [eC,e1,b1,b2,d1,d2,w1,ak]
theorem qM {s:List UInt8}(hl:s.length≤1048576){a:Nat}(ha:a≤s.length){m:Nat}(hm:m≤1048576):ah Ph au 572 [ba (ag s),aa .i64 a,aa .i64 m]=some (HW (s.drop a) a m):=by
 have e1:=kJ hl (a:=a) (by omega)
 generalize hD:s.drop a=D at*
 have hDl:D.length=s.length-a:=by rw[←hD];simp
 have ws:=dy s
 cases e:Ln D with
 |none=>
  have e2:HW D a m= .tup [(false,[.own 1 []]),(false,[.pv (.int .i64 0)]),(false,[.pv (.bool false)])]:=by simp[HW,RV,TG,e]
  simp only[Jg,e]at e1
  rw[e2]
  refine ae (fn:=eD) rfl ?_
  simp +contextual (maxSteps:=9999999) [eD,e1,ak]
 |some p=>
  obtain⟨n,k⟩:=p
  obtain⟨k1,k2,k3⟩:=DA e
  have e2:=RX e m
  simp only[Jg,e]at e1
  have b1:cQ (m:Int) (n:Int)=decide (m<n):=decide_eq_decide.2 (by omega)
  have w1:IntKind.i64.wrap ((s.length:Int)-((a:Int)+(k:Int)))=((D.length-k:Nat):Int):=by rw[IntKind.wrap_i64];omega
  have b2:cQ ((D.length-k:Nat):Int) (n:Int)=decide (D.length-k<n):=decide_eq_decide.2 (by omega)
  by_cases c:n≤m∧n≤D.length-k
  ·have d1:¬m<n:=by omega
   have d2:¬D.length-k<n:=by omega
   have hc:=BZ s (a+k) n
   rw[show(s.drop (a+k))=D.drop k by rw[←hD,List.drop_drop]]at hc
   have w2:IntKind.i64.wrap ((a:Int)+(k:Int)+(n:Int))=(a:Int)+(k:Int)+(n:Int):=by rw[IntKind.wrap_i64];omega
   have w3:((a:Int)+(k:Int)+(n:Int)).toNat=a+k+n:=by omega
   have w4:((a:Int)+(k:Int)).toNat=a+k:=by omega
   have w5:(0:Int)≤(a:Int)+(k:Int)∧(a:Int)+(k:Int)≤(a:Int)+(k:Int)+(n:Int)∧(a:Int)+(k:Int)+(n:Int)≤(s.length:Int):=by omega
   have hq:((D.drop k).take n).length=n:=by simp;omega
   have e3:HW D a m= .tup [(false,[.own 1 (ag ((D.drop k).take n))]),(false,[.pv (.int .i64 ((a:Int)+(k:Int)+(n:Int)))]),(false,[.pv (.bool true)])]:=by
    unfold HW;rw[e2,if_pos c];simp;omega
   rw[e3]
   generalize (D.drop k).take n=q at*
   have hf:=ji q
   have hw:=dy q
   have e4:n≤140737488355328∧n≤9223372036854775807:=by omega
   refine ae (fn:=eD) rfl ?_
   simp +contextual (maxSteps:=9999999) [eD,e1,e4,b1,b2,d1,d2,w1,w2,w3,w4,w5,hc,hq,hf,hw, ↓ws,ak]
  ·have e3:HW D a m= .tup [(false,[.own 1 []]),(false,[.pv (.int .i64 0)]),(false,[.pv (.bool false)])]:=by
    unfold HW;rw[e2,if_neg c]
   rw[e3]
   by_cases d1:m<n
   ·(refine ae (fn:=eD) rfl ?_;simp +contextual (maxSteps:=9999999) [eD,e1,b1,b2,d1,w1,ak])
   ·have d2:D.length-k<n:=by omega
    refine ae (fn:=eD) rfl ?_
    simp +contextual (maxSteps:=9999999) [eD,e1,b1,b2,d1,d2,w1,ak]
def qb (s:List UInt8)(a:Nat×List (List UInt8)):Option (Nat×List (List UInt8)):=match RV 4000 (s.drop a.1)with
 |none=>none
 |some (d,k)=>match Ln (s.drop (a.1+k))with
  |none=>none
  |some (m,j)=>if(m:Int)=ku (101::(a.2.length:Int)::BI d)then some (a.1+k+j,a.2++[d])else none
def QF (s:List UInt8):Nat→Nat×List (List UInt8)→Nat×List (List UInt8)
 |0,a=>a
 |f+1,a=>match qb s a with
  |none=>a
  |some b=>QF s f b
def kP (s:List UInt8):Nat×List (List UInt8):=QF s (s.length+1) (0,[])
theorem xq {s:List UInt8}{a b:Nat×List (List UInt8)}(h:qb s a=some b):∃d k m j,RV 4000 (s.drop a.1)=some (d,k)∧Ln (s.drop (a.1+k))=some (m,j)∧(m:Int)=ku (101::(a.2.length:Int)::BI d)∧
 b=(a.1+k+j,a.2++[d])∧a.1<b.1∧b.1≤s.length∧d.length≤4000:=by
 unfold qb at h
 split at h
 ·cases h
 ·rename_i d k e
  split at h
  ·cases h
  ·rename_i m j e2
   split at h
   ·rename_i e3
    cases h
    have h1:=Jf (Bm e).1
    have h2:=DA e2
    simp only[List.length_drop]at h1 h2
    exact⟨d,k,m,j,e,e2,e3,rfl,by show a.1<a.1+k+j;omega,by show a.1+k+j≤s.length;omega,(Bm e).2⟩
   ·cases h
theorem Rz {s:List UInt8}{a:Nat×List (List UInt8)}(h:qb s a=none):∀f,QF s f a=a
 |0=>rfl
 |f+1=>by simp only[QF,h]
def Ua (s:List UInt8)(a:Nat×List (List UInt8)):Prop:=a.1≤s.length∧a.2.length≤a.1∧(∀d∈a.2,d.length≤4000)∧∃f,s.length<f+a.1∧QF s f a=kP s
theorem RA (s:List UInt8):Ua s (0,[]):=⟨Nat.zero_le _,Zl _,fun d h=>absurd h (by simp),s.length+1,by show s.length<s.length+1+0;omega,rfl⟩
theorem uI {s:List UInt8}{a b:Nat×List (List UInt8)}(ia:Ua s a)(h:qb s a=some b):s.length-b.1<s.length-a.1∧Ua s b:=by
 obtain⟨h1,h2,h3,f,h4,h5⟩:=ia
 obtain⟨d,k,m,j,_,_,_,rfl,q1,q2,q3⟩:=xq h
 simp only at q1 q2
 refine⟨by simp only;omega,q2,by simp only[Zu,Z6];omega,fun x hx=> ?_,?_⟩
 ·rcases Yw.1 hx with hx|hx
  ·exact h3 x hx
  ·rw[List.mem_singleton.1 hx];exact q3
 ·cases f with
  |zero=>omega
  |succ f=>
   simp only[QF,h]at h5
   exact⟨f,by simp only;omega,h5⟩
theorem Og {s:List UInt8}{a:Nat×List (List UInt8)}(ia:Ua s a)(h:qb s a=none):kP s=a:=by
 obtain⟨h1,h2,h3,f,h4,h5⟩:=ia
 rw[←h5,Rz h]
theorem Dx (s:List UInt8):(kP s).1≤s.length∧(kP s).2.length≤(kP s).1∧∀d∈(kP s).2,d.length≤4000:=by
 have key:∀f a,Ua s a→(QF s f a).1≤s.length∧(QF s f a).2.length≤(QF s f a).1∧∀d∈(QF s f a).2,d.length≤4000:=by
  intro f
  induction f with
  |zero=>exact fun a ia=>⟨ia.1,ia.2.1,ia.2.2.1⟩
  |succ f ih=>
   intro a ia
   cases e:qb s a with
   |none=>simp only[QF,e];exact⟨ia.1,ia.2.1,ia.2.2.1⟩
   |some b=>simp only[QF,e];exact ih b (uI ia e).2
 exact key _ _ (RA s)
def Gw (b:List UInt8):List PV:=[.lst (ag b)]
def K7 (a:Nat×List (List UInt8)):V:= .tup [(false,[.own 1 (a.2.map Gw)]),(false,[.pv (.int .i64 a.1)])]
theorem tu {s:List UInt8}(hl:s.length≤1048576):ah Ph au 562 [ba (ag s)]=some (K7 (kP s)):=by
 refine ae (fn:=pH) rfl ?_
 simp(maxSteps:=9999999) [pH]
 refine JV aU Cl.fin [.t,.f,.f,.f,.t,.t,.f,.f,.f,.f,.f,.f,.f,.f,.f,.f,.f,.f,.f,.f,.f,.f,.f,.f,.f,.f,.f,.f,.f,.f,.f,.f,.f,.f,.f,.f,.f,.f,.f,.f,.f,.f,.f,.f,.f,.f,.f,.f] (fun a=>[(4, .one (.arr 0)),(5,aa .i64 (a.1:Nat))]) (fun a=>[.arr 1 (a.2.map Gw)]) (qb s) (fun a=>s.length-a.1) (Ua s) (0,[]) (RA s) rfl (by simp) (fun a b ia ha=> ?_) (fun a ia ha=> ?_)
 ·obtain⟨a,l⟩:=a
  refine⟨(uI ia ha).1,(uI ia ha).2,?_⟩
  obtain⟨h1,h2,h3,_⟩:=ia
  obtain⟨d,k,m,j,e1,e2,e3,rfl,q1,q2,q3⟩:=xq ha
  simp only at h1 h2 h3 e1 e2 e3 q1 q2⊢
  have r1:=qH hl h1 (m:=4000) (by omega)
  rw[show(((4000:Nat):Int))=4000 from rfl]at r1
  simp only[HW,e1]at r1
  have r2:=kG hl (a:=a+k) (by omega)
  rw[Int.natCast_add]at r2
  simp only[Jg,e2]at r2
  have r3:=rY (s:=d) (by omega) (l.length:Int)
  rw[←e3]at r3
  have m1:=ew (m:=l.length+1) (z:=24) (by omega) (by omega)
  have hm:(l++[d]).map Gw=l.map Gw++[[.lst (ag d)]]:=by simp[Gw]
  have c1:cQ (a:Int) (s.length:Int)=true:=hY (by omega)
  generalize hW:l.map Gw=W at*
  have hWl:W.length=l.length:=by rw[←hW];simp
  generalize hU:(l++[d]).map Gw=W' at*
  subst hm
  simp(maxSteps:=9999999) [gA,r1,r2,r3,m1,hWl,c1,ak,-ez]
  exact Kn.of [2] (by decide) (by simp) (by simp)
 ·obtain⟨a,l⟩:=a
  rw[Og ia ha]
  obtain⟨h1,h2,h3,_⟩:=ia
  simp only at h1 h2 h3⊢
  have r1:=qH hl h1 (m:=4000) (by omega)
  rw[show(((4000:Nat):Int))=4000 from rfl]at r1
  unfold K7
  simp only
  generalize hW:l.map Gw=W at*
  have hWl:W.length=l.length:=by rw[←hW];simp
  unfold qb at ha
  simp only at ha
  cases e1:RV 4000 (s.drop a)with
  |none=>
   simp only[HW,e1]at r1
   simp(maxSteps:=9999999) [gA,r1,ak]
  |some p=>
   obtain⟨d,k⟩:=p
   simp only[HW,e1]at r1 ha
   have h4:=Jf (Bm e1).1
   have h5:=(Bm e1).2
   simp only[List.length_drop]at h4
   have r2:=kG hl (a:=a+k) (by omega)
   rw[Int.natCast_add]at r2
   cases e2:Ln (s.drop (a+k))with
   |none=>
    simp only[Jg,e2]at r2
    simp(maxSteps:=9999999) [gA,r1,r2,ak]
   |some q=>
    obtain⟨m,j⟩:=q
    simp only[Jg,e2]at r2 ha
    have r3:=rY (s:=d) (by omega) (l.length:Int)
    split at ha
    ·cases ha
    ·rename_i e3
     have e4:((m:Int)==ku (101::(l.length:Int)::BI d))=false:=beq_eq_false_iff_ne.2 e3
     generalize ku (101::(l.length:Int)::BI d)=hv at*
     simp(maxSteps:=9999999) [gA,r1,r2,r3,e4,hWl,ak]
theorem tD {s:List UInt8}(hl:s.length≤1048576):ah Ph au 559 [ba (ag s)]=some (K7 (kP s)):=by
 refine ae (fn:=pN) rfl ?_
 simp(maxSteps:=9999999) [pN]
 refine JV aU Cl.fin [.t,.f,.f,.f,.t,.t,.f,.f,.f,.f,.f,.f,.f,.f,.f,.f,.f,.f,.f,.f,.f,.f,.f,.f,.f,.f,.f,.f,.f,.f,.f,.f,.f,.f,.f,.f,.f,.f,.f,.f,.f,.f,.f,.f,.f,.f,.f,.f,.f,.f] (fun a=>[(4, .one (.arr 0)),(5,aa .i64 (a.1:Nat))]) (fun a=>[.arr 1 (a.2.map Gw)]) (qb s) (fun a=>s.length-a.1) (Ua s) (0,[]) (RA s) rfl (by simp) (fun a b ia ha=> ?_) (fun a ia ha=> ?_)
 ·obtain⟨a,l⟩:=a
  refine⟨(uI ia ha).1,(uI ia ha).2,?_⟩
  obtain⟨h1,h2,h3,_⟩:=ia
  obtain⟨d,k,m,j,e1,e2,e3,rfl,q1,q2,q3⟩:=xq ha
  simp only at h1 h2 h3 e1 e2 e3 q1 q2⊢
  have r1:=qM hl h1 (m:=4000) (by omega)
  rw[show(((4000:Nat):Int))=4000 from rfl]at r1
  simp only[HW,e1]at r1
  have r2:=kJ hl (a:=a+k) (by omega)
  rw[Int.natCast_add]at r2
  simp only[Jg,e2]at r2
  have r3:=sn (s:=d) (by omega) (l.length:Int)
  rw[←e3]at r3
  have m1:=ew (m:=l.length+1) (z:=24) (by omega) (by omega)
  have hm:(l++[d]).map Gw=l.map Gw++[[.lst (ag d)]]:=by simp[Gw]
  have c1:cQ (a:Int) (s.length:Int)=true:=hY (by omega)
  generalize hW:l.map Gw=W at*
  have hWl:W.length=l.length:=by rw[←hW];simp
  generalize hU:(l++[d]).map Gw=W' at*
  subst hm
  simp(maxSteps:=9999999) [fI,r1,r2,r3,m1,hWl,c1,ak,-ez]
  exact Kn.of [2] (by decide) (by simp) (by simp)
 ·obtain⟨a,l⟩:=a
  rw[Og ia ha]
  obtain⟨h1,h2,h3,_⟩:=ia
  simp only at h1 h2 h3⊢
  have r1:=qM hl h1 (m:=4000) (by omega)
  rw[show(((4000:Nat):Int))=4000 from rfl]at r1
  unfold K7
  simp only
  generalize hW:l.map Gw=W at*
  have hWl:W.length=l.length:=by rw[←hW];simp
  unfold qb at ha
  simp only at ha
  by_cases c:s.length≤a
  ·have c1:cQ (a:Int) (s.length:Int)=false:=kQ (by omega)
   simp(maxSteps:=9999999) [fI,c1,ak]
  have c1:cQ (a:Int) (s.length:Int)=true:=hY (by omega)
  cases e1:RV 4000 (s.drop a)with
  |none=>
   simp only[HW,e1]at r1
   simp(maxSteps:=9999999) [fI,r1,c1,ak]
  |some p=>
   obtain⟨d,k⟩:=p
   simp only[HW,e1]at r1 ha
   have h4:=Jf (Bm e1).1
   have h5:=(Bm e1).2
   simp only[List.length_drop]at h4
   have r2:=kJ hl (a:=a+k) (by omega)
   rw[Int.natCast_add]at r2
   cases e2:Ln (s.drop (a+k))with
   |none=>
    simp only[Jg,e2]at r2
    simp(maxSteps:=9999999) [fI,r1,r2,c1,ak]
   |some q=>
    obtain⟨m,j⟩:=q
    simp only[Jg,e2]at r2 ha
    have r3:=sn (s:=d) (by omega) (l.length:Int)
    split at ha
    ·cases ha
    ·rename_i e3
     have e4:((m:Int)==ku (101::(l.length:Int)::BI d))=false:=beq_eq_false_iff_ne.2 e3
     generalize ku (101::(l.length:Int)::BI d)=hv at*
     simp(maxSteps:=9999999) [fI,r1,r2,r3,e4,hWl,c1,ak]
end Gi
