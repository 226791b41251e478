/- Of this proof. -/
import Derived.Test.YtbeaonmepfkmmaaGreatGksv
set_option linter.unusedSimpArgs false
set_option linter.unusedVariables false
namespace Gi
open Go Go.RowKit
set_option maxHeartbeats 8000000
set_option maxRecDepth 4000
attribute [local simp] start nY bo cj cE dE cD dD dJ dI pa pp pd pq pe pt pf pw pg px ph py pj pz pk pA pm pB V.cells plain bi fT isInt isStr isBool bin bK fR bL fS dF un asList L.view az V.view viewL aS aA bO bg bJ comp aM bA cz bI bc a9 ba av aj aE ai au aQ aq aY bC aD bd bf V.flat L.flat cT cS bq putAt thaw thawL thawT V.ow dH cG cH bM dG bN cF freezeVs freezeLs freezeL V.mut L.mut aI bY fu aZ bB aP dL cf bE cy L.ren aO cX bR cZ bG bD wp_seq wp_block aT cJ bP bh bQ wp_skip wp_exit wp_ret ca b7 ce cd cr ct cq bH aL L.notArr bu br bt cI b6 storeD aV ep a8 bW aU lV L.mov L.closed V.closed PV.bare PV.flat
abbrev v3 (n k:Int)(b:Bool):V:= .tup [(false,[.pv (.int .i64 n)]),(false,[.pv (.int .i64 k)]),(false,[.pv (.bool b)])]
def se (D:List UInt8)(a:Nat):V:=match sB D with
 |some (n,k)=>v3 n (a+k:Nat) true
 |none=>v3 0 0 false
def Uq (D:List UInt8)(k:Nat):Bool:=match D[k]? with
 |some b=>b9 b.toNat 128
 |none=>false
theorem Ml {D:List UInt8}{k:Nat}(h:k<D.length):Uq D k=b9 D[k].toNat 128:=by simp[Uq,h]
theorem Rs {D:List UInt8}{k:Nat}(h:k<D.length)(e:Uq D k=false):128≤D[k].toNat:=by
 rw[Ml h]at e
 have:=of_decide_eq_false e
 omega
theorem Ob {D:List UInt8}{k:Nat}(hk:k<D.length)(h6:k<6)(hp:∀j,j<k→Uq D j=false)(hx:D[k].toNat<128):
 sB D=if 0<k∧D[k].toNat=0 then none else if nK (D.take (k+1))≤1000000000000 then some (nK (D.take (k+1)),k+1)else none:=by
 have e:=N6 6 k false D hk h6 (fun j hj hjk=>Rs hj (hp j hjk)) hx
 unfold sB
 rw[e]
 by_cases c:0<k∧D[k].toNat=0<;>simp[c]
theorem Oa {D:List UInt8}(hp:∀j,j<min 6 D.length→Uq D j=false):sB D=none:=by
 unfold sB
 rw[KK 6 false D fun j hj h6=>Rs hj (hp j (by omega))]
theorem Gp {D:List UInt8}{k:Nat}(h:k<D.length):nK (D.take (k+1))=nK (D.take k)+D[k].toNat%128*128^k:=by
 rw[Zx h,Gn,Zw,Nat.min_eq_left (by omega)]
theorem Iq {k:Nat}(h:k<6):128^k≤34359738368∧(128:Nat)^(k+1)=128^k*128:=by
 refine⟨Zc (Nat.pow_le_pow_right (by decide) (show k≤5 by omega)) (by decide),Nat.pow_succ ..⟩
theorem Vg {x k:Nat}(hx:x<128)(hk:k<6):iz .shl .i64 (x:Int) (7*(k:Int))=some (ae .i64 ((x*128^k:Nat):Int)):=by
 have h1:=(Iq hk).1
 have e:(min (7*(k:Int)).toNat IntKind.i64.bits)=7*k:=by show min _ 64=_;omega
 simp only[iz]
 rw[if_neg (by omega)]
 simp only[e]
 have e2:((2:Int)^(7*k))=((128^k:Nat):Int):=by rw[Int.pow_mul];simp
 have h2:x*128^k≤127*34359738368:=Nat.mul_le_mul (by omega) h1
 have q:IntKind.i64.wrap ((x*128^k:Nat):Int)=((x*128^k:Nat):Int):=by
  generalize x*128^k=g at*
  rw[IntKind.wrap_i64];omega
 rw[e2,←Int.natCast_mul,q]
theorem Wf {n x k:Nat}(hn:n<128^k)(hx:x<128)(hk:k<6):IntKind.i64.wrap ((BitVec.ofInt IntKind.i64.bits (n:Int)|||BitVec.ofInt IntKind.i64.bits ((x*128^k:Nat):Int)).toNat:Int)=((n+x*128^k:Nat):Int):=by
 have h1:=(Iq hk).1
 have h2:x*128^k≤127*34359738368:=Nat.mul_le_mul (by omega) h1
 have h3:(128:Nat)^k=2^(7*k):=by rw[Nat.pow_mul]
 have e3:=Nat.two_pow_add_eq_or_of_lt (i:=7*k) (b:=n) (by rw[←h3];exact hn) x
 rw[←h3,Nat.mul_comm _ x]at e3
 generalize x*128^k=g at*
 have e1:(BitVec.ofInt IntKind.i64.bits (n:Int)).toNat=n:=by
  show(BitVec.ofInt 64 (n:Int)).toNat=n
  simp[BitVec.toNat_ofInt];omega
 have e2:(BitVec.ofInt IntKind.i64.bits (g:Int)).toNat=g:=by
  show(BitVec.ofInt 64 (g:Int)).toNat=g
  simp[BitVec.toNat_ofInt];omega
 rw[BitVec.toNat_or,e1,e2,Nat.or_comm,←e3,IntKind.wrap_i64]
 omega
theorem xY {s D:List UInt8}{a k:Nat}(hD:s.drop a=D)(hk:k<D.length):(ag s)[a+k]? =some [.int .u8 D[k].toNat]∧a+k<s.length:=by
 subst hD
 have:a+k<s.length:=by simp at hk;omega
 refine⟨?_,this⟩
 rw[nw this];simp
theorem KO {D:List UInt8}{a k m x:Nat}(h:sB D=if 0<k∧x=0 then none else if m≤1000000000000 then some (m,k+1)else none):
 se D a=if(decide (0<k)&&decide (x=0))||decide (1000000000000<m)then v3 0 0 false else v3 m (a+(k+1):Nat) true:=by
 unfold se
 rw[h]
 by_cases c:0<k∧x=0
 ·simp[c]
 ·by_cases d:m≤1000000000000
  ·have d':¬1000000000000<m:=by omega
   rw[if_neg c,if_pos d]
   simp[d']
   intro q;exact fun e=>(c ⟨q,e⟩).elim
  ·have d':1000000000000<m:=by omega
   rw[if_neg c,if_neg d]
   simp[d']
theorem cR {s:List UInt8}(hl:s.length≤1048576){a:Nat}(ha:a≤1048576):ah Ph aH 579 [aR (ag s),ae .i64 a]=some (se (s.drop a) a):=by
 have a1:b9 (a:Int) 0=false:=fG (by omega)
 by_cases h:s.length≤a
 ·have a2:b9 (a:Int) (s.length:Int)=false:=fG (by omega)
  have e:se (s.drop a) a=v3 0 0 false:=by rw[List.drop_eq_nil_of_le h];rfl
  rw[e]
  refine aa (fn:=gD) rfl ?_
  simp +contextual (maxSteps:=9999999) [gD,a1,a2,al]
 have a2:b9 (a:Int) (s.length:Int)=true:=d6 (by omega)
 generalize hD:s.drop a=D
 have hDl:D.length=s.length-a:=by rw[←hD];simp
 refine aa (fn:=gD) rfl ?_
 simp(maxSteps:=9999999) [gD,a1,a2,al]
 refine bm bX Cl.fin [.t,.t,.f,.f,.f,.f,.f,.t,.t,.f,.f,.f,.f,.f,.f,.f,.f,.f,.f,.f,.f,.f,.f,.f,.f,.f,.f,.f,.f,.f,.f,.f,.f,.f,.f,.f,.f,.f,.f,.f,.f,.f,.f,.f,.f,.f,.f,.f,.f,.f,.f,.f,.f,.f,.f,.f,.f,.f,.f,.f,.f] (fun k=>[(7,ae .i64 (nK (D.take k):Nat)),(8,ae .i64 k)]) (min 6 D.length) (Uq D) rfl (by simp[nK]) (fun k hk hp=> ?_) (fun hp _=> ?_)
 ·have h6:k<6:=by omega
  have hkD:k<D.length:=by omega
  obtain⟨g1,g2⟩:=xY hD hkD
  have c1:b9 (k:Int) 6=true:=d6 (by omega)
  have c2:b9 ((a:Int)+(k:Int)) (s.length:Int)=true:=d6 (by omega)
  have w1:IntKind.i64.wrap ((a:Int)+(k:Int))=(a:Int)+(k:Int):=by rw[IntKind.wrap_i64];omega
  have w2:((a:Int)+(k:Int)).toNat=a+k:=by omega
  have w3:(0:Int)≤(a:Int)+(k:Int):=by omega
  have w4:=uy D[k]
  have w5:IntKind.i64.wrap (7*(k:Int))=7*(k:Int):=by rw[IntKind.wrap_i64];omega
  have w6:IntKind.i64.wrap ((k:Int)+1)=(k:Int)+1:=by rw[IntKind.wrap_i64];omega
  have w7:IntKind.i64.wrap ((a:Int)+((k:Int)+1))=(a:Int)+((k:Int)+1):=by rw[IntKind.wrap_i64];omega
  have hx:=D[k].toNat_lt
  have s1:=Vg (x:=D[k].toNat%128) (by omega) h6
  have s2:=Gp hkD
  have s3:=wV (D.take k)
  rw[Zw,Nat.min_eq_left (by omega)]at s3
  have s4:=Iq h6
  have s5:nK (D.take (k+1))<128^(k+1):=by have:=wV (D.take (k+1));rwa[Zw,Nat.min_eq_left (by omega)]at this
  have s6:=fun hx=>KO (a:=a) (Ob hkD h6 hp hx)
  have lb:=Ml hkD
  have r1:(D[k].toNat:Int).tmod 128=((D[k].toNat%128:Nat):Int):=by rw[Int.tmod_eq_emod_of_nonneg (by omega)];omega
  generalize nK (D.take (k+1))=m at*
  generalize nK (D.take k)=n at*
  generalize hy:D[k].toNat%128=y at*
  generalize y*128^k=g at*
  generalize D[k].toNat=x at*
  have s8:IntKind.i64.wrap ((n:Int)+(g:Int))=(m:Int):=by rw[IntKind.wrap_i64];omega
  rw[lb]
  cases hc:b9 (x:Int) 128 with
  |false=>simp(maxSteps:=9999999) [ed,a1,c1,c2,w1,w2,w3,w4,w5,w6,s8,g1,r1,s1,hc,al]
  |true=>
   rw[s6 (by have:=of_decide_eq_true hc;omega)]
   have b1:b9 0 (k:Int)=decide (0<k):=decide_eq_decide.2 (by omega)
   have b2:((x:Int)==0)=decide (x=0):=by rw[Bool.eq_iff_iff];simp
   have b3:b9 1000000000000 (m:Int)=decide (1000000000000<m):=decide_eq_decide.2 (by omega)
   generalize decide (0<k)=p1 at b1⊢
   generalize decide (x=0)=p2 at b2⊢
   generalize decide (1000000000000<m)=p3 at b3⊢
   cases p1<;>cases p2<;>cases p3<;>simp(maxSteps:=9999999) [ed,a1,c1,c2,w1,w2,w3,w4,w5,w7,s8,g1,r1,s1,hc,b1,b2,b3,al,Int.add_assoc]
 ·have ev:se D a=v3 0 0 false:=by unfold se;rw[Oa hp]
  rw[ev]
  by_cases h6:6≤D.length
  ·have hm:min 6 D.length=6:=by omega
   have c1:b9 6 6=false:=rfl
   rw[hm]
   simp(maxSteps:=9999999) [ed,c1]
  ·have hm:min 6 D.length=D.length:=by omega
   have c1:b9 (D.length:Int) 6=true:=d6 (by omega)
   have c2:b9 ((a:Int)+(D.length:Int)) (s.length:Int)=false:=fG (by omega)
   have w1:IntKind.i64.wrap ((a:Int)+(D.length:Int))=(a:Int)+(D.length:Int):=by rw[IntKind.wrap_i64];omega
   rw[hm]
   simp(maxSteps:=9999999) [ed,a1,c1,c2,w1,al]
theorem dy {s:List UInt8}(hl:s.length≤1048576){a:Nat}(ha:a≤1048576):ah Ph aH 573 [aR (ag s),ae .i64 a]=some (se (s.drop a) a):=by
 have a1:b9 (a:Int) 0=false:=fG (by omega)
 generalize hD:s.drop a=D
 have hDl:D.length=s.length-a:=by rw[←hD];simp
 refine aa (fn:=lF) rfl ?_
 simp(maxSteps:=9999999) [lF,a1,al]
 refine bm bX Cl.fin [.t,.t,.f,.f,.f,.f,.f,.t,.t,.f,.f,.f,.f,.f,.f,.f,.f,.f,.f,.f,.f,.f,.f,.f,.f,.f,.f,.f,.f,.f,.f,.f,.f,.f,.f,.f,.f,.f,.f,.f,.f,.f,.f,.f,.f,.f,.f,.f,.f,.f,.f,.f,.f,.f,.f] (fun k=>[(7,ae .i64 (nK (D.take k):Nat)),(8,ae .i64 k)]) (min 6 D.length) (Uq D) rfl (by simp[nK]) (fun k hk hp=> ?_) (fun hp _=> ?_)
 ·have h6:k<6:=by omega
  have hkD:k<D.length:=by omega
  obtain⟨g1,g2⟩:=xY hD hkD
  have c1:b9 (k:Int) 6=true:=d6 (by omega)
  have c2:b9 (a:Int) ((s.length:Int)-(k:Int))=true:=d6 (by omega)
  have c3:IntKind.i64.wrap ((s.length:Int)-(k:Int))=(s.length:Int)-(k:Int):=by rw[IntKind.wrap_i64];omega
  have w1:IntKind.i64.wrap ((a:Int)+(k:Int))=(a:Int)+(k:Int):=by rw[IntKind.wrap_i64];omega
  have w2:((a:Int)+(k:Int)).toNat=a+k:=by omega
  have w3:(0:Int)≤(a:Int)+(k:Int):=by omega
  have w4:=uy D[k]
  have w5:IntKind.i64.wrap (7*(k:Int))=7*(k:Int):=by rw[IntKind.wrap_i64];omega
  have w6:IntKind.i64.wrap ((k:Int)+1)=(k:Int)+1:=by rw[IntKind.wrap_i64];omega
  have w7:IntKind.i64.wrap ((a:Int)+((k:Int)+1))=(a:Int)+((k:Int)+1):=by rw[IntKind.wrap_i64];omega
  have hx:=D[k].toNat_lt
  have s1:=Vg (x:=D[k].toNat%128) (by omega) h6
  have s2:=Gp hkD
  have s3:=wV (D.take k)
  rw[Zw,Nat.min_eq_left (by omega)]at s3
  have s4:=Iq h6
  have s5:nK (D.take (k+1))<128^(k+1):=by have:=wV (D.take (k+1));rwa[Zw,Nat.min_eq_left (by omega)]at this
  have s6:=fun hx=>KO (a:=a) (Ob hkD h6 hp hx)
  have lb:=Ml hkD
  have r1:=QH (n:=D[k].toNat) (by omega)
  have s8:=Wf (n:=nK (D.take k)) (x:=D[k].toNat%128) s3 (by omega) h6
  rw[←s2]at s8
  generalize nK (D.take (k+1))=m at*
  generalize nK (D.take k)=n at*
  generalize hy:D[k].toNat%128=y at*
  generalize y*128^k=g at*
  generalize D[k].toNat=x at*
  rw[lb]
  cases hc:b9 (x:Int) 128 with
  |false=>simp(maxSteps:=9999999) [eh,a1,c1,c2,c3,w1,w2,w3,w4,w5,w6, ↓s8,g1, ↓r1,s1,hc,al]
  |true=>
   rw[s6 (by have:=of_decide_eq_true hc;omega)]
   have b1:b9 0 (k:Int)=decide (0<k):=decide_eq_decide.2 (by omega)
   have b2:((x:Int)==0)=decide (x=0):=by rw[Bool.eq_iff_iff];simp
   have b3:b9 1000000000000 (m:Int)=decide (1000000000000<m):=decide_eq_decide.2 (by omega)
   generalize decide (0<k)=p1 at b1⊢
   generalize decide (x=0)=p2 at b2⊢
   generalize decide (1000000000000<m)=p3 at b3⊢
   cases p1<;>cases p2<;>cases p3<;>simp(maxSteps:=9999999) [eh,a1,c1,c2,c3,w1,w2,w3,w4,w5,w7, ↓s8,g1, ↓r1,s1,hc,b1,b2,b3,al,Int.add_assoc]
 ·have ev:se D a=v3 0 0 false:=by unfold se;rw[Oa hp]
  rw[ev]
  by_cases h6:6≤D.length
  ·have hm:min 6 D.length=6:=by omega
   have c1:b9 6 6=false:=rfl
   rw[hm]
   simp(maxSteps:=9999999) [eh,c1]
  ·have hm:min 6 D.length=D.length:=by omega
   have c1:b9 (D.length:Int) 6=true:=d6 (by omega)
   have c2:b9 (a:Int) ((s.length:Int)-(D.length:Int))=false:=fG (by omega)
   have w1:IntKind.i64.wrap ((s.length:Int)-(D.length:Int))=(s.length:Int)-(D.length:Int):=by rw[IntKind.wrap_i64];omega
   rw[hm]
   simp(maxSteps:=9999999) [eh,a1,c1,c2,w1,al]
def sA (D:List UInt8)(a m:Nat):V:=match BY m D with
 |some (b,k)=> .tup [(false,[.own 1 (ag b)]),(false,[.pv (.int .i64 (a+k:Nat))]),(false,[.pv (.bool true)])]
 |none=> .tup [(false,[.own 1 []]),(false,[.pv (.int .i64 0)]),(false,[.pv (.bool false)])]
theorem RL {D:List UInt8}{n k:Nat}(h:sB D=some (n,k))(m:Nat):BY m D=if n≤m∧n≤D.length-k then some ((D.drop k).take n,k+n)else none:=by
 have hk:=(kZ h).2.1
 unfold BY RK
 rw[h]
 by_cases c:n≤D.length-k
 ·have e:((D.drop k).take n).length=n:=by simp;omega
  by_cases d:n≤m<;>simp[c,d,e]
 ·simp[c]
theorem AU (s:List UInt8)(i n:Nat):((ag s).drop i).take n=ag ((s.drop i).take n):=by
 unfold ag
 rw[←List.map_drop,←List.map_take]
theorem cK {s:List UInt8}(hl:s.length≤1048576){a:Nat}(ha:a≤s.length){m:Nat}(hm:m≤1048576):ah Ph aH 578 [aR (ag s),ae .i64 a,ae .i64 m]=some (sA (s.drop a) a m):=by
 have e1:=cR hl (a:=a) (by omega)
 generalize hD:s.drop a=D at*
 have hDl:D.length=s.length-a:=by rw[←hD];simp
 have ws:=eu s
 cases e:sB D with
 |none=>
  have e2:sA D a m= .tup [(false,[.own 1 []]),(false,[.pv (.int .i64 0)]),(false,[.pv (.bool false)])]:=by simp[sA,BY,RK,e]
  simp only[se,e]at e1
  rw[e2]
  refine aa (fn:=dQ) rfl ?_
  simp +contextual (maxSteps:=9999999) [dQ,e1,al]
 |some p=>
  obtain⟨n,k⟩:=p
  obtain⟨k1,k2,k3⟩:=kZ e
  have e2:=RL e m
  simp only[se,e]at e1
  have b1:b9 (m:Int) (n:Int)=decide (m<n):=decide_eq_decide.2 (by omega)
  have w1:IntKind.i64.wrap ((s.length:Int)-((a:Int)+(k:Int)))=((D.length-k:Nat):Int):=by rw[IntKind.wrap_i64];omega
  have b2:b9 ((D.length-k:Nat):Int) (n:Int)=decide (D.length-k<n):=decide_eq_decide.2 (by omega)
  by_cases c:n≤m∧n≤D.length-k
  ·have d1:¬m<n:=by omega
   have d2:¬D.length-k<n:=by omega
   have hc:=AU s (a+k) n
   rw[show(s.drop (a+k))=D.drop k by rw[←hD,List.drop_drop]]at hc
   have w2:IntKind.i64.wrap ((a:Int)+(k:Int)+(n:Int))=(a:Int)+(k:Int)+(n:Int):=by rw[IntKind.wrap_i64];omega
   have w3:((a:Int)+(k:Int)+(n:Int)).toNat=a+k+n:=by omega
   have w4:((a:Int)+(k:Int)).toNat=a+k:=by omega
   have w5:(0:Int)≤(a:Int)+(k:Int)∧(a:Int)+(k:Int)≤(a:Int)+(k:Int)+(n:Int)∧(a:Int)+(k:Int)+(n:Int)≤(s.length:Int):=by omega
   have hq:((D.drop k).take n).length=n:=by simp;omega
   have e3:sA D a m= .tup [(false,[.own 1 (ag ((D.drop k).take n))]),(false,[.pv (.int .i64 ((a:Int)+(k:Int)+(n:Int)))]),(false,[.pv (.bool true)])]:=by
    unfold sA;rw[e2,if_pos c];simp;omega
   rw[e3]
   generalize (D.drop k).take n=q at*
   have hf:=we q
   have hw:=eu q
   have e4:=qG (R:=ag q) ⟨hf,hw,by rw[al];omega⟩
   refine aa (fn:=dQ) rfl ?_
   simp +contextual (maxSteps:=9999999) [dQ,e1,e4,b1,b2,d1,d2,w1,w2,w3,w4,w5,hc,hq,hf,hw, ↓ws,al]
  ·have e3:sA D a m= .tup [(false,[.own 1 []]),(false,[.pv (.int .i64 0)]),(false,[.pv (.bool false)])]:=by
    unfold sA;rw[e2,if_neg c]
   rw[e3]
   by_cases d1:m<n
   ·(refine aa (fn:=dQ) rfl ?_;simp +contextual (maxSteps:=9999999) [dQ,e1,b1,b2,d1,w1,al])
   ·have d2:D.length-k<n:=by omega
    refine aa (fn:=dQ) rfl ?_
    simp +contextual (maxSteps:=9999999) [dQ,e1,b1,b2,d1,d2,w1,al]
theorem dY {s:List UInt8}(hl:s.length≤1048576){a:Nat}(ha:a≤s.length){m:Nat}(hm:m≤1048576):ah Ph aH 572 [aR (ag s),ae .i64 a,ae .i64 m]=some (sA (s.drop a) a m):=by
 have e1:=dy hl (a:=a) (by omega)
 generalize hD:s.drop a=D at*
 have hDl:D.length=s.length-a:=by rw[←hD];simp
 have ws:=eu s
 cases e:sB D with
 |none=>
  have e2:sA D a m= .tup [(false,[.own 1 []]),(false,[.pv (.int .i64 0)]),(false,[.pv (.bool false)])]:=by simp[sA,BY,RK,e]
  simp only[se,e]at e1
  rw[e2]
  refine aa (fn:=dU) rfl ?_
  simp +contextual (maxSteps:=9999999) [dU,e1,al]
 |some p=>
  obtain⟨n,k⟩:=p
  obtain⟨k1,k2,k3⟩:=kZ e
  have e2:=RL e m
  simp only[se,e]at e1
  have b1:b9 (m:Int) (n:Int)=decide (m<n):=decide_eq_decide.2 (by omega)
  have w1:IntKind.i64.wrap ((s.length:Int)-((a:Int)+(k:Int)))=((D.length-k:Nat):Int):=by rw[IntKind.wrap_i64];omega
  have b2:b9 ((D.length-k:Nat):Int) (n:Int)=decide (D.length-k<n):=decide_eq_decide.2 (by omega)
  by_cases c:n≤m∧n≤D.length-k
  ·have d1:¬m<n:=by omega
   have d2:¬D.length-k<n:=by omega
   have hc:=AU s (a+k) n
   rw[show(s.drop (a+k))=D.drop k by rw[←hD,List.drop_drop]]at hc
   have w2:IntKind.i64.wrap ((a:Int)+(k:Int)+(n:Int))=(a:Int)+(k:Int)+(n:Int):=by rw[IntKind.wrap_i64];omega
   have w3:((a:Int)+(k:Int)+(n:Int)).toNat=a+k+n:=by omega
   have w4:((a:Int)+(k:Int)).toNat=a+k:=by omega
   have w5:(0:Int)≤(a:Int)+(k:Int)∧(a:Int)+(k:Int)≤(a:Int)+(k:Int)+(n:Int)∧(a:Int)+(k:Int)+(n:Int)≤(s.length:Int):=by omega
   have hq:((D.drop k).take n).length=n:=by simp;omega
   have e3:sA D a m= .tup [(false,[.own 1 (ag ((D.drop k).take n))]),(false,[.pv (.int .i64 ((a:Int)+(k:Int)+(n:Int)))]),(false,[.pv (.bool true)])]:=by
    unfold sA;rw[e2,if_pos c];simp;omega
   rw[e3]
   generalize (D.drop k).take n=q at*
   have hf:=we q
   have hw:=eu q
   have e4:n≤140737488355328∧n≤9223372036854775807:=by omega
   refine aa (fn:=dU) rfl ?_
   simp +contextual (maxSteps:=9999999) [dU,e1,e4,b1,b2,d1,d2,w1,w2,w3,w4,w5,hc,hq,hf,hw, ↓ws,al]
  ·have e3:sA D a m= .tup [(false,[.own 1 []]),(false,[.pv (.int .i64 0)]),(false,[.pv (.bool false)])]:=by
    unfold sA;rw[e2,if_neg c]
   rw[e3]
   by_cases d1:m<n
   ·(refine aa (fn:=dU) rfl ?_;simp +contextual (maxSteps:=9999999) [dU,e1,b1,b2,d1,w1,al])
   ·have d2:D.length-k<n:=by omega
    refine aa (fn:=dU) rfl ?_
    simp +contextual (maxSteps:=9999999) [dU,e1,b1,b2,d1,d2,w1,al]
def p6 (s:List UInt8)(a:Nat×List (List UInt8)):Option (Nat×List (List UInt8)):=match BY 4000 (s.drop a.1)with
 |none=>none
 |some (d,k)=>match sB (s.drop (a.1+k))with
  |none=>none
  |some (m,j)=>if(m:Int)=kw (101::(a.2.length:Int)::Az d)then some (a.1+k+j,a.2++[d])else none
def Qt (s:List UInt8):Nat→Nat×List (List UInt8)→Nat×List (List UInt8)
 |0,a=>a
 |f+1,a=>match p6 s a with
  |none=>a
  |some b=>Qt s f b
def qw (s:List UInt8):Nat×List (List UInt8):=Qt s (s.length+1) (0,[])
theorem wx {s:List UInt8}{a b:Nat×List (List UInt8)}(h:p6 s a=some b):∃d k m j,BY 4000 (s.drop a.1)=some (d,k)∧sB (s.drop (a.1+k))=some (m,j)∧(m:Int)=kw (101::(a.2.length:Int)::Az d)∧
 b=(a.1+k+j,a.2++[d])∧a.1<b.1∧b.1≤s.length∧d.length≤4000:=by
 unfold p6 at h
 split at h
 ·cases h
 ·rename_i d k e
  split at h
  ·cases h
  ·rename_i m j e2
   split at h
   ·rename_i e3
    cases h
    have h1:=jD (eL e).1
    have h2:=kZ e2
    simp only[List.length_drop]at h1 h2
    exact⟨d,k,m,j,e,e2,e3,rfl,by show a.1<a.1+k+j;omega,by show a.1+k+j≤s.length;omega,(eL e).2⟩
   ·cases h
theorem Rq {s:List UInt8}{a:Nat×List (List UInt8)}(h:p6 s a=none):∀f,Qt s f a=a
 |0=>rfl
 |f+1=>by simp only[Qt,h]
def Up (s:List UInt8)(a:Nat×List (List UInt8)):Prop:=a.1≤s.length∧a.2.length≤a.1∧(∀d∈a.2,d.length≤4000)∧∃f,s.length<f+a.1∧Qt s f a=qw s
theorem Rr (s:List UInt8):Up s (0,[]):=⟨Nat.zero_le _,Zk _,fun d h=>absurd h (by simp),s.length+1,by show s.length<s.length+1+0;omega,rfl⟩
theorem tW {s:List UInt8}{a b:Nat×List (List UInt8)}(ia:Up s a)(h:p6 s a=some b):s.length-b.1<s.length-a.1∧Up s b:=by
 obtain⟨h1,h2,h3,f,h4,h5⟩:=ia
 obtain⟨d,k,m,j,_,_,_,rfl,q1,q2,q3⟩:=wx h
 simp only at q1 q2
 refine⟨by simp only;omega,q2,by simp only[Zp,Z0];omega,fun x hx=> ?_,?_⟩
 ·rcases List.mem_append.1 hx with hx|hx
  ·exact h3 x hx
  ·rw[List.mem_singleton.1 hx];exact q3
 ·cases f with
  |zero=>omega
  |succ f=>
   simp only[Qt,h]at h5
   exact⟨f,by simp only;omega,h5⟩
theorem NQ {s:List UInt8}{a:Nat×List (List UInt8)}(ia:Up s a)(h:p6 s a=none):qw s=a:=by
 obtain⟨h1,h2,h3,f,h4,h5⟩:=ia
 rw[←h5,Rq h]
theorem NR (s:List UInt8):(qw s).1≤s.length∧(qw s).2.length≤(qw s).1∧∀d∈(qw s).2,d.length≤4000:=by
 have key:∀f a,Up s a→(Qt s f a).1≤s.length∧(Qt s f a).2.length≤(Qt s f a).1∧∀d∈(Qt s f a).2,d.length≤4000:=by
  intro f
  induction f with
  |zero=>exact fun a ia=>⟨ia.1,ia.2.1,ia.2.2.1⟩
  |succ f ih=>
   intro a ia
   cases e:p6 s a with
   |none=>simp only[Qt,e];exact⟨ia.1,ia.2.1,ia.2.2.1⟩
   |some b=>simp only[Qt,e];exact ih b (tW ia e).2
 exact key _ _ (Rr s)
def Hg (b:List UInt8):List PV:=[.lst (ag b)]
def PM (a:Nat×List (List UInt8)):V:= .tup [(false,[.own 1 (a.2.map Hg)]),(false,[.pv (.int .i64 a.1)])]
theorem BS {s:List UInt8}(hl:s.length≤1048576):ah Ph aH 562 [aR (ag s)]=some (PM (qw s)):=by
 refine aa (fn:=pL) rfl ?_
 simp(maxSteps:=9999999) [pL]
 refine oC bX Cl.fin [.t,.f,.f,.f,.t,.t,.f,.f,.f,.f,.f,.f,.f,.f,.f,.f,.f,.f,.f,.f,.f,.f,.f,.f,.f,.f,.f,.f,.f,.f,.f,.f,.f,.f,.f,.f,.f,.f,.f,.f,.f,.f,.f,.f,.f,.f,.f,.f] (fun a=>[(4, .one (.arr 0)),(5,ae .i64 (a.1:Nat))]) (fun a=>[.arr 1 (a.2.map Hg)]) (p6 s) (fun a=>s.length-a.1) (Up s) (0,[]) (Rr s) rfl (by simp) (fun a b ia ha=> ?_) (fun a ia ha=> ?_)
 ·obtain⟨a,l⟩:=a
  refine⟨(tW ia ha).1,(tW ia ha).2,?_⟩
  obtain⟨h1,h2,h3,_⟩:=ia
  obtain⟨d,k,m,j,e1,e2,e3,rfl,q1,q2,q3⟩:=wx ha
  simp only at h1 h2 h3 e1 e2 e3 q1 q2⊢
  have r1:=cK hl h1 (m:=4000) (by omega)
  rw[show(((4000:Nat):Int))=4000 from rfl]at r1
  simp only[sA,e1]at r1
  have r2:=cR hl (a:=a+k) (by omega)
  rw[Int.natCast_add]at r2
  simp only[se,e2]at r2
  have r3:=rS (s:=d) (by omega) (l.length:Int)
  rw[←e3]at r3
  have m1:=gx (m:=l.length+1) (z:=24) (by omega) (by omega)
  have hm:(l++[d]).map Hg=l.map Hg++[[.lst (ag d)]]:=by simp[Hg]
  have c1:b9 (a:Int) (s.length:Int)=true:=d6 (by omega)
  generalize hW:l.map Hg=W at*
  have hWl:W.length=l.length:=by rw[←hW];simp
  generalize hU:(l++[d]).map Hg=W' at*
  subst hm
  simp(maxSteps:=9999999) [gm,r1,r2,r3,m1,hWl,c1,al,-bY]
  exact Kn.of [2] (by decide) (by simp) (by simp)
 ·obtain⟨a,l⟩:=a
  rw[NQ ia ha]
  obtain⟨h1,h2,h3,_⟩:=ia
  simp only at h1 h2 h3⊢
  have r1:=cK hl h1 (m:=4000) (by omega)
  rw[show(((4000:Nat):Int))=4000 from rfl]at r1
  unfold PM
  simp only
  generalize hW:l.map Hg=W at*
  have hWl:W.length=l.length:=by rw[←hW];simp
  unfold p6 at ha
  simp only at ha
  cases e1:BY 4000 (s.drop a)with
  |none=>
   simp only[sA,e1]at r1
   simp(maxSteps:=9999999) [gm,r1,al]
  |some p=>
   obtain⟨d,k⟩:=p
   simp only[sA,e1]at r1 ha
   have h4:=jD (eL e1).1
   have h5:=(eL e1).2
   simp only[List.length_drop]at h4
   have r2:=cR hl (a:=a+k) (by omega)
   rw[Int.natCast_add]at r2
   cases e2:sB (s.drop (a+k))with
   |none=>
    simp only[se,e2]at r2
    simp(maxSteps:=9999999) [gm,r1,r2,al]
   |some q=>
    obtain⟨m,j⟩:=q
    simp only[se,e2]at r2 ha
    have r3:=rS (s:=d) (by omega) (l.length:Int)
    split at ha
    ·cases ha
    ·rename_i e3
     have e4:((m:Int)==kw (101::(l.length:Int)::Az d))=false:=beq_eq_false_iff_ne.2 e3
     generalize kw (101::(l.length:Int)::Az d)=hv at*
     simp(maxSteps:=9999999) [gm,r1,r2,r3,e4,hWl,al]
theorem B5 {s:List UInt8}(hl:s.length≤1048576):ah Ph aH 559 [aR (ag s)]=some (PM (qw s)):=by
 refine aa (fn:=pT) rfl ?_
 simp(maxSteps:=9999999) [pT]
 refine oC bX Cl.fin [.t,.f,.f,.f,.t,.t,.f,.f,.f,.f,.f,.f,.f,.f,.f,.f,.f,.f,.f,.f,.f,.f,.f,.f,.f,.f,.f,.f,.f,.f,.f,.f,.f,.f,.f,.f,.f,.f,.f,.f,.f,.f,.f,.f,.f,.f,.f,.f,.f,.f] (fun a=>[(4, .one (.arr 0)),(5,ae .i64 (a.1:Nat))]) (fun a=>[.arr 1 (a.2.map Hg)]) (p6 s) (fun a=>s.length-a.1) (Up s) (0,[]) (Rr s) rfl (by simp) (fun a b ia ha=> ?_) (fun a ia ha=> ?_)
 ·obtain⟨a,l⟩:=a
  refine⟨(tW ia ha).1,(tW ia ha).2,?_⟩
  obtain⟨h1,h2,h3,_⟩:=ia
  obtain⟨d,k,m,j,e1,e2,e3,rfl,q1,q2,q3⟩:=wx ha
  simp only at h1 h2 h3 e1 e2 e3 q1 q2⊢
  have r1:=dY hl h1 (m:=4000) (by omega)
  rw[show(((4000:Nat):Int))=4000 from rfl]at r1
  simp only[sA,e1]at r1
  have r2:=dy hl (a:=a+k) (by omega)
  rw[Int.natCast_add]at r2
  simp only[se,e2]at r2
  have r3:=si (s:=d) (by omega) (l.length:Int)
  rw[←e3]at r3
  have m1:=gx (m:=l.length+1) (z:=24) (by omega) (by omega)
  have hm:(l++[d]).map Hg=l.map Hg++[[.lst (ag d)]]:=by simp[Hg]
  have c1:b9 (a:Int) (s.length:Int)=true:=d6 (by omega)
  generalize hW:l.map Hg=W at*
  have hWl:W.length=l.length:=by rw[←hW];simp
  generalize hU:(l++[d]).map Hg=W' at*
  subst hm
  simp(maxSteps:=9999999) [ff,r1,r2,r3,m1,hWl,c1,al,-bY]
  exact Kn.of [2] (by decide) (by simp) (by simp)
 ·obtain⟨a,l⟩:=a
  rw[NQ ia ha]
  obtain⟨h1,h2,h3,_⟩:=ia
  simp only at h1 h2 h3⊢
  have r1:=dY hl h1 (m:=4000) (by omega)
  rw[show(((4000:Nat):Int))=4000 from rfl]at r1
  unfold PM
  simp only
  generalize hW:l.map Hg=W at*
  have hWl:W.length=l.length:=by rw[←hW];simp
  unfold p6 at ha
  simp only at ha
  by_cases c:s.length≤a
  ·have c1:b9 (a:Int) (s.length:Int)=false:=fG (by omega)
   simp(maxSteps:=9999999) [ff,c1,al]
  have c1:b9 (a:Int) (s.length:Int)=true:=d6 (by omega)
  cases e1:BY 4000 (s.drop a)with
  |none=>
   simp only[sA,e1]at r1
   simp(maxSteps:=9999999) [ff,r1,c1,al]
  |some p=>
   obtain⟨d,k⟩:=p
   simp only[sA,e1]at r1 ha
   have h4:=jD (eL e1).1
   have h5:=(eL e1).2
   simp only[List.length_drop]at h4
   have r2:=dy hl (a:=a+k) (by omega)
   rw[Int.natCast_add]at r2
   cases e2:sB (s.drop (a+k))with
   |none=>
    simp only[se,e2]at r2
    simp(maxSteps:=9999999) [ff,r1,r2,c1,al]
   |some q=>
    obtain⟨m,j⟩:=q
    simp only[se,e2]at r2 ha
    have r3:=si (s:=d) (by omega) (l.length:Int)
    split at ha
    ·cases ha
    ·rename_i e3
     have e4:((m:Int)==kw (101::(l.length:Int)::Az d))=false:=beq_eq_false_iff_ne.2 e3
     generalize kw (101::(l.length:Int)::Az d)=hv at*
     simp(maxSteps:=9999999) [ff,r1,r2,r3,e4,hWl,c1,al]
def tg (r:XRecord):V:=cond (cP r.fs) (aR (ag (kA r))) (.one (.own 1 []))
theorem qb (r:XRecord):cT (tg r)=aR (ag (kA r)):=by
 unfold tg
 cases c:cP r.fs
 ·simp[kA,c,cT,cS,ag]
 ·rfl
theorem jP {r:XRecord}(h:r.Ok maxLen):ah Ph aH 226 [r.v]=some (tg r):=by
 have e1:=iF h
 unfold tg
 refine aa (fn:=it) rfl ?_
 cases c1:cP r.fs<;>rw[c1]at e1
 ·simp(maxSteps:=9999999) [it,e1]
 obtain⟨hf,ho⟩:=o9 (r:=r) c1
 have e2:=fa (b:=[]) (by simp) (n:=r.fs.length) (by omega)
 rw[Zt,show ag []=[]from rfl]at e2
 simp(maxSteps:=9999999) [it,e1,e2]
 refine bm bX Cl.fin [.f,.f,.f,.t,.f,.f,.f,.f,.f,.f,.f,.f,.f,.f,.f,.t,.t,.t,.f,.f,.f,.f,.f,.f,.f,.f,.f,.f,.f,.f,.f] (fun k=>[(3,aR (ag (jG r.fs.length++fZ (r.fs.take k)))),(17,ae .i64 k)]) r.fs.length (fun _=>false) rfl (by simp[fZ]) (fun k hk _=> ?_) (fun _ _=> ?_)
 ·have hx:=XField.e.eq_1 r.fs[k]
  have hq:=ho _ (Zf hk)
  have l1:=jF r.fs.length
  have l2:=uL (r.fs.take k) (fun f hf=>ho f (Zy hf))
  have l3:(r.fs.take k).length≤6:=by rw[Zw];omega
  have l4:=jF r.fs[k].name.length
  have e3:=oE (b:=jG r.fs.length++fZ (r.fs.take k)) (s:=r.fs[k].name) (by rw[Zp];omega) (by have:=hq.1;omega)
  have e4:=fa (b:=jG r.fs.length++fZ (r.fs.take k)++mU r.fs[k].name) (by simp only[Zp,mU];have:=hq.1;omega) (n:=r.fs[k].n.toNat) (by have:=hq.2.2;omega)
  rw[show((r.fs[k].n.toNat:Nat):Int)=r.fs[k].n by have:=hq.2.1;omega]at e4
  have ht:fZ (r.fs.take (k+1))=fZ (r.fs.take k)++(mU r.fs[k].name++jG r.fs[k].n.toNat):=by
   unfold fZ;rw[Zx hk,List.flatMap_append];simp[O4]
  have ha:jG r.fs.length++fZ (r.fs.take (k+1))=jG r.fs.length++fZ (r.fs.take k)++mU r.fs[k].name++jG r.fs[k].n.toNat:=by rw[ht];simp
  rw[ha]
  generalize jG r.fs.length++fZ (r.fs.take k)=W at e3 e4⊢
  generalize W++mU r.fs[k].name=W2 at e3 e4⊢
  generalize W2++jG r.fs[k].n.toNat=W3 at e4⊢
  simp(maxSteps:=9999999) [gE,hk,hx,e3,e4,bw h.1 hk,bU hk]
 ·have he:kA r=jG r.fs.length++fZ r.fs:=by simp[kA,c1]
  rw[he]
  simp(maxSteps:=9999999) [gE]
theorem nP {r:XRecord}(h:r.Ok maxLen):ah Ph aH 222 [r.v]=some (tg r):=by
 have e1:=fj h
 unfold tg
 refine aa (fn:=iu) rfl ?_
 cases c1:cP r.fs<;>rw[c1]at e1
 ·simp(maxSteps:=9999999) [iu,e1]
 obtain⟨hf,ho⟩:=o9 (r:=r) c1
 have e2:=fb (b:=[]) (by simp) (n:=r.fs.length) (by omega)
 rw[Zt,show ag []=[]from rfl]at e2
 simp(maxSteps:=9999999) [iu,e1,e2]
 refine bm bX Cl.fin [.f,.t,.f,.t,.t,.f,.f,.f,.f,.f,.f,.f,.f,.f,.f,.f,.f,.f,.f,.f,.f,.f,.f,.f,.f,.f,.f,.f,.f,.f,.f,.f,.f,.f,.f,.f,.f,.f] (fun k=>[(3,aR (ag (jG r.fs.length++fZ (r.fs.take k)))),(4,ae .i64 k)]) r.fs.length (fun _=>false) rfl (by simp[fZ]) (fun k hk _=> ?_) (fun _ _=> ?_)
 ·have hx:=XField.e.eq_1 r.fs[k]
  have hq:=ho _ (Zf hk)
  have l1:=jF r.fs.length
  have l2:=uL (r.fs.take k) (fun f hf=>ho f (Zy hf))
  have l3:(r.fs.take k).length≤6:=by rw[Zw];omega
  have l4:=jF r.fs[k].name.length
  have e3:=oG (b:=jG r.fs.length++fZ (r.fs.take k)) (s:=r.fs[k].name) (by rw[Zp];omega) (by have:=hq.1;omega)
  have e4:=fb (b:=jG r.fs.length++fZ (r.fs.take k)++mU r.fs[k].name) (by simp only[Zp,mU];have:=hq.1;omega) (n:=r.fs[k].n.toNat) (by have:=hq.2.2;omega)
  rw[show((r.fs[k].n.toNat:Nat):Int)=r.fs[k].n by have:=hq.2.1;omega]at e4
  have ht:fZ (r.fs.take (k+1))=fZ (r.fs.take k)++(mU r.fs[k].name++jG r.fs[k].n.toNat):=by
   unfold fZ;rw[Zx hk,List.flatMap_append];simp[O4]
  have ha:jG r.fs.length++fZ (r.fs.take (k+1))=jG r.fs.length++fZ (r.fs.take k)++mU r.fs[k].name++jG r.fs[k].n.toNat:=by rw[ht];simp
  rw[ha]
  generalize jG r.fs.length++fZ (r.fs.take k)=W at e3 e4⊢
  generalize W++mU r.fs[k].name=W2 at e3 e4⊢
  generalize W2++jG r.fs[k].n.toNat=W3 at e4⊢
  simp(maxSteps:=9999999) [gG,hk,hx,e3,e4,bw h.1 hk,bU hk]
 ·have he:kA r=jG r.fs.length++fZ r.fs:=by simp[kA,c1]
  rw[he]
  simp(maxSteps:=9999999) [gG]
theorem qN {n:Int}(h1: -9223372036854775808≤n)(h2:n≤9223372036854775807):IntKind.i64.wrap n=n:=by rw[IntKind.wrap_i64];omega
theorem wrap_u8 (n:Int):IntKind.u8.wrap n=n%256:=by simp[IntKind.wrap,IntKind.signed,IntKind.bits]
theorem B1 {x:Nat}{b:Int}{k:Nat}(hk:k≤63)(h:b=(k:Int)):iz .shr .i64 (x:Int) b=some (ae .i64 ((x/2^k:Nat):Int)):=by
 subst h
 simp only[iz]
 rw[if_neg (by omega),show min (Int.toNat (k:Int)) IntKind.i64.bits=k by rw[Int.toNat_natCast];exact Nat.min_eq_left (Nat.le_succ_of_le hk)]
 rw[Int.fdiv_eq_ediv_of_nonneg _ (Int.le_of_lt (Int.pow_pos (by decide)))]
 norm_cast
theorem jA {k:XKey}(h:k.Ok maxLen):ah Ph aH 225 [k.v]=some (.one (.own 1 (ag (ik k)))):=by
 have e1:=gi h
 refine aa (fn:=iB) rfl ?_
 cases c1:eW k<;>rw[c1]at e1
 ·rw[show ik k=[] by simp[ik,c1]]
  simp(maxSteps:=9999999) [iB,e1,show ag []=[]from rfl]
 obtain⟨h1,h2,h3,h4,h5,h6⟩:=rY c1
 have m1:1+k.text.length≤140737488355328∧1+k.text.length≤9223372036854775807∧7+k.text.length≤140737488355328∧7+k.text.length≤9223372036854775807∧k.text.length+7≤140737488355328∧k.text.length+7≤9223372036854775807:=by omega
 have hk:k.kind%256=k.kind:=by omega
 obtain⟨x,hx⟩:∃x:Nat,k.n+1000000000000=(x:Int):=⟨(k.n+1000000000000).toNat,by omega⟩
 have hw:IntKind.i64.wrap (k.n+1000000000000)=(x:Int):=by rw[hx,IntKind.wrap_i64];omega
 have s0:=B1 (x:=x) (b:=0) (k:=0) (by decide) rfl
 have s1:=B1 (x:=x) (b:=8) (k:=8) (by decide) rfl
 have s2:=B1 (x:=x) (b:=16) (k:=16) (by decide) rfl
 have s3:=B1 (x:=x) (b:=24) (k:=24) (by decide) rfl
 have s4:=B1 (x:=x) (b:=32) (k:=32) (by decide) rfl
 have s5:=B1 (x:=x) (b:=40) (k:=40) (by decide) rfl
 have lt:b9 5 0=false∧b9 4 0=false∧b9 3 0=false∧b9 2 0=false∧b9 1 0=false∧b9 0 0=false∧b9 (-1) 0=true:=by decide
 have hkb:(UInt8.ofNat k.kind.toNat).toNat=k.kind.toNat:=by simp;omega
 have hkt:((k.kind.toNat:Nat):Int)=k.kind:=by omega
 have w1:=eu k.text
 by_cases hq:k.kind=2
 ·have he:ag (ik k)=[.int .u8 k.kind]::ag k.text:=by
   rw[show ik k=UInt8.ofNat k.kind.toNat::k.text by simp[ik,c1,hq]]
   simp only[ag,Zu,hkb,hkt]
  rw[he]
  have hb:(k.kind==2)=true:=by simp[hq]
  simp(maxSteps:=9999999) [iB,e1,hb,hk,wrap_u8,m1,w1,al,jj,iS,lt]
 ·have he:ag (ik k)=[.int .u8 k.kind]::([.int .u8 ((x/2^40:Nat)%256:Int)]::[.int .u8 ((x/2^32:Nat)%256:Int)]::[.int .u8 ((x/2^24:Nat)%256:Int)]::[.int .u8 ((x/2^16:Nat)%256:Int)]::[.int .u8 ((x/2^8:Nat)%256:Int)]::[.int .u8 ((x/2^0:Nat)%256:Int)]::ag k.text):=by
   rw[show ik k=UInt8.ofNat k.kind.toNat::(TL x++k.text) by simp[ik,c1,hq,hx]]
   simp[ag,TL,hkb,hkt]
  rw[he]
  have hb:(k.kind==2)=false:=by simp[hq]
  simp(maxSteps:=9999999) [iB,e1,hb,hk,hw,wrap_u8,qN,s0,s1,s2,s3,s4,s5,m1,w1,al,lt,jj,iS]
end Gi
