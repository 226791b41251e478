/- Of this proof. -/
import Derived.Test.YtbeaonmepfkmmaaGreatGks
set_option linter.unusedSimpArgs false
set_option linter.unusedVariables false
namespace Gi
open Go Go.RowKit
set_option maxHeartbeats 8000000
set_option maxRecDepth 4000
attribute [local simp] start nx bZ cJ cB dB cA dA dG dF og oA oh oB ol oC om oD oq oE ot oF ou oG ov oH oz oI V.cells plain bt gD isInt isStr isBool bin bM fF bN fG dC un asList L.view au V.view viewL aT az bQ bd b6 comp aN bU cy bI aY aW aX ar aj aE ah aq aO am aR bw aA aZ a9 V.flat L.flat cZ cV br putAt thaw thawL thawT V.ow dE cD cE bO dD bP cC freezeVs freezeLs freezeL V.mut L.mut aH cd eW bg bF aP dN cu bK cH L.ren aJ cS bX cY bW bE wp_seq wp_block aM cG bR bf bS wp_skip wp_exit wp_ret b9 b8 cj ca cr ct cq bH aF L.notArr bq bo bp cF b7 storeD aS eB ba bY aQ kX L.mov L.closed V.closed PV.bare PV.flat
abbrev v3 (n k:Int)(b:Bool):V:= .tup [(false,[.pv (.int .i64 n)]),(false,[.pv (.int .i64 k)]),(false,[.pv (.bool b)])]
def sL (D:List UInt8)(a:Nat):V:=match te D with
 |some (n,k)=>v3 n (a+k:Nat) true
 |none=>v3 0 0 false
def Tq (D:List UInt8)(k:Nat):Bool:=match D[k]? with
 |some b=>cw b.toNat 128
 |none=>false
theorem LX {D:List UInt8}{k:Nat}(h:k<D.length):Tq D k=cw D[k].toNat 128:=by simp[Tq,h]
theorem QI {D:List UInt8}{k:Nat}(h:k<D.length)(e:Tq D k=false):128≤D[k].toNat:=by
 rw[LX h]at e
 have:=of_decide_eq_false e
 omega
theorem Nz {D:List UInt8}{k:Nat}(hk:k<D.length)(h6:k<6)(hp:∀j,j<k→Tq D j=false)(hx:D[k].toNat<128):
 te D=if 0<k∧D[k].toNat=0 then none else if oJ (D.take (k+1))≤1000000000000 then some (oJ (D.take (k+1)),k+1)else none:=by
 have e:=Nu 6 k false D hk h6 (fun j hj hjk=>QI hj (hp j hjk)) hx
 unfold te
 rw[e]
 by_cases c:0<k∧D[k].toNat=0<;>simp[c]
theorem Ny {D:List UInt8}(hp:∀j,j<min 6 D.length→Tq D j=false):te D=none:=by
 unfold te
 rw[Km 6 false D fun j hj h6=>QI hj (hp j (by omega))]
theorem Gj {D:List UInt8}{k:Nat}(h:k<D.length):oJ (D.take (k+1))=oJ (D.take k)+D[k].toNat%128*128^k:=by
 rw[List.take_succ_eq_append_getElem h,Gh,List.length_take,Nat.min_eq_left (by omega)]
theorem Ib {k:Nat}(h:k<6):128^k≤34359738368∧(128:Nat)^(k+1)=128^k*128:=by
 refine⟨Nat.le_trans (Nat.pow_le_pow_right (by decide) (show k≤5 by omega)) (by decide),Nat.pow_succ ..⟩
theorem Ul {x k:Nat}(hx:x<128)(hk:k<6):iT .shl .i64 (x:Int) (7*(k:Int))=some (ai .i64 ((x*128^k:Nat):Int)):=by
 have h1:=(Ib hk).1
 have e:(min (7*(k:Int)).toNat IntKind.i64.bits)=7*k:=by show min _ 64=_;omega
 simp only[iT]
 rw[if_neg (by omega)]
 simp only[e]
 have e2:((2:Int)^(7*k))=((128^k:Nat):Int):=by rw[Int.pow_mul];simp
 have h2:x*128^k≤127*34359738368:=Nat.mul_le_mul (by omega) h1
 have q:IntKind.i64.wrap ((x*128^k:Nat):Int)=((x*128^k:Nat):Int):=by
  generalize x*128^k=g at*
  rw[IntKind.wrap_i64];omega
 rw[e2,←Int.natCast_mul,q]
theorem Vl {n x k:Nat}(hn:n<128^k)(hx:x<128)(hk:k<6):IntKind.i64.wrap ((BitVec.ofInt IntKind.i64.bits (n:Int)|||BitVec.ofInt IntKind.i64.bits ((x*128^k:Nat):Int)).toNat:Int)=((n+x*128^k:Nat):Int):=by
 have h1:=(Ib hk).1
 have h2:x*128^k≤127*34359738368:=Nat.mul_le_mul (by omega) h1
 have h3:(128:Nat)^k=2^(7*k):=by rw[Nat.pow_mul]
 have e3:=Nat.two_pow_add_eq_or_of_lt (i:=7*k) (b:=n) (by rw[←h3];exact hn) x
 rw[←h3,Nat.mul_comm _ x]at e3
 generalize x*128^k=g at*
 have e1:(BitVec.ofInt IntKind.i64.bits (n:Int)).toNat=n:=by
  show(BitVec.ofInt 64 (n:Int)).toNat=n
  simp[BitVec.toNat_ofInt];omega
 have e2:(BitVec.ofInt IntKind.i64.bits (g:Int)).toNat=g:=by
  show(BitVec.ofInt 64 (g:Int)).toNat=g
  simp[BitVec.toNat_ofInt];omega
 rw[BitVec.toNat_or,e1,e2,Nat.or_comm,←e3,IntKind.wrap_i64]
 omega
theorem yM {s D:List UInt8}{a k:Nat}(hD:s.drop a=D)(hk:k<D.length):(ae s)[a+k]? =some [.int .u8 D[k].toNat]∧a+k<s.length:=by
 subst hD
 have:a+k<s.length:=by simp at hk;omega
 refine⟨?_,this⟩
 rw[nW this];simp
theorem Kq {D:List UInt8}{a k m x:Nat}(h:te D=if 0<k∧x=0 then none else if m≤1000000000000 then some (m,k+1)else none):
 sL D a=if(decide (0<k)&&decide (x=0))||decide (1000000000000<m)then v3 0 0 false else v3 m (a+(k+1):Nat) true:=by
 unfold sL
 rw[h]
 by_cases c:0<k∧x=0
 ·simp[c]
 ·by_cases d:m≤1000000000000
  ·have d':¬1000000000000<m:=by omega
   rw[if_neg c,if_pos d]
   simp[d']
   intro q;exact fun e=>(c ⟨q,e⟩).elim
  ·have d':1000000000000<m:=by omega
   rw[if_neg c,if_neg d]
   simp[d']
theorem dd {s:List UInt8}(hl:s.length≤1048576){a:Nat}(ha:a≤1048576):ag Ph aC 579 [bi (ae s),ai .i64 a]=some (sL (s.drop a) a):=by
 have a1:cw (a:Int) 0=false:=fB (by omega)
 by_cases h:s.length≤a
 ·have a2:cw (a:Int) (s.length:Int)=false:=fB (by omega)
  have e:sL (s.drop a) a=v3 0 0 false:=by rw[List.drop_eq_nil_of_le h];rfl
  rw[e]
  refine aa (fn:=hX) rfl ?_
  simp +contextual (maxSteps:=9999999) [hX,a1,a2,al]
 have a2:cw (a:Int) (s.length:Int)=true:=eJ (by omega)
 generalize hD:s.drop a=D
 have hDl:D.length=s.length-a:=by rw[←hD];simp
 refine aa (fn:=hX) rfl ?_
 simp(maxSteps:=9999999) [hX,a1,a2,al]
 refine aL bG Cl.fin [.t,.t,.f,.f,.f,.f,.f,.t,.t,.f,.f,.f,.f,.f,.f,.f,.f,.f,.f,.f,.f,.f,.f,.f,.f,.f,.f,.f,.f,.f,.f,.f,.f,.f,.f,.f,.f,.f,.f,.f,.f,.f,.f,.f,.f,.f,.f,.f,.f,.f,.f,.f,.f,.f,.f,.f,.f,.f,.f,.f,.f] (fun k=>[(7,ai .i64 (oJ (D.take k):Nat)),(8,ai .i64 k)]) (min 6 D.length) (Tq D) rfl (by simp[oJ]) (fun k hk hp=> ?_) (fun hp _=> ?_)
 ·have h6:k<6:=by omega
  have hkD:k<D.length:=by omega
  obtain⟨g1,g2⟩:=yM hD hkD
  have c1:cw (k:Int) 6=true:=eJ (by omega)
  have c2:cw ((a:Int)+(k:Int)) (s.length:Int)=true:=eJ (by omega)
  have w1:IntKind.i64.wrap ((a:Int)+(k:Int))=(a:Int)+(k:Int):=by rw[IntKind.wrap_i64];omega
  have w2:((a:Int)+(k:Int)).toNat=a+k:=by omega
  have w3:(0:Int)≤(a:Int)+(k:Int):=by omega
  have w4:=vt D[k]
  have w5:IntKind.i64.wrap (7*(k:Int))=7*(k:Int):=by rw[IntKind.wrap_i64];omega
  have w6:IntKind.i64.wrap ((k:Int)+1)=(k:Int)+1:=by rw[IntKind.wrap_i64];omega
  have w7:IntKind.i64.wrap ((a:Int)+((k:Int)+1))=(a:Int)+((k:Int)+1):=by rw[IntKind.wrap_i64];omega
  have hx:=D[k].toNat_lt
  have s1:=Ul (x:=D[k].toNat%128) (by omega) h6
  have s2:=Gj hkD
  have s3:=xR (D.take k)
  rw[List.length_take,Nat.min_eq_left (by omega)]at s3
  have s4:=Ib h6
  have s5:oJ (D.take (k+1))<128^(k+1):=by have:=xR (D.take (k+1));rwa[List.length_take,Nat.min_eq_left (by omega)]at this
  have s6:=fun hx=>Kq (a:=a) (Nz hkD h6 hp hx)
  have lb:=LX hkD
  have r1:(D[k].toNat:Int).tmod 128=((D[k].toNat%128:Nat):Int):=by rw[Int.tmod_eq_emod_of_nonneg (by omega)];omega
  generalize oJ (D.take (k+1))=m at*
  generalize oJ (D.take k)=n at*
  generalize hy:D[k].toNat%128=y at*
  generalize y*128^k=g at*
  generalize D[k].toNat=x at*
  have s8:IntKind.i64.wrap ((n:Int)+(g:Int))=(m:Int):=by rw[IntKind.wrap_i64];omega
  rw[lb]
  cases hc:cw (x:Int) 128 with
  |false=>simp(maxSteps:=9999999) [eO,a1,c1,c2,w1,w2,w3,w4,w5,w6,s8,g1,r1,s1,hc,al]
  |true=>
   rw[s6 (by have:=of_decide_eq_true hc;omega)]
   have b1:cw 0 (k:Int)=decide (0<k):=decide_eq_decide.2 (by omega)
   have b2:((x:Int)==0)=decide (x=0):=by rw[Bool.eq_iff_iff];simp
   have b3:cw 1000000000000 (m:Int)=decide (1000000000000<m):=decide_eq_decide.2 (by omega)
   generalize decide (0<k)=p1 at b1⊢
   generalize decide (x=0)=p2 at b2⊢
   generalize decide (1000000000000<m)=p3 at b3⊢
   cases p1<;>cases p2<;>cases p3<;>simp(maxSteps:=9999999) [eO,a1,c1,c2,w1,w2,w3,w4,w5,w7,s8,g1,r1,s1,hc,b1,b2,b3,al,Int.add_assoc]
 ·have ev:sL D a=v3 0 0 false:=by unfold sL;rw[Ny hp]
  rw[ev]
  by_cases h6:6≤D.length
  ·have hm:min 6 D.length=6:=by omega
   have c1:cw 6 6=false:=rfl
   rw[hm]
   simp(maxSteps:=9999999) [eO,c1]
  ·have hm:min 6 D.length=D.length:=by omega
   have c1:cw (D.length:Int) 6=true:=eJ (by omega)
   have c2:cw ((a:Int)+(D.length:Int)) (s.length:Int)=false:=fB (by omega)
   have w1:IntKind.i64.wrap ((a:Int)+(D.length:Int))=(a:Int)+(D.length:Int):=by rw[IntKind.wrap_i64];omega
   rw[hm]
   simp(maxSteps:=9999999) [eO,a1,c1,c2,w1,al]
theorem dQ {s:List UInt8}(hl:s.length≤1048576){a:Nat}(ha:a≤1048576):ag Ph aC 573 [bi (ae s),ai .i64 a]=some (sL (s.drop a) a):=by
 have a1:cw (a:Int) 0=false:=fB (by omega)
 generalize hD:s.drop a=D
 have hDl:D.length=s.length-a:=by rw[←hD];simp
 refine aa (fn:=mc) rfl ?_
 simp(maxSteps:=9999999) [mc,a1,al]
 refine aL bG Cl.fin [.t,.t,.f,.f,.f,.f,.f,.t,.t,.f,.f,.f,.f,.f,.f,.f,.f,.f,.f,.f,.f,.f,.f,.f,.f,.f,.f,.f,.f,.f,.f,.f,.f,.f,.f,.f,.f,.f,.f,.f,.f,.f,.f,.f,.f,.f,.f,.f,.f,.f,.f,.f,.f,.f,.f] (fun k=>[(7,ai .i64 (oJ (D.take k):Nat)),(8,ai .i64 k)]) (min 6 D.length) (Tq D) rfl (by simp[oJ]) (fun k hk hp=> ?_) (fun hp _=> ?_)
 ·have h6:k<6:=by omega
  have hkD:k<D.length:=by omega
  obtain⟨g1,g2⟩:=yM hD hkD
  have c1:cw (k:Int) 6=true:=eJ (by omega)
  have c2:cw (a:Int) ((s.length:Int)-(k:Int))=true:=eJ (by omega)
  have c3:IntKind.i64.wrap ((s.length:Int)-(k:Int))=(s.length:Int)-(k:Int):=by rw[IntKind.wrap_i64];omega
  have w1:IntKind.i64.wrap ((a:Int)+(k:Int))=(a:Int)+(k:Int):=by rw[IntKind.wrap_i64];omega
  have w2:((a:Int)+(k:Int)).toNat=a+k:=by omega
  have w3:(0:Int)≤(a:Int)+(k:Int):=by omega
  have w4:=vt D[k]
  have w5:IntKind.i64.wrap (7*(k:Int))=7*(k:Int):=by rw[IntKind.wrap_i64];omega
  have w6:IntKind.i64.wrap ((k:Int)+1)=(k:Int)+1:=by rw[IntKind.wrap_i64];omega
  have w7:IntKind.i64.wrap ((a:Int)+((k:Int)+1))=(a:Int)+((k:Int)+1):=by rw[IntKind.wrap_i64];omega
  have hx:=D[k].toNat_lt
  have s1:=Ul (x:=D[k].toNat%128) (by omega) h6
  have s2:=Gj hkD
  have s3:=xR (D.take k)
  rw[List.length_take,Nat.min_eq_left (by omega)]at s3
  have s4:=Ib h6
  have s5:oJ (D.take (k+1))<128^(k+1):=by have:=xR (D.take (k+1));rwa[List.length_take,Nat.min_eq_left (by omega)]at this
  have s6:=fun hx=>Kq (a:=a) (Nz hkD h6 hp hx)
  have lb:=LX hkD
  have r1:=PT (n:=D[k].toNat) (by omega)
  have s8:=Vl (n:=oJ (D.take k)) (x:=D[k].toNat%128) s3 (by omega) h6
  rw[←s2]at s8
  generalize oJ (D.take (k+1))=m at*
  generalize oJ (D.take k)=n at*
  generalize hy:D[k].toNat%128=y at*
  generalize y*128^k=g at*
  generalize D[k].toNat=x at*
  rw[lb]
  cases hc:cw (x:Int) 128 with
  |false=>simp(maxSteps:=9999999) [eR,a1,c1,c2,c3,w1,w2,w3,w4,w5,w6, ↓s8,g1, ↓r1,s1,hc,al]
  |true=>
   rw[s6 (by have:=of_decide_eq_true hc;omega)]
   have b1:cw 0 (k:Int)=decide (0<k):=decide_eq_decide.2 (by omega)
   have b2:((x:Int)==0)=decide (x=0):=by rw[Bool.eq_iff_iff];simp
   have b3:cw 1000000000000 (m:Int)=decide (1000000000000<m):=decide_eq_decide.2 (by omega)
   generalize decide (0<k)=p1 at b1⊢
   generalize decide (x=0)=p2 at b2⊢
   generalize decide (1000000000000<m)=p3 at b3⊢
   cases p1<;>cases p2<;>cases p3<;>simp(maxSteps:=9999999) [eR,a1,c1,c2,c3,w1,w2,w3,w4,w5,w7, ↓s8,g1, ↓r1,s1,hc,b1,b2,b3,al,Int.add_assoc]
 ·have ev:sL D a=v3 0 0 false:=by unfold sL;rw[Ny hp]
  rw[ev]
  by_cases h6:6≤D.length
  ·have hm:min 6 D.length=6:=by omega
   have c1:cw 6 6=false:=rfl
   rw[hm]
   simp(maxSteps:=9999999) [eR,c1]
  ·have hm:min 6 D.length=D.length:=by omega
   have c1:cw (D.length:Int) 6=true:=eJ (by omega)
   have c2:cw (a:Int) ((s.length:Int)-(D.length:Int))=false:=fB (by omega)
   have w1:IntKind.i64.wrap ((s.length:Int)-(D.length:Int))=(s.length:Int)-(D.length:Int):=by rw[IntKind.wrap_i64];omega
   rw[hm]
   simp(maxSteps:=9999999) [eR,a1,c1,c2,w1,al]
def td (D:List UInt8)(a m:Nat):V:=match Cm m D with
 |some (b,k)=> .tup [(false,[.own 1 (ae b)]),(false,[.pv (.int .i64 (a+k:Nat))]),(false,[.pv (.bool true)])]
 |none=> .tup [(false,[.own 1 []]),(false,[.pv (.int .i64 0)]),(false,[.pv (.bool false)])]
theorem QX {D:List UInt8}{n k:Nat}(h:te D=some (n,k))(m:Nat):Cm m D=if n≤m∧n≤D.length-k then some ((D.drop k).take n,k+n)else none:=by
 have hk:=(lG h).2.1
 unfold Cm QW
 rw[h]
 by_cases c:n≤D.length-k
 ·have e:((D.drop k).take n).length=n:=by simp;omega
  by_cases d:n≤m<;>simp[c,d,e]
 ·simp[c]
theorem Bk (s:List UInt8)(i n:Nat):((ae s).drop i).take n=ae ((s.drop i).take n):=by
 unfold ae
 rw[←List.map_drop,←List.map_take]
theorem cU {s:List UInt8}(hl:s.length≤1048576){a:Nat}(ha:a≤s.length){m:Nat}(hm:m≤1048576):ag Ph aC 578 [bi (ae s),ai .i64 a,ai .i64 m]=some (td (s.drop a) a m):=by
 have e1:=dd hl (a:=a) (by omega)
 generalize hD:s.drop a=D at*
 have hDl:D.length=s.length-a:=by rw[←hD];simp
 have ws:=eU s
 cases e:te D with
 |none=>
  have e2:td D a m= .tup [(false,[.own 1 []]),(false,[.pv (.int .i64 0)]),(false,[.pv (.bool false)])]:=by simp[td,Cm,QW,e]
  simp only[sL,e]at e1
  rw[e2]
  refine aa (fn:=ep) rfl ?_
  simp +contextual (maxSteps:=9999999) [ep,e1,al]
 |some p=>
  obtain⟨n,k⟩:=p
  obtain⟨k1,k2,k3⟩:=lG e
  have e2:=QX e m
  simp only[sL,e]at e1
  have b1:cw (m:Int) (n:Int)=decide (m<n):=decide_eq_decide.2 (by omega)
  have w1:IntKind.i64.wrap ((s.length:Int)-((a:Int)+(k:Int)))=((D.length-k:Nat):Int):=by rw[IntKind.wrap_i64];omega
  have b2:cw ((D.length-k:Nat):Int) (n:Int)=decide (D.length-k<n):=decide_eq_decide.2 (by omega)
  by_cases c:n≤m∧n≤D.length-k
  ·have d1:¬m<n:=by omega
   have d2:¬D.length-k<n:=by omega
   have hc:=Bk s (a+k) n
   rw[show(s.drop (a+k))=D.drop k by rw[←hD,List.drop_drop]]at hc
   have w2:IntKind.i64.wrap ((a:Int)+(k:Int)+(n:Int))=(a:Int)+(k:Int)+(n:Int):=by rw[IntKind.wrap_i64];omega
   have w3:((a:Int)+(k:Int)+(n:Int)).toNat=a+k+n:=by omega
   have w4:((a:Int)+(k:Int)).toNat=a+k:=by omega
   have w5:(0:Int)≤(a:Int)+(k:Int)∧(a:Int)+(k:Int)≤(a:Int)+(k:Int)+(n:Int)∧(a:Int)+(k:Int)+(n:Int)≤(s.length:Int):=by omega
   have hq:((D.drop k).take n).length=n:=by simp;omega
   have e3:td D a m= .tup [(false,[.own 1 (ae ((D.drop k).take n))]),(false,[.pv (.int .i64 ((a:Int)+(k:Int)+(n:Int)))]),(false,[.pv (.bool true)])]:=by
    unfold td;rw[e2,if_pos c];simp;omega
   rw[e3]
   generalize (D.drop k).take n=q at*
   have hf:=xb q
   have hw:=eU q
   have e4:=rl (R:=ae q) ⟨hf,hw,by rw[al];omega⟩
   refine aa (fn:=ep) rfl ?_
   simp +contextual (maxSteps:=9999999) [ep,e1,e4,b1,b2,d1,d2,w1,w2,w3,w4,w5,hc,hq,hf,hw, ↓ws,al]
  ·have e3:td D a m= .tup [(false,[.own 1 []]),(false,[.pv (.int .i64 0)]),(false,[.pv (.bool false)])]:=by
    unfold td;rw[e2,if_neg c]
   rw[e3]
   by_cases d1:m<n
   ·(refine aa (fn:=ep) rfl ?_;simp +contextual (maxSteps:=9999999) [ep,e1,b1,b2,d1,w1,al])
   ·have d2:D.length-k<n:=by omega
    refine aa (fn:=ep) rfl ?_
    simp +contextual (maxSteps:=9999999) [ep,e1,b1,b2,d1,d2,w1,al]
theorem eE {s:List UInt8}(hl:s.length≤1048576){a:Nat}(ha:a≤s.length){m:Nat}(hm:m≤1048576):ag Ph aC 572 [bi (ae s),ai .i64 a,ai .i64 m]=some (td (s.drop a) a m):=by
 have e1:=dQ hl (a:=a) (by omega)
 generalize hD:s.drop a=D at*
 have hDl:D.length=s.length-a:=by rw[←hD];simp
 have ws:=eU s
 cases e:te D with
 |none=>
  have e2:td D a m= .tup [(false,[.own 1 []]),(false,[.pv (.int .i64 0)]),(false,[.pv (.bool false)])]:=by simp[td,Cm,QW,e]
  simp only[sL,e]at e1
  rw[e2]
  refine aa (fn:=ez) rfl ?_
  simp +contextual (maxSteps:=9999999) [ez,e1,al]
 |some p=>
  obtain⟨n,k⟩:=p
  obtain⟨k1,k2,k3⟩:=lG e
  have e2:=QX e m
  simp only[sL,e]at e1
  have b1:cw (m:Int) (n:Int)=decide (m<n):=decide_eq_decide.2 (by omega)
  have w1:IntKind.i64.wrap ((s.length:Int)-((a:Int)+(k:Int)))=((D.length-k:Nat):Int):=by rw[IntKind.wrap_i64];omega
  have b2:cw ((D.length-k:Nat):Int) (n:Int)=decide (D.length-k<n):=decide_eq_decide.2 (by omega)
  by_cases c:n≤m∧n≤D.length-k
  ·have d1:¬m<n:=by omega
   have d2:¬D.length-k<n:=by omega
   have hc:=Bk s (a+k) n
   rw[show(s.drop (a+k))=D.drop k by rw[←hD,List.drop_drop]]at hc
   have w2:IntKind.i64.wrap ((a:Int)+(k:Int)+(n:Int))=(a:Int)+(k:Int)+(n:Int):=by rw[IntKind.wrap_i64];omega
   have w3:((a:Int)+(k:Int)+(n:Int)).toNat=a+k+n:=by omega
   have w4:((a:Int)+(k:Int)).toNat=a+k:=by omega
   have w5:(0:Int)≤(a:Int)+(k:Int)∧(a:Int)+(k:Int)≤(a:Int)+(k:Int)+(n:Int)∧(a:Int)+(k:Int)+(n:Int)≤(s.length:Int):=by omega
   have hq:((D.drop k).take n).length=n:=by simp;omega
   have e3:td D a m= .tup [(false,[.own 1 (ae ((D.drop k).take n))]),(false,[.pv (.int .i64 ((a:Int)+(k:Int)+(n:Int)))]),(false,[.pv (.bool true)])]:=by
    unfold td;rw[e2,if_pos c];simp;omega
   rw[e3]
   generalize (D.drop k).take n=q at*
   have hf:=xb q
   have hw:=eU q
   have e4:n≤140737488355328∧n≤9223372036854775807:=by omega
   refine aa (fn:=ez) rfl ?_
   simp +contextual (maxSteps:=9999999) [ez,e1,e4,b1,b2,d1,d2,w1,w2,w3,w4,w5,hc,hq,hf,hw, ↓ws,al]
  ·have e3:td D a m= .tup [(false,[.own 1 []]),(false,[.pv (.int .i64 0)]),(false,[.pv (.bool false)])]:=by
    unfold td;rw[e2,if_neg c]
   rw[e3]
   by_cases d1:m<n
   ·(refine aa (fn:=ez) rfl ?_;simp +contextual (maxSteps:=9999999) [ez,e1,b1,b2,d1,w1,al])
   ·have d2:D.length-k<n:=by omega
    refine aa (fn:=ez) rfl ?_
    simp +contextual (maxSteps:=9999999) [ez,e1,b1,b2,d1,d2,w1,al]
def qw (s:List UInt8)(a:Nat×List (List UInt8)):Option (Nat×List (List UInt8)):=match Cm 4000 (s.drop a.1)with
 |none=>none
 |some (d,k)=>match te (s.drop (a.1+k))with
  |none=>none
  |some (m,j)=>if(m:Int)=kW (101::(a.2.length:Int)::A6 d)then some (a.1+k+j,a.2++[d])else none
def PH (s:List UInt8):Nat→Nat×List (List UInt8)→Nat×List (List UInt8)
 |0,a=>a
 |f+1,a=>match qw s a with
  |none=>a
  |some b=>PH s f b
def sa (s:List UInt8):Nat×List (List UInt8):=PH s (s.length+1) (0,[])
theorem xq {s:List UInt8}{a b:Nat×List (List UInt8)}(h:qw s a=some b):∃d k m j,Cm 4000 (s.drop a.1)=some (d,k)∧te (s.drop (a.1+k))=some (m,j)∧(m:Int)=kW (101::(a.2.length:Int)::A6 d)∧
 b=(a.1+k+j,a.2++[d])∧a.1<b.1∧b.1≤s.length∧d.length≤4000:=by
 unfold qw at h
 split at h
 ·cases h
 ·rename_i d k e
  split at h
  ·cases h
  ·rename_i m j e2
   split at h
   ·rename_i e3
    cases h
    have h1:=jW (fi e).1
    have h2:=lG e2
    simp only[List.length_drop]at h1 h2
    exact⟨d,k,m,j,e,e2,e3,rfl,by show a.1<a.1+k+j;omega,by show a.1+k+j≤s.length;omega,(fi e).2⟩
   ·cases h
theorem QG {s:List UInt8}{a:Nat×List (List UInt8)}(h:qw s a=none):∀f,PH s f a=a
 |0=>rfl
 |f+1=>by simp only[PH,h]
def Tp (s:List UInt8)(a:Nat×List (List UInt8)):Prop:=a.1≤s.length∧a.2.length≤a.1∧(∀d∈a.2,d.length≤4000)∧∃f,s.length<f+a.1∧PH s f a=sa s
theorem QH (s:List UInt8):Tp s (0,[]):=⟨Nat.zero_le _,Nat.le_refl _,fun d h=>absurd h (by simp),s.length+1,by show s.length<s.length+1+0;omega,rfl⟩
theorem uP {s:List UInt8}{a b:Nat×List (List UInt8)}(ia:Tp s a)(h:qw s a=some b):s.length-b.1<s.length-a.1∧Tp s b:=by
 obtain⟨h1,h2,h3,f,h4,h5⟩:=ia
 obtain⟨d,k,m,j,_,_,_,rfl,q1,q2,q3⟩:=xq h
 simp only at q1 q2
 refine⟨by simp only;omega,q2,by simp only[List.length_append,List.length_singleton];omega,fun x hx=> ?_,?_⟩
 ·rcases List.mem_append.1 hx with hx|hx
  ·exact h3 x hx
  ·rw[List.mem_singleton.1 hx];exact q3
 ·cases f with
  |zero=>omega
  |succ f=>
   simp only[PH,h]at h5
   exact⟨f,by simp only;omega,h5⟩
theorem Nk {s:List UInt8}{a:Nat×List (List UInt8)}(ia:Tp s a)(h:qw s a=none):sa s=a:=by
 obtain⟨h1,h2,h3,f,h4,h5⟩:=ia
 rw[←h5,QG h]
theorem Nl (s:List UInt8):(sa s).1≤s.length∧(sa s).2.length≤(sa s).1∧∀d∈(sa s).2,d.length≤4000:=by
 have key:∀f a,Tp s a→(PH s f a).1≤s.length∧(PH s f a).2.length≤(PH s f a).1∧∀d∈(PH s f a).2,d.length≤4000:=by
  intro f
  induction f with
  |zero=>exact fun a ia=>⟨ia.1,ia.2.1,ia.2.2.1⟩
  |succ f ih=>
   intro a ia
   cases e:qw s a with
   |none=>simp only[PH,e];exact⟨ia.1,ia.2.1,ia.2.2.1⟩
   |some b=>simp only[PH,e];exact ih b (uP ia e).2
 exact key _ _ (QH s)
def Ha (b:List UInt8):List PV:=[.lst (ae b)]
def O0 (a:Nat×List (List UInt8)):V:= .tup [(false,[.own 1 (a.2.map Ha)]),(false,[.pv (.int .i64 a.1)])]
theorem Cg {s:List UInt8}(hl:s.length≤1048576):ag Ph aC 562 [bi (ae s)]=some (O0 (sa s)):=by
 refine aa (fn:=qd) rfl ?_
 simp(maxSteps:=9999999) [qd]
 refine pk bG Cl.fin [.t,.f,.f,.f,.t,.t,.f,.f,.f,.f,.f,.f,.f,.f,.f,.f,.f,.f,.f,.f,.f,.f,.f,.f,.f,.f,.f,.f,.f,.f,.f,.f,.f,.f,.f,.f,.f,.f,.f,.f,.f,.f,.f,.f,.f,.f,.f,.f] (fun a=>[(4, .one (.arr 0)),(5,ai .i64 (a.1:Nat))]) (fun a=>[.arr 1 (a.2.map Ha)]) (qw s) (fun a=>s.length-a.1) (Tp s) (0,[]) (QH s) rfl (by simp) (fun a b ia ha=> ?_) (fun a ia ha=> ?_)
 ·obtain⟨a,l⟩:=a
  refine⟨(uP ia ha).1,(uP ia ha).2,?_⟩
  obtain⟨h1,h2,h3,_⟩:=ia
  obtain⟨d,k,m,j,e1,e2,e3,rfl,q1,q2,q3⟩:=xq ha
  simp only at h1 h2 h3 e1 e2 e3 q1 q2⊢
  have r1:=cU hl h1 (m:=4000) (by omega)
  rw[show(((4000:Nat):Int))=4000 from rfl]at r1
  simp only[td,e1]at r1
  have r2:=dd hl (a:=a+k) (by omega)
  rw[Int.natCast_add]at r2
  simp only[sL,e2]at r2
  have r3:=sA (s:=d) (by omega) (l.length:Int)
  rw[←e3]at r3
  have m1:=gV (m:=l.length+1) (z:=24) (by omega) (by omega)
  have hm:(l++[d]).map Ha=l.map Ha++[[.lst (ae d)]]:=by simp[Ha]
  have c1:cw (a:Int) (s.length:Int)=true:=eJ (by omega)
  generalize hW:l.map Ha=W at*
  have hWl:W.length=l.length:=by rw[←hW];simp
  generalize hU:(l++[d]).map Ha=W' at*
  subst hm
  simp(maxSteps:=9999999) [gQ,r1,r2,r3,m1,hWl,c1,al,-cd]
  exact Kn.of [2] (by decide) (by simp) (by simp)
 ·obtain⟨a,l⟩:=a
  rw[Nk ia ha]
  obtain⟨h1,h2,h3,_⟩:=ia
  simp only at h1 h2 h3⊢
  have r1:=cU hl h1 (m:=4000) (by omega)
  rw[show(((4000:Nat):Int))=4000 from rfl]at r1
  unfold O0
  simp only
  generalize hW:l.map Ha=W at*
  have hWl:W.length=l.length:=by rw[←hW];simp
  unfold qw at ha
  simp only at ha
  cases e1:Cm 4000 (s.drop a)with
  |none=>
   simp only[td,e1]at r1
   simp(maxSteps:=9999999) [gQ,r1,al]
  |some p=>
   obtain⟨d,k⟩:=p
   simp only[td,e1]at r1 ha
   have h4:=jW (fi e1).1
   have h5:=(fi e1).2
   simp only[List.length_drop]at h4
   have r2:=dd hl (a:=a+k) (by omega)
   rw[Int.natCast_add]at r2
   cases e2:te (s.drop (a+k))with
   |none=>
    simp only[sL,e2]at r2
    simp(maxSteps:=9999999) [gQ,r1,r2,al]
   |some q=>
    obtain⟨m,j⟩:=q
    simp only[sL,e2]at r2 ha
    have r3:=sA (s:=d) (by omega) (l.length:Int)
    split at ha
    ·cases ha
    ·rename_i e3
     have e4:((m:Int)==kW (101::(l.length:Int)::A6 d))=false:=beq_eq_false_iff_ne.2 e3
     generalize kW (101::(l.length:Int)::A6 d)=hv at*
     simp(maxSteps:=9999999) [gQ,r1,r2,r3,e4,hWl,al]
theorem Cs {s:List UInt8}(hl:s.length≤1048576):ag Ph aC 559 [bi (ae s)]=some (O0 (sa s)):=by
 refine aa (fn:=ql) rfl ?_
 simp(maxSteps:=9999999) [ql]
 refine pk bG Cl.fin [.t,.f,.f,.f,.t,.t,.f,.f,.f,.f,.f,.f,.f,.f,.f,.f,.f,.f,.f,.f,.f,.f,.f,.f,.f,.f,.f,.f,.f,.f,.f,.f,.f,.f,.f,.f,.f,.f,.f,.f,.f,.f,.f,.f,.f,.f,.f,.f,.f,.f] (fun a=>[(4, .one (.arr 0)),(5,ai .i64 (a.1:Nat))]) (fun a=>[.arr 1 (a.2.map Ha)]) (qw s) (fun a=>s.length-a.1) (Tp s) (0,[]) (QH s) rfl (by simp) (fun a b ia ha=> ?_) (fun a ia ha=> ?_)
 ·obtain⟨a,l⟩:=a
  refine⟨(uP ia ha).1,(uP ia ha).2,?_⟩
  obtain⟨h1,h2,h3,_⟩:=ia
  obtain⟨d,k,m,j,e1,e2,e3,rfl,q1,q2,q3⟩:=xq ha
  simp only at h1 h2 h3 e1 e2 e3 q1 q2⊢
  have r1:=eE hl h1 (m:=4000) (by omega)
  rw[show(((4000:Nat):Int))=4000 from rfl]at r1
  simp only[td,e1]at r1
  have r2:=dQ hl (a:=a+k) (by omega)
  rw[Int.natCast_add]at r2
  simp only[sL,e2]at r2
  have r3:=sO (s:=d) (by omega) (l.length:Int)
  rw[←e3]at r3
  have m1:=gV (m:=l.length+1) (z:=24) (by omega) (by omega)
  have hm:(l++[d]).map Ha=l.map Ha++[[.lst (ae d)]]:=by simp[Ha]
  have c1:cw (a:Int) (s.length:Int)=true:=eJ (by omega)
  generalize hW:l.map Ha=W at*
  have hWl:W.length=l.length:=by rw[←hW];simp
  generalize hU:(l++[d]).map Ha=W' at*
  subst hm
  simp(maxSteps:=9999999) [fK,r1,r2,r3,m1,hWl,c1,al,-cd]
  exact Kn.of [2] (by decide) (by simp) (by simp)
 ·obtain⟨a,l⟩:=a
  rw[Nk ia ha]
  obtain⟨h1,h2,h3,_⟩:=ia
  simp only at h1 h2 h3⊢
  have r1:=eE hl h1 (m:=4000) (by omega)
  rw[show(((4000:Nat):Int))=4000 from rfl]at r1
  unfold O0
  simp only
  generalize hW:l.map Ha=W at*
  have hWl:W.length=l.length:=by rw[←hW];simp
  unfold qw at ha
  simp only at ha
  by_cases c:s.length≤a
  ·have c1:cw (a:Int) (s.length:Int)=false:=fB (by omega)
   simp(maxSteps:=9999999) [fK,c1,al]
  have c1:cw (a:Int) (s.length:Int)=true:=eJ (by omega)
  cases e1:Cm 4000 (s.drop a)with
  |none=>
   simp only[td,e1]at r1
   simp(maxSteps:=9999999) [fK,r1,c1,al]
  |some p=>
   obtain⟨d,k⟩:=p
   simp only[td,e1]at r1 ha
   have h4:=jW (fi e1).1
   have h5:=(fi e1).2
   simp only[List.length_drop]at h4
   have r2:=dQ hl (a:=a+k) (by omega)
   rw[Int.natCast_add]at r2
   cases e2:te (s.drop (a+k))with
   |none=>
    simp only[sL,e2]at r2
    simp(maxSteps:=9999999) [fK,r1,r2,c1,al]
   |some q=>
    obtain⟨m,j⟩:=q
    simp only[sL,e2]at r2 ha
    have r3:=sO (s:=d) (by omega) (l.length:Int)
    split at ha
    ·cases ha
    ·rename_i e3
     have e4:((m:Int)==kW (101::(l.length:Int)::A6 d))=false:=beq_eq_false_iff_ne.2 e3
     generalize kW (101::(l.length:Int)::A6 d)=hv at*
     simp(maxSteps:=9999999) [fK,r1,r2,r3,e4,hWl,c1,al]
def t8 (r:XRecord):V:=cond (db r.fs) (bi (ae (kY r))) (.one (.own 1 []))
theorem qB (r:XRecord):cZ (t8 r)=bi (ae (kY r)):=by
 unfold t8
 cases c:db r.fs
 ·simp[kY,c,cZ,cV,ae]
 ·rfl
theorem km {r:XRecord}(h:r.Ok maxLen):ag Ph aC 226 [r.v]=some (t8 r):=by
 have e1:=iZ h
 unfold t8
 refine aa (fn:=iM) rfl ?_
 cases c1:db r.fs<;>rw[c1]at e1
 ·simp(maxSteps:=9999999) [iM,e1]
 obtain⟨hf,ho⟩:=pU (r:=r) c1
 have e2:=fH (b:=[]) (by simp) (n:=r.fs.length) (by omega)
 rw[List.nil_append,show ae []=[]from rfl]at e2
 simp(maxSteps:=9999999) [iM,e1,e2]
 refine aL bG Cl.fin [.f,.f,.f,.t,.f,.f,.f,.f,.f,.f,.f,.f,.f,.f,.f,.t,.t,.t,.f,.f,.f,.f,.f,.f,.f,.f,.f,.f,.f,.f,.f] (fun k=>[(3,bi (ae (jZ r.fs.length++gJ (r.fs.take k)))),(17,ai .i64 k)]) r.fs.length (fun _=>false) rfl (by simp[gJ]) (fun k hk _=> ?_) (fun _ _=> ?_)
 ·have hx:=XField.e.eq_1 r.fs[k]
  have hq:=ho _ (List.getElem_mem hk)
  have l1:=jY r.fs.length
  have l2:=vJ (r.fs.take k) (fun f hf=>ho f (List.mem_of_mem_take hf))
  have l3:(r.fs.take k).length≤6:=by rw[List.length_take];omega
  have l4:=jY r.fs[k].name.length
  have e3:=pn (b:=jZ r.fs.length++gJ (r.fs.take k)) (s:=r.fs[k].name) (by rw[List.length_append];omega) (by have:=hq.1;omega)
  have e4:=fH (b:=jZ r.fs.length++gJ (r.fs.take k)++ny r.fs[k].name) (by simp only[List.length_append,ny];have:=hq.1;omega) (n:=r.fs[k].n.toNat) (by have:=hq.2.2;omega)
  rw[show((r.fs[k].n.toNat:Nat):Int)=r.fs[k].n by have:=hq.2.1;omega]at e4
  have ht:gJ (r.fs.take (k+1))=gJ (r.fs.take k)++(ny r.fs[k].name++jZ r.fs[k].n.toNat):=by
   unfold gJ;rw[List.take_succ_eq_append_getElem hk,List.flatMap_append];simp[Og]
  have ha:jZ r.fs.length++gJ (r.fs.take (k+1))=jZ r.fs.length++gJ (r.fs.take k)++ny r.fs[k].name++jZ r.fs[k].n.toNat:=by rw[ht];simp
  rw[ha]
  generalize jZ r.fs.length++gJ (r.fs.take k)=W at e3 e4⊢
  generalize W++ny r.fs[k].name=W2 at e3 e4⊢
  generalize W2++jZ r.fs[k].n.toNat=W3 at e4⊢
  simp(maxSteps:=9999999) [hY,hk,hx,e3,e4,aU h.1 hk,a8 hk]
 ·have he:kY r=jZ r.fs.length++gJ r.fs:=by simp[kY,c1]
  rw[he]
  simp(maxSteps:=9999999) [hY]
theorem oN {r:XRecord}(h:r.Ok maxLen):ag Ph aC 222 [r.v]=some (t8 r):=by
 have e1:=fR h
 unfold t8
 refine aa (fn:=iN) rfl ?_
 cases c1:db r.fs<;>rw[c1]at e1
 ·simp(maxSteps:=9999999) [iN,e1]
 obtain⟨hf,ho⟩:=pU (r:=r) c1
 have e2:=fI (b:=[]) (by simp) (n:=r.fs.length) (by omega)
 rw[List.nil_append,show ae []=[]from rfl]at e2
 simp(maxSteps:=9999999) [iN,e1,e2]
 refine aL bG Cl.fin [.f,.t,.f,.t,.t,.f,.f,.f,.f,.f,.f,.f,.f,.f,.f,.f,.f,.f,.f,.f,.f,.f,.f,.f,.f,.f,.f,.f,.f,.f,.f,.f,.f,.f,.f,.f,.f,.f] (fun k=>[(3,bi (ae (jZ r.fs.length++gJ (r.fs.take k)))),(4,ai .i64 k)]) r.fs.length (fun _=>false) rfl (by simp[gJ]) (fun k hk _=> ?_) (fun _ _=> ?_)
 ·have hx:=XField.e.eq_1 r.fs[k]
  have hq:=ho _ (List.getElem_mem hk)
  have l1:=jY r.fs.length
  have l2:=vJ (r.fs.take k) (fun f hf=>ho f (List.mem_of_mem_take hf))
  have l3:(r.fs.take k).length≤6:=by rw[List.length_take];omega
  have l4:=jY r.fs[k].name.length
  have e3:=pt (b:=jZ r.fs.length++gJ (r.fs.take k)) (s:=r.fs[k].name) (by rw[List.length_append];omega) (by have:=hq.1;omega)
  have e4:=fI (b:=jZ r.fs.length++gJ (r.fs.take k)++ny r.fs[k].name) (by simp only[List.length_append,ny];have:=hq.1;omega) (n:=r.fs[k].n.toNat) (by have:=hq.2.2;omega)
  rw[show((r.fs[k].n.toNat:Nat):Int)=r.fs[k].n by have:=hq.2.1;omega]at e4
  have ht:gJ (r.fs.take (k+1))=gJ (r.fs.take k)++(ny r.fs[k].name++jZ r.fs[k].n.toNat):=by
   unfold gJ;rw[List.take_succ_eq_append_getElem hk,List.flatMap_append];simp[Og]
  have ha:jZ r.fs.length++gJ (r.fs.take (k+1))=jZ r.fs.length++gJ (r.fs.take k)++ny r.fs[k].name++jZ r.fs[k].n.toNat:=by rw[ht];simp
  rw[ha]
  generalize jZ r.fs.length++gJ (r.fs.take k)=W at e3 e4⊢
  generalize W++ny r.fs[k].name=W2 at e3 e4⊢
  generalize W2++jZ r.fs[k].n.toNat=W3 at e4⊢
  simp(maxSteps:=9999999) [ib,hk,hx,e3,e4,aU h.1 hk,a8 hk]
 ·have he:kY r=jZ r.fs.length++gJ r.fs:=by simp[kY,c1]
  rw[he]
  simp(maxSteps:=9999999) [ib]
theorem rz {n:Int}(h1: -9223372036854775808≤n)(h2:n≤9223372036854775807):IntKind.i64.wrap n=n:=by rw[IntKind.wrap_i64];omega
theorem CN (n:Int):IntKind.u8.wrap n=n%256:=by simp[IntKind.wrap,IntKind.signed,IntKind.bits]
theorem Co {x:Nat}{b:Int}{k:Nat}(hk:k≤63)(h:b=(k:Int)):iT .shr .i64 (x:Int) b=some (ai .i64 ((x/2^k:Nat):Int)):=by
 subst h
 simp only[iT]
 rw[if_neg (by omega),show min (Int.toNat (k:Int)) IntKind.i64.bits=k by rw[Int.toNat_natCast];exact Nat.min_eq_left (Nat.le_succ_of_le hk)]
 rw[Int.fdiv_eq_ediv_of_nonneg _ (Int.le_of_lt (Int.pow_pos (by decide)))]
 norm_cast
end Gi
