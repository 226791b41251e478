/- A part. -/
import Derived.Test.YtndiampmpmbfoaaGreatGlP
import Derived.Test.YtndiampmpmbfoaaGreatGrC
import Derived.Test.YtndiampmpmbfoaaGreatGkr
import Derived.Test.YtndiampmpmbfoaaGreatGlM
import Derived.Test.YtndiampmpmbfoaaGreatGmB
set_option linter.all false
namespace Gi
open Go Go.RowKit
set_option maxHeartbeats 8000000
set_option maxRecDepth 4000
attribute [local simp] start qh bG cz dk eR dj eQ eW eV se sx sf sy sh sA si sB sj sC sk sD so sE sp sF su sG V.cells plain bA gv isInt isStr isBool bin cu iq cy ir eS un asList L.view al V.view viewL aZ am cD bM bS comp aO bJ cT bW bw bu bv aS aE bT aw aR aW aK br bq ba bz bB V.flat L.flat da df bD putAt thaw thawL thawT V.ow eU dx dy cB eT cC dw freezeVs freezeLs freezeL V.mut L.mut aJ eF gQ be bC aN dC bQ bj bX L.bD aY dq ca dD bU cf wp_seq wp_block bm dA cE bN cF wp_skip wp_exit wp_ret co cH cL cK cP cQ cO bV aM L.bC aV aT aU dz bt storeD bf fm ai ct aA nq L.bG L.closed V.closed PV.bare PV.flat
def Cg (d:Int)(a:Y6):Bool:=a.aY==d
def jD (s:Y3)(d:Int):Int:=match s.a3.find? (Cg d)with
 |some a=>a.aj
 |none=>0
def Kw {s:Y3}{d:Int}{k:Nat}(hk:k<s.a3.length)(h:dQ (Cg d) s.a3=(k:Int)):jD s d=s.a3[k].aj:=by
 unfold jD
 rcases nk (Cg d) s.a3 with⟨q1,q2⟩|⟨j,hj,q1,q2⟩
 ·omega
 ·obtain rfl:j=k:=by omega
  rw[q2]
def Kv {s:Y3}{d:Int}(h:dQ (Cg d) s.a3= -1):jD s d=0:=by
 unfold jD
 rcases nk (Cg d) s.a3 with⟨q1,q2⟩|⟨j,hj,q1,q2⟩
 ·rw[q2]
 ·omega
def Eb {s:Y3}(h:s.a3.length<=maxLen)(d:Int):ag Ph aC 148 [s.v,aa .i64 d]=some (aa .i64 (jD s d)):=by
 have e1:=yK (e:=Y6.e) (p:=Cg d) (xs:=s.a3) (k:=211) (z:=2) (kc:=212) (caps:=[[.int .i64 d]]) rfl h (fun _=>rfl) (fun x _=>by
  refine ae rfl ?_
  simp +contextual (maxSteps:=9^9) [iJ,Y6.e.eq_1,tm,Cg])
 have e2:ag Ph aC 176 [s.v,aa .i64 d]=some (aa .i64 (dQ (Cg d) s.a3)):=by
  refine ae rfl ?_
  simp +contextual (maxSteps:=9^9) [jW,kQ,pY,e1]
 rcases nk (Cg d) s.a3 with⟨q1,q2⟩|⟨j,hj,q1,q2⟩
 ·have l0:bO (-1) 0=true:=rfl
  rw[Kv q1]
  rw[q1]at e2
  refine ae rfl ?_
  simp(maxSteps:=9^9) [kT,e2,l0]
 ·have l0:bO (j:Int) 0=false:=ii (by omega)
  have hx:=Y6.e.eq_1 s.a3[j]
  rw[Kw hj q1]
  rw[q1]at e2
  refine ae rfl ?_
  simp(maxSteps:=9^9) [kT,e2,l0,hj,hx]
def Ei {s:Y3}(h:s.a3.length<=maxLen)(d:Int):ag Ph aC 147 [s.v,aa .i64 d]=some (aa .i64 (jD s d)):=by
 refine ae rfl ?_
 simp +contextual (maxSteps:=9^9) [qy]
 refine aB bh Cl.fin [.f,.t,.t,.f,.f,.t,.f,.f,.f,.f,.f,.f,.f,.f,.f,.f,.f,.f,.f,.f,.f,.f,.f,.f,.f,.f,.f] (fun k=>[(5,aa .i64 k)]) s.a3.length (iE (Cg d) s.a3) rfl (by simp) (fun k hk hj=> ?_) (fun hj _=> ?_)
 ·have hf:=tb hk hj
  have hx:=Y6.e.eq_1 s.a3[k]
  have hs:(Cg d s.a3[k])=(s.a3[k].aY==d):=rfl
  cases hg:Cg d s.a3[k]
  ·rw[hg]at hs
   simp(maxSteps:=9^9) [jf,iE,hk,hg,<-hs,hx,aL h hk,bd hk]
  ·have av:=Kw hk (hf hg)
   have ha:iE (Cg d) s.a3 k=true:=by simp only[iE,hk,Zm,hg]
   rw[hg]at hs
   generalize jD s d=F at av⊢
   generalize iE (Cg d) s.a3 k=A at ha⊢
   simp(maxSteps:=9^9) [jf,ha,hk,<-hs,av,hx,aL h hk,bd hk]
 ·simp +contextual (maxSteps:=9^9) [jf,Kv (ta hj)]
def RK (q:Int)(w:Y2):Bool:=bO q w.aj
def Dx (o:YD)(q:Int):YD×Int:=bif kZ o then(⟨o.aY,o.ae,o.a9.filter (RK q)⟩,(o.a9.length:Int)-((o.a9.filter (RK q)).length:Nat))else(o,0)
def VG {α:Type}{e:α->List PV}{call:Nat->List V->Option V}{c:Nat}{caps:List V}{p:α->Bool}:∀{xs:List α},(∀x∈xs,call c (.agg ((e x).map .pv)::caps)=some (az (!(p x))))->fF call c caps (xs.map e)=some ((xs.filter p).map e)
 |[],_=>rfl
 |x::xs,h=>by
  have ih:=VG (xs:=xs) fun y hy=>h y (Za1 _ hy)
  have hx:=h x Zb2
  rw[Zv,fF,hx,ih]
  cases hp:p x<;>simp[az,Zd0,hp]
abbrev OT (x:YD×Int):V:= .b9 [(true,[.pv (.int .i64 x.1.aY), .pv (.int .i64 x.1.ae), .own 7 (x.1.a9.map Y2.e)]),(false,[.pv (.int .i64 x.2)])]
def Aj {B:Nat}(hB:B<=1048576){o:YD}(h:o.Ok B)(q:Int):ag Ph aC 673 [o.v,aa .i64 q]=some (OT (Dx o q)):=by
 have hl:o.a9.length<=1048576:=Zc h.2.2.1 hB
 have e1:=qV hB h
 have e2:=lE (YD.Ok.mono (show B<=maxLen by unfold maxLen;omega) h)
 have c2:fF (ag Ph aC) 689 [tm [.int .i64 q]] (o.a9.map Y2.e)=some ((o.a9.filter (RK q)).map Y2.e):=VG (p:=RK q) fun x hx=>by
  refine ae rfl ?_
  simp(maxSteps:=9^9) [mL,Y2.e.eq_1 x,tm,RK,Xk]
 have hf:(o.a9.filter (RK q)).length<=o.a9.length:=List.length_filter_le _ _
 have w1:IntKind.i64.wrap ((o.a9.length:Int)-((o.a9.filter (RK q)).length:Nat))=(o.a9.length:Int)-((o.a9.filter (RK q)).length:Nat):=by rw[IntKind.wrap_i64];omega
 unfold Dx
 cases c1:kZ o<;>rw[c1]at e2
 ·simp only[cond_false]
  refine ae rfl ?_
  simp(maxSteps:=9^9) [ji,e1,e2]
 ·simp only[cond_true]
  refine ae rfl ?_
  simp(maxSteps:=9^9) [ji,e1,e2,c2,kQ,pY,Cx,nu,w1]
def Vd {o:YD}(h:kZ o=true){k:Nat}(hk:k<o.a9.length):o.a9[k].aj=o.ae-(o.a9.length:Int)+(k:Int):=by
 simp only[kZ,Zh,ZJ,uG]at h
 obtain⟨_,h2,h3,h4⟩:=h
 have h3:=of_decide_eq_false h3
 have:=uc h4 hk
 simp only[QT,hk,Zm,K',Za2,beq_iff_eq]at this
 rw[this.2.2,IntKind.wrap_i64,IntKind.wrap_i64]
 omega
def CX {q:Int}:∀(ws:List Y2)(a:Int),(∀k(hk:k<ws.length),ws[k].aj=a+(k:Int))->∀n,n<=ws.length->(∀k(hk:k<ws.length),k<n->ws[k].aj<=q)->(∀(hn:n<ws.length),q<ws[n].aj)->ws.filter (RK q)=ws.drop n
 |[],a,_,n,_,_,_=>by simp
 |w::ws,a,hs,n,hn,h1,h2=>by
  have h0:=hs 0 (by simp)
  have aX:∀k(hk:k<ws.length),ws[k].aj=(a+1)+(k:Int):=fun k hk=>by
   have:=hs (k+1) (by simp;omega)
   simp only[Zd3]at this
   rw[this];push_cast;omega
  simp only[Za8]at h0
  cases n with
  |zero=>
   have hq:=h2 (by simp)
   simp only[Za8]at hq
   have all:∀x∈w::ws,RK q x=true:=by
    intro x m
    obtain⟨j,hj,rfl⟩:=I'.1 m
    have:=hs j hj
    unfold RK
    exact gB (by omega)
   rw[List.filter_eq_self.2 all,List.drop_zero]
  |succ n=>
   have hq:=h1 0 (by simp) (by omega)
   simp only[Za8]at hq
   have hw:RK q w=false:=ii hq
   rw[Zd0,hw,List.drop_succ_cons]
   simp only[Zy,if_false]
   refine CX ws (a+1) aX n (by simp only[Zo]at hn;omega) (fun k hk b7=> ?_) (fun b8=> ?_)
   ·have:=h1 (k+1) (by simp;omega) (by omega)
    simpa using this
   ·have:=h2 (by simp;omega)
    simpa using this
def JD (o:YD)(q:Int)(k:Nat):Option Nat:=match o.a9[k]? with
 |some w=>bif bO q w.aj then none else some (k+1)
 |none=>none
def Ym (o:YD)(q:Int)(k:Nat):Prop:=k<=o.a9.length/\ ∀j(hj:j<o.a9.length),j<k->o.a9[j].aj<=q
def AM {B:Nat}(hB:B<=1048576){o:YD}(h:o.Ok B)(q:Int):ag Ph aC 670 [o.v,aa .i64 q]=some (OT (Dx o q)):=by
 have hl:o.a9.length<=1048576:=Zc h.2.2.1 hB
 have b0:o.a9.length<=maxLen:=by unfold maxLen;omega
 have e1:=uW hB h
 have e2:=pd (YD.Ok.mono (show B<=maxLen by unfold maxLen;omega) h)
 unfold Dx
 cases c1:kZ o<;>rw[c1]at e2
 ·simp only[cond_false]
  refine ae rfl ?_
  simp(maxSteps:=9^9) [jn,e1,e2]
 simp only[cond_true]
 refine ae rfl ?_
 simp(maxSteps:=9^9) [jn,e1,e2]
 refine PG bh Cl.fin [.f,.t,.t,.f,.t,.f,.t,.t,.f,.f,.f,.f,.f,.f,.f,.f,.f,.f,.f,.f,.f,.f,.f,.f,.f,.f,.f,.f,.f,.f,.f,.f,.f,.f,.f,.f,.f,.f,.f,.f] (fun a=>[(7,aa .i64 (a:Nat))]) (fun a=>[.box [.pv (.int .i64 o.aY), .pv (.int .i64 o.ae), .pv (.lst (o.a9.map Y2.e))], .box [.pv (.int .i64 0), .pv (.int .i64 0), .nil], .arr 7 (o.a9.map Y2.e), .box [.pv (.int .i64 o.aY), .pv (.int .i64 o.ae), .arr 2]]) (JD o q) (fun a=>o.a9.length-a) (Ym o q) 0 ⟨by omega,fun j hj h0=>by omega⟩ rfl (by simp) (fun k b ia ha=> ?_) (fun k ia ha=> ?_)
 ·unfold JD at ha
  by_cases hk:k<o.a9.length
  ·simp only[Zm hk]at ha
   cases q1:bO q o.a9[k].aj<;>rw[q1]at ha<;>simp only[cond_true,cond_false]at ha
   ·cases ha
    have hx:=Y2.e.eq_1 o.a9[k]
    have hq:=of_decide_eq_false q1
    refine⟨by omega,⟨by omega,fun j hj ax=> ?_⟩,?_⟩
    ·rcases Nat.lt_or_ge j k with h'|h'
     ·exact ia.2 j hj h'
     ·obtain rfl:j=k:=by omega
      omega
    ·simp(maxSteps:=9^9) [ic,hk,hx,Xk,q1,aL b0 hk,bd hk]
   ·cases ha
  ·rw[ZW (by omega)]at ha
   cases ha
 ·have hn:o.a9.filter (RK q)=o.a9.drop k:=CX o.a9 (o.ae-(o.a9.length:Int)) (fun j hj=>Vd c1 hj) k ia.1 (fun j hj ax=>ia.2 j hj ax) (fun hk=>by
   unfold JD at ha
   simp only[Zm hk]at ha
   cases q1:bO q o.a9[k].aj<;>rw[q1]at ha<;>simp only[cond_true,cond_false]at ha
   ·cases ha
   ·exact of_decide_eq_true q1)
  have b3:=ia.1
  rw[hn]
  have hd:(o.a9.length:Int)-((o.a9.drop k).length:Nat)=(k:Int):=by rw[Zc9];omega
  rw[hd]
  simp only[OT]
  rw[List.map_drop]
  have hR:(o.a9.map Y2.e).length=o.a9.length:=by simp
  have m1:=ez (m:=((o.a9.map Y2.e).drop k).length) (z:=72) (by rw[Zc9];omega) (by omega)
  have wd:((o.a9.map Y2.e).all fun r=>r.length==7)=true:=cW (e:=Y2.e) (fun _=>rfl) _
  have t1:((o.a9.map Y2.e).drop k).take (o.a9.length-k)=(o.a9.map Y2.e).drop k:=Zs (by rw[Zc9,Zr];exact Zn _)
  have t2:∀x∈(o.a9.map Y2.e).drop k,x.length=7:=fun x m=>by
   obtain⟨y,_,rfl⟩:=V'.1 (Za0 m)
   rfl
  have t3:(o.a9.length-k)*72<=140737488355328:=by omega
  have t4:o.a9.length<=9223372036854775807+k:=by omega
  have t5:∀x:Y2,x.e.length=7:=fun _=>rfl
  by_cases hk:k<o.a9.length
  ·have q1:bO q o.a9[k].aj=true:=by
    cases q1:bO q o.a9[k].aj
    ·exact absurd ha (by simp[JD,Zm hk,q1])
    ·rfl
   have hx:=Y2.e.eq_1 o.a9[k]
   have lk:=bd hk
   simp(maxSteps:=9^9) [ic,hk,hx,Xk,q1,lk,b3,t1,eq_true t2,t3,t4,t5,cf]
  ·obtain rfl:k=o.a9.length:=by omega
   simp(maxSteps:=9^9) [ic,Xk,t5,cf]
def SN (rs:List YW)(r:V)(e:Ex)(Z:St):Prop:=(e= .normal \/e= .ret)/\ (aZ Z rs).map da=some r
def gn {fn:List YW}{r:V}{Z:St}:SN fn r .ret Z=((aZ Z fn).map da=some r):=by simp[SN]
def kM {fn:List YW}{r:V}{Z:St}:SN fn r .normal Z=((aZ Z fn).map da=some r):=by simp[SN]
def LW {Φ:Nat->Option AFn}{ext:Nat->List V->Option V}{k:Nat}{fn:AFn}{xz:List V}{r:V}(hk:Φ k=some fn)(h:wp (ag Φ ext) (SN fn.results r) [] (ap (ag Φ ext) aF fn.body (start fn xz))):∃v,ag Φ ext k xz=some v/\ da v=r:=by
 cases hx:ap (ag Φ ext) aF fn.body (start fn xz)with
 |none=>rw[hx,lJ]at h;exact h.elim
 |some x=>
  obtain⟨e,Z⟩:=x
  rw[hx,co]at h
  obtain⟨h1,h2⟩:=h
  cases q:aZ Z fn.results with
  |none=>rw[q]at h2;cases h2
  |some v=>
   rw[q]at h2
   refine⟨v,ae hk ?_,by simpa using h2⟩
   rw[hx,co]
   exact⟨h1,q⟩
def V6 (z:Nat)(rows:List (List PV)):(rows=[]/\ nd z rows= .nil/\ pB rows= .nil) \/(rows≠[]/\ nd z rows= .down z rows/\ pB rows= .pv (.lst rows)):=by
 cases rows with
 |nil=>exact .inl ⟨rfl,rfl,rfl⟩
 |cons x xs=>exact .inr ⟨by simp,rfl,rfl⟩
def Cf {s:Y3}(h:s.a3.length<=maxLen)(d:Int):ag Ph aC 176 [s.v,aa .i64 d]=some (aa .i64 (dQ (Cg d) s.a3)):=by
 have e1:=yK (e:=Y6.e) (p:=Cg d) (xs:=s.a3) (k:=211) (z:=2) (kc:=212) (caps:=[[.int .i64 d]]) rfl h (fun _=>rfl) (fun x _=>by
  refine ae rfl ?_
  simp +contextual (maxSteps:=9^9) [iJ,Y6.e.eq_1,tm,Cg])
 refine ae rfl ?_
 simp +contextual (maxSteps:=9^9) [jW,kQ,pY,e1]
def Qv {s:Y3}(h:k6 s=true){k:Nat}(hk:k<s.a3.length):(0<=s.a3[k].aj/\ s.a3[k].aj<=1000000)/\ (0<k->(s.a3[k-1]'(by omega)).aY<s.a3[k].aY):=by
 simp only[k6,Zh,ZJ]at h
 have:=uc h.1 hk
 simp only[QR,hk,show k-1<s.a3.length by omega,Zm,K',Za2,uG]at this
 refine⟨this.2.1,fun h0=> ?_⟩
 have q:=this.2.2
 have l0:bO 0 (k:Int)=true:=gB (by omega)
 rw[l0,Za6]at q
 exact of_decide_eq_true (by simpa[bO]using q)
def KU {s:Y3}(h:k6 s=true):s.a3.length<=60:=by
 simp only[k6,Zh,ZJ]at h
 have:=of_decide_eq_false h.2.2.2.2
 omega
def Qu {s:Y3}(h:k6 s=true):∀(b:Nat)(hb:b<s.a3.length)(a:Nat)(ha:a<s.a3.length),a<b->s.a3[a].aY<s.a3[b].aY
 |0,_,_,_,b5=>by omega
 |b+1,hb,a,ha,b5=>by
  have:=(Qv h hb).2 (by omega)
  simp only[Nat.add_sub_cancel]at this
  by_cases q:a=b
  ·subst q;exact this
  ·exact Int.lt_trans (Qu h b (by omega) a ha (by omega)) this
def wg {s:Y3}(h:k6 s=true)(d q:Int):
 (∃(j:Nat)(hj:j<s.a3.length),dQ (Cg d) s.a3=(j:Int)/\ s.a3[j].aY=d/\ tM s.a3 d q=s.a3.set j ⟨d,q⟩/\ jD s d=s.a3[j].aj) \/
 (dQ (Cg d) s.a3= -1/\ tM s.a3 d q=s.a3.take (lX d s.a3)++⟨d,q⟩::s.a3.drop (lX d s.a3)/\ jD s d=0):=by
 rcases nk (Cg d) s.a3 with⟨q1,q2⟩|⟨j,hj,q1,q2⟩
 ·refine .inr ⟨q1,?_,Kv q1⟩
  unfold tM
  split
  ·rename_i a e
   have hm:=Zl e
   have:=List.find?_eq_none.1 q2 a hm
   rw[if_neg (by simpa[Cg]using this)]
  ·rfl
 ·refine .inl ⟨j,hj,q1,?_⟩
  have hd:s.a3[j].aY=d:=by simpa[Cg]using List.find?_some q2
  refine⟨hd,?_,Kw hj q1⟩
  have hp:lX d s.a3=j:=by
   have p1:= @EN d s.a3
   have p2:= @EM d s.a3
   generalize lX d s.a3=p at p1 p2
   rcases Nat.lt_trichotomy p j with c|c|c
   ·have:=Qu h j hj p (by omega) c
    exact absurd (by omega) (p2 (by omega))
   ·exact c
   ·have:=p1 hj c
    omega
  unfold tM
  rw[hp,Zm hj]
  simp only[if_pos hd]
def No {s:Y3}(h:k6 s=true)(d:Int):0<=jD s d/\ jD s d<=1000000:=by
 rcases wg h d 0 with⟨j,hj,_,_,_,q⟩|⟨_,_,q⟩
 ·rw[q];exact(Qv h hj).1
 ·rw[q];omega
def sa (s:Y3)(w:Y2):Y3×Int:=
 bif k6 s&&yJ w then
  bif bO (dQ (Cg w.aY) s.a3) 0&& !(bO s.a3.length 60)then(s,4)
  else bif !(bO (jD s w.aY) w.aj)then(s,2)
  else bif bO (jD s w.aY+1) w.aj then(s,3)
  else(⟨(vj s.aD w).1,tM s.a3 w.aY w.aj,s.aG++[w]⟩,1)
 else(s,4)
def KN {B:Nat}(hB:100<=B){s:Y3}(h:s.Ok B){w:Y2}(hw:w.Ok B)(hc:s.aG.length+1<=B):(sa s w).1.Ok B:=by
 unfold sa
 cases c1:k6 s
 ·exact h
 cases c2:yJ w
 ·exact h
 simp only[C',cond_true]
 cases c3:bO (dQ (Cg w.aY) s.a3) 0&& !(bO s.a3.length 60)
 ·cases c4: !(bO (jD s w.aY) w.aj)
  ·cases c5:bO (jD s w.aY+1) w.aj
   ·simp only[cond_false]
    have hl:=KU c1
    have hX:∀y∈[(⟨w.aY,w.aj⟩:Y6)],y.Ok B:=fun y m=>by
     rw[List.mem_singleton]at m;subst m;exact⟨hw.1,hw.2.1⟩
    have hY:(⟨w.aY,w.aj⟩:Y6).Ok B:=hX _ (List.mem_singleton.2 rfl)
    refine⟨Vk (by omega) h.1 hw,?_,by simp only[Zu,Zo,Zx];omega,fun y m=> ?_⟩
    ·have h2:=h.2.1.2
     rcases wg c1 w.aY w.aj with⟨j,hj,_,_,q,_⟩|⟨_,q,_⟩
     ·rw[q]
      refine⟨by simp only[ZK];omega,fun y m=> ?_⟩
      rcases Q' m with m|rfl
      ·exact h2 y m
      ·exact hY
     ·rw[q]
      have hp:=wV w.aY s.a3
      refine⟨by simp only[Zu,Zo,ZM,Zc9];omega,fun y m=> ?_⟩
      rw[H',ZL]at m
      rcases m with m|rfl|m
      ·exact h2 y (ZI m)
      ·exact hY
      ·exact h2 y (Za0 m)
    ·rw[H',List.mem_singleton]at m
     rcases m with m|rfl
     ·exact h.2.2.2 y m
     ·exact hw
   ·exact h
  ·exact h
 ·exact h
abbrev CJ (s:Y3):List L:=[.pv (.str s.aD.aE),nd 4 (s.aD.a0.map Y1.e), .pv (.int .i64 s.aD.aT), .down 2 (s.a3.map Y6.e), .down 7 (s.aG.map Y2.e)]
abbrev XH (x:Y3×Int):V:= .b9 [(true,CJ x.1),(false,[.pv (.int .i64 x.2)])]
def pm {B:Nat}(b6:17<=B)(hB:B<=1048576){s:Y3}(h:s.Ok B){w:Y2}(hw:w.Ok B):ag Ph aC 680 [s.v, .agg (w.e.map .pv)]=some (XH (sa s w)):=by
 have hM:B+1<=maxLen:=by unfold maxLen;omega
 have hl:s.a3.length<=1048576:=Zc h.2.1.1 hB
 have hc:s.aG.length<=1048576:=Zc h.2.2.1 hB
 have e1:=jR hB h
 have e2:=Cf (s:=s) (by unfold maxLen;omega) w.aY
 have e3:=Eb (s:=s) (by unfold maxLen;omega) w.aY
 have e4:=tD (Y3.Ok.mono (by omega) h)
 have e5:=kh (Y2.Ok.mono (by omega) hw)
 have e6:ag Ph aC 326 [.agg [.pv (.str s.aD.aE), .pv (.lst (s.aD.a0.map Y1.e)), .pv (.int .i64 s.aD.aT)], .agg (w.e.map .pv)]=some (uE (vj s.aD w)):=vF b6 hB h.1 hw
 simp only[Y2.e.eq_1,Zv,Zz]at e6
 have O:=kF 4 (s.aD.a0.map Y1.e)
 have m1:=ez (m:=s.aG.length) (z:=72) (by omega) (by omega)
 have m2:=ez (m:=s.aG.length+1) (z:=72) (by omega) (by omega)
 unfold sa
 refine ae rfl ?_
 cases c1:k6 s<;>rw[c1]at e4
 ·rcases O with⟨_,q2,q1⟩|⟨_,q2,q1⟩<;>rw[q2]at e1<;>simp(maxSteps:=9^9) [cR,Y2.e.eq_1,e1,e2,e3,e4,q2]
 cases c2:yJ w<;>rw[c2]at e5
 ·rcases O with⟨_,q2,q1⟩|⟨_,q2,q1⟩<;>rw[q2]at e1<;>simp(maxSteps:=9^9) [cR,Y2.e.eq_1,e1,e2,e3,e4,e5,q2]
 have ay:=No c1 w.aY
 have ad:IntKind.i64.wrap (jD s w.aY+1)=jD s w.aY+1:=by rw[IntKind.wrap_i64];omega
 have bb:=KU c1
 simp only[C',cond_true]
 have a6:s.aG.map Y2.e++[w.e]=(s.aG++[w]).map Y2.e:=by simp
 rw[Y2.e.eq_1 w]at a6
 rcases wg c1 w.aY w.aj with⟨j,hj,hf,hd,hm,hq⟩|⟨hf,hm,hq⟩
 ·rw[hf]at e2⊢
  have l0:bO (j:Int) 0=false:=uB
  rw[l0]
  have hx:=Y6.e.eq_1 s.a3[j]
  have ah:(s.a3.map Y6.e).set j [.int .i64 s.a3[j].aY, .int .i64 w.aj]=(s.a3.set j ⟨w.aY,w.aj⟩).map Y6.e:=by rw[Zd4,hd];rfl
  rw[hm]
  simp only[Za9,cond_false]
  clear hm hq ay
  generalize jD s w.aY=q at*
  cases c4:bO q w.aj
  ·rcases O with⟨_,q2,q1⟩|⟨_,q2,q1⟩<;>rw[q2]at e1<;>simp(maxSteps:=9^9) [cR,Y2.e.eq_1,e1,e2,e3,e4,e5,q2,l0,c4]
  cases c5:bO (q+1) w.aj
  ·generalize vj s.aD w=p at e6⊢
   obtain⟨p1,p2⟩:=p
   simp only[uE]at e6
   generalize s.aG++[w]=C at a6⊢
   generalize s.a3.set j ⟨w.aY,w.aj⟩=F at ah⊢
   have O2:=kF 4 (p1.a0.map Y1.e)
   rcases O with⟨q0,q2,q1⟩|⟨q0,q2,q1⟩<;>rw[q2]at e1<;>(try rw[q0]at e6)<;>rcases O2 with⟨_,q4,_⟩|⟨_,q4,_⟩<;>rw[q4]at e6<;>simp(maxSteps:=9^9) [cR,Y2.e.eq_1,e1,e2,e3,e4,e5,e6,q2,q4,l0,c4,c5,ad,hx,hj,ah,a6,m1,m2]
  ·rcases O with⟨_,q2,q1⟩|⟨_,q2,q1⟩<;>rw[q2]at e1<;>simp(maxSteps:=9^9) [cR,Y2.e.eq_1,e1,e2,e3,e4,e5,q2,l0,c4,c5,ad]
 ·rw[hf]at e2⊢
  have l0:bO (-1) 0=true:=rfl
  rw[l0]
  simp only[Za6]
  cases c3:bO (s.a3.length:Int) 60
  ·simp only[Bool.not_false,cond_true]
   rcases O with⟨_,q2,q1⟩|⟨_,q2,q1⟩<;>rw[q2]at e1<;>simp(maxSteps:=9^9) [cR,Y2.e.eq_1,e1,e2,e3,e4,e5,q2,l0,c3]
  rw[hm]
  simp only[Zb8,cond_false]
  have hp:=wV w.aY s.a3
  have b1:= @EN w.aY s.a3
  have b2:= @EM w.aY s.a3
  have ao:(s.a3.take (lX w.aY s.a3)++(⟨w.aY,w.aj⟩:Y6)::s.a3.drop (lX w.aY s.a3)).map Y6.e=(s.a3.map Y6.e).take (lX w.aY s.a3)++([.int .i64 w.aY, .int .i64 w.aj]::(s.a3.map Y6.e).drop (lX w.aY s.a3)):=by simp[Y6.e]
  clear hm hq ay
  generalize jD s w.aY=q at*
  cases c4:bO q w.aj
  ·rcases O with⟨_,q2,q1⟩|⟨_,q2,q1⟩<;>rw[q2]at e1<;>simp(maxSteps:=9^9) [cR,Y2.e.eq_1,e1,e2,e3,e4,e5,q2,l0,c3,c4]
  cases c5:bO (q+1) w.aj
  ·generalize vj s.aD w=pp at e6⊢
   obtain⟨p1,p2⟩:=pp
   simp only[uE]at e6
   generalize s.aG++[w]=C at a6⊢
   generalize s.a3.take (lX w.aY s.a3)++(⟨w.aY,w.aj⟩:Y6)::s.a3.drop (lX w.aY s.a3)=F at ao⊢
   generalize lX w.aY s.a3=p at*
   have m3:=ez (m:=s.a3.length+1) (z:=16) (by omega) (by omega)
   have O2:=kF 4 (p1.a0.map Y1.e)
   rcases O with⟨q0,q2,q1⟩|⟨q0,q2,q1⟩<;>rw[q2]at e1<;>(try rw[q0]at e6)<;>rcases O2 with⟨_,q4,_⟩|⟨_,q4,_⟩<;>rw[q4]at e6
   all_goals
    simp(maxSteps:=9^9) [cR,Y2.e.eq_1,e1,e2,e3,e4,e5,e6,q2,q4,l0,c3,c4,c5,ad,a6,m1,m2]
    refine aB bh Cl.fin [.f,.f,.f,.t,.t,.f,.t,.f,.f,.t,.f,.f,.f,.f,.f,.f,.f,.f,.f,.f,.f,.f,.f,.f,.f,.f,.f,.f,.f,.f,.f,.f,.f,.f,.f,.f,.f,.f,.f,.f,.f,.f,.f,.f,.f,.f,.f,.f,.f,.f,.f,.f,.f,.f,.f,.f,.f,.f,.f,.f,.f,.f,.f,.f,.f,.f,.f,.f,.f,.f,.f,.f,.f,.f,.f,.f,.f,.f,.f,.f,.f,.f,.f,.f,.f,.f,.f,.f,.f,.f,.f,.f,.f,.f,.f,.f,.f,.f,.f,.f,.f,.f,.f,.f,.f,.f] (fun k=>[(9,aa .i64 k)]) p (fun _=>false) rfl (by simp) (fun j hj _=> ?_) (fun _ _=> ?_)
    ·have ak:j<s.a3.length:=by omega
     have l1:=gB (b1 ak hj)
     simp +contextual (maxSteps:=9^9) [fT,ak,l1,aL (n:=s.a3.length) (by unfold maxLen;omega) ak,bd ak,Y6.e.eq_1 s.a3[j]]
    ·by_cases aq:p<s.a3.length
     ·have l1:=ii (Int.not_lt.1 (b2 aq))
      have hx:=Y6.e.eq_1 s.a3[p]
      simp +contextual (maxSteps:=9^9) [fT,aq,hx,l1,hp,m3,bd aq,<-ao,q4]
     ·obtain rfl:p=s.a3.length:=by omega
      have ah:(s.a3.map Y6.e).take s.a3.length++[[.int .i64 w.aY, .int .i64 w.aj]]=F.map Y6.e:=by rw[ao];simp
      have hd:(s.a3.map Y6.e).drop s.a3.length=[]:=Za5 (by simp)
      simp +contextual (maxSteps:=9^9) [fT,m3,hd, ↓ah,q4]
  ·rcases O with⟨_,q2,q1⟩|⟨_,q2,q1⟩<;>rw[q2]at e1<;>simp(maxSteps:=9^9) [cR,Y2.e.eq_1,e1,e2,e3,e4,e5,q2,l0,c3,c4,c5,ad]
def LD (t:Int):Int:=bif bO t 60 then t+1 else 60
def KK (s:Y3)(w:Y2)(fate:Int):Y3×Int:=
 if fate=0 then sa s w else if fate=2 then sa s w else if fate=3 then sa (sa s w).1 w else(s,4)
def xT (y:YP)(s:Y3)(now fate:Int):YP×Y3×Int:=
 bif kZ y.a7&&((uq y.a7).2&&(!(bO now y.ab)&&rg now 0 1000000000000))then
  bif (fate==0||fate==3)&&((KK s (uq y.a7).1 fate).2==1||(KK s (uq y.a7).1 fate).2==2)then(⟨(Dx y.a7 (uq y.a7).1.aj).1,0,0⟩,(KK s (uq y.a7).1 fate).1,1)
  else(⟨y.a7,LD y.aW,now+Uy (LD y.aW)⟩,(KK s (uq y.a7).1 fate).1,2)
 else(y,s,0)
def Of (t:Int):1<=Uy t/\ Uy t<=64:=by
 unfold Uy pw S5
 have h:min t.toNat 6<=6:=Nat.min_le_right _ _
 generalize min t.toNat 6=k at h
 rcases k with _|_|_|_|_|_|_|k
 ·decide
 ·decide
 ·decide
 ·decide
 ·decide
 ·decide
 ·decide
 ·omega
def WH {t:Int}(h:me t):me (LD t):=by
 unfold LD
 unfold me at h⊢
 cases c:bO t 60
 ·simp only[cond_false];omega
 ·have:=of_decide_eq_true c
  simp only[cond_true];omega
def TE :me 0:=by unfold me;omega
def OF {B:Nat}{o:YD}(h:o.Ok B):(uq o).1.Ok B:=by
 obtain⟨d,n,ws⟩:=o
 unfold uq
 cases ws with
 |nil=>
  have z:=TE
  exact⟨z,z,⟨z,z,Zb9 _⟩,Zb9 _,z⟩
 |cons w ws=>exact h.2.2.2 w Zb2
def UF {B:Nat}{o:YD}(h:o.Ok B)(q:Int):(Dx o q).1.Ok B:=by
 unfold Dx
 cases kZ o
 ·exact h
 ·exact⟨h.1,h.2.1,Zc (List.length_filter_le _ _) h.2.2.1,fun x m=>h.2.2.2 x (List.mem_filter.1 m).1⟩
def Wq {B:Nat}(hB:100<=B){s:Y3}(h:s.Ok B){w:Y2}(hw:w.Ok B)(hc:s.aG.length+2<=B)(fate:Int):(KK s w fate).1.Ok B:=by
 have h1:=KN hB h hw (by omega)
 unfold KK
 split
 ·exact h1
 ·split
  ·exact h1
  ·split
   ·refine KN hB h1 hw ?_
    have:(sa s w).1.aG.length<=s.aG.length+1:=by
     unfold sa
     cases k6 s&&yJ w
     ·simp only[cond_false];omega
     simp only[cond_true]
     cases bO (dQ (Cg w.aY) s.a3) 0&& !(bO s.a3.length 60)
     ·simp only[cond_false]
      cases !(bO (jD s w.aY) w.aj)
      ·simp only[cond_false]
       cases bO (jD s w.aY+1) w.aj
       ·simp only[cond_false,Zu,Zo,Zx];omega
       ·simp only[cond_true];omega
      ·simp only[cond_true];omega
     ·simp only[cond_true];omega
    omega
   ·exact h
def Wy {B:Nat}(hB:100<=B){y:YP}(hy:y.Ok B){s:Y3}(h:s.Ok B)(hc:s.aG.length+2<=B)(now fate:Int):(xT y s now fate).1.Ok B/\ (xT y s now fate).2.1.Ok B:=by
 have hr:=Wq hB h (OF hy.1) hc fate
 have hb:=Of (LD y.aW)
 unfold xT
 cases c1:kZ y.a7&&((uq y.a7).2&&(!(bO now y.ab)&&rg now 0 1000000000000))
 ·exact⟨hy,h⟩
 simp only[cond_true]
 have hn:0<=now/\ now<=1000000000000:=by
  simp only[Zh]at c1
  simpa[uG]using c1.2.2.2
 cases(fate==0||fate==3)&&((KK s (uq y.a7).1 fate).2==1||(KK s (uq y.a7).1 fate).2==2)
 ·refine⟨⟨hy.1,WH hy.2.1,?_⟩,hr⟩
  show me (now+Uy (LD y.aW))
  unfold me;omega
 ·exact⟨⟨UF hy.1 _,TE,TE⟩,hr⟩
def VU (n:Int)(rows:List (List PV)):L:=if n=1 then .own 7 rows else .down 7 rows
def PH (r:List (List PV)):VU 0 r= .down 7 r:=rfl
def PI (r:List (List PV)):VU 1 r= .own 7 r:=rfl
def PK (r:List (List PV)):VU 2 r= .down 7 r:=rfl
def WL (n:Int)(r:List (List PV)):VU n r= .own 7 r \/VU n r= .down 7 r:=by
 unfold VU;split
 ·exact .inl rfl
 ·exact .inr rfl
abbrev Vl (y:YP)(n:Int):List L:=[.pv (.int .i64 y.a7.aY), .pv (.int .i64 y.a7.ae),VU n (y.a7.a9.map Y2.e), .pv (.int .i64 y.aW), .pv (.int .i64 y.ab)]
abbrev UA (x:YP×Y3×Int):V:= .b9 [(true,Vl x.1 x.2.2),(true,CJ x.2.1),(false,[.pv (.int .i64 x.2.2)])]
def xZ (l:List Y2):fV (l.map Y2.e)=true:=by simp[fV,Y2.e,PV.bare]
def VJ (s:Y3)(w:Y2):KK s w 0=sa s w:=rfl
def VK (s:Y3)(w:Y2):KK s w 2=sa s w:=rfl
def VL (s:Y3)(w:Y2):KK s w 3=sa (sa s w).1 w:=rfl
def VM (s:Y3)(w:Y2){f:Int}(h0:¬f=0)(h2:¬f=2)(h3:¬f=3):KK s w f=(s,4):=by unfold KK;rw[if_neg h0,if_neg h2,if_neg h3]
def QC {t:Int}(h:bO t 60=true):LD t=t+1:=by unfold LD;rw[h];rfl
def QB {t:Int}(h:bO t 60=false):LD t=60:=by unfold LD;rw[h];rfl
def Vr {t:Int}(h:me t)(c:bO t 60=true):IntKind.i64.wrap (t+1)=t+1:=by
 have:=of_decide_eq_true c
 unfold me at h
 rw[IntKind.wrap_i64];omega
def N3 {n b:Int}(h:rg n 0 1000000000000=true)(hb:1<=b/\ b<=64):IntKind.i64.wrap (n+b)=n+b:=by
 rw[uG]at h
 rw[IntKind.wrap_i64];omega
def xV (b:Y4)(y:YP):Y4:=⟨b.aR,b.b4,b.b1,b.a1,b.aV,⟨b.a5.aF,b.a5.ar,y⟩,b.af,b.an⟩
def C8 (w:YI)(fate:Int):Int:=bif w.aO then fate else 1
def LC (w:YI)(s t:List UInt8)(fate:Int):List Y4×List Y3×Int:=bif ov w&&(!(bO (dQ (IB s t) w.a8.a2) 0)&& !(bO (jS s) 0))then(match w.a8.a2[(dQ (IB s t) w.a8.a2).toNat]?,w.a4[(jS s).toNat]? with
 |some b,some v=>(w.a8.a2.set (dQ (IB s t) w.a8.a2).toNat (xV b (xT b.a5.aL v w.al (C8 w fate)).1),w.a4.set (jS s).toNat (xT b.a5.aL v w.al (C8 w fate)).2.1,(xT b.a5.aL v w.al (C8 w fate)).2.2)
 |_,_=>(w.a8.a2,w.a4,0))else(w.a8.a2,w.a4,0)
abbrev XK (w:YI)(bs:List Y4)(sv:List Y3):List L:=[.pv (.int .i64 w.al), .pv (.bool w.aO), .pv (.int .i64 w.aQ),nd 24 (bs.map Y4.e), .down 11 (w.aJ.map Z8.e), .pv (.int .i64 w.aH), .down 4 (w.aI.aI.map Z6.e), .down 3 (w.aN.aU.map Z9.e),nd 4 (w.aK.map Z7.e),nd 5 (sv.map Y3.e)]
abbrev XL (w:YI)(bs:List Y4)(sv:List Y3):List L:=[.pv (.int .i64 w.al), .pv (.bool w.aO), .pv (.int .i64 w.aQ),Ct 24 (bs.map Y4.e), .own 11 (w.aJ.map Z8.e), .pv (.int .i64 w.aH), .own 4 (w.aI.aI.map Z6.e), .own 3 (w.aN.aU.map Z9.e), .own 4 (w.aK.map Z7.e), .own 5 (sv.map Y3.e)]
def Cj {w:YI}(h:ov w=true):w.a4.length=3/\ w.aK.length=3/\ Da w.a8.a2=true:=by
 simp only[ov,Zh,beq_iff_eq]at h
 obtain⟨_,_,h3,_,_,_,h7,h8,_⟩:=h
 exact⟨by omega,by omega,h3⟩
def G8 (w:YI)(s t:List UInt8)(fate:Int):((!(ov w)||(bO (dQ (IB s t) w.a8.a2) 0||bO (jS s) 0))=true/\ LC w s t fate=(w.a8.a2,w.a4,0)) \/
 ∃k,∃hk:k<w.a8.a2.length,∃i,∃hi:i<w.a4.length,dQ (IB s t) w.a8.a2=(k:Int)/\ jS s=(i:Int)/\ ov w=true/\
  LC w s t fate=(w.a8.a2.set k (xV w.a8.a2[k] (xT w.a8.a2[k].a5.aL w.a4[i] w.al (C8 w fate)).1),w.a4.set i (xT w.a8.a2[k].a5.aL w.a4[i] w.al (C8 w fate)).2.1,(xT w.a8.a2[k].a5.aL w.a4[i] w.al (C8 w fate)).2.2):=by
 unfold LC
 cases c1:ov w
 ·exact .inl ⟨by simp,rfl⟩
 have hs:=(Cj c1).1
 rcases nk (IB s t) w.a8.a2 with⟨q1,q2⟩|⟨k,hk,q1,q2⟩
 ·rw[q1];exact .inl ⟨rfl,rfl⟩
 rcases nk (fun u=>s==u) A7 with⟨p1,_⟩|⟨i,hi,p1,_⟩
 ·rw[show jS s= -1 from p1,q1,ii (show(0:Int)<=(k:Int) by omega)];exact .inl ⟨rfl,rfl⟩
 ·have bc:i<3:=hi
  have aP:i<w.a4.length:=by omega
  refine .inr ⟨k,hk,i,aP,q1,p1,rfl,?_⟩
  rw[show jS s=(i:Int)from p1,q1,ii (show(0:Int)<=(k:Int) by omega),ii (show(0:Int)<=(i:Int) by omega)]
  simp only[Int.toNat_natCast,Zm hk,Zm aP,Bool.not_false,ZU,cond_true]
def Ua {l:List Y4}{k:Nat}(hk:k<l.length)(y:YP):(l.set k (xV l[k] y)).map Y4.e=(l.map Y4.e).set k [.str l[k].aR, .str l[k].b4, .str l[k].b1.aR, .int .i64 l[k].b1.aZ, .int .i64 l[k].b1.ag, .int .i64 l[k].b1.am, .lst (l[k].a1.a1.map Z5.e), .str l[k].aV.aF.aE, .int .i64 l[k].aV.aF.aB, .lst (l[k].aV.aF.aA.map Y7.e), .lst (l[k].aV.aF.aC.map Y9.e), .lst (ar l[k].aV.az), .int .i64 l[k].aV.au, .str l[k].a5.aF.aE, .lst (l[k].a5.aF.a0.map Y1.e), .int .i64 l[k].a5.aF.aT, .int .i64 l[k].a5.ar, .int .i64 y.a7.aY, .int .i64 y.a7.ae, .lst (y.a7.a9.map Y2.e), .int .i64 y.aW, .int .i64 y.ab, .int .i64 l[k].af, .bool l[k].an]:=by rw[Zd4];rfl
def T7 {l:List Y3}{i:Nat}(v:Y3):(l.set i v).map Y3.e=(l.map Y3.e).set i [.str v.aD.aE, .lst (v.aD.a0.map Y1.e), .int .i64 v.aD.aT, .lst (v.a3.map Y6.e), .lst (v.aG.map Y2.e)]:=by rw[Zd4];rfl
end Gi
