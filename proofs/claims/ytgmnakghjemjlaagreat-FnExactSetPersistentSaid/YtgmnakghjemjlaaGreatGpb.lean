/- Of this proof. -/
import Derived.Test.YtgmnakghjemjlaaGreatGpd
set_option linter.unusedSimpArgs false
set_option linter.unusedVariables false
namespace Gi
open Go Go.RowKit
def C9 (c ks:Nat):List AOper:=[⟨some (c+2), .mv (.tmp 1),none⟩,⟨some (c+3), .call ks [.tmp (c+1), .tmp (c+2)] true false,none⟩,⟨some 1, .mv (.tmp (c+3)),none⟩]
def Gl :Nat→Nat→List Seg→ACode
 |c,_,[]=> .seq (.region [⟨some c, .mv (.tmp 1),none⟩,⟨some 4, .mv (.tmp c),none⟩]) .ret
 |c,off, .c .str::ss=> .seq (.region (⟨some c, .mv (.tmp 1),none⟩::kJ (c+1) 2 off 1 false++[⟨some (c+3), .lenS (.tmp (c+2)),none⟩,⟨some (c+4), .bin .sub (.tmp c) (.tmp (c+3)),none⟩,⟨some 1, .mv (.tmp (c+4)),none⟩])) (.seq (nk (c+5)) (Gl (c+7) (off+1) ss))
 |c,off, .c _::ss=>Gl c (off+1) ss
 |c,off, .s ts K::ss=>if K.ks=0 then Gl c (off+ts.length) ss else .seq (.region (kJ c 2 off ts.length true++C9 c K.ks)) (.seq (nk (c+4)) (Gl (c+6) (off+ts.length) ss))
 |c,off, .l _ K::ss=> .seq (.region (kJ c 2 off 1 false++C9 c K.ks)) (.seq (nk (c+4)) (Gl (c+6) (off+1) ss))
def Eo :Nat→List Seg→Nat
 |c,[]=>c
 |c, .c .str::ss=>Eo (c+7) ss
 |c, .c _::ss=>Eo c ss
 |c, .s _ K::ss=>if K.ks=0 then Eo c ss else Eo (c+6) ss
 |c, .l _ _::ss=>Eo (c+6) ss
def fv (ss:List Seg):AFn:=⟨Eo 5 ss+1,[.tmp 4], .seq (.region [⟨some 2, .box (.tmp 0),none⟩,⟨some 4, .mv (.pv (.int .i64 0)),none⟩]) (Gl 5 0 ss)⟩
def H8 :ACode:= .seq (.region [⟨some 4, .mv (.pv (.bool false)),none⟩]) .ret
def Eh (t:PTy)(x y:Opd):AOp:=match t with
 | .bool=> .eqB true x y
 |_=> .bin .neq x y
def MI :Nat→Nat→List Seg→ACode
 |_,_,[]=> .seq (.region [⟨some 4, .mv (.pv (.bool true)),none⟩]) .ret
 |c,off, .c t::ss=> .seq (.seq (.region (kJ c 2 off 1 false++(kJ (c+2) 3 off 1 false++[⟨some (c+4),Eh t (.tmp (c+1)) (.tmp (c+3)),none⟩]))) (.cond (.tmp (c+4)) H8 .skip)) (MI (c+5) (off+1) ss)
 |c,off, .s ts K::ss=> .seq (.seq (.region (kJ c 2 off ts.length true++(kJ (c+2) 3 off ts.length true++[⟨some (c+4), .call K.ke [.tmp (c+1), .tmp (c+3)] true false,none⟩,⟨some (c+5), .un .not (.tmp (c+4)),none⟩]))) (.cond (.tmp (c+5)) H8 .skip)) (MI (c+6) (off+ts.length) ss)
 |c,off, .l _ K::ss=> .seq (.seq (.region (kJ c 2 off 1 false++(kJ (c+2) 3 off 1 false++[⟨some (c+4), .call K.ke [.tmp (c+1), .tmp (c+3)] true false,none⟩,⟨some (c+5), .un .not (.tmp (c+4)),none⟩]))) (.cond (.tmp (c+5)) H8 .skip)) (MI (c+6) (off+1) ss)
def LG :Nat→List Seg→Nat
 |c,[]=>c
 |c, .c _::ss=>LG (c+5) ss
 |c,_::ss=>LG (c+6) ss
def ff (ss:List Seg):AFn:=⟨LG 5 ss,[.tmp 4], .seq (.region [⟨some 2, .box (.tmp 0),none⟩,⟨some 3, .box (.tmp 1),none⟩,⟨some 4, .mv (.pv (.bool false)),none⟩]) (MI 5 0 ss)⟩
section
variable {Φ:Nat→Option AFn}{ext:Nat→List V→Option V}
def jM (Φ:Nat→Option AFn)(ext:Nat→List V→Option V)(k:Nat)(ts:List PTy):Prop:=∀r:List PV,ba ts r→A4 Φ ext k r
def jy (Φ:Nat→Option AFn)(ext:Nat→List V→Option V)(k:Nat)(ts:List PTy):Prop:=
 ∀rows:List (List PV),ni (.lst ts) (.lst rows)→∀left:Int,0≤left→left≤1048576→ag Φ ext k [bv rows,aa .i64 left]=some (aa .i64 (less left (sz (.lst rows))))
def Ka (Φ:Nat→Option AFn)(ext:Nat→List V→Option V):Seg→Prop
 | .c t=>t.flatT=true
 | .s ts K=>if K.ks=0 then ts.all PTy.small=true else jM Φ ext K.ks ts
 | .l ts K=>jy Φ ext K.ks ts
theorem OL {call:Nat→List V→Option V}{lp}{c:Nat}{t:List V}{h:List AObj}{l:Int}(h1:t[1]? =some (aa .i64 l))(hl:l<0)(hc:5≤c)(hlt:c+1<t.length):
 ∃t',aj call lp (nk c) ⟨t,h⟩=some (.ret,⟨t',h⟩)∧t'[4]? =some (aa .i64 (-1)):=by
 have e1:t.getD 1 (.tup [])=aa .i64 l:=getD_some h1
 have e2:(t.set c (aa .i64 l)).getD c (.tup [])=aa .i64 l:=aA (by omega)
 have e3:((t.set c (aa .i64 l)).set (c+1) (au true)).getD (c+1) (.tup [])=au true:=aA (by simp;omega)
 refine⟨((t.set c (aa .i64 l)).set (c+1) (au true)).set 4 (aa .i64 (-1)),?_,List.getElem?_set_self (by simp;omega)⟩
 simp only[nk,aj,ah,az,aI,bg,Opd.ev,e1,put,e2,bin,if_true,bD,hl,decide_true,e3,isBool]
theorem KG {call:Nat→List V→Option V}{lp}{c:Nat}{t:List V}{h:List AObj}{l:Int}(h1:t[1]? =some (aa .i64 l))(hl:¬l<0)(hlt:c+1<t.length):
 aj call lp (nk c) ⟨t,h⟩=some (.normal,⟨(t.set c (aa .i64 l)).set (c+1) (au false),h⟩):=by
 have e1:t.getD 1 (.tup [])=aa .i64 l:=getD_some h1
 have e2:(t.set c (aa .i64 l)).getD c (.tup [])=aa .i64 l:=aA (by omega)
 have e3:((t.set c (aa .i64 l)).set (c+1) (au false)).getD (c+1) (.tup [])=au false:=aA (by simp;omega)
 simp only[nk,aj,ah,az,aI,bg,Opd.ev,e1,put,e2,bin,if_true,bD,hl,decide_false,e3,isBool,Bool.false_eq_true,if_false]
theorem oI :∀(ss:List Seg)(c:Nat),c≤Eo c ss
 |[],c=>Nat.le_refl _
 | .c .str::ss,c=>Nat.le_trans (by omega) (oI ss (c+7))
 | .c (.int _)::ss,c=>oI ss c
 | .c .bool::ss,c=>oI ss c
 | .c (.lst _)::ss,c=>oI ss c
 | .s _ K::ss,c=>by
  simp only[Eo]
  split
  ·exact oI ss c
  ·exact Nat.le_trans (by omega) (oI ss (c+6))
 | .l _ _::ss,c=>Nat.le_trans (by omega) (oI ss (c+6))
theorem KQ :∀(ss:List Seg),(∀s∈ss,Ka Φ ext s)→∀{c:Nat}{dn row:List PV}{t:List V}{left:Int},
 t[1]? =some (aa .i64 left)→t[2]? =some (.one (.ptr 0 0 0))→0≤left→left≤1048576→5≤c→Eo c ss<t.length→ba (gv ss) row→
 ∃t',aj (ag Φ ext) ar (Gl c dn.length ss) ⟨t,[.box ((dn++row).map .pv)]⟩=some (.ret,⟨t',[.box ((dn++row).map .pv)]⟩)∧t'[4]? =some (aa .i64 (less left (eO row)))
 |[],_,c,dn,row,t,left,t1,t2,h0,h1,hc,hN,hr=>by
  obtain rfl:=eU hr
  simp only[Eo]at hN
  have e1:t.getD 1 (.tup [])=aa .i64 left:=getD_some t1
  have e2:(t.set c (aa .i64 left)).getD c (.tup [])=aa .i64 left:=aA hN
  have hl:less left (eO [])=left:=by
   have e0:eO []=0:=by simp only[eO]
   rw[e0];unfold less;rw[if_neg (by omega)];omega
  refine⟨(t.set c (aa .i64 left)).set 4 (aa .i64 left),?_,by rw[hl];exact List.getElem?_set_self (by simp;omega)⟩
  simp only[Gl,aj,ah,az,aI,bg,Opd.ev,e1,put,e2]
 |sg::ss,hss,c,dn,row,t,left,t1,t2,h0,h1,hc,hN,hr=>by
  obtain⟨a,b,rfl,ha,hb⟩:=jK (ts:=sg.ts) hr
  have hal:=i9 ha
  have hsz:=Db a b
  have hSeg:=hss sg (by simp)
  have ih:=fun{c dn row t left}=>KQ ss (fun s m=>hss s (by simp[m])) (c:=c) (dn:=dn) (row:=row) (t:=t) (left:=left)
  rw[←List.append_assoc]
  have skip:∀{c':Nat},eO a=0→Gl c dn.length (sg::ss)=Gl c (dn++a).length ss→Eo c (sg::ss)=Eo c ss→
   ∃t',aj (ag Φ ext) ar (Gl c dn.length (sg::ss)) ⟨t,[.box ((dn++a++b).map .pv)]⟩=some (.ret,⟨t',[.box ((dn++a++b).map .pv)]⟩)∧t'[4]? =some (aa .i64 (less left (eO (a++b)))):=by
   intro _ e0 e1 e2
   rw[e1,hsz,e0,Nat.zero_add]
   exact ih t1 t2 h0 h1 hc (by rw[←e2];exact hN) hb
  have go:∀{ops:List AOper}{cn cm:Nat}{t':List V}{l:Int},Gl c dn.length (sg::ss)= .seq (.region ops) (.seq (nk cn) (Gl (cn+2) (dn++a).length ss))→Eo c (sg::ss)=Eo (cn+2) ss→5≤cn→
   ah (ag Φ ext) ops ⟨t,[.box ((dn++a++b).map .pv)]⟩=some ⟨t',[.box ((dn++a++b).map .pv)]⟩→t'.length=t.length→t'[1]? =some (aa .i64 l)→t'[2]? =some (.one (.ptr 0 0 0))→(l<0→less left (eO a)= -1)→(¬l<0→l=less left (eO a))→
   ∃t',aj (ag Φ ext) ar (Gl c dn.length (sg::ss)) ⟨t,[.box ((dn++a++b).map .pv)]⟩=some (.ret,⟨t',[.box ((dn++a++b).map .pv)]⟩)∧t'[4]? =some (aa .i64 (less left (eO (a++b)))):=by
   intro ops cn cm t' l e1 e2 e3 e4 e5 e6 e7 e8 e9
   have hcl:cn+1<t'.length:=by have:=oI ss (cn+2);omega
   rw[e1,hsz]
   by_cases hn:l<0
   ·obtain⟨t'',g1,g2⟩:=OL (call:=ag Φ ext) (lp:=ar) (h:=[.box ((dn++a++b).map .pv)]) e6 hn e3 hcl
    refine⟨t'',?_,?_⟩
    ·simp only[aj,e4,g1]
    ·rw[g2,HP (b:=eO b) h0 (by rw[e8 hn];omega)]
   ·have g1:=KG (call:=ag Φ ext) (lp:=ar) (h:=[.box ((dn++a++b).map .pv)]) e6 hn hcl
    have hge:0≤less left (eO a):=by rw[←e9 hn];omega
    obtain⟨t'',f1,f2⟩:=ih (c:=cn+2) (dn:=dn++a) (row:=b) (t:=(t'.set cn (aa .i64 l)).set (cn+1) (au false)) (left:=l) (by rw[List.getElem?_set_ne (by omega),List.getElem?_set_ne (by omega)];exact e6) (by rw[List.getElem?_set_ne (by omega),List.getElem?_set_ne (by omega)];exact e7) (by omega) (by have:=Kx (a:=eO a) h0;rw[e9 hn];omega) (by omega) (by simp[e5];rw[←e2];exact hN) hb
    refine⟨t'',?_,?_⟩
    ·simp only[aj,e4,g1]
     exact f1
    ·rw[f2,←pU hge,e9 hn]
  have call:∀{n:Nat}{agg:Bool}{k:Nat}{v:V},Gl c dn.length (sg::ss)= .seq (.region (kJ c 2 dn.length n agg++C9 c k)) (.seq (nk (c+4)) (Gl (c+6) (dn++a).length ss))→Eo c (sg::ss)=Eo (c+6) ss→
   f9 agg n dn.length ((dn++(a++b)).map .pv)=some v→(∀h i,ap h [v,aa .i64 i]=some [v,aa .i64 i])→ag Φ ext k [v,aa .i64 left]=some (aa .i64 (less left (eO a)))→
   ∃t',aj (ag Φ ext) ar (Gl c dn.length (sg::ss)) ⟨t,[.box ((dn++a++b).map .pv)]⟩=some (.ret,⟨t',[.box ((dn++a++b).map .pv)]⟩)∧t'[4]? =some (aa .i64 (less left (eO (a++b)))):=by
   intro n agg k v e1 e2 e3 e4 e5
   have hcl:c+5<t.length:=by have:=oI ss (c+6);omega
   rw[←List.append_assoc]at e3
   have el:=oF (t:=t) (h:=[.box ((dn++a++b).map .pv)]) t2 (c:=c) (by omega) (by omega) rfl e3 (ag Φ ext)
   generalize hh:[AObj.box ((dn++a++b).map L.pv)]=hp at el go⊢
   have q1:((t.set c (V.one (.ptr 0 0 dn.length))).set (c+1) v).getD 1 (.tup [])=aa .i64 left:=by rw[cR (by omega),cR (by omega)];exact getD_some t1
   have q2:(((t.set c (V.one (.ptr 0 0 dn.length))).set (c+1) v).set (c+2) (aa .i64 left)).getD (c+1) (.tup [])=v:=by rw[cR (by omega)];exact aA (by simp;omega)
   have q3:(((t.set c (V.one (.ptr 0 0 dn.length))).set (c+1) v).set (c+2) (aa .i64 left)).getD (c+2) (.tup [])=aa .i64 left:=aA (by simp;omega)
   have q4:((((t.set c (V.one (.ptr 0 0 dn.length))).set (c+1) v).set (c+2) (aa .i64 left)).set (c+3) (aa .i64 (less left (eO a)))).getD (c+3) (.tup [])=aa .i64 (less left (eO a)):=aA (by simp;omega)
   refine go (ops:=kJ c 2 dn.length n agg++C9 c k) (cn:=c+4) (cm:=0) (l:=less left (eO a)) (t':=((((t.set c (V.one (.ptr 0 0 dn.length))).set (c+1) v).set (c+2) (aa .i64 left)).set (c+3) (aa .i64 (less left (eO a)))).set 1 (aa .i64 (less left (eO a)))) e1 e2 (by omega) ?_ (by simp) (List.getElem?_set_self (by simp;omega)) ?_ (fun hn=>Kw hn h0) (fun _=>rfl)
   ·rw[bz _ _ _ el]
    simp only[C9,ah,az,aI,bg,Opd.ev,q1,put,Bool.true_or,if_true,List.map_cons,List.map_nil,q2,q3,e4,e5,V.flat,L.flat,Bool.not_true,Bool.and_false,Bool.false_eq_true,if_false,dL,du,q4]
   ·rw[List.getElem?_set_ne (by omega),List.getElem?_set_ne (by omega),List.getElem?_set_ne (by omega),List.getElem?_set_ne (by omega),List.getElem?_set_ne (by omega)];exact t2
  cases sg with
  |c ty=>
   simp only[Seg.ts,List.length_singleton]at hal ha
   obtain⟨p,rfl⟩:=List.length_eq_one_iff.1 hal
   have hlen:(dn++[p]).length=dn.length+1:=by simp
   cases ty with
   |lst us=>cases hSeg
   |int k=>
    obtain⟨n,rfl⟩:=kM ha.1
    exact skip (c':=0) (by simp only[eO,sz]) (by rw[hlen];rfl) rfl
   |bool=>
    obtain⟨n,rfl⟩:=jL ha.1
    exact skip (c':=0) (by simp only[eO,sz]) (by rw[hlen];rfl) rfl
   |str=>
    obtain⟨s,rfl⟩:=jl ha.1
    have hs:s.length≤maxLen:=ha.1
    unfold maxLen at hs
    have hza:eO [PV.str s]=s.length:=by simp only[eO,sz,Nat.add_zero]
    have hcl:c+7<t.length:=by have:=oI ss (c+7);simp only[Eo]at hN;omega
    have hw:IntKind.i64.wrap (left-(s.length:Int))=left-s.length:=by rw[IntKind.wrap_i64];omega
    have hcut:f9 false 1 dn.length ((dn++[PV.str s]++b).map .pv)=some (dS s):=by rw[List.append_assoc];exact kQ (agg:=false) (a:=[.str s]) (.inr rfl)
    have el:=oF (x:=2) (ox:=0) (t:=t.set c (aa .i64 left)) (h:=[.box ((dn++[PV.str s]++b).map .pv)]) (by rw[List.getElem?_set_ne (by omega)];exact t2) (c:=c+1) (by omega) (by simp;omega) rfl hcut (ag Φ ext)
    generalize hh:[AObj.box ((dn++[PV.str s]++b).map L.pv)]=hp at el go⊢
    have q1:t.getD 1 (.tup [])=aa .i64 left:=getD_some t1
    generalize hT:((t.set c (aa .i64 left)).set (c+1) (V.one (.ptr 0 0 dn.length))).set (c+1+1) (dS s)=T at el
    have lT:T.length=t.length:=by rw[←hT];simp
    have q2:T.getD (c+2) (.tup [])=dS s:=by rw[←hT];exact aA (by simp;omega)
    have q3:(T.set (c+3) (aa .i64 s.length)).getD c (.tup [])=aa .i64 left:=by rw[cR (by omega),←hT,cR (by omega),cR (by omega)];exact aA (by omega)
    have q4:(T.set (c+3) (aa .i64 s.length)).getD (c+3) (.tup [])=aa .i64 s.length:=aA (by omega)
    have q5:((T.set (c+3) (aa .i64 s.length)).set (c+4) (aa .i64 (left-s.length))).getD (c+4) (.tup [])=aa .i64 (left-s.length):=aA (by simp;omega)
    refine go (cn:=c+5) (cm:=0) (l:=left-s.length) (t':=((T.set (c+3) (aa .i64 s.length)).set (c+4) (aa .i64 (left-s.length))).set 1 (aa .i64 (left-s.length))) (by rw[hlen];rfl) rfl (by omega) ?_ (by simp[lT]) (List.getElem?_set_self (by simp;omega)) ?_ (fun hn=>by rw[hza];exact OH (by omega)) (fun hn=>by rw[hza];unfold less;rw[if_neg (by omega)])
    ·simp only[List.cons_append,ah]
     simp only[az,aI,bg,Opd.ev,q1,put]
     rw[bz _ _ _ el]
     simp only[ah,az,aI,bg,Opd.ev,q2,isStr,put,q3,q4,bin,if_true,bD,hw,q5]
    ·rw[List.getElem?_set_ne (by omega),List.getElem?_set_ne (by omega),List.getElem?_set_ne (by omega),←hT,List.getElem?_set_ne (by omega),List.getElem?_set_ne (by omega),List.getElem?_set_ne (by omega)];exact t2
  |s ts K=>
   simp only[Seg.ts]at hal ha
   have hlen:(dn++a).length=dn.length+ts.length:=by simp[hal]
   by_cases hk:K.ks=0
   ·simp only[Ka,hk,if_true]at hSeg
    exact skip (c':=0) (Dc hSeg ha) (by rw[hlen];simp only[Gl,hk,if_true]) (by simp only[Eo,hk,if_true])
   ·simp only[Ka,hk,if_false]at hSeg
    exact call (n:=ts.length) (agg:=true) (v:= .agg (a.map .pv)) (by rw[hlen];simp only[Gl,hk,if_false]) (by simp only[Eo,hk,if_false]) (by rw[←hal];exact kQ (agg:=true) (.inl rfl)) (fun h i=>by simp only[ap,qb];rfl) (hSeg a ha left h0 h1)
  |l ts K=>
   simp only[Seg.ts,List.length_singleton]at hal ha
   obtain⟨p,rfl⟩:=List.length_eq_one_iff.1 hal
   obtain⟨rows,rfl⟩:=mA ha.1
   have hlen:(dn++[PV.lst rows]).length=dn.length+1:=by simp
   exact call (n:=1) (agg:=false) (v:=bv rows) (by rw[hlen];rfl) rfl (kQ (agg:=false) (a:=[.lst rows]) (.inr rfl)) (fun h i=>rfl) (by have:=hSeg rows ha.1 left h0 h1;simpa only[eO,Nat.add_zero]using this)
theorem cu {k:Nat}{ss:List Seg}(hk:Φ k=some (fv ss))(hss:∀s∈ss,Ka Φ ext s):jM Φ ext k (gv ss):=by
 intro r hr left h0 h1
 refine eW hk ?_
 have hle:=oI ss 5
 obtain⟨m,hm⟩:∃m,Eo 5 ss+1-2=m+4:=⟨Eo 5 ss-5,by omega⟩
 have hpl:(r.map L.pv).all plain=true:=by simp[plain]
 obtain⟨t',e1,e2⟩:=KQ ss hss (c:=5) (dn:=[]) (row:=r) (t:=V.agg (r.map .pv)::aa .i64 left::V.one (.ptr 0 0 0):: .tup []::aa .i64 0::List.replicate (m+1) (.tup [])) (left:=left) rfl rfl h0 h1 (by omega) (by simp;omega) hr
 have hst:fm Φ ext (fv ss).body (bu (fv ss) [.agg (r.map .pv),aa .i64 left])=some (.ret,⟨t',[.box (r.map .pv)]⟩):=by
  simp only[fm,fv,bu,List.length_cons,List.length_nil,Nat.zero_add,Nat.reduceAdd,hm,aj,ah,az,aI,bg,bX,Opd.ev,put,List.replicate_succ,List.cons_append,List.nil_append,List.getD_cons_zero,List.set_cons_succ,List.set_cons_zero,V.cells,hpl,if_true]
  exact e1
 rw[hst]
 simp only[done,fv,aS,av,bx,getD_some e2,List.flatMap_cons,List.flatMap_nil,List.append_nil,V.cells,bP,comp,aK,bt]
 simp[ai]
def jk (Φ:Nat→Option AFn)(ext:Nat→List V→Option V)(k:Nat)(ts:List PTy):Prop:=
 ∀r:List PV,ba ts r→ag Φ ext k [.agg (r.map .pv), .agg (r.map .pv)]=some (au true)
def jx (Φ:Nat→Option AFn)(ext:Nat→List V→Option V)(k:Nat)(ts:List PTy):Prop:=
 ∀rows:List (List PV),ni (.lst ts) (.lst rows)→ag Φ ext k [bv rows,bv rows]=some (au true)
def O4 (Φ:Nat→Option AFn)(ext:Nat→List V→Option V):Seg→Prop
 | .c t=>t.flatT=true
 | .s ts K=>jk Φ ext K.ke ts
 | .l ts K=>jx Φ ext K.ke ts
theorem xk :∀(ss:List Seg)(c:Nat),c≤LG c ss
 |[],c=>Nat.le_refl _
 | .c _::ss,c=>Nat.le_trans (by omega) (xk ss (c+5))
 | .s _ _::ss,c=>Nat.le_trans (by omega) (xk ss (c+6))
 | .l _ _::ss,c=>Nat.le_trans (by omega) (xk ss (c+6))
theorem Kh :∀(ss:List Seg),(∀s∈ss,O4 Φ ext s)→∀{c:Nat}{dn row:List PV}{t:List V},
 t[2]? =some (.one (.ptr 0 0 0))→t[3]? =some (.one (.ptr 1 0 0))→5≤c→LG c ss≤t.length→ba (gv ss) row→
 ∃t',aj (ag Φ ext) ar (MI c dn.length ss) ⟨t,[.box ((dn++row).map .pv), .box ((dn++row).map .pv)]⟩=some (.ret,⟨t',[.box ((dn++row).map .pv), .box ((dn++row).map .pv)]⟩)∧t'[4]? =some (au true)
 |[],_,c,dn,row,t,t2,t3,hc,hN,hr=>by
  simp only[LG]at hN
  refine⟨t.set 4 (au true),?_,List.getElem?_set_self (by omega)⟩
  simp only[MI,aj,ah,az,aI,bg,Opd.ev,put]
 |sg::ss,hss,c,dn,row,t,t2,t3,hc,hN,hr=>by
  obtain⟨a,b,rfl,ha,hb⟩:=jK (ts:=sg.ts) hr
  have hal:=i9 ha
  have hSeg:=hss sg (by simp)
  have ih:=fun{c dn row t}=>Kh ss (fun s m=>hss s (by simp[m])) (c:=c) (dn:=dn) (row:=row) (t:=t)
  rw[←List.append_assoc]
  generalize hh:[AObj.box ((dn++a++b).map L.pv), .box ((dn++a++b).map L.pv)]=hp
  have go:∀{ops:List AOper}{cn:Nat}{t':List V},MI c dn.length (sg::ss)= .seq (.seq (.region ops) (.cond (.tmp cn) H8 .skip)) (MI (cn+1) (dn++a).length ss)→LG c (sg::ss)=LG (cn+1) ss→4≤cn→
   ah (ag Φ ext) ops ⟨t,hp⟩=some ⟨t',hp⟩→t'.length=t.length→t'[cn]? =some (au false)→t'[2]? =t[2]? →t'[3]? =t[3]? →
   ∃t',aj (ag Φ ext) ar (MI c dn.length (sg::ss)) ⟨t,hp⟩=some (.ret,⟨t',hp⟩)∧t'[4]? =some (au true):=by
   intro ops cn t' e1 e2 e3 e4 e5 e6 e7 e8
   obtain⟨t'',f1,f2⟩:=ih (c:=cn+1) (dn:=dn++a) (row:=b) (t:=t') (e7.trans t2) (e8.trans t3) (by omega) (by rw[e5,←e2];exact hN) hb
   rw[hh]at f1
   refine⟨t'',?_,f2⟩
   rw[e1]
   simp only[aj,e4,Opd.ev,getD_some e6,isBool,Bool.false_eq_true,if_false]
   exact f1
  have hb0:hp[0]? =some (.box ((dn++a++b).map .pv)):=by rw[←hh];rfl
  have hb1:hp[1]? =some (.box ((dn++a++b).map .pv)):=by rw[←hh];rfl
  have ld:∀{n:Nat}{agg:Bool}{v:V},f9 agg n dn.length ((dn++a++b).map .pv)=some v→c+3<t.length→∃T,ah (ag Φ ext) (kJ c 2 dn.length n agg++kJ (c+2) 3 dn.length n agg) ⟨t,hp⟩=some ⟨T,hp⟩∧T.length=t.length∧T.getD (c+1) (.tup [])=v∧T.getD (c+3) (.tup [])=v∧T[2]? =t[2]? ∧T[3]? =t[3]? :=by
   intro n agg v hcut hlt
   have el1:=oF (t:=t) (h:=hp) t2 (c:=c) (by omega) (by omega) hb0 hcut (ag Φ ext)
   have el2:=oF (t:=(t.set c (.one (.ptr 0 0 dn.length))).set (c+1) v) (h:=hp) (x:=3) (ox:=1) (by rw[List.getElem?_set_ne (by omega),List.getElem?_set_ne (by omega)];exact t3) (c:=c+2) (by omega) (by simp;omega) hb1 hcut (ag Φ ext)
   refine⟨_,(bz _ _ _ el1).trans el2,by simp,?_,?_,?_,?_⟩
   ·rw[cR (by omega),cR (by omega)];exact aA (by simp;omega)
   ·exact aA (by simp;omega)
   ·rw[List.getElem?_set_ne (by omega),List.getElem?_set_ne (by omega),List.getElem?_set_ne (by omega),List.getElem?_set_ne (by omega)]
   ·rw[List.getElem?_set_ne (by omega),List.getElem?_set_ne (by omega),List.getElem?_set_ne (by omega),List.getElem?_set_ne (by omega)]
  have call:∀{n:Nat}{agg:Bool}{k:Nat}{v:V},MI c dn.length (sg::ss)= .seq (.seq (.region (kJ c 2 dn.length n agg++(kJ (c+2) 3 dn.length n agg++[⟨some (c+4), .call k [.tmp (c+1), .tmp (c+3)] true false,none⟩,⟨some (c+5), .un .not (.tmp (c+4)),none⟩]))) (.cond (.tmp (c+5)) H8 .skip)) (MI (c+6) (dn++a).length ss)→LG c (sg::ss)=LG (c+6) ss→
   f9 agg n dn.length ((dn++(a++b)).map .pv)=some v→(∀h,ap h [v,v]=some [v,v])→ag Φ ext k [v,v]=some (au true)→
   ∃t',aj (ag Φ ext) ar (MI c dn.length (sg::ss)) ⟨t,hp⟩=some (.ret,⟨t',hp⟩)∧t'[4]? =some (au true):=by
   intro n agg k v e1 e2 e3 e4 e5
   have hcl:c+6≤t.length:=by have:=xk ss (c+6);omega
   rw[←List.append_assoc]at e3
   obtain⟨T,g1,g2,g3,g4,g5,g6⟩:=ld e3 (by omega)
   have q1:(T.set (c+4) (au true)).getD (c+4) (.tup [])=au true:=aA (by omega)
   refine go (cn:=c+5) (t':=(T.set (c+4) (au true)).set (c+5) (au false)) e1 e2 (by omega) ?_ (by simp[g2]) (List.getElem?_set_self (by simp;omega)) (by rw[List.getElem?_set_ne (by omega),List.getElem?_set_ne (by omega)];exact g5) (by rw[List.getElem?_set_ne (by omega),List.getElem?_set_ne (by omega)];exact g6)
   rw[←List.append_assoc,bz _ _ _ g1]
   simp only[ah,az,aI,bg,Opd.ev,g3,g4,put,Bool.true_or,if_true,List.map_cons,List.map_nil,e4,e5,V.flat,L.flat,Bool.not_true,Bool.and_false,Bool.false_eq_true,if_false,dL,du,q1,un]
  cases sg with
  |c ty=>
   simp only[Seg.ts,List.length_singleton]at hal ha
   obtain⟨p,rfl⟩:=List.length_eq_one_iff.1 hal
   have hlen:(dn++[p]).length=dn.length+1:=by simp
   have hcl:c+5≤t.length:=by have:=xk ss (c+5);simp only[LG]at hN;omega
   have hcut:f9 false 1 dn.length ((dn++[p]++b).map .pv)=some (.one (.pv p)):=by rw[List.append_assoc];exact kQ (agg:=false) (a:=[p]) (.inr rfl)
   obtain⟨T,g1,g2,g3,g4,g5,g6⟩:=ld hcut (by omega)
   refine go (cn:=c+4) (t':=T.set (c+4) (au false)) (by rw[hlen];rfl) rfl (by omega) ?_ (by simp[g2]) (List.getElem?_set_self (by omega)) (by rw[List.getElem?_set_ne (by omega)];exact g5) (by rw[List.getElem?_set_ne (by omega)];exact g6)
   rw[←List.append_assoc,bz _ _ _ g1]
   cases ty with
   |lst us=>cases hSeg
   |int k=>obtain⟨n,rfl⟩:=kM ha.1;simp only[ah,az,aI,bg,Eh,Opd.ev,g3,g4,put,bin,if_true,bD,bne_self_eq_false]
   |bool=>obtain⟨n,rfl⟩:=jL ha.1;simp only[ah,az,aI,bg,Eh,Opd.ev,g3,g4,put,isBool,if_true,beq_self_eq_true,Bool.not_true]
   |str=>obtain⟨n,rfl⟩:=jl ha.1;simp only[ah,az,aI,bg,Eh,Opd.ev,g3,g4,put,bin,io,beq_self_eq_true,Bool.not_true]
  |s ts K=>
   simp only[Seg.ts]at hal ha
   have hlen:(dn++a).length=dn.length+ts.length:=by simp[hal]
   exact call (n:=ts.length) (agg:=true) (v:= .agg (a.map .pv)) (by rw[hlen];rfl) rfl (by rw[←hal];exact kQ (agg:=true) (.inl rfl)) (fun h=>by simp only[ap,qb]) (hSeg a ha)
  |l ts K=>
   simp only[Seg.ts,List.length_singleton]at hal ha
   obtain⟨p,rfl⟩:=List.length_eq_one_iff.1 hal
   obtain⟨rows,rfl⟩:=mA ha.1
   have hlen:(dn++[PV.lst rows]).length=dn.length+1:=by simp
   exact call (n:=1) (agg:=false) (v:=bv rows) (by rw[hlen];rfl) rfl (kQ (agg:=false) (a:=[.lst rows]) (.inr rfl)) (fun h=>rfl) (hSeg rows ha.1)
theorem bY {k:Nat}{ss:List Seg}(hk:Φ k=some (ff ss))(hss:∀s∈ss,O4 Φ ext s):jk Φ ext k (gv ss):=by
 intro r hr
 refine eW hk ?_
 have hle:=xk ss 5
 obtain⟨m,hm⟩:∃m,LG 5 ss-2=m+3:=⟨LG 5 ss-5,by omega⟩
 have hpl:(r.map L.pv).all plain=true:=by simp[plain]
 obtain⟨t',e1,e2⟩:=Kh ss hss (c:=5) (dn:=[]) (row:=r) (t:=V.agg (r.map .pv)::V.agg (r.map .pv)::V.one (.ptr 0 0 0)::V.one (.ptr 1 0 0)::au false::List.replicate m (.tup [])) rfl rfl (by omega) (by simp;omega) hr
 have hst:fm Φ ext (ff ss).body (bu (ff ss) [.agg (r.map .pv), .agg (r.map .pv)])=some (.ret,⟨t',[.box (r.map .pv), .box (r.map .pv)]⟩):=by
  simp only[fm,ff,bu,List.length_cons,List.length_nil,Nat.zero_add,Nat.reduceAdd,hm,aj,ah,az,aI,bg,bX,Opd.ev,put,List.replicate_succ,List.cons_append,List.nil_append,List.getD_cons_zero,List.getD_cons_succ,List.set_cons_succ,List.set_cons_zero,V.cells,hpl,if_true]
  exact e1
 rw[hst]
 simp only[done,ff,aS,av,bx,getD_some e2,List.flatMap_cons,List.flatMap_nil,List.append_nil,V.cells,bP,comp,aK,bt]
 simp[ai]
def PW (P:Seg→Prop):List Seg→Prop
 |[]=>True
 |s::ss=>P s∧PW P ss
theorem a9 {P:Seg→Prop}:∀{ss:List Seg},PW P ss→∀s∈ss,P s
 |[],_,_,h=>by cases h
 |x::xs,h,s,hm=>by
  rcases List.mem_cons.1 hm with rfl|hm
  ·exact h.1
  ·exact a9 h.2 s hm
theorem iW {k z kx:Nat}{ts:List PTy}(hk:Φ k=some (Gu z kx))(hz:ts.length=z)(hx:jM Φ ext kx ts):jy Φ ext k ts:=by
 intro rows h left h0 h1
 obtain⟨hl,hr⟩:=aL h
 rw[jJ]
 exact PH hk (fun r m=>by rw[i9 (hr r m),hz]) hl (fun r m=>hx r (hr r m)) h0 h1
theorem A3 {k:Nat}{ts:List PTy}(hk:Φ k=some Pd)(ha:ts.all PTy.small=true):jy Φ ext k ts:=by
 intro rows h left h0 h1
 obtain⟨hl,hr⟩:=aL h
 rw[jJ,zB ha hr]
 exact PG hk hl h0 h1
theorem gI {k z kx:Nat}{ts:List PTy}(hk:Φ k=some (mM 27 (eS z kx)))(hz:ts.length=z)(hx:jk Φ ext kx ts):jx Φ ext k ts:=by
 intro rows h
 obtain⟨hl,hr⟩:=aL h
 exact Pt hk (fun r m=>by rw[i9 (hr r m),hz]) hl (fun r m=>hx r (hr r m))
theorem Fx {k:Nat}{t:PTy}(hk:Φ k=some (mM 26 nj))(ht:t.easy=true):jx Φ ext k [t]:=by
 intro rows h
 obtain⟨hl,hr⟩:=aL h
 obtain⟨qs,rfl⟩:=KP hr
 exact Ps hk (PB ht hr) (by simpa using hl)
end
end Gi
