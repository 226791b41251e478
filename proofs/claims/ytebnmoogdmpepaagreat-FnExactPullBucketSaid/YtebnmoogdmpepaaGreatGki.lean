/- Of this proof. -/
import Derived.Test.YtebnmoogdmpepaaGreatGkd
import Derived.Test.YtebnmoogdmpepaaGreatGkm
set_option linter.unusedSimpArgs false
set_option linter.unusedVariables false
namespace Gi
open Go Go.RowKit
set_option maxHeartbeats 8000000
set_option maxRecDepth 4000
attribute [local simp] start oH bJ cI cS ed cR dZ eu ep pz pI pA pJ pB pK pC pL pD pM pE pO pF pP pG pQ pH pR V.cells plain bA fR isInt isStr isBool bin bY gj bZ gl ee un asList L.view aj V.view viewL aW am ce bD bS comp aQ bI cH bP bq bo bp aC aq aY al aB aI au bi bF aE br bt V.flat L.flat db da bB putAt thaw thawL thawT V.ow ej cV cW ca eh cd cU freezeVs freezeLs freezeL V.mut L.mut aH dE fK aZ bC aN dv bR bj bV L.ren aP dg bW dq bU bH wp_seq wp_block bg cZ cf bE cj wp_skip wp_exit wp_ret ct cr cz cu cC cD cB bO aF L.notArr aU aS aT cY bz storeD bc eP bu co ba k8 L.mov L.closed V.closed PV.bare PV.flat
def vy (fs:List XField)(nm:List UInt8):Nat:=fs.findIdx fun f=> !(Op.bytesLess f.name nm)
theorem JD (fs:List XField)(nm:List UInt8):vy fs nm≤fs.length:=List.findIdx_le_length
theorem NH {fs:List XField}{nm:List UInt8}{k:Nat}(h:k<vy fs nm)(hk:k<fs.length):Op.bytesLess fs[k].name nm=true:=by
 have:=List.not_of_lt_findIdx h
 simpa using this
theorem NG {fs:List XField}{nm:List UInt8}(h:vy fs nm<fs.length):Op.bytesLess fs[vy fs nm].name nm=false:=by
 have:=List.findIdx_getElem (w:=h)
 unfold vy
 simpa using this
def ul (fs:List XField)(nm:List UInt8)(n:Int):List XField:=match fs[vy fs nm]? with
 |some f=>if f.name=nm then fs.set (vy fs nm) ⟨nm,n⟩else fs.take (vy fs nm)++(⟨nm,n⟩::fs.drop (vy fs nm))
 |none=>fs.take (vy fs nm)++(⟨nm,n⟩::fs.drop (vy fs nm))
theorem SA (fs:List XField)(nm:List UInt8)(n:Int):(ul fs nm n).length≤fs.length+1:=by
 have:=JD fs nm
 unfold ul
 split
 ·split
  ·simp
  ·simp;omega
 ·simp;omega
theorem SB {fs:List XField}{nm:List UInt8}{n:Int}{f:XField}(h:f∈ul fs nm n):f∈fs∨f=⟨nm,n⟩:=by
 have key:f∈fs.take (vy fs nm)++(⟨nm,n⟩::fs.drop (vy fs nm))→f∈fs∨f=⟨nm,n⟩:=fun h=>by
  rw[Yy,Z8]at h
  rcases h with h|h|h
  ·exact .inl (Z3 h)
  ·exact .inr h
  ·exact .inl (Yw h)
 unfold ul at h
 split at h
 ·split at h
  ·exact Yo h
  ·exact key h
 ·exact key h
theorem Pb {B:Nat}{fs:List XField}(h:fs.length≤B∧∀f∈fs,f.Ok B){nm:List UInt8}(hn:nm.length≤B){n:Int}(hi:ou n):(ul fs nm n).length≤B+1∧∀f∈ul fs nm n,f.Ok (B+1):=by
 refine⟨by have:=SA fs nm n;omega,fun f hf=> ?_⟩
 rcases SB hf with h1|rfl
 ·exact XField.Ok.mono (by omega) (h.2 f h1)
 ·exact⟨by simp only;omega,hi⟩
theorem yc :∀{a b c:List UInt8},Op.bytesLess a b=true→Op.bytesLess b c=true→Op.bytesLess a c=true
 |[],[],_,h,_=>by cases h
 |[],_::_,[],_,h=>by cases h
 |[],_::_,_::_,_,_=>rfl
 |_::_,[],_,h,_=>by cases h
 |_::_,_::_,[],_,h=>by cases h
 |a::x,b::y,c::z,h,k=>by
  simp only[Op.bytesLess,Bool.or_eq_true,Zh,decide_eq_true_eq,beq_iff_eq]at h k⊢
  rcases h with h|⟨rfl,h⟩
  ·rcases k with k|⟨rfl,k⟩
   ·exact .inl (UInt8.lt_trans h k)
   ·exact .inl h
  ·rcases k with k|⟨rfl,k⟩
   ·exact .inl k
   ·exact .inr ⟨rfl,yc h k⟩
theorem FK :∀(a:List UInt8),Op.bytesLess a a=false
 |[]=>rfl
 |a::x=>by simp[Op.bytesLess,UInt8.lt_irrefl,FK x]
def Vs :List XField→Prop
 |[]=>True
 |f::t=>(∀g∈t,Op.bytesLess f.name g.name=true)∧Vs t
theorem SK :∀{fs:List XField},(∀j(h:j+1<fs.length),Op.bytesLess fs[j].name fs[j+1].name=true)→Vs fs
 |[],_=>trivial
 |[f],_=>⟨by simp,trivial⟩
 |f::g::t,h=>by
  have ih:=SK (fs:=g::t) (fun j hj=>by have:=h (j+1) (by simpa using hj);simpa using this)
  refine⟨fun x hx=> ?_,ih⟩
  have h0:=h 0 (by simp)
  simp at h0
  rcases Z8.1 hx with rfl|hx
  ·exact h0
  ·exact yc h0 (ih.1 x hx)
theorem SJ :∀{fs:List XField},Vs fs→∀{i j:Nat}(h:i<j)(hj:j<fs.length),Op.bytesLess (fs[i]'(by omega)).name fs[j].name=true
 |[],_,_,_,_,hj=>by simp at hj
 |f::t,h,0,j+1,_,hj=>by
  simp only[Xm,List.getElem_cons_succ]
  exact h.1 _ (Zf _)
 |f::t,h,i+1,j+1,hij,hj=>by
  simp only[List.getElem_cons_succ]
  exact SJ h.2 (by omega) _
 |f::t,h,i+1,0,hij,hj=>by omega
theorem Qw {a b:List UInt8}(h1:Op.bytesLess a b=false)(h2:a≠b):Op.bytesLess b a=true:=by
 have:=qT a b
 rw[h1,beq_eq_false_iff_ne.2 h2]at this
 simpa using this
theorem TT {fs:List XField}(h:eA fs=true):Vs fs:=by
 refine SK fun j hj=> ?_
 simp only[eA,Zh,Yb]at h
 have:=uQ h.1 hj
 simp only[MX,hj,Zn,Nat.add_sub_cancel,show j<fs.length by omega,Yp,Bool.and_eq_false_iff,Y6]at this
 rcases this.2.2 with q|q
 ·rw[jH (by omega)]at q;cases q
 ·exact q
theorem RS {nm:List UInt8}{fs:List XField}(h:Vs fs):dR (isF nm) fs=(match fs[vy fs nm]? with
 |some f=>if f.name=nm then((vy fs nm:Nat):Int)else-1
 |none=> -1):=by
 have before:∀j,j<vy fs nm→ir (isF nm) fs j=false:=fun j hj=>by
  have h1:j<fs.length:=Z0 hj (JD _ _)
  have:=NH hj h1
  simp only[ir,h1,Zn,isF,beq_eq_false_iff_ne]
  intro e
  rw[e,FK]at this;cases this
 by_cases hp:vy fs nm<fs.length
 ·simp only[hp,Zn]
  split
  ·rename_i e
   exact sI hp before (by simp[isF,e])
  ·rename_i e
   refine sH fun j hj=> ?_
   by_cases q:j<vy fs nm
   ·exact before j q
   ·have h2:=Qw (NG hp) e
    simp only[ir,hj,Zn,isF,beq_eq_false_iff_ne]
    by_cases q2:j=vy fs nm
    ·subst q2;exact e
    ·intro e3
     have:=SJ h (i:=vy fs nm) (j:=j) (by omega) hj
     rw[e3]at this
     have:=yc h2 this
     rw[FK]at this;cases this
 ·have:fs[vy fs nm]? =none:=Yl (by omega)
  rw[this]
  exact sH fun j hj=>before j (by omega)
def setR (fs:List XField)(nm:List UInt8)(n:Int):List XField×Bool:=cond (eA fs&&eA (ul fs nm n)) (ul fs nm n,true) (fs,false)
abbrev yj (x:List XField×Bool):V:= .tup [(true,[.own 2 (x.1.map XField.e)]),(false,[.pv (.bool x.2)])]
theorem zZ (fs:List XField)(nm:List UInt8)(n:Int)(h:∀f,fs[vy fs nm]? =some f→f.name≠nm):(ul fs nm n).map XField.e=(fs.map XField.e).take (vy fs nm)++([.str nm, .int .i64 n]::(fs.map XField.e).drop (vy fs nm)):=by
 have:ul fs nm n=fs.take (vy fs nm)++(⟨nm,n⟩::fs.drop (vy fs nm)):=by
  unfold ul
  split
  ·rename_i f hf;rw[if_neg (h f hf)]
  ·rfl
 rw[this];simp[XField.e]
theorem Aa {fs:List XField}{nm:List UInt8}{n:Int}(hk:vy fs nm<fs.length)(h:fs[vy fs nm].name=nm):(ul fs nm n).map XField.e=(fs.map XField.e).set (vy fs nm) [.str fs[vy fs nm].name, .int .i64 n]:=by
 have:ul fs nm n=fs.set (vy fs nm) ⟨nm,n⟩:=by
  unfold ul
  simp[hk,h]
 rw[this,List.map_set,h];rfl
theorem Bv {B:Nat}(hB:B≤1048576){r:XRecord}(h:r.Ok B){nm:List UInt8}(hn:nm.length≤B){n:Int}(hi:ou n):ag Ph aM 341 [r.v,eB nm,aa .i64 n]=some (yj (setR r.fs nm n)):=by
 have hM:B+1≤maxLen:=by unfold maxLen;omega
 have e1:=mF hB h
 have e2:=kT (XRecord.Ok.mono (by omega) h)
 have e3:=kT (r:=⟨ul r.fs nm n⟩) (XRecord.Ok.mono hM (Pb h hn hi))
 have hl:r.fs.length≤1048576:=Zc h.1 hB
 have e4:=uz (r:=r) (by unfold maxLen;omega) nm
 have fp:=fun hv=>RS (nm:=nm) (fs:=r.fs) (TT hv)
 have hs:=Aa (fs:=r.fs) (nm:=nm) (n:=n)
 have hins:=zZ r.fs nm n
 unfold setR
 generalize ul r.fs nm n=F at e3 hs hins⊢
 refine ae (fn:=ig) rfl ?_
 have hp:=JD r.fs nm
 have m1:=eR (m:=r.fs.length+1) (z:=24) (by omega) (by omega)
 rcases zo (isF nm) r.fs with hf|⟨j,hj,hf,hq⟩<;>rw[hf]at e4 fp
 ·simp +contextual (maxSteps:=9999999) [ig,e1,e4,cT]
  have b1:= @NH r.fs nm
  have b2:= @NG r.fs nm
  generalize vy r.fs nm=k at fp hins hp b1 b2
  refine aG bm Cl.fin [.f,.t,.t,.t,.f,.f,.t,.f,.t,.f,.t,.f,.f,.f,.f,.f,.f,.f,.f,.f,.f,.f,.f,.f,.f,.f,.f,.f,.f,.f,.f,.f,.f,.f,.f,.f,.f,.f,.f,.f,.f,.f,.f,.f,.f,.f,.f,.f,.f,.f,.f,.f,.f,.f,.f,.f,.f,.f,.f,.f,.f] (fun k=>[(10,aa .i64 k)]) k (fun _=>false) rfl (by simp) (fun j hj _=> ?_) (fun _ _=> ?_)
  ·have hj2:j<r.fs.length:=by omega
   have l1:=b1 hj hj2
   simp +contextual (maxSteps:=9999999) [ez,hj2,l1,aR (n:=r.fs.length) (by unfold maxLen;omega) hj2,bd hj2,XField.e.eq_1 r.fs[j]]
  ·have hm:eA r.fs=true→_:=fun hv=>(hins fun f hff e=>by
    have:=fp hv
    rw[hff]at this
    simp only[e,if_true]at this
    omega).symm
   by_cases hlt:k<r.fs.length
   ·have l1:=b2 hlt
    have hx:=XField.e.eq_1 r.fs[k]
    cases c1:eA r.fs<;>rw[c1]at e2
    ·simp +contextual (maxSteps:=9999999) [ez,hlt,hx,l1,hp,m1,e2,e1,bd hlt]
    ·have hm:=hm c1
     cases c2:eA F<;>rw[c2]at e3
     ·simp +contextual (maxSteps:=9999999) [ez,hlt,hx,l1,hp,m1,hm,e2,e3,e1,bd hlt]
     ·simp +contextual (maxSteps:=9999999) [ez,hlt,hx,l1,hp,m1,hm,e2,e3,bd hlt]
   ·obtain rfl:k=r.fs.length:=by omega
    cases c1:eA r.fs<;>rw[c1]at e2
    ·simp +contextual (maxSteps:=9999999) [ez,m1,e2,e1]
    ·have hm:=hm c1
     cases c2:eA F<;>rw[c2]at e3
     ·simp +contextual (maxSteps:=9999999) [ez,m1, ↓hm,e2,e3,e1]
     ·simp +contextual (maxSteps:=9999999) [ez,m1, ↓hm,e2,e3]
 ·have hx:=XField.e.eq_1 r.fs[j]
  cases c1:eA r.fs<;>rw[c1]at e2
  ·simp +contextual (maxSteps:=9999999) [ig,e1,e4,cT,hj,hx,e2]
  ·have fp:=fp c1
   have hm:(r.fs.map XField.e).set j [.str r.fs[j].name, .int .i64 n]=F.map XField.e:=by
    cases hc:r.fs[vy r.fs nm]? with
    |none=>rw[hc]at fp;simp only at fp;omega
    |some f=>
     rw[hc]at fp
     by_cases e:f.name=nm
     ·simp only[e,if_true]at fp
      obtain rfl:j=vy r.fs nm:=by omega
      rw[Zn hj]at hc
      cases hc
      exact(hs hj e).symm
     ·simp only[e,if_false]at fp;omega
   cases c2:eA F<;>rw[c2]at e3
   ·simp +contextual (maxSteps:=9999999) [ig,e1,e4,cT,hj,hx,hm,e2,e3]
   ·simp +contextual (maxSteps:=9999999) [ig,e1,e4,cT,hj,hx,hm,e2,e3]
theorem BQ {B:Nat}(hB:B≤1048576){r:XRecord}(h:r.Ok B){nm:List UInt8}(hn:nm.length≤B){n:Int}(hi:ou n):ag Ph aM 338 [r.v,eB nm,aa .i64 n]=some (yj (setR r.fs nm n)):=by
 have hM:B+1≤maxLen:=by unfold maxLen;omega
 have e1:=qZ hB h
 have e2:=jg (XRecord.Ok.mono (by omega) h)
 have e3:=jg (r:=⟨ul r.fs nm n⟩) (XRecord.Ok.mono hM (Pb h hn hi))
 have hl:r.fs.length≤1048576:=Zc h.1 hB
 have hs:=Aa (fs:=r.fs) (nm:=nm) (n:=n)
 have hins:=zZ r.fs nm n
 unfold setR
 generalize ul r.fs nm n=F at e3 hs hins⊢
 refine ae (fn:=pj) rfl ?_
 have hp:=JD r.fs nm
 have m1:=eR (m:=r.fs.length+1) (z:=24) (by omega) (by omega)
 simp +contextual (maxSteps:=9999999) [pj,e1]
 have b1:= @NH r.fs nm
 have b2:= @NG r.fs nm
 generalize vy r.fs nm=k at hs hins hp b1 b2
 have m2:=eR (m:=k) (z:=24) (by omega) (by omega)
 have m3:=eR (m:=k+1) (z:=24) (by omega) (by omega)
 have w2:((r.fs.map XField.e).take k).all (fun e=>e.length==2)=true:=by rw[←List.map_take];exact dC (e:=XField.e) (z:=2) (fun _=>rfl) _
 have w3:((r.fs.map XField.e).drop k).all (fun e=>e.length==2)=true:=by rw[←List.map_drop];exact dC (e:=XField.e) (z:=2) (fun _=>rfl) _
 have t1:List.take (r.fs.length-k) ((r.fs.map XField.e).drop k)=(r.fs.map XField.e).drop k:=Zs (by simp)
 have t2:k+1+(r.fs.length-k)=r.fs.length+1:=by omega
 have w4:=dC (e:=XField.e) (z:=2) (fun _=>rfl) r.fs
 refine aG bm Cl.fin [.f,.t,.t,.t,.f,.f,.t,.f,.t,.t,.f,.f,.f,.f,.f,.f,.f,.f,.f,.f,.f,.f,.f,.f,.f,.f,.f,.f,.f,.f,.f,.f,.f,.f,.f,.f,.f,.f,.f,.f,.f,.f,.f,.f,.f,.f,.f,.f,.f,.f,.f,.f,.f,.f,.f,.f,.f,.f,.f,.f,.f,.f,.f,.f,.f,.f,.f,.f,.f,.f,.f,.f,.f,.f,.f,.f,.f,.f] (fun k=>[(9,aa .i64 k)]) k (fun _=>false) rfl (by simp) (fun j hj _=> ?_) (fun _ _=> ?_)
 ·have hj2:j<r.fs.length:=by omega
  have l1:=b1 hj hj2
  simp +contextual (maxSteps:=9999999) [gn,hj2,l1,aR (n:=r.fs.length) (by unfold maxLen;omega) hj2,bd hj2,XField.e.eq_1 r.fs[j]]
 ·by_cases hlt:k<r.fs.length
  ·have l1:=b2 hlt
   have hx:=XField.e.eq_1 r.fs[k]
   by_cases hq:r.fs[k].name=nm
   ·have hm:=(hs hlt hq).symm
    have hb:(r.fs[k].name==nm)=true:=by simp[hq]
    cases c1:eA r.fs<;>rw[c1]at e2<;>cases c2:eA F<;>rw[c2]at e3<;>simp +contextual (maxSteps:=9999999) [gn,hlt,hx,l1,hb,hm,e2,e3,e1,bd hlt]
   ·have hm:=(hins fun f hf e=>hq (by rw[Zn hlt]at hf;cases hf;exact e)).symm
    have hb:(r.fs[k].name==nm)=false:=by simp[hq]
    cases c1:eA r.fs<;>rw[c1]at e2<;>cases c2:eA F<;>rw[c2]at e3<;>simp +contextual (maxSteps:=9999999) [gn,hlt,hx,l1,hb,hm,e2,e3,e1,bd hlt,m1,m2,m3,w2,w3,w4,hp,t1,t2]
  ·obtain rfl:k=r.fs.length:=by omega
   have hm:=(hins fun f hf e=>by rw[Yl (Zm _)]at hf;cases hf).symm
   have hm2:(r.fs.map XField.e).take r.fs.length++[[.str nm, .int .i64 n]]=F.map XField.e:=by rw[←hm];simp
   have hF:F.length=r.fs.length+1:=by have:=congrArg List.length hm2;simpa using this.symm
   cases c1:eA r.fs<;>rw[c1]at e2<;>cases c2:eA F<;>rw[c2]at e3<;>simp +contextual (maxSteps:=9999999) [gn,hm,hm2,hF,e2,e3,e1,m1,m2,m3,w2,w3,w4,t1,t2]
def TM (x:XItem):Bool:=kD x.key&&eA x.rcd.fs
def tO :List XItem→Bool
 |[]=>true
 |[_]=>true
 |a::b::t=>decide (sV a.key b.key<0)&&tO (b::t)
def FJ :Option XItem→Option XItem→Bool
 |some a,some b=>decide (sV a.key b.key<0)
 |_,_=>true
theorem IA :∀{xs:List XItem},tO xs=true↔∀j(h:j+1<xs.length),sV xs[j].key xs[j+1].key<0
 |[]=>by simp[tO]
 |[_]=>by simp[tO]
 |a::b::t=>by
  have ih:=IA (xs:=b::t)
  simp only[tO,Zh,decide_eq_true_eq,ih]
  constructor
  ·intro⟨h1,h2⟩ j hj
   cases j with
   |zero=>simpa using h1
   |succ j=>have:=h2 j (by simpa using hj);simpa using this
  ·intro h
   refine⟨by have:=h 0 (by simp);simpa using this,fun j hj=> ?_⟩
   have:=h (j+1) (by simpa using hj)
   simpa using this
def ub (xs:List XItem):Bool:= !(gD xs.length (GN xs))
theorem FE (xs:List XItem):ub xs=(xs.all TM&&tO xs):=by
 rw[Bool.eq_iff_iff]
 unfold ub
 simp only[Yb,Zh,IA,Zu]
 have at':∀k(hk:k<xs.length),GN xs k=(!(kD xs[k].key)||(!(eA xs[k].rcd.fs)||(cT 0 k&& !(cT (sV (xs[k-1]'(by omega)).key xs[k].key) 0)))):=fun k hk=>by simp[GN,hk,show k-1<xs.length by omega]
 constructor
 ·intro h
  refine⟨fun x hx=> ?_,fun j hj=> ?_⟩
  ·obtain⟨k,hk,rfl⟩:=Y4.1 hx
   have:=uQ h hk
   rw[at' k hk]at this
   simp only[Yp,Y6]at this
   simp[TM,this.1,this.2.1]
  ·have:=uQ h hj
   rw[at' _ hj]at this
   simp only[Yp,Bool.and_eq_false_iff,Y6,Nat.add_sub_cancel]at this
   rcases this.2.2 with q|q
   ·rw[jH (by omega)]at q;cases q
   ·exact of_decide_eq_true q
 ·intro⟨h1,h2⟩
  refine IE fun k hk=> ?_
  rw[at' k hk]
  have h3:=h1 _ (Zf hk)
  simp only[TM,Zh]at h3
  rw[h3.1,h3.2]
  cases k with
  |zero=>rw[kE (by simp)];rfl
  |succ j=>
   have:=h2 j hk
   simp only[Nat.add_sub_cancel,jH this];simp
theorem yD :∀(l m:List XItem),tO (l++m)=(tO l&&(tO m&&FJ l.getLast? m.head?))
 |[],m=>by cases m<;>simp[tO,FJ]
 |[a],[]=>by simp[tO,FJ]
 |[a],b::m=>by simp[tO,FJ,Bool.and_comm]
 |a::b::t,m=>by
  have ih:=yD (b::t) m
  simp only[Zg]at ih⊢
  simp only[tO,ih,Bool.and_assoc]
  have:(a::b::t).getLast? =(b::t).getLast?:=by simp[List.getLast?_cons_cons]
  rw[this]
theorem Pu (x:XItem)(m:List XItem):tO (x::m)=(tO m&&FJ (some x) m.head?):=by
 have:=yD [x] m
 simpa[tO]using this
def wP (xs:List XItem)(k:XKey):Nat:=xs.findIdx fun x=> !(decide (sV x.key k<0))
theorem zU (xs:List XItem)(k:XKey):wP xs k≤xs.length:=List.findIdx_le_length
theorem JC {xs:List XItem}{k:XKey}{j:Nat}(h:j<wP xs k)(hj:j<xs.length):sV xs[j].key k<0:=by
 have:=List.not_of_lt_findIdx h
 simpa using this
theorem JB {xs:List XItem}{k:XKey}(h:wP xs k<xs.length):¬sV xs[wP xs k].key k<0:=by
 have:=List.findIdx_getElem (w:=h)
 unfold wP
 simpa using this
theorem PQ {a b:List UInt8}(h:Lib.compareBytes a b=0):a=b:=by
 rw[iw]at h
 have ht:=qT a b
 cases q:Op.bytesLess a b<;>cases q2:Op.bytesLess b a<;>simp[q,q2]at h ht⊢
 exact ht
theorem PR {a b:XKey}(ha:kD a=true)(hb:kD b=true)(hne:a≠b)(h:¬sV a b<0):sV b a<0:=by
 have h1:=RB a b
 have hz:sV a b≠0:=fun e=>by
  obtain⟨ak,an,ax⟩:=a
  obtain⟨bk,bn,bx⟩:=b
  simp only[ne_eq,XKey.mk.injEq]at hne
  have hc:= @PQ ax bx
  simp only[sV,ha,hb]at e
  grind [Ui,cT]
 omega
theorem Nu {k:XKey}{x:XItem}:Ce k x=true↔x.key=k:=by
 obtain⟨⟨a,b,c⟩,r⟩:=x
 obtain⟨d,e,f⟩:=k
 simp[Ce]
theorem OB {α:Type}{p:α→Bool}{xs:List α}(h:dR p xs= -1):∀x∈xs,p x=false:=fun x hx=>by
 unfold dR at h
 cases q:xs.findIdx? p with
 |none=>rw[Xd]at q;exact q x hx
 |some i=>rw[q]at h;simp only at h;omega
def wZ (s:XStore)(k:XKey):Int:=if k.kind=1∧s.auto<k.n∧k.n≤1000000 then k.n else s.auto
def pU (s:XStore)(k:XKey)(r:XRecord):List XItem:=s.items.take (wP s.items k)++(⟨k,r⟩::s.items.drop (wP s.items k))
def wR (s:XStore)(k:XKey)(r:XRecord):XStore×Bool:=
 cond (eO s&&(kD k&&eA r.fs))
  (if 0≤dR (Ce k) s.items then(⟨s.name,s.items.set (dR (Ce k) s.items).toNat ⟨k,r⟩,s.auto⟩,true)
   else if 16≤s.items.length then(s,false)else(⟨s.name,pU s k r,wZ s k⟩,true))
  (s,false)
theorem Rq {xs:List XItem}{j:Nat}{x:XItem}(hj:j<xs.length)(hk:xs[j].key=x.key)(h:tO xs=true):tO (xs.set j x)=true:=by
 have hkey:∀i(hi:i<xs.length),((xs.set j x)[i]'(by simpa using hi)).key=xs[i].key:=fun i hi=>by
  rw[List.getElem_set]
  split
  ·rename_i e;subst e;exact hk.symm
  ·rfl
 rw[IA]at h⊢
 intro i hi
 have hi':i+1<xs.length:=by simpa using hi
 rw[hkey i (by omega),hkey (i+1) hi']
 exact h i hi'
theorem Lw {s:XStore}{k:XKey}{r:XRecord}{j:Nat}(hs:eO s=true)(hj:j<s.items.length)(hk:s.items[j].key=k):eO ⟨s.name,s.items.set j ⟨k,r⟩,s.auto⟩=eA r.fs:=by
 unfold eO at hs⊢
 simp only[Zh]at hs
 obtain⟨h1,h2,h3,h4⟩:=hs
 simp only[h2,h3,h4,Yj,Yk,Y7,Y0]
 change ub _=true at h1
 have e:(!gD s.items.length (GN (s.items.set j ⟨k,r⟩)))=ub (s.items.set j ⟨k,r⟩):=by unfold ub;rw[Yj]
 rw[e]
 rw[FE]at h1⊢
 simp only[Zh]at h1
 rw[Rq hj hk h1.2,Y7]
 cases hr:eA r.fs with
 |true=>
  rw[Zu]
  intro x hx
  rcases Yo hx with hx|rfl
  ·exact Zu.1 h1.1 x hx
  ·have:=Zu.1 h1.1 _ (Zf hj)
   simp only[TM,hk,Zh]at this
   simp[TM,hr,this.1]
 |false=>
  rw[List.all_eq_false]
  refine⟨⟨k,r⟩,Y4.2 ⟨j,by simpa using hj,by simp⟩,by simp[TM,hr]⟩
theorem Lv {s:XStore}{k:XKey}{r:XRecord}(hs:eO s=true)(hk:kD k=true)(hf:dR (Ce k) s.items= -1):eO ⟨s.name,pU s k r,wZ s k⟩=(eA r.fs&&decide (s.items.length+1≤16)):=by
 unfold eO at hs⊢
 simp only[Zh]at hs
 obtain⟨h1,h2,h3,h4⟩:=hs
 change ub _=true at h1
 change (ub _&&_)=_
 rw[FE]at h1⊢
 simp only[Zh,rg,cT,decide_eq_true_eq,Yb,decide_eq_false_iff_not]at h1 h4
 have hp:=zU s.items k
 have hlen:(pU s k r).length=s.items.length+1:=by unfold pU;simp;omega
 have ha:rg (wZ s k) 0 1000000=true:=by
  unfold wZ rg cT
  split<;>simp<;>omega
 have hl:(!(cT 16 ((pU s k r).length:Nat)))=decide (s.items.length+1≤16):=by rw[hlen,Bool.eq_iff_iff];simp[cT];omega
 simp only[h2,ha,hl,Y7,Y0]
 congr 1
 have hadj:tO (pU s k r)=true:=by
  unfold pU
  rw[yD,Pu]
  have hsp:=yD (s.items.take (wP s.items k)) (s.items.drop (wP s.items k))
  rw[List.take_append_drop,h1.2]at hsp
  simp only[Bool.true_eq,Zh]at hsp
  rw[hsp.1,hsp.2.1]
  simp only[Y0,List.head?_cons,Zh]
  constructor
  ·cases hq:(s.items.drop (wP s.items k)).head? with
   |none=>rfl
   |some y=>
    rw[List.head?_drop]at hq
    obtain⟨hlt,rfl⟩:=Zb.1 hq
    have hy:=Zu.1 h1.1 _ (Zf hlt)
    simp only[TM,Zh]at hy
    have:=PR hy.1 hk (fun e=>by have:=OB hf _ (Zf hlt);rw[Nu.2 e]at this;cases this) (JB hlt)
    simp[FJ,this]
  ·cases hq:(s.items.take (wP s.items k)).getLast? with
   |none=>rfl
   |some y=>
    rw[List.getLast?_eq_getElem?]at hq
    obtain⟨hlt,rfl⟩:=Zb.1 hq
    simp only[Yd]at hlt⊢
    rw[List.getElem_take]
    have:=JC (xs:=s.items) (k:=k) (j:=min (wP s.items k) s.items.length-1) (by omega) (by omega)
    simp[FJ,this]
 rw[hadj,Y7]
 cases hr:eA r.fs with
 |true=>
  rw[Zu]
  intro x hx
  unfold pU at hx
  rw[Yy,Z8]at hx
  rcases hx with hx|rfl|hx
  ·exact Zu.1 h1.1 x (Z3 hx)
  ·simp[TM,hr,hk]
  ·exact Zu.1 h1.1 x (Yw hx)
 |false=>
  rw[List.all_eq_false]
  exact⟨⟨k,r⟩,by unfold pU;simp,by simp[TM,hr]⟩
theorem ye {j:Nat}:cT (j:Int) 0=false:=kE (by omega)
theorem KA (s:XStore)(k:XKey):wZ s k=cond (k.kind==1&&(cT s.auto k.n&& !(cT 1000000 k.n))) k.n s.auto:=by
 have e3:decide (1000000<k.n)= !(decide (k.n≤1000000)):=by rw[Bool.eq_iff_iff];simp
 have e4:(k.kind==1)=decide (k.kind=1):=by rw[Bool.eq_iff_iff];simp
 unfold wZ cT
 rw[e3,e4]
 by_cases h1:k.kind=1<;>by_cases h2:s.auto<k.n<;>by_cases h3:k.n≤1000000<;>simp[h1,h2,h3]
abbrev yi (x:XStore×Bool):V:= .tup [(true,[.pv (.str x.1.name),nK 4 (x.1.items.map XItem.e), .pv (.int .i64 x.1.auto)]),(false,[.pv (.bool x.2)])]
theorem Lr (s:XStore)(k:XKey)(r:XRecord):(pU s k r).map XItem.e=(s.items.map XItem.e).take (wP s.items k)++([.int .i64 k.kind, .int .i64 k.n, .str k.text, .lst (r.fs.map XField.e)]::(s.items.map XItem.e).drop (wP s.items k)):=by simp[pU,XItem.e]
theorem Jr {B:Nat}{s:XStore}(h:s.Ok B){k:XKey}(hk:k.Ok B){r:XRecord}(hr:r.Ok B):(pU s k r).length≤B+1∧∀x∈pU s k r,x.Ok (B+1):=by
 obtain⟨_,⟨h1,h2⟩,_⟩:=h
 have:=zU s.items k
 refine⟨by simp[pU];omega,fun x hx=>XItem.Ok.mono (A:=B) (by omega) ?_⟩
 unfold pU at hx
 rw[Yy,Z8]at hx
 rcases hx with hx|rfl|hx
 ·exact h2 x (Z3 hx)
 ·exact⟨hk,hr⟩
 ·exact h2 x (Yw hx)
theorem JH {B:Nat}{s:XStore}(h:s.Ok B){k:XKey}(hk:k.Ok B){r:XRecord}(hr:r.Ok B)(j:Nat):(s.items.set j ⟨k,r⟩).length≤B∧∀x∈s.items.set j ⟨k,r⟩,x.Ok B:=by
 obtain⟨_,⟨h1,h2⟩,_⟩:=h
 refine⟨by simpa using h1,fun x hx=> ?_⟩
 rcases Yo hx with hx|rfl
 ·exact h2 x hx
 ·exact⟨hk,hr⟩
theorem KB {s:XStore}{k:XKey}(h1:ou s.auto)(h2:ou k.n):ou (wZ s k):=by unfold wZ;split<;>assumption
theorem Dq {B:Nat}(hB:B≤1048576){s:XStore}(h:s.Ok B){k:XKey}(hk:k.Ok B){r:XRecord}(hr:r.Ok B):ag Ph aM 342 [s.v,k.v,r.v]=some (yi (wR s k r)):=by
 have hM:B+1≤maxLen:=by unfold maxLen;omega
 have hl:s.items.length≤1048576:=Zc h.2.1.1 hB
 have e1:=gu hB h
 have e2:=ik (XStore.Ok.mono (by omega) h)
 have e3:=lD (XKey.Ok.mono (by omega) hk)
 have e4:=td (s:=s) (by unfold maxLen;omega) k
 have e5:=mF hB hr
 have O:=nD 4 (s.items.map XItem.e)
 unfold wR
 refine ae (fn:=hC) rfl ?_
 cases c1:eO s<;>rw[c1]at e2
 ·rcases O with⟨_,q1,q2⟩|⟨_,q1,q2⟩<;>rw[q1]at e1<;>simp(maxSteps:=9999999) [hC,e1,e2,q2]
 cases c2:kD k<;>rw[c2]at e3
 ·rcases O with⟨_,q1,q2⟩|⟨_,q1,q2⟩<;>rw[q1]at e1<;>simp(maxSteps:=9999999) [hC,e1,e2,e3,q2]
 rcases zo (Ce k) s.items with hf|⟨j,hj,hf,hq⟩<;>rw[hf]at e4⊢
 ·have e6:∀a,a=wZ s k→ag Ph aM 354 [XStore.v ⟨s.name,pU s k r,a⟩]=some (aA (eA r.fs&&decide (s.items.length+1≤16))):=fun a ha=>by
   subst ha
   rw[←Lv (r:=r) c1 c2 hf]
   exact ik (s:=⟨s.name,pU s k r,wZ s k⟩) ⟨Zc h.1 (by omega),⟨Zc (Jr h hk hr).1 (by omega),fun x hx=>XItem.Ok.mono (by omega) ((Jr h hk hr).2 x hx)⟩,KB h.2.2 hk.2.1⟩
  have hA:=KA s k
  obtain⟨g1,h1⟩:∃g,(k.kind==1)=g:=⟨_,rfl⟩
  rw[h1]at hA
  have hL:(16≤s.items.length)=(decide (s.items.length+1≤16)=false):=by simp;omega
  have hins:=Lr s k r
  have hp:=zU s.items k
  have b1:= @JC s.items k
  have b2:= @JB s.items k
  have m1:=eR (m:=s.items.length+1) (z:=56) (by omega) (by omega)
  have O2:=nD 4 ((pU s k r).map XItem.e)
  rcases O2 with⟨q,_⟩|⟨_,_,q3⟩
  ·rw[hins]at q;simp at q
  simp only[hL]
  generalize pU s k r=F at e6 hins q3⊢
  generalize wP s.items k=p at hins hp b1 b2
  generalize decide (s.items.length+1≤16)=d at e6 hL⊢
  have l0:cT (-1) 0=true:=rfl
  have l00:cT 0 0=false:=rfl
  rcases O with⟨q0,q1,q2⟩|⟨q0,q1,q2⟩<;>rw[q1]at e1
  ·have hnil:s.items=[]:=by simpa using q0
   rw[hnil]at hins hp
   have hp0:p=0:=by simpa using hp
   subst hp0
   simp only[Z5,List.take_nil,List.drop_nil,Zi]at hins
   simp(maxSteps:=9999999) [hC,e1,e2,e3,e4,l0]
   rw[tK]
   have e1':=e1
   rw[hnil,Z5]at e1'
   have q2':nK 4 []= .nil:=rfl
   have hF:F.length=1:=by have:=congrArg List.length hins;simpa using this
   cases c4:eA r.fs<;>rw[c4]at e6<;>cases d<;>simp +contextual (maxSteps:=9999999) [gT,e1,e1',q2',e2,e3,e4,e5,hnil,l00,q2,hF,←hins,e6,hA,h1,q3]
  ·simp(maxSteps:=9999999) [hC,e1,e2,e3,e4,l0]
   refine aG bm Cl.fin [.f,.f,.f,.t,.t,.t,.t,.f,.t,.f,.t,.f,.f,.f,.f,.f,.f,.f,.f,.f,.f,.f,.f,.f,.f,.f,.f,.f,.f,.f,.f,.f,.f,.f,.f,.f,.f,.f,.f,.f,.f,.f,.f,.f,.f,.f,.f,.f,.f,.f,.f,.f,.f,.f,.f,.f,.f,.f,.f,.f,.f,.f,.f,.f,.f,.f,.f,.f,.f,.f,.f,.f,.f,.f,.f,.f,.f,.f,.f,.f,.f,.f,.f,.f,.f,.f,.f] (fun k=>[(10,aa .i64 k)]) p (fun _=>false) rfl (by simp) (fun j hj _=> ?_) (fun _ _=> ?_)
   ·have hj2:j<s.items.length:=by omega
    have l1:=jH (b1 hj hj2)
    have e7:=iN (XKey.Ok.mono (by omega) (h.2.1.2 _ (Zf hj2)).1) (XKey.Ok.mono (by omega) hk)
    simp +contextual (maxSteps:=9999999) [gT,hj2,l1,e7,aR (n:=s.items.length) (by unfold maxLen;omega) hj2,bd hj2,XItem.e.eq_1 s.items[j]]
   ·by_cases hlt:p<s.items.length
    ·have l1:=kE (Int.not_lt.1 (b2 hlt))
     have hx:=XItem.e.eq_1 s.items[p]
     have e7:=iN (XKey.Ok.mono (by omega) (h.2.1.2 _ (Zf hlt)).1) (XKey.Ok.mono (by omega) hk)
     cases c4:eA r.fs<;>rw[c4]at e6<;>cases d<;>simp +contextual (maxSteps:=9999999) [gT,hlt,hx,l1,e7,hp,m1,bd hlt,e1,e2,e3,e4,e5,q2,←hins,e6,hA,h1,q3]
    ·obtain rfl:p=s.items.length:=by omega
     have hm2:(s.items.map XItem.e).take s.items.length++[[.int .i64 k.kind, .int .i64 k.n, .str k.text, .lst (r.fs.map XField.e)]]=F.map XItem.e:=by rw[hins];simp
     have hd:(s.items.map XItem.e).drop s.items.length=[]:=List.drop_eq_nil_of_le (by simp)
     cases c4:eA r.fs<;>rw[c4]at e6<;>cases d<;>simp +contextual (maxSteps:=9999999) [gT,m1,e1,e2,e3,e4,e5,q2,hd, ↓hm2,e6,hA,h1,q3]
 ·have hkj:=Nu.1 hq
  have hx:=XItem.e.eq_1 s.items[j]
  have hm:(s.items.map XItem.e).set j [.int .i64 s.items[j].key.kind, .int .i64 s.items[j].key.n, .str s.items[j].key.text, .lst (r.fs.map XField.e)]=(s.items.set j ⟨k,r⟩).map XItem.e:=by rw[List.map_set,hkj];rfl
  have e6:=ik (s:=⟨s.name,s.items.set j ⟨k,r⟩,s.auto⟩) ⟨Zc h.1 (by omega),⟨Zc (JH h hk hr j).1 (by omega),fun x hx=>XItem.Ok.mono (by omega) ((JH h hk hr j).2 x hx)⟩,h.2.2⟩
  rw[Lw c1 hj hkj]at e6
  have hne:s.items.map XItem.e≠[]:=by intro e;have:=congrArg List.length e;simp only[Zt,Z4]at this;omega
  have O2:=nD 4 ((s.items.set j ⟨k,r⟩).map XItem.e)
  rw[←hm]at O2
  rcases O with⟨q,_⟩|⟨_,q1,q2⟩
  ·exact absurd q hne
  rcases O2 with⟨q,_⟩|⟨_,_,q3⟩
  ·exact absurd (by simpa using q) hne
  rw[hm]at q3
  rw[q1]at e1
  simp only[Int.toNat_natCast]
  generalize s.items.set j ⟨k,r⟩=F at hm e6 q3⊢
  cases c3:eA r.fs<;>rw[c3]at e6<;>simp(maxSteps:=9999999) [hC,e1,e2,e3,e4,e5,e6,q2,q3,hm,hx,hj,ye]
theorem Dy {B:Nat}(hB:B≤1048576){s:XStore}(h:s.Ok B){k:XKey}(hk:k.Ok B){r:XRecord}(hr:r.Ok B):ag Ph aM 339 [s.v,k.v,r.v]=some (yi (wR s k r)):=by
 have hM:B+1≤maxLen:=by unfold maxLen;omega
 have hl:s.items.length≤1048576:=Zc h.2.1.1 hB
 have e1:=jh hB h
 have e2:=lX (XStore.Ok.mono (by omega) h)
 have e3:=lF (XKey.Ok.mono (by omega) hk)
 have e4:=tx (s:=s) (by unfold maxLen;omega) k
 have e5:=qZ hB hr
 have e8:=jg (XRecord.Ok.mono (show B≤maxLen by omega) hr)
 have O:=nD 4 (s.items.map XItem.e)
 unfold wR
 refine ae (fn:=fo) rfl ?_
 cases c1:eO s<;>rw[c1]at e2
 ·rcases O with⟨_,q1,q2⟩|⟨_,q1,q2⟩<;>rw[q1]at e1<;>simp(maxSteps:=9999999) [fo,e1,e2,q2]
 cases c2:kD k<;>rw[c2]at e3
 ·rcases O with⟨_,q1,q2⟩|⟨_,q1,q2⟩<;>rw[q1]at e1<;>simp(maxSteps:=9999999) [fo,e1,e2,e3,q2]
 cases c3:eA r.fs<;>rw[c3]at e8
 ·rcases O with⟨_,q1,q2⟩|⟨_,q1,q2⟩<;>rw[q1]at e1<;>simp(maxSteps:=9999999) [fo,e1,e2,e3,e8,q2]
 have l0:cT (-1) 0=true:=rfl
 rcases zo (Ce k) s.items with hf|⟨j,hj,hf,hq⟩<;>rw[hf]at e4⊢
 ·by_cases h16:16≤s.items.length
  ·have l16:cT (s.items.length:Int) 16=false:=kE (by omega)
   rcases O with⟨q,q1,q2⟩|⟨_,q1,q2⟩
   ·have:=congrArg List.length q;simp only[Zt,Z4]at this;omega
   rw[q1]at e1
   simp(maxSteps:=9999999) [fo,e1,e2,e3,e4,e8,l0,l16,h16,q2]
  have l16:cT (s.items.length:Int) 16=true:=jH (by omega)
  rw[if_neg (by decide),if_neg h16]
  have hA:=KA s k
  obtain⟨g1,h1⟩:∃g,(k.kind==1)=g:=⟨_,rfl⟩
  rw[h1]at hA
  have hr1:cT s.auto 0=false∧cT 1000000 s.auto=false:=by
   simp only[eO,rg,Zh,Yb]at c1
   exact c1.2.2.2
  have ha1:IntKind.i64.wrap (s.auto+1)=s.auto+1:=by
   have q1:=of_decide_eq_false hr1.1
   have q2:=of_decide_eq_false hr1.2
   rw[IntKind.wrap_i64];omega
  have ha2:cT k.n (s.auto+1)= !(cT s.auto k.n):=by unfold cT;rw[Bool.eq_iff_iff];simp;omega
  have e9:=cq k.n (s.auto+1) 1000000
  rw[rg,ha2]at e9
  have hins:=Lr s k r
  have hp:=zU s.items k
  have b1:= @JC s.items k
  have b2:= @JB s.items k
  have O2:=nD 4 ((pU s k r).map XItem.e)
  rcases O2 with⟨q,_⟩|⟨_,_,q3⟩
  ·rw[hins]at q;simp at q
  generalize pU s k r=F at hins q3⊢
  generalize wP s.items k=p at hins hp b1 b2
  have m1:=eR (m:=s.items.length+1) (z:=56) (by omega) (by omega)
  have m2:=eR (m:=p) (z:=56) (by omega) (by omega)
  have m3:=eR (m:=p+1) (z:=56) (by omega) (by omega)
  have w2:((s.items.map XItem.e).take p).all (fun e=>e.length==4)=true:=by rw[←List.map_take];exact dC (e:=XItem.e) (z:=4) (fun _=>rfl) _
  have w3:((s.items.map XItem.e).drop p).all (fun e=>e.length==4)=true:=by rw[←List.map_drop];exact dC (e:=XItem.e) (z:=4) (fun _=>rfl) _
  have t1:List.take (s.items.length-p) ((s.items.map XItem.e).drop p)=(s.items.map XItem.e).drop p:=Zs (by simp)
  have t2:p+1+(s.items.length-p)=s.items.length+1:=by omega
  have w4:=dC (e:=XItem.e) (z:=4) (fun _=>rfl) s.items
  rcases O with⟨q0,q1,q2⟩|⟨q0,q1,q2⟩<;>rw[q1]at e1
  ·have hnil:s.items=[]:=by simpa using q0
   rw[hnil]at hins hp
   have hp0:p=0:=by simpa using hp
   subst hp0
   simp only[Z5,List.take_nil,List.drop_nil,Zi]at hins
   simp(maxSteps:=9999999) [fo,e1,e2,e3,e4,e8,l0,l16]
   rw[tK]
   have l00:cT 0 0=false:=rfl
   have hF:F.length=1:=by have:=congrArg List.length hins;simpa using this
   have wF:∀x:XItem,x.e.length=4:=fun _=>rfl
   simp +contextual (maxSteps:=9999999) [gV,e5,hnil,l00,hF,wF,←hins,hA,h1,q3,ha1,e9]<;>(cases g1<;>cases cT s.auto k.n<;>cases cT 1000000 k.n<;>simp)
  ·simp(maxSteps:=9999999) [fo,e1,e2,e3,e4,e8,l0,l16]
   refine aG bm Cl.fin [.f,.f,.f,.t,.t,.t,.t,.f,.t,.f,.t,.f,.f,.f,.f,.f,.f,.f,.f,.f,.f,.f,.f,.f,.f,.f,.f,.f,.f,.f,.f,.f,.f,.f,.f,.f,.f,.f,.f,.f,.f,.f,.f,.f,.f,.f,.f,.f,.f,.f,.f,.f,.f,.f,.f,.f,.f,.f,.f,.f,.f,.f,.f,.f,.f,.f,.f,.f,.f,.f,.f,.f,.f,.f,.f,.f,.f,.f,.f,.f,.f,.f,.f,.f,.f,.f,.f,.f,.f,.f,.f,.f,.f,.f,.f,.f,.f,.f,.f,.f] (fun k=>[(10,aa .i64 k)]) p (fun _=>false) rfl (by simp) (fun j hj _=> ?_) (fun _ _=> ?_)
   ·have hj2:j<s.items.length:=by omega
    have l1:=jH (b1 hj hj2)
    have e7:=iO (XKey.Ok.mono (show B≤maxLen by omega) (h.2.1.2 _ (Zf hj2)).1) (XKey.Ok.mono (by omega) hk)
    simp +contextual (maxSteps:=9999999) [gV,hj2,l1,e7,aR (n:=s.items.length) (by unfold maxLen;omega) hj2,bd hj2,XItem.e.eq_1 s.items[j]]
   ·by_cases hlt:p<s.items.length
    ·have l1:=kE (Int.not_lt.1 (b2 hlt))
     have hx:=XItem.e.eq_1 s.items[p]
     have e7:=iO (XKey.Ok.mono (show B≤maxLen by omega) (h.2.1.2 _ (Zf hlt)).1) (XKey.Ok.mono (by omega) hk)
     simp +contextual (maxSteps:=9999999) [gV,hlt,hx,l1,e7,hp,m1,m2,m3,w2,w3,w4,t1,t2,bd hlt,e5,←hins,hA,h1,q3,ha1,e9]<;>(cases g1<;>cases cT s.auto k.n<;>cases cT 1000000 k.n<;>simp)
    ·obtain rfl:p=s.items.length:=by omega
     have hm2:(s.items.map XItem.e).take s.items.length++[[.int .i64 k.kind, .int .i64 k.n, .str k.text, .lst (r.fs.map XField.e)]]=F.map XItem.e:=by rw[hins];simp
     have hd:(s.items.map XItem.e).drop s.items.length=[]:=List.drop_eq_nil_of_le (by simp)
     have hF:F.length=s.items.length+1:=by have:=congrArg List.length hm2;simpa using this.symm
     simp +contextual (maxSteps:=9999999) [gV,m1,m2,m3,w2,w3,w4,e5,hd, ↓hm2,hF,hA,h1,q3,ha1,e9]<;>(cases g1<;>cases cT s.auto k.n<;>cases cT 1000000 k.n<;>simp)
 ·have hkj:=Nu.1 hq
  have hx:=XItem.e.eq_1 s.items[j]
  have hm:(s.items.map XItem.e).set j [.int .i64 s.items[j].key.kind, .int .i64 s.items[j].key.n, .str s.items[j].key.text, .lst (r.fs.map XField.e)]=(s.items.set j ⟨k,r⟩).map XItem.e:=by rw[List.map_set,hkj];rfl
  have hne:s.items.map XItem.e≠[]:=by intro e;have:=congrArg List.length e;simp only[Zt,Z4]at this;omega
  have O2:=nD 4 ((s.items.set j ⟨k,r⟩).map XItem.e)
  rw[←hm]at O2
  rcases O with⟨q,_⟩|⟨_,q1,q2⟩
  ·exact absurd q hne
  rcases O2 with⟨q,_⟩|⟨_,_,q3⟩
  ·exact absurd (by simpa using q) hne
  rw[hm]at q3
  rw[q1]at e1
  simp only[Int.toNat_natCast]
  generalize s.items.set j ⟨k,r⟩=F at hm q3⊢
  simp(maxSteps:=9999999) [fo,e1,e2,e3,e4,e5,e8,q2,q3,hm,hx,hj,ye]
end Gi
