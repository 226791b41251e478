/- Of this proof. -/
import Derived.Test.YtpnolnkjijmfjaaGreatGpa
set_option linter.all false
namespace Gi
open Go Go.RowKit
def TM (z:Nat)(rows:List (List PV)):L:=match rows with
 |[]=> .own z []
 |rows=> .down z rows
def xd (k z:Nat)(es:List (List PV)):Q0:=match k with
 |0=> .arr z es
 |_+1=> .bA z es
def Pw {z:Nat}{es:List (List PV)}:xd 0 z es= .arr z es:=rfl
def aaI {k z:Nat}{es:List (List PV)}:xd (k+1) z es= .bA z es:=rfl
def Iq {h:List Q0}{k z:Nat}{es:List (List PV)}(h0:h[0]? =some (xd k z es))(hb:k=0->jk es=true):dg h 0=some (z,es):=by
 cases k with
 |zero=>simp only[xd]at h0;simp only[dg,h0,hb rfl,if_true]
 |succ k=>simp only[xd]at h0;simp only[dg,h0]
def Ir {h:List Q0}{k z i:Nat}{es:List (List PV)}(h0:h[0]? =some (xd k z es))(hi:i<es.length):cN h z (.one (.arr 0)) i=some (.one (.ptr 0 i 0)):=by
 cases k with
 |zero=>simp only[xd]at h0;simp[cN,h0,hi]
 |succ k=>simp only[xd]at h0;simp[cN,h0,hi]
def PE {m:Nat}{zero:List PV}(hz:zero.all PV.bare=true):jk (List.replicate m zero)=true:=by unfold jk;rw[Zu];intro e he;obtain⟨_,rfl⟩:=List.mem_replicate.1 he;exact hz
def Ak :∀(ls:List L)(h:List Q0),ls.all L.clean=true->ls.all L.closed=true->(thawL h ls).1.all (L.bG (thawL h ls).2)=true
 |[],h,_,_=>by simp[thawL]
 |l::ls,h,hc,hk=>by
  simp only[Zq,Zg]at hc hk;cases l with
  |own z es=>
   obtain⟨t,ht⟩:=tD ls (h++[.arr z es]) hc.2;have hg:(thawL (h++[Q0.arr z es]) ls).2[h.length]? =some (.arr z es):=by rw[ht];simp
   simp only[thawL,Zq,Zg];refine⟨?_,Ak ls _ hc.2 hk.2⟩;simp only[L.bG,hg];exact hk.1
  |down z es=>
   obtain⟨t,ht⟩:=tD ls (h++[.bA z es]) hc.2;have hg:(thawL (h++[Q0.bA z es]) ls).2[h.length]? =some (.bA z es):=by rw[ht];simp
   simp only[thawL,Zq,Zg];refine⟨?_,Ak ls _ hc.2 hk.2⟩;simp only[L.bG,hg]
  |pv p=>simp only[thawL,Zq,Zg];exact⟨hk.1,Ak ls _ hc.2 hk.2⟩
  |nil=>simp only[thawL,Zq,Zg];exact⟨rfl,Ak ls _ hc.2 hk.2⟩
  |_=>simp[L.closed]at hk
def GE {t:PTy}{p:PV}(h:mY t p):(Cp t p).closed=true:=by
 cases t with
 |int k=>obtain⟨n,rfl⟩:=qu h;rfl
 |bool=>obtain⟨n,rfl⟩:=pg h;rfl
 |str=>obtain⟨n,rfl⟩:=qv h;rfl
 |lst us=>obtain⟨rows,rfl⟩:=tk h;cases rows<;>rfl
def zP :∀{ts:List PTy}{ps:List PV},dX ts ps->(ly ts ps).all L.closed=true
 |[],ps,_=>by simp[ly]
 |t::ts,ps,h=>by obtain⟨p,r,rfl,h1,h2⟩:=ir h;simp only[ly,Zq,GE h1,zP h2,ZH]
def Ky {h':List Q0}{z k:Nat}{es:List (List PV)}{e r:List PV}{ls':List L}(hd:dg h' 0=some (z,es))(aK:0<h'.length)(he:es[k]? =some e)(aQ:e.length=z)(hv:viewL h' ls'=some r)(hl:ls'.length=z)(av:ls'.all (L.bB 0)=true)(hm:ls'.all (L.bG h')=true)(aw:(cz ls').Nodup):
 ∃a8,storeD h' z (.one (.ptr 0 k 0)) (.agg ls')=some (.bA z (es.set k r)::a8):=by
 have aR:r.length=z:=by rw[(rn hv).1];exact hl
 have hlen:(freezeLs h' ls').length=h'.length:=qZ ls';cases hf:freezeLs h' ls' with
 |nil=>rw[hf]at hlen;simp at hlen;omega
 |cons x a8=>refine⟨a8,?_⟩;have aL:viewL h' (V.agg ls').cells=some r:=hv;have key:(V.agg ls').cells.length=z/\ 0+z<=e.length/\ (V.agg ls').cells.all (L.bB 0)=true/\ (V.agg ls').cells.all (L.bG h')=true/\ (cz (V.agg ls').cells).Nodup:=⟨hl,by omega,av,hm,aw⟩;simp only[storeD,hd,he,aL];rw[if_pos key,Kd e r (by omega)];simp only[V.cells,hf];rfl
section
variable {Φ:Nat->Option AFn}{ext:Nat->List V->Option V}
def AS (z:Nat)(K:Ks):Q7:= .seq (Mz 4 0 8) (.seq (.block 1 (.region [⟨some 14, .mv (.tmp 3),none⟩,⟨some 15, .mv (.tmp 4),none⟩,⟨some 16, .mv (.tmp 0),none⟩,⟨some 17, .mv (.tmp 4),none⟩,⟨some 18, .bH z (.tmp 16) (.tmp 17),none⟩,⟨some 19, .load true z (.tmp 18),none⟩,⟨some 20,PP K (.tmp 19),none⟩,⟨some 21, .bH z (.tmp 14) (.tmp 15),none⟩,⟨none, .storeD z (.tmp 21) (.tmp 20),none⟩])) (NP 4 12))
def OY (bytes z:Nat)(K:Ks)(zero:List PV):AFn:=⟨23,[.tmp 2], .seq (.region [⟨some 2, .mv .nil,none⟩]) (.seq (.region [⟨some 5, .mv (.tmp 0),none⟩,⟨some 6, .len (.tmp 5),none⟩,⟨some 7, .make bytes zero (.tmp 6),none⟩,⟨some 3, .mv (.tmp 7),none⟩]) (.seq (.seq (.region [⟨some 4, .mv (.pv (.int .i64 0)),none⟩]) (.block 0 (.loop (AS z K)))) (.seq (.region [⟨some 22, .mv (.tmp 3),none⟩,⟨some 2, .mv (.tmp 22),none⟩]) .ret)))⟩
def Ut (Φ:Nat->Option AFn)(ext:Nat->List V->Option V)(K:Ks)(r:List PV):Prop:=
 ∃ls,cf Φ ext K.kt [.agg (r.map .pv)]=some (.agg ls)/\ ls.all L.clean=true/\ ls.all L.closed=true/\ ls.map JA=r/\ (K.fl=true->ls=r.map .pv/\ ls.all L.flat=true)
def ab2 {z:Nat}{K:Ks}{zero:List PV}{rows:List (List PV)}(hz:∀r∈rows,r.length=z)(hzero:zero.length=z)(a5:zero.all PV.bare=true)(hlen:rows.length<=maxLen)(aB:∀r∈rows,Ut Φ ext K r):∀(m k:Nat),k+m=rows.length->
 ∀(u1 u2 u5 u6 u7 x8 x9 aa ab ad ae af ag ah ai aj ak al aC aq:V)(extra:List Q0),
  ∃t' h',cS (cD (cf Φ ext) cS (AS z K)) ⟨[eW rows,u1,u2, .one (.arr 0),ce .i64 k,u5,u6,u7,x8,x9,aa,ab,ad,ae,af,ag,ah,ai,aj,ak,al,aC,aq],xd k z (rows.take k++List.replicate m zero)::extra⟩=some (.exit 0,⟨t',xd rows.length z rows::h'⟩)/\ t'.length=23/\ t'[3]? =some (.one (.arr 0)):=by
 intro m;induction m with
 |zero=>
  intro k hk u1 u2 u5 u6 u7 x8 x9 aa ab ad ae af ag ah ai aj ak al aC aq extra;have aD:k=rows.length:=by omega
  subst aD;rw[zJ];simp[AS,Mz,cD,cj,cT,dG,dY,Opd.ev,put,asList,L.view,bin,ft,isBool]
 |succ m ih=>
  intro k hk u1 u2 u5 u6 u7 x8 x9 aa ab ad ae af ag ah ai aj ak al aC aq extra;have hlt:k<rows.length:=by omega
  have hr:rows[k]? =some rows[k]:=by simp[hlt]
  have a7:(rows[k]).length=z:=hz _ (Zf hlt);obtain⟨ls,c1,c2,c5,c3,c4⟩:=aB _ (Zf hlt);have hw:=oA (k:=k) (by unfold maxLen at hlen;omega);have a6:ja true z 0 ((rows[k]).map L.pv)=some (.agg ((rows[k]).map .pv)):=by simp[ja,a7,Zs (show((rows[k]).map L.pv).length<=z by simp[a7])]
  have a2:((k+1:Nat):Int)=(k:Int)+1:=by omega
  have ax:k=0->jk (rows.take k++List.replicate (m+1) zero)=true:=by intro e;subst e;simpa using PE a5
  generalize hE:rows.take k++List.replicate (m+1) zero=E at*;have ay:k<E.length:=by rw[<-hE];simp;omega
  have az:E[k]? =some zero:=by rw[<-hE];exact adz (by omega)
  have a1:E.set k rows[k]=rows.take (k+1)++List.replicate m zero:=by rw[<-hE];exact aa5 (by omega)
  cases hK:K.fl with
  |true=>
   obtain⟨rfl,aE⟩:=c4 hK;obtain⟨g,ea⟩:=Z6.cq (xd k z E::extra) rows[k];obtain⟨a8,an⟩:=Ky (h':=xd k z E::extra) (k:=k) (r:=rows[k]) (ls':=(rows[k]).map .pv) (Iq rfl ax) (by simp) az hzero (vS _ _) (by simp[a7]) (WI _ _) (by
    rw[Zu]at c5⊢
    intro l hl
    obtain⟨p,hp,rfl⟩:=ZV.1 hl
    exact c5 _ hl) (by rw[ea];exact QQ)
   rw[a1]at an;have aF:((rows[k]).map L.pv).map fv=(rows[k]).map L.pv:=by simp[fv]
   have ar:=Ir (h:=xd k z E::extra) (k:=k) (z:=z) (i:=k) (es:=E) rfl ay;have key:=ih (k+1) (by omega) u1 u2 u5 u6 u7 (ce .i64 k) (eW rows) (ce .i64 rows.length) (cL true) (ce .i64 k) (ce .i64 ((k:Int)+1)) (.one (.arr 0)) (ce .i64 k) (eW rows) (ce .i64 k) (.one (.ip rows[k] 0)) (.agg ((rows[k]).map .pv)) (.agg ((rows[k]).map .pv)) (.one (.ptr 0 k 0)) aq a8;obtain⟨t',h',e1,e2,e3⟩:=key;refine⟨t',h',(jR ?_).trans e1,e2,e3⟩;rw[a2];have au:cN (xd k z E::extra) z (eW rows) k=some (.one (.ip rows[k] 0)):=by simp[cN,hlt,a7]
   generalize hO:xd k z E=O at*;simp[AS,Mz,NP,cD,cj,cT,dG,dY,fa,Opd.ev,put,asList,L.view,bin,ft,isBool,isInt,hlt,au,ar,a7,dP,a6,PP,hK,cy,xR,c1,V.flat,aE,fe,aF,an,hw,xd]
  |false=>
   obtain⟨t,ht⟩:=tD ls (xd k z E::extra) c2;have hv:=xQ ls (xd k z E::extra) c2;have av:=tE ls (xd k z E::extra) 0 c2 (by simp);have aH:=(pB ls (xd k z E::extra) c2).1;have aI:=Ak ls (xd k z E::extra) c2 c5;have aw:=(vR ls (xd k z E::extra) c2).1.nodup;have aM:ls.length=z:=by rw[<-a7,<-c3];simp
   rw[c3]at hv;generalize aN:thawL (xd k z E::extra) ls=th at*;obtain⟨ls',h1⟩:=th;simp only at ht hv av aH aI aw;have aJ:h1[0]? =some (xd k z E):=by rw[ht];rfl
   obtain⟨a8,an⟩:=Ky (h':=h1) (k:=k) (r:=rows[k]) (ls':=ls') (Iq aJ ax) (by rw[ht];simp) az hzero hv (by rw[aH,aM]) av aI aw;rw[a1]at an;have ar:=Ir (h:=h1) (k:=k) (z:=z) (i:=k) (es:=E) aJ ay;have key:=ih (k+1) (by omega) u1 u2 u5 u6 u7 (ce .i64 k) (eW rows) (ce .i64 rows.length) (cL true) (ce .i64 k) (ce .i64 ((k:Int)+1)) (.one (.arr 0)) (ce .i64 k) (eW rows) (ce .i64 k) (.one (.ip rows[k] 0)) (.agg ((rows[k]).map .pv)) (.agg ls') (.one (.ptr 0 k 0)) aq a8;obtain⟨t',h',e1,e2,e3⟩:=key;refine⟨t',h',(jR ?_).trans e1,e2,e3⟩;rw[a2];have au:cN (xd k z E::extra) z (eW rows) k=some (.one (.ip rows[k] 0)):=by simp[cN,hlt,a7]
   generalize hO:xd k z E=O at*;simp[AS,Mz,NP,cD,cj,cT,dG,dY,fa,Opd.ev,put,asList,L.view,bin,ft,isBool,isInt,hlt,au,ar,a7,dP,a6,PP,hK,cy,xR,c1,thaw,aN,Gw,an,hw,xd]
def aeD {k bytes z:Nat}{K:Ks}{zero:List PV}{rows:List (List PV)}(hk:Φ k=some (OY bytes z K zero))(hz:∀r∈rows,r.length=z)(aG:0<z)(hzero:zero.length=z)(a5:zero.all PV.bare=true)(hlen:rows.length<=maxLen)(hb:(rows.length:Int)*bytes<=140737488355328)(aB:∀r∈rows,Ut Φ ext K r):
 cf Φ ext k [eW rows]=some (.one (TM z rows)):=by
 refine j0 hk ?_;obtain⟨t',h',e1,e2,e3⟩:=ab2 (Φ:=Φ) (ext:=ext) hz hzero a5 hlen aB rows.length 0 (by omega) (.b8 []) (.one .nil) (eW rows) (ce .i64 rows.length) (.one (.arr 0)) (.b8 []) (.b8 []) (.b8 []) (.b8 []) (.b8 []) (.b8 []) (.b8 []) (.b8 []) (.b8 []) (.b8 []) (.b8 []) (.b8 []) (.b8 []) (.b8 []) (.b8 []) [];simp only[ZM,Zk,show((0:Nat):Int)=0 from rfl,Pw]at e1;have ao:(rows.length:Int)<=9223372036854775807:=by unfold maxLen at hlen;omega
 obtain⟨_,e4⟩:=Zb.1 e3;generalize hF:cD (cf Φ ext) cS (AS z K)=F at e1;have e5:dS (xd rows.length z rows::h') (.arr 0)=some (TM z rows):=by cases rows<;>simp[dS,xd,TM]
 generalize hO:xd rows.length z rows=O at*;simp[OY,start,iN,cD,hF,cj,cT,dG,dY,fa,Opd.ev,put,asList,L.view,isInt,hb,ao,hzero,aG,e1,done,dd,cu,fb,eh,comp,cU,e5,cz,e2,e4,V.cells]
def Eg :Q7:= .seq (Mz 4 0 8) (.seq (.block 1 (.region [⟨some 14, .mv (.tmp 3),none⟩,⟨some 15, .mv (.tmp 4),none⟩,⟨some 16, .mv (.tmp 0),none⟩,⟨some 17, .mv (.tmp 4),none⟩,⟨some 18, .bH 1 (.tmp 16) (.tmp 17),none⟩,⟨some 19, .load false 1 (.tmp 18),none⟩,⟨some 20, .bH 1 (.tmp 14) (.tmp 15),none⟩,⟨none, .storeD 1 (.tmp 20) (.tmp 19),none⟩])) (NP 4 12))
def toE (bytes:Nat)(zero:PV):AFn:=⟨22,[.tmp 2], .seq (.region [⟨some 2, .mv .nil,none⟩]) (.seq (.region [⟨some 5, .mv (.tmp 0),none⟩,⟨some 6, .len (.tmp 5),none⟩,⟨some 7, .make bytes [zero] (.tmp 6),none⟩,⟨some 3, .mv (.tmp 7),none⟩]) (.seq (.seq (.region [⟨some 4, .mv (.pv (.int .i64 0)),none⟩]) (.block 0 (.loop Eg))) (.seq (.region [⟨some 21, .mv (.tmp 3),none⟩,⟨some 2, .mv (.tmp 21),none⟩]) .ret)))⟩
def ab3 {zero:PV}{rows:List (List PV)}(hz:∀r∈rows,∃q:PV,r=[q]/\ q.bare=true)(a5:zero.bare=true)(hlen:rows.length<=maxLen):∀(m k:Nat),k+m=rows.length->
 ∀(u1 u2 u5 u6 u7 x8 x9 aa ab ad ae af ag ah ai aj ak al aA:V)(extra:List Q0),
  ∃t' h',cS (cD (cf Φ ext) cS Eg) ⟨[eW rows,u1,u2, .one (.arr 0),ce .i64 k,u5,u6,u7,x8,x9,aa,ab,ad,ae,af,ag,ah,ai,aj,ak,al,aA],xd k 1 (rows.take k++List.replicate m [zero])::extra⟩=some (.exit 0,⟨t',xd rows.length 1 rows::h'⟩)/\ t'.length=22/\ t'[3]? =some (.one (.arr 0)):=by
 intro m;induction m with
 |zero=>
  intro k hk u1 u2 u5 u6 u7 x8 x9 aa ab ad ae af ag ah ai aj ak al aA extra;have aD:k=rows.length:=by omega
  subst aD;rw[zJ];simp[Eg,Mz,cD,cj,cT,dG,dY,Opd.ev,put,asList,L.view,bin,ft,isBool]
 |succ m ih=>
  intro k hk u1 u2 u5 u6 u7 x8 x9 aa ab ad ae af ag ah ai aj ak al aA extra;have hlt:k<rows.length:=by omega
  obtain⟨q,hq,aO⟩:=hz _ (Zf hlt);have hw:=oA (k:=k) (by unfold maxLen at hlen;omega);have a6:ja false 1 0 [L.pv q]=some (.one (.pv q)):=by simp[ja]
  have a2:((k+1:Nat):Int)=(k:Int)+1:=by omega
  have ax:k=0->jk (rows.take k++List.replicate (m+1) [zero])=true:=by intro e;subst e;simpa using PE (m:=m+1) (zero:=[zero]) (by simp[a5])
  generalize hE:rows.take k++List.replicate (m+1) [zero]=E at*;have ay:k<E.length:=by rw[<-hE];simp;omega
  have az:E[k]? =some [zero]:=by rw[<-hE];exact adz (by omega)
  have a1:E.set k rows[k]=rows.take (k+1)++List.replicate m [zero]:=by rw[<-hE];exact aa5 (by omega)
  rw[hq]at a1;have aP:=Iq (h:=xd k 1 E::extra) rfl ax;have an:storeD (xd k 1 E::extra) 1 (.one (.ptr 0 k 0)) (.one (.pv q))=some (xd (k+1) 1 (rows.take (k+1)++List.replicate m [zero])::extra):=by simp[storeD,aP,az,V.cells,viewL,L.view,L.bB,L.bG,aO,cz,freezeLs,freezeL,putAt,a1,aaI]
  have ar:=Ir (h:=xd k 1 E::extra) (k:=k) (z:=1) (i:=k) (es:=E) rfl ay;obtain⟨t',h',g1,g2⟩:=ih (k+1) (by omega) u1 u2 u5 u6 u7 (ce .i64 k) (eW rows) (ce .i64 rows.length) (cL true) (ce .i64 k) (ce .i64 ((k:Int)+1)) (.one (.arr 0)) (ce .i64 k) (eW rows) (ce .i64 k) (.one (.ip [q] 0)) (.one (.pv q)) (.one (.ptr 0 k 0)) aA extra;refine⟨t',h',(jR ?_).trans g1,g2⟩;rw[a2];have au:cN (xd k 1 E::extra) 1 (eW rows) k=some (.one (.ip [q] 0)):=by simp[cN,hlt,hq]
  generalize hO:xd k 1 E=O at*;generalize aS:xd (k+1) 1 (rows.take (k+1)++List.replicate m [zero])=O' at*;simp[Eg,Mz,NP,cD,cj,cT,dG,dY,fa,Opd.ev,put,asList,L.view,bin,ft,isBool,isInt,hlt,au,ar,dP,a6,an,hw]
def aeE {k bytes:Nat}{zero:PV}{rows:List (List PV)}(hk:Φ k=some (toE bytes zero))(hz:∀r∈rows,∃q:PV,r=[q]/\ q.bare=true)(a5:zero.bare=true)(hlen:rows.length<=maxLen)(hb:(rows.length:Int)*bytes<=140737488355328):
 cf Φ ext k [eW rows]=some (.one (TM 1 rows)):=by
 refine j0 hk ?_;obtain⟨t',h',e1,e2,e3⟩:=ab3 (Φ:=Φ) (ext:=ext) (zero:=zero) hz a5 hlen rows.length 0 (by omega) (.b8 []) (.one .nil) (eW rows) (ce .i64 rows.length) (.one (.arr 0)) (.b8 []) (.b8 []) (.b8 []) (.b8 []) (.b8 []) (.b8 []) (.b8 []) (.b8 []) (.b8 []) (.b8 []) (.b8 []) (.b8 []) (.b8 []) (.b8 []) [];simp only[ZM,Zk,show((0:Nat):Int)=0 from rfl,Pw]at e1;have ao:(rows.length:Int)<=9223372036854775807:=by unfold maxLen at hlen;omega
 obtain⟨_,e4⟩:=Zb.1 e3;generalize hF:cD (cf Φ ext) cS Eg=F at e1;have e5:dS (xd rows.length 1 rows::h') (.arr 0)=some (TM 1 rows):=by cases rows<;>simp[dS,xd,TM]
 generalize hO:xd rows.length 1 rows=O at*;simp[toE,start,iN,cD,hF,cj,cT,dG,dY,fa,Opd.ev,put,asList,L.view,isInt,hb,ao,e1,done,dd,cu,fb,eh,comp,cU,e5,cz,e2,e4,V.cells]
def RK (ts:List PTy)(rows:List (List PV)):Cp (.lst ts) (.lst rows)=(TM ts.length rows):=by cases rows<;>rfl
def lL {k bytes z:Nat}{K:Ks}{ts:List PTy}{zero:List PV}(hk:Φ k=some (OY bytes z K zero))(hz:ts.length=z)(hzero:zero.length=z)(a5:zero.all PV.bare=true)(aG:0<z)(hb:bytes<=134217728)(hx:oD Φ ext K.kt ts)(aE:K.fl=true->ts.all PTy.flatT=true):oR Φ ext k ts:=by intro rows h hs;obtain⟨hl,hr⟩:=dM h;have hn:rows.length<=1048576:=Zc (ZU _ (dR rows)) (by rw[<-mP];exact hs);rw[RK,hz];refine aeD hk (fun r m=>by rw[nT (hr r m),hz]) aG hzero a5 hl ?_ (fun r m=> ?_);have:=Nat.mul_le_mul hn hb;omega;refine⟨_,hx r (hr r m) (aet m hs),Cq _ _,zP (hr r m),GF (hr r m),fun hf=> ?_⟩;obtain⟨e1,e2⟩:=xD (aE hf) (hr r m);exact⟨e1,by rw[e1];exact e2⟩
def OZ {k bytes:Nat}{t:PTy}{zero:PV}(hk:Φ k=some (toE bytes zero))(a5:zero.bare=true)(ht:t.flatT=true)(hb:bytes<=134217728):oR Φ ext k [t]:=by intro rows h hs;obtain⟨hl,hr⟩:=dM h;have hn:rows.length<=1048576:=Zc (ZU _ (dR rows)) (by rw[<-mP];exact hs);rw[RK];refine aeE hk (fun r m=> ?_) a5 hl ?_;obtain⟨q,r',rfl,h1,h2⟩:=ir (hr r m);obtain rfl:=jT h2;refine⟨q,rfl,?_⟩;have:=GE h1;rw[Dx ht h1]at this;exact this;have:=Nat.mul_le_mul hn hb;omega
end
end Gi
