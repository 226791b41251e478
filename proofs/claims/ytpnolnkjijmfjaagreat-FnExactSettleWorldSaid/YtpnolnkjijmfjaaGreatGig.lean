/- Of this proof. -/
import Derived.Test.YtpnolnkjijmfjaaGreatGie
import Derived.Laws.Tables
set_option linter.all false
namespace Gi
open Go
variable {KI:KF}
section
variable {Γ:Ctx}{P:Program}{M0:Nat->Prop}{base:Nat}{Z:St}{a:Act}{w:World}{J:List (Option Nat)}
def yu {M:Nat->Prop}{b z cap:Nat}{cur:Array Value}{es:List (List PV)}(a2:jb w b cur)(ag:∀e∈es,e.length=z)(hm:¬M b)(ax:es.length<=cap)
 (hc:∀(i:Nat)(e:List PV)(j:Nat)(p:PV),es[i]? =some e->e[j]? =some p->∃v,cur[i*z+j]? =some v/\ cG M w p v):cG M w (.lst es) (.slice (some ⟨b,0,none⟩) es.length cap):=by simp only[cG];refine .inr ⟨b,0,cap,z,rfl,hm,a2.lt,fX.of fun i e he=>⟨ag e (Zn he),gT.of fun j p hp=> ?_⟩,ax⟩;obtain⟨v,hv,hr⟩:=hc i e j p he hp;exact⟨v,by rw[a2.cell];simpa using hv,hr⟩
def cG.weak {M M':Nat->Prop}(h:∀b,M' b->M b){p:PV}{v:Value}(r:cG M w p v):cG M' w p v:=
 cG.go ⟨Zi _,fun b _=>h b,fun _ _ _=>rfl⟩ p v r
def ro {h:List Q0}(k:HR M0 base w J h){l:L}{p:PV}{v:Value}(r:LR (Mu M0 J h) w J h l v)(e:l.view h=some p)(hm:L.mut h l=false):cG (Mu M0 J h) w p v:=by
 cases l with
 |pv q=>simp only[L.view]at e;cases e;exact r
 |nil=>simp only[L.view]at e;cases e;obtain⟨_,rfl⟩:=r;simp only[cG];exact .inl ⟨by trivial,_,_,rfl⟩
 |arr o=>
  obtain⟨r0,ob,a8,a7,hs⟩:=r;simp only[L.view,a7]at e;simp only[L.mut,a7]at hm;cases ob with
  |bI z es=>
   cases e;obtain⟨hz,ag,kx⟩:=k.objs o _ r0 a7 a8;cases r0 with
   |none=>obtain rfl:es=[]:=kx;obtain⟨_,rfl⟩:=hs;simp only[cG];exact .inl ⟨by trivial,_,_,rfl⟩
   |some b=>obtain⟨aJ,cur,cap,a2,h1,h2,h3,h4⟩:=kx;obtain⟨cur',ak,af,_,al,_,rfl⟩:=hs;exact yu a2 ag aJ al h4
  |arr z es=>simp at hm
  |bA z es=>simp at hm
  |bC z es=>cases e
  |box cs=>cases e
  |bM ps=>cases e
  |bU n=>cases e
  |res=>cases e
  |dead=>cases e
 |_=>cases e
def vT {h:List Q0}(k:HR M0 base w J h){l:L}{p:PV}{v:Value}(r:LR (Mu M0 J h) w J h l v)(e:l.view h=some p):cG (fun _=>False) w p v:=by
 by_cases hm:L.mut h l=true;cases l with
 |arr o=>
  obtain⟨r0,ob,a8,a7,hs⟩:=r;simp only[L.view,a7]at e;simp only[L.mut,a7]at hm;cases ob with
  |arr z es=>
   cases e;obtain⟨hz,ag,kx⟩:=k.objs o _ r0 a7 a8;cases r0 with
   |none=>obtain rfl:es=[]:=kx;obtain⟨_,rfl⟩:=hs;simp only[cG];exact .inl ⟨by trivial,_,_,rfl⟩
   |some b=>
    obtain⟨_,cur,cap,a2,h1,h2,h3,h4⟩:=kx;obtain⟨cur',ak,af,_,al,_,rfl⟩:=hs;exact yu a2 ag (fun h=>h) al (fun i e j p he hp=>by
     obtain⟨v,hv,hr⟩:=h4 i e j p he hp
     exact⟨v,hv,hr.weak (fun _ h=>h.elim)⟩)
  |bA z es=>
   cases e;obtain⟨hz,ag,kx⟩:=k.objs o _ r0 a7 a8;cases r0 with
   |none=>obtain rfl:es=[]:=kx;obtain⟨_,rfl⟩:=hs;simp only[cG];exact .inl ⟨by trivial,_,_,rfl⟩
   |some b=>
    obtain⟨_,cur,cap,a2,h1,h2,h3,h4⟩:=kx;obtain⟨cur',ak,af,_,al,_,rfl⟩:=hs;exact yu a2 ag (fun h=>h) al (fun i e j p he hp=>by
     obtain⟨v,hv,hr⟩:=h4 i e j p he hp
     exact⟨v,hv,hr.weak (fun _ h=>h.elim)⟩)
  |_=>simp at hm
 |_=>simp[L.mut]at hm
 exact(ro k r e (by simpa using hm)).weak (fun _ h=>h.elim)
def xW (s:SR Γ M0 base Z a w J){x:V}{u:Value}{es:List (List PV)}(r:VR (Mu M0 J Z.h) w J Z.h x u)(e:asList Z.h x=some es):cG (fun _=>False) w (.lst es) u:=by unfold asList at e;split at e;rename_i l;split at e;rename_i es' he;cases e;exact vT s.hr r he;cases e;cases e
def cG.slice {M:Nat->Prop}{es:List (List PV)}{u:Value}(r:cG M w (.lst es) u):∃ad c,u= .slice ad es.length c:=by simp only[cG]at r;rcases r with⟨rfl,a,c,rfl⟩|⟨b,o,c,z,rfl,_⟩;exact⟨a,c,rfl⟩;exact⟨_,_,rfl⟩
def cG.cells {M:Nat->Prop}{es:List (List PV)}{u:Value}(r:cG M w (.lst es) u){z:Nat}(hz:∀e∈es,e.length=z)(an:es≠[]):
 ∃b o c,u= .slice (some ⟨b,o,none⟩) es.length c/\ ¬M b/\ b<w.heap.size/\ ∀(i:Nat)(e:List PV)(j:Nat)(p:PV),es[i]? =some e->e[j]? =some p->∃v,w.cell? ⟨b,o+i*z+j,none⟩=some v/\ cG M w p v:=by
 simp only[cG]at r;rcases r with⟨rfl,_⟩|⟨b,o,c,z',rfl,hm,hlt,hr,_⟩;exact absurd rfl an;obtain⟨e0,es',rfl⟩:=YP an;have h1:z'=z:=by have h1:=(fX.at hr (i:=0) (e:=e0) rfl).1;rw[<-h1];exact hz e0 (by simp)
 subst h1;refine⟨b,o,c,rfl,hm,hlt,fun i e j p he hp=>(fX.at hr he).2.at hp⟩
def CU :∀{es:List (List PV)}{s:List UInt8},wa es=some s->∃ns:List Int,es=ns.map (fun n=>[PV.int .u8 n])/\ s=ns.map (fun n=>UInt8.ofNat n.toNat)
 |[],s,h=>by simp[wa]at h;subst h;exact⟨[],rfl,rfl⟩
 |e::es,s,h=>by unfold wa at h;split at h;rename_i heq;cases heq;rename_i n r heq;cases heq;split at h;rename_i l hl;cases h;obtain⟨ns,rfl,rfl⟩:=CU hl;exact⟨n::ns,rfl,rfl⟩;cases h;cases h
def Tt (ns:List Int)(s:ByteArray):ns.foldl (fun r n=>r.push (UInt8.ofNat n.toNat)) s=⟨(s.data.toList++ns.map (fun n=>UInt8.ofNat n.toNat)).toArray⟩:=by
 induction ns generalizing s with
 |nil=>simp
 |cons n ns ih=>rw[YW,ih];simp[ByteArray.push]
def VF {M:Nat->Prop}{es:List (List PV)}{u:Value}{s:List UInt8}(r:cG M w (.lst es) u)(h:wa es=some s):(Conv.bytesToString u).run P w= .ok (.string ⟨s.toArray⟩) w:=by
 obtain⟨ns,rfl,rfl⟩:=CU h;by_cases an:ns=[];subst an;obtain⟨ad,c,rfl⟩:=r.slice;cases ad with
 |none=>simp[Conv.bytesToString];rfl
 |some ad=>have:=run_bytesToString (P:=P) w ad 0 c [] (by simp[loadCells,loadCellsFrom]);exact this
 obtain⟨b,o,c,rfl,_,_,hc⟩:=r.cells (z:=1) (by simp) (by simpa using an);have hl:(loadCells ⟨b,o,none⟩ ns.length).run P w= .ok (ns.map (Value.int .u8)).toArray w:=by
  have:=run_loadCells_list (P:=P) w ⟨b,o,none⟩ (ns.map (Value.int .u8)) (fun j v hv=>by
   simp only[Zp,Zl]at hv
   obtain⟨n,hn,rfl⟩:=hv
   obtain⟨v,hv,hr⟩:=hc j [.int .u8 n] 0 (.int .u8 n) (by simp[hn]) rfl
   simp only[cG]at hr;subst hr
   rw[Addr.add_mid]
   simpa using hv)
  simpa using this
 have:=run_bytesToString (P:=P) w ⟨b,o,none⟩ ns.length c ns hl;rw[Tt]at this;simpa using this
def qy (t:TypeId){n:Nat}(h:vX P t=some n):(Go.sizeOf t).run P w= .ok n w:=by
 unfold vX at h;cases hi:P.info? t with
 |none=>simp[hi]at h
 |some i=>simp[hi]at h;subst h;simp[Go.sizeOf,typeInfo,hi]
def Le (s:SR Γ M0 base Z a w J){z:Nat}{x v:V}{u:Value}{n:Nat}{t e:TypeId}{k:IntKind}(ht:lR P t=some e)(hz:vX P e=some z)(r:VR (Mu M0 J Z.h) w J Z.h x u)(hp:cN Z.h z x n=some v):
 ∃u',(Instr.indexAt t u (.int k (n:Int))).run P w= .ok u' w/\ VR (Mu M0 J Z.h) w J Z.h v u':=by
 have hu:P.underlying t=some (.slice e):=by unfold lR at ht;split at ht<;>cases ht;assumption
 have go:∀{b o len cap:Nat},n<len->(Instr.indexAt t (.slice (some ⟨b,o,none⟩) len cap) (.int k (n:Int))).run P w= .ok (.pointer (some ⟨b,o+n*z,none⟩)) w:=by intro b o len cap hlt;have h1:(0:Int)<=(n:Int)/\ (n:Int)<(len:Int):=⟨by omega,by omega⟩;simp[Instr.indexAt,asIntOf,run_underlying hu,qy e hz,hlt,Addr.add_mid]
 unfold cN at hp;split at hp;rename_i o;obtain⟨r0,ob,a8,a7,hs⟩:=r;simp only[a7]at hp;cases ob with
 |arr z' es=>
  simp only at hp;split at hp;rename_i hlt;obtain⟨hlt,rfl⟩:=hlt;cases hp;cases r0 with
  |none=>obtain⟨_,_,kx⟩:=s.hr.objs o _ _ a7 a8;obtain rfl:es=[]:=kx;simp at hlt
  |some b=>obtain⟨cur,cap,a2,_,_,_,rfl⟩:=hs;refine⟨_,go hlt,some b,_,a8,a7,b,rfl,?_⟩;simp[Q0.z]
  cases hp
 |bI z' es=>
  simp only at hp;split at hp;rename_i hlt;obtain⟨hlt,rfl⟩:=hlt;cases hp;cases r0 with
  |none=>obtain⟨_,_,kx⟩:=s.hr.objs o _ _ a7 a8;obtain rfl:es=[]:=kx;simp at hlt
  |some b=>obtain⟨cur,cap,a2,_,_,_,rfl⟩:=hs;refine⟨_,go hlt,some b,_,a8,a7,b,rfl,?_⟩;simp[Q0.z]
  cases hp
 |bA z' es=>
  simp only at hp;split at hp;rename_i hlt;obtain⟨hlt,rfl⟩:=hlt;cases hp;cases r0 with
  |none=>obtain⟨_,_,kx⟩:=s.hr.objs o _ _ a7 a8;obtain rfl:es=[]:=kx;simp at hlt
  |some b=>obtain⟨cur,cap,a2,_,_,_,rfl⟩:=hs;refine⟨_,go hlt,some b,_,a8,a7,b,rfl,?_⟩;simp[Q0.z]
  cases hp
 |bC z' es=>cases hp
 |box cs=>cases hp
 |bM ps=>cases hp
 |bU n=>cases hp
 |res=>cases hp
 |dead=>cases hp
 rename_i es;split at hp;rename_i e0 he;split at hp;rename_i aK;cases hp;have hlt:n<es.length:=(Zb.1 he).1;simp only[VR,LR,cG]at r;rcases r with⟨rfl,_⟩|⟨b,o,c,z',rfl,hm,hb,hr,_⟩;simp at hlt;obtain⟨h1,h2⟩:=fX.at hr he;rw[aK]at h1;subst h1;exact⟨_,go hlt,b,o+n*z,by simp,hm,hb,h2⟩;cases hp;cases hp;cases hp
end
end Gi
namespace Gi
open Go
variable {KI:KF}
section
variable {Γ:Ctx}{P:Program}{M0:Nat->Prop}{base:Nat}{Z:St}{a:Act}{w:World}{J:List (Option Nat)}
def iH {α β:Type}{f:α->Option β}:∀{xs:List α}{ys:List β},j5 f xs=some ys->ys.length=xs.length
 |[],ys,h=>by simp[j5]at h;subst h;rfl
 |x::xs,ys,h=>by unfold j5 at h;split at h;rename_i y aL h1 h2;cases h;simp[iH h2];cases h
def lf {α β:Type}{f:α->Option β}:∀{xs:List α}{ys:List β},j5 f xs=some ys->∀(i:Nat)(x:α),xs[i]? =some x->∃y,ys[i]? =some y/\ f x=some y
 |[],ys,h,i,x,hx=>by simp at hx
 |x0::xs,ys,h,i,x,hx=>by
  unfold j5 at h;split at h;rename_i y aL h1 h2;cases h;cases i with
  |zero=>simp at hx;subst hx;exact⟨y,rfl,h1⟩
  |succ i=>simpa using lf h2 i x (by simpa using hx)
  cases h
def ac3 {α β:Type}{f:α->Option β}{xs:List α}{ys:List β}(h:j5 f xs=some ys)(i:Nat)(y:β)(hy:ys[i]? =some y):∃x,xs[i]? =some x/\ f x=some y:=by
 have hl:=iH h;have hi:i<xs.length:=by rw[<-hl];exact(Zb.1 hy).1
 obtain⟨y',h1,h2⟩:=lf h i xs[i] (by simp[hi]);rw[hy]at h1;cases h1;exact⟨_,by simp[hi],h2⟩
def V0 {M:Nat->Prop}{h:List Q0}{v:Value}{l:L}(e:cvL v=some l):LR M w J h l v:=by unfold cvL at e;split at e<;>cases e;simp[LR,cG];simp[LR,cG];simp[LR,cG];simp[LR]
def uJ {M:Nat->Prop}{h:List Q0}{vs:List Value}{ls:List L}(e:j5 cvL vs=some ls):xc M w J h ls vs:=
 ⟨iH e,fun i l v hl hv=>by
  obtain⟨l',h1,h2⟩:=lf e i v hv
  rw[hl]at h1;cases h1
  exact V0 h2⟩
def AL {α:Type}(cs:List α)(j:Nat)(ls:List α)(h:j+ls.length<=cs.length):(putAt cs j ls).length=cs.length:=by simp[putAt];omega
def AK {α:Type}(cs:List α)(j:Nat)(ls:List α)(h:j+ls.length<=cs.length)(i:Nat):(putAt cs j ls)[i]? =if j<=i/\ i<j+ls.length then ls[i-j]? else cs[i]? :=by unfold putAt;by_cases h1:i<j;rw[if_neg (by omega),List.append_assoc,Ze (by simp;omega)];simp[h1];by_cases h2:i<j+ls.length;rw[if_pos ⟨by omega,h2⟩,List.append_assoc,Zm (by simp;omega),Ze (by simp;omega)];congr 1;simp;omega;rw[if_neg (by omega),Zm (by simp;omega),YO];congr 1;simp;omega
def Km (vs:List Value):∀(off k:Nat)(cs:Array Value),off+k+vs.length<=cs.size->
 ∀i,((vs.zipIdx k).foldl (fun cs(x:Value×Nat)=>cs.setIfInBounds (off+x.2) x.1) cs)[i]? =if off+k<=i/\ i<off+k+vs.length then vs[i-(off+k)]? else cs[i]? :=by
 induction vs with
 |nil=>intro off k cs _ i;simp;omega
 |cons v vs ih=>intro off k cs h i;simp only[Xa,YW];rw[ih off (k+1) _ (by simp at h⊢;omega)];simp only[Zo]at h⊢;by_cases h1:off+(k+1)<=i/\ i<off+(k+1)+vs.length;rw[if_pos h1,if_pos (by omega)];rw[show i-(off+k)=(i-(off+(k+1)))+1 by omega];simp;rw[if_neg h1];by_cases h2:i=off+k;subst h2;rw[if_pos (by omega)];simp[YG (show off+k<cs.size by omega)];rw[if_neg (by omega),YR (by omega)]
def FX (vs:List Value):∀(off k:Nat)(cs:Array Value),((vs.zipIdx k).foldl (fun cs(x:Value×Nat)=>cs.setIfInBounds (off+x.2) x.1) cs).size=cs.size:=by
 induction vs with
 |nil=>intro off k cs;rfl
 |cons v vs ih=>intro off k cs;simp only[Xa,YW];rw[ih];simp
def Jx {M:Nat->Prop}{h:List Q0}{place:Nat->Option (Nat×Nat)}:∀{parts:List (Nat×Value)}{ps:List (Nat×Nat×V)}{cells:Array Value}{cs cs':List L},
 parts.length=ps.length->(∀(i:Nat)x p,parts[i]? =some x->ps[i]? =some p->place x.1=some (p.1,p.2.1)/\ VR M w J h p.2.2 x.2)->xc M w J h cs cells.toList->fy cs ps=some cs'->
 ∃a1,Instr.fill place cells parts=some a1/\ xc M w J h cs' a1.toList
 |[],[],cells,cs,cs',_,_,hl,hf=>by simp[fy]at hf;subst hf;exact⟨cells,rfl,hl⟩
 |[],p::ps,_,_,_,e,_,_,_=>by simp at e
 |x::parts,[],_,_,_,e,_,_,_=>by simp at e
 |x::parts,p::ps,cells,cs,cs',e,hp,hl,hf=>by
  obtain⟨off,n,v⟩:=p;obtain⟨i,u⟩:=x;unfold fy at hf;split at hf;rename_i hc;obtain⟨hn,hle,aM⟩:=hc;obtain⟨aq,hv⟩:=hp 0 _ _ rfl rfl;simp only at aq hv;have aa:=hv.cells (V.cF aM);have ay:u.cells.size=n:=by rw[<-hn,aa.1];simp
  have hlen:cs.length=cells.size:=by rw[hl.1];simp
  have ar:¬(u.cells.size≠n||decide (off+u.cells.size>cells.size))=true:=by simp[ay];omega
  have az:xc M w J h (putAt cs off v.cells) (u.cells.zipIdx.foldl (fun cs(x:Value×Nat)=>cs.setIfInBounds (off+x.2) x.1) cells).toList:=by
   have au:u.cells.zipIdx.foldl (fun cs(x:Value×Nat)=>cs.setIfInBounds (off+x.2) x.1) cells=(u.cells.toList.zipIdx 0).foldl (fun cs(x:Value×Nat)=>cs.setIfInBounds (off+x.2) x.1) cells:=by rw[<-Array.foldl_toList];simp
   rw[au];refine⟨by rw[AL _ _ _ (by omega)];simp only[Yo,FX];exact hlen,fun i' l u' ah aj=> ?_⟩;rw[AK _ _ _ (by omega)]at ah;rw[Array.getElem?_toList,Km _ off 0 cells (by simp[ay];omega)]at aj;simp only[Yo,ay,Yx]at aj;rw[hn]at ah;split at ah;rename_i aA;rw[if_pos aA]at aj;exact aa.2 _ l u' ah aj;rename_i aA;rw[if_neg aA]at aj;exact hl.2 _ l u' ah (by simpa using aj)
  obtain⟨a1,aN,ah⟩:=Jx (by simpa using e) (fun i' x' p' aO aP=>hp (i'+1) x' p' (by simpa using aO) (by simpa using aP)) az hf;refine⟨a1,?_,ah⟩;simp only[Instr.fill,aq];rw[if_neg ar];exact aN;cases hf
def PG (s:SR Γ M0 base Z a w J){t:TypeId}{parts:Array (Nat×Operand)}{d:Md}{ao:AOp}{v:V}{call:Nat->List V->Option V}
 (hc:jm P kf d (.build t parts)=some ao) (hf:dY call Z ao=some v):
 ∃u,(Instr.build t (parts.map fun x=>(x.1,a.eval x.2))).run P w= .ok u w/\ VR (Mu M0 J Z.h) w J Z.h v u:=by
 simp only[jm]at hc;split at hc;rename_i fs v0 ps hu hz av;split at hc;rename_i cs aB;split at hc;rename_i ab;cases hc;simp only[dY]at hf;split at hf;rename_i cs' a6;cases hf;obtain⟨i,hi,aC⟩:∃i,P.info? t=some i/\ i.zero=some v0:=by
  unfold si at hz;cases hi:P.info? t with
  |none=>simp[hi]at hz
  |some i=>simp[hi]at hz;exact⟨i,rfl,hz⟩
 have ae:∃a5:List (Nat×Nat),fs.toList.mapM (fun f=>(P.info? f.type).map fun i=>(f.offset,i.size))=some a5/\ ∀(j:Nat)f,fs.toList[j]? =some f->∃n,vX P f.type=some n/\ a5[j]? =some (f.offset,n):=by
  clear av a6 hu;revert ab;generalize fs.toList=fl;intro ab;induction fl with
  |nil=>exact⟨[],rfl,fun j f hj=>by simp at hj⟩
  |cons f fl ih=>
   simp only[Zq,Zg]at ab;obtain⟨pl,h1,h2⟩:=ih ab.2;obtain⟨n,hn⟩:=Option.isSome_iff_exists.1 ab.1;obtain⟨i',ai,aQ⟩:∃i',P.info? f.type=some i'/\ i'.size=n:=by
    unfold vX at hn;cases ai:P.info? f.type with
    |none=>simp[ai]at hn
    |some i'=>simp[ai]at hn;exact⟨i',rfl,hn⟩
   refine⟨(f.offset,n)::pl,by simp[List.mapM_cons,ai,aQ,h1],fun j f' hj=> ?_⟩;cases j with
   |zero=>simp at hj;subst hj;exact⟨n,hn,rfl⟩
   |succ j=>simpa using h2 j f' (by simpa using hj)
 obtain⟨a5,aD,aE⟩:=ae;obtain⟨a1,aR,aS⟩:=Jx (w:=w) (J:=J) (M:=Mu M0 J Z.h) (h:=Z.h) (place:=(a5.toArray[·]?)) (parts:=parts.toList.map fun x=>(x.1,a.eval x.2)) (cells:=v0.cells) (cs:=cs)
  (by simp[iH av]) (fun i' x p hx hp=>by
   simp only[Zp,Zl]at hx hp
   obtain⟨x0,aT,rfl⟩:=hx
   obtain⟨p0,aF,rfl⟩:=hp
   obtain⟨p1,aH,aw⟩:=lf av i' x0 aT
   rw[aF]at aH;cases aH
   split at aw
   ·rename_i f y aG hy
    simp only[Zl]at aw
    obtain⟨n,hn,rfl⟩:=aw
    simp only
    have aU:fs.toList[x0.1]? =some f:=by unfold NI at aG;rw[hu]at aG;simpa using aG
    obtain⟨n',aI,hp⟩:=aE _ _ aU
    rw[hn]at aI;cases aI
    exact⟨by simpa using hp,cR s hy⟩
   ·cases aw) (uJ aB) a6
 refine⟨.agg a1,run_build w t _ _ ?_,⟨a1,rfl,aS⟩⟩;unfold Program.built;simp only[hi,hu,aC,aD];simpa using aR;cases hf;cases hc;cases hc;rename_i N e v0 hu hz av;split at hc;rename_i cs n aB hn;cases hc;simp only[dY]at hf;split at hf;rename_i cs' a6;cases hf;obtain⟨i,hi,aC⟩:∃i,P.info? t=some i/\ i.zero=some v0:=by
  unfold si at hz;cases hi:P.info? t with
  |none=>simp[hi]at hz
  |some i=>simp[hi]at hz;exact⟨i,rfl,hz⟩
 obtain⟨i2,aV,aW⟩:∃i2,P.info? e=some i2/\ i2.size=n:=by
  unfold vX at hn;cases ai:P.info? e with
  |none=>simp[ai]at hn
  |some i'=>simp[ai]at hn;exact⟨i',rfl,hn⟩
 have aF:parts.toList=[]:=by have:=iH av;exact List.length_eq_zero_iff.1 (by simpa using this.symm)
 simp only[Zy,fy]at a6;cases a6;refine⟨.agg v0.cells,run_build w t _ _ ?_,⟨v0.cells,rfl,uJ aB⟩⟩;unfold Program.built;simp[hi,hu,aC,aV,aF,Instr.fill];cases hf;cases hc;cases hc
def Ov (k:IntKind){i:Int}{y:Nat}(code:BoundsCode)(h0:0<=i)(h1:i<=y):(Instr.sliceBound (.int k i) y code).run P w= .ok i.toNat w:=by simp[Instr.sliceBound,asIntOf,h0,h1]
def TW (s:SR Γ M0 base Z a w J){t:TypeId}{x:Operand}{lo hi mx:Option Operand}{d:Md}{ao:AOp}{v:V}{call:Nat->List V->Option V}
 (hc:jm P kf d (.slice t x lo hi mx)=some ao) (hn:∀z x lo hi,ao≠ .c8 z x lo hi) (hf:dY call Z ao=some v):
 ∃u,(Instr.sliceAt t (a.eval x) (lo.map a.eval) (hi.map a.eval) (mx.map a.eval)).run P w= .ok u w/\ VR (Mu M0 J Z.h) w J Z.h v u:=by simp only[jm]at hc;split at hc;split at hc;split at hc;cases hc;cases hc;by_cases q:d.st=true;exact absurd (by rw[if_pos q]) (hn _ _ _ _);rw[if_neg q]at hf;cases hf;cases hc;cases hc
end
end Gi
