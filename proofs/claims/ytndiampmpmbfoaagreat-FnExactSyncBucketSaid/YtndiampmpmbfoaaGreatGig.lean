/- A part. -/
import Derived.Test.YtndiampmpmbfoaaGreatGie
import Derived.Laws.Tables
set_option linter.all false
namespace Gi
open Go
variable {KI:KF}
section
variable {Γ:Ctx}{P:Program}{M0:Nat->Prop}{base:Nat}{Z:St}{a:Act}{w:World}{J:List (Option Nat)}
def uH {M:Nat->Prop}{b z cap:Nat}{cur:Array Value}{es:List (List PV)}(a2:fO w b cur)(ah:∀e∈es,e.length=z)(hm:¬M b)(az:es.length<=cap)
 (hc:∀(i:Nat)(e:List PV)(j:Nat)(p:PV),es[i]? =some e->e[j]? =some p->∃v,cur[i*z+j]? =some v/\ aq M w p v):aq M w (.lst es) (.slice (some ⟨b,0,none⟩) es.length cap):=by
 simp only[aq]
 refine .inr ⟨b,0,cap,z,rfl,hm,a2.lt,di.of fun i e he=>⟨ah e (Zl he),ew.of fun j p hp=> ?_⟩,az⟩
 obtain⟨v,hv,hr⟩:=hc i e j p he hp
 exact⟨v,by rw[a2.cell];simpa using hv,hr⟩
def aq.weak {M M':Nat->Prop}(h:∀b,M' b->M b){p:PV}{v:Value}(r:aq M w p v):aq M' w p v:=
 aq.go ⟨Zn _,fun b _=>h b,fun _ _ _=>rfl⟩ p v r
def ol {h:List Y0}(k:HR M0 base w J h){l:L}{p:PV}{v:Value}(r:LR (Mu M0 J h) w J h l v)(e:l.view h=some p)(hm:L.mut h l=false):aq (Mu M0 J h) w p v:=by
 cases l with
 |pv q=>simp only[L.view]at e;cases e;exact r
 |nil=>
  simp only[L.view]at e;cases e
  obtain⟨_,rfl⟩:=r
  simp only[aq]
  exact .inl ⟨by trivial,_,_,rfl⟩
 |arr o=>
  obtain⟨r0,ob,aa,a8,hs⟩:=r
  simp only[L.view,a8]at e
  simp only[L.mut,a8]at hm
  cases ob with
  |bH z es=>
   cases e
   obtain⟨hz,ah,kx⟩:=k.objs o _ r0 a8 aa
   cases r0 with
   |none=>
    obtain rfl:es=[]:=kx
    obtain⟨_,rfl⟩:=hs
    simp only[aq]
    exact .inl ⟨by trivial,_,_,rfl⟩
   |some b=>
    obtain⟨aN,cur,cap,a2,h1,h2,h3,h4⟩:=kx
    obtain⟨cur',al,ag,_,an,_,rfl⟩:=hs
    exact uH a2 ah aN an h4
  |arr z es=>simp at hm
  |bA z es=>simp at hm
  |bB z es=>cases e
  |box cs=>cases e
  |bL ps=>cases e
  |bT n=>cases e
  |res=>cases e
  |dead=>cases e
 |_=>cases e
def rH {h:List Y0}(k:HR M0 base w J h){l:L}{p:PV}{v:Value}(r:LR (Mu M0 J h) w J h l v)(e:l.view h=some p):aq (fun _=>False) w p v:=by
 by_cases hm:L.mut h l=true
 ·cases l with
  |arr o=>
   obtain⟨r0,ob,aa,a8,hs⟩:=r
   simp only[L.view,a8]at e
   simp only[L.mut,a8]at hm
   cases ob with
   |arr z es=>
    cases e
    obtain⟨hz,ah,kx⟩:=k.objs o _ r0 a8 aa
    cases r0 with
    |none=>
     obtain rfl:es=[]:=kx
     obtain⟨_,rfl⟩:=hs
     simp only[aq]
     exact .inl ⟨by trivial,_,_,rfl⟩
    |some b=>
     obtain⟨_,cur,cap,a2,h1,h2,h3,h4⟩:=kx
     obtain⟨cur',al,ag,_,an,_,rfl⟩:=hs
     exact uH a2 ah (fun h=>h) an (fun i e j p he hp=>by
      obtain⟨v,hv,hr⟩:=h4 i e j p he hp
      exact⟨v,hv,hr.weak (fun _ h=>h.elim)⟩)
   |bA z es=>
    cases e
    obtain⟨hz,ah,kx⟩:=k.objs o _ r0 a8 aa
    cases r0 with
    |none=>
     obtain rfl:es=[]:=kx
     obtain⟨_,rfl⟩:=hs
     simp only[aq]
     exact .inl ⟨by trivial,_,_,rfl⟩
    |some b=>
     obtain⟨_,cur,cap,a2,h1,h2,h3,h4⟩:=kx
     obtain⟨cur',al,ag,_,an,_,rfl⟩:=hs
     exact uH a2 ah (fun h=>h) an (fun i e j p he hp=>by
      obtain⟨v,hv,hr⟩:=h4 i e j p he hp
      exact⟨v,hv,hr.weak (fun _ h=>h.elim)⟩)
   |_=>simp at hm
  |_=>simp[L.mut]at hm
 ·exact(ol k r e (by simpa using hm)).weak (fun _ h=>h.elim)
def ud (s:SR Γ M0 base Z a w J){x:V}{u:Value}{es:List (List PV)}(r:VR (Mu M0 J Z.h) w J Z.h x u)(e:asList Z.h x=some es):aq (fun _=>False) w (.lst es) u:=by
 unfold asList at e
 split at e
 ·rename_i l
  split at e
  ·rename_i es' he
   cases e
   exact rH s.hr r he
  ·cases e
 ·cases e
def aq.slice {M:Nat->Prop}{es:List (List PV)}{u:Value}(r:aq M w (.lst es) u):∃ad c,u= .slice ad es.length c:=by
 simp only[aq]at r
 rcases r with⟨rfl,a,c,rfl⟩|⟨b,o,c,z,rfl,_⟩
 ·exact⟨a,c,rfl⟩
 ·exact⟨_,_,rfl⟩
def aq.cells {M:Nat->Prop}{es:List (List PV)}{u:Value}(r:aq M w (.lst es) u){z:Nat}(hz:∀e∈es,e.length=z)(ar:es≠[]):
 ∃b o c,u= .slice (some ⟨b,o,none⟩) es.length c/\ ¬M b/\ b<w.heap.size/\ ∀(i:Nat)(e:List PV)(j:Nat)(p:PV),es[i]? =some e->e[j]? =some p->∃v,w.cell? ⟨b,o+i*z+j,none⟩=some v/\ aq M w p v:=by
 simp only[aq]at r
 rcases r with⟨rfl,_⟩|⟨b,o,c,z',rfl,hm,a5,hr,_⟩
 ·exact absurd rfl ar
 ·obtain⟨e0,es',rfl⟩:=Zc5 ar
  have h1:z'=z:=by
   have h1:=(di.at hr (i:=0) (e:=e0) rfl).1
   rw[<-h1];exact hz e0 (by simp)
  subst h1
  refine⟨b,o,c,rfl,hm,a5,fun i e j p he hp=>(di.at hr he).2.at hp⟩
def zp :∀{es:List (List PV)}{s:List UInt8},rW es=some s->∃ns:List Int,es=ns.map (fun n=>[PV.int .u8 n])/\ s=ns.map (fun n=>UInt8.ofNat n.toNat)
 |[],s,h=>by simp[rW]at h;subst h;exact⟨[],rfl,rfl⟩
 |e::es,s,h=>by
  unfold rW at h
  split at h
  ·rename_i heq;cases heq
  ·rename_i n r heq
   cases heq
   split at h
   ·rename_i l hl
    cases h
    obtain⟨ns,rfl,rfl⟩:=zp hl
    exact⟨n::ns,rfl,rfl⟩
   ·cases h
  ·cases h
def OE (ns:List Int)(s:ByteArray):ns.foldl (fun r n=>r.push (UInt8.ofNat n.toNat)) s=⟨(s.data.toList++ns.map (fun n=>UInt8.ofNat n.toNat)).toArray⟩:=by
 induction ns generalizing s with
 |nil=>simp
 |cons n ns ih=>
  rw[List.foldl_cons,ih]
  simp[ByteArray.push]
def QQ {M:Nat->Prop}{es:List (List PV)}{u:Value}{s:List UInt8}(r:aq M w (.lst es) u)(h:rW es=some s):(Conv.bytesToString u).run P w= .ok (.string ⟨s.toArray⟩) w:=by
 obtain⟨ns,rfl,rfl⟩:=zp h
 by_cases ar:ns=[]
 ·subst ar
  obtain⟨ad,c,rfl⟩:=r.slice
  cases ad with
  |none=>simp[Conv.bytesToString];rfl
  |some ad=>
   have:=run_bytesToString (P:=P) w ad 0 c [] (by simp[loadCells,loadCellsFrom])
   exact this
 ·obtain⟨b,o,c,rfl,_,_,hc⟩:=r.cells (z:=1) (by simp) (by simpa using ar)
  have hl:(loadCells ⟨b,o,none⟩ ns.length).run P w= .ok (ns.map (Value.int .u8)).toArray w:=by
   have:=run_loadCells_list (P:=P) w ⟨b,o,none⟩ (ns.map (Value.int .u8)) (fun j v hv=>by
    simp only[Zp,Zj]at hv
    obtain⟨n,hn,rfl⟩:=hv
    obtain⟨v,hv,hr⟩:=hc j [.int .u8 n] 0 (.int .u8 n) (by simp[hn]) rfl
    simp only[aq]at hr;subst hr
    rw[Addr.add_mid]
    simpa using hv)
   simpa using this
  have:=run_bytesToString (P:=P) w ⟨b,o,none⟩ ns.length c ns hl
  rw[OE]at this
  simpa using this
def nA (t:TypeId){n:Nat}(h:rS P t=some n):(Go.sizeOf t).run P w= .ok n w:=by
 unfold rS at h
 cases hi:P.info? t with
 |none=>simp[hi]at h
 |some i=>simp[hi]at h;subst h;simp[Go.sizeOf,typeInfo,hi]
def HY (s:SR Γ M0 base Z a w J){z:Nat}{x v:V}{u:Value}{n:Nat}{t e:TypeId}{k:IntKind}(ht:jh P t=some e)(hz:rS P e=some z)(r:VR (Mu M0 J Z.h) w J Z.h x u)(hp:aJ Z.h z x n=some v):
 ∃u',(Instr.indexAt t u (.int k (n:Int))).run P w= .ok u' w/\ VR (Mu M0 J Z.h) w J Z.h v u':=by
 have hu:P.underlying t=some (.slice e):=by
  unfold jh at ht
  split at ht<;>cases ht
  assumption
 have go:∀{b o len cap:Nat},n<len->(Instr.indexAt t (.slice (some ⟨b,o,none⟩) len cap) (.int k (n:Int))).run P w= .ok (.pointer (some ⟨b,o+n*z,none⟩)) w:=by
  intro b o len cap a5
  have h1:(0:Int)<=(n:Int)/\ (n:Int)<(len:Int):=⟨by omega,by omega⟩
  simp[Instr.indexAt,asIntOf,run_underlying hu,nA e hz,a5,Addr.add_mid]
 unfold aJ at hp
 split at hp
 ·rename_i o
  obtain⟨r0,ob,aa,a8,hs⟩:=r
  simp only[a8]at hp
  cases ob with
  |arr z' es=>
   simp only at hp
   split at hp
   ·rename_i a5
    obtain⟨a5,rfl⟩:=a5
    cases hp
    cases r0 with
    |none=>
     obtain⟨_,_,kx⟩:=s.hr.objs o _ _ a8 aa
     obtain rfl:es=[]:=kx
     simp at a5
    |some b=>
     obtain⟨cur,cap,a2,_,_,_,rfl⟩:=hs
     refine⟨_,go a5,some b,_,aa,a8,b,rfl,?_⟩
     simp[Y0.z]
   ·cases hp
  |bH z' es=>
   simp only at hp
   split at hp
   ·rename_i a5
    obtain⟨a5,rfl⟩:=a5
    cases hp
    cases r0 with
    |none=>
     obtain⟨_,_,kx⟩:=s.hr.objs o _ _ a8 aa
     obtain rfl:es=[]:=kx
     simp at a5
    |some b=>
     obtain⟨cur,cap,a2,_,_,_,rfl⟩:=hs
     refine⟨_,go a5,some b,_,aa,a8,b,rfl,?_⟩
     simp[Y0.z]
   ·cases hp
  |bA z' es=>
   simp only at hp
   split at hp
   ·rename_i a5
    obtain⟨a5,rfl⟩:=a5
    cases hp
    cases r0 with
    |none=>
     obtain⟨_,_,kx⟩:=s.hr.objs o _ _ a8 aa
     obtain rfl:es=[]:=kx
     simp at a5
    |some b=>
     obtain⟨cur,cap,a2,_,_,_,rfl⟩:=hs
     refine⟨_,go a5,some b,_,aa,a8,b,rfl,?_⟩
     simp[Y0.z]
   ·cases hp
  |bB z' es=>cases hp
  |box cs=>cases hp
  |bL ps=>cases hp
  |bT n=>cases hp
  |res=>cases hp
  |dead=>cases hp
 ·rename_i es
  split at hp
  ·rename_i e0 he
   split at hp
   ·rename_i aO
    cases hp
    have a5:n<es.length:=(Zb.1 he).1
    simp only[VR,LR,aq]at r
    rcases r with⟨rfl,_⟩|⟨b,o,c,z',rfl,hm,hb,hr,_⟩
    ·simp at a5
    ·obtain⟨h1,h2⟩:=di.at hr he
     rw[aO]at h1;subst h1
     exact⟨_,go a5,b,o+n*z,by simp,hm,hb,h2⟩
   ·cases hp
  ·cases hp
 ·cases hp
end
end Gi
namespace Gi
open Go
variable {KI:KF}
section
variable {Γ:Ctx}{P:Program}{M0:Nat->Prop}{base:Nat}{Z:St}{a:Act}{w:World}{J:List (Option Nat)}
def fk {α β:Type}{f:α->Option β}:∀{xs:List α}{ys:List β},gP f xs=some ys->ys.length=xs.length
 |[],ys,h=>by simp[gP]at h;subst h;rfl
 |x::xs,ys,h=>by
  unfold gP at h
  split at h
  ·rename_i y aP h1 h2
   cases h
   simp[fk h2]
  ·cases h
def iN {α β:Type}{f:α->Option β}:∀{xs:List α}{ys:List β},gP f xs=some ys->∀(i:Nat)(x:α),xs[i]? =some x->∃y,ys[i]? =some y/\ f x=some y
 |[],ys,h,i,x,hx=>by simp at hx
 |x0::xs,ys,h,i,x,hx=>by
  unfold gP at h
  split at h
  ·rename_i y aP h1 h2
   cases h
   cases i with
   |zero=>simp at hx;subst hx;exact⟨y,rfl,h1⟩
   |succ i=>simpa using iN h2 i x (by simpa using hx)
  ·cases h
def Vc {α β:Type}{f:α->Option β}{xs:List α}{ys:List β}(h:gP f xs=some ys)(i:Nat)(y:β)(hy:ys[i]? =some y):∃x,xs[i]? =some x/\ f x=some y:=by
 have hl:=fk h
 have hi:i<xs.length:=by rw[<-hl];exact(Zb.1 hy).1
 obtain⟨y',h1,h2⟩:=iN h i xs[i] (by simp[hi])
 rw[hy]at h1;cases h1
 exact⟨_,by simp[hi],h2⟩
def Ra {M:Nat->Prop}{h:List Y0}{v:Value}{l:L}(e:WO v=some l):LR M w J h l v:=by
 unfold WO at e
 split at e<;>cases e
 ·simp[LR,aq]
 ·simp[LR,aq]
 ·simp[LR,aq]
 ·simp[LR]
def qn {M:Nat->Prop}{h:List Y0}{vs:List Value}{ls:List L}(e:gP WO vs=some ls):tg M w J h ls vs:=
 ⟨fk e,fun i l v hl hv=>by
  obtain⟨l',h1,h2⟩:=iN e i v hv
  rw[hl]at h1;cases h1
  exact Ra h2⟩
def wX {α:Type}(cs:List α)(j:Nat)(ls:List α)(h:j+ls.length<=cs.length):(putAt cs j ls).length=cs.length:=by
 simp[putAt];omega
def wW {α:Type}(cs:List α)(j:Nat)(ls:List α)(h:j+ls.length<=cs.length)(i:Nat):(putAt cs j ls)[i]? =if j<=i/\ i<j+ls.length then ls[i-j]? else cs[i]? :=by
 unfold putAt
 by_cases h1:i<j
 ·rw[if_neg (by omega),List.append_assoc,Ze (by simp;omega)]
  simp[h1]
 ·by_cases h2:i<j+ls.length
  ·rw[if_pos ⟨by omega,h2⟩,List.append_assoc,Zk (by simp;omega),Ze (by simp;omega)]
   congr 1
   simp;omega
  ·rw[if_neg (by omega),Zk (by simp;omega),Zc4]
   congr 1
   simp;omega
def Ha (vs:List Value):∀(off k:Nat)(cs:Array Value),off+k+vs.length<=cs.size->
 ∀i,((vs.zipIdx k).foldl (fun cs(x:Value×Nat)=>cs.setIfInBounds (off+x.2) x.1) cs)[i]? =if off+k<=i/\ i<off+k+vs.length then vs[i-(off+k)]? else cs[i]? :=by
 induction vs with
 |nil=>intro off k cs _ i;simp;omega
 |cons v vs ih=>
  intro off k cs h i
  simp only[List.zipIdx_cons,List.foldl_cons]
  rw[ih off (k+1) _ (by simp at h⊢;omega)]
  simp only[Zo]at h⊢
  by_cases h1:off+(k+1)<=i/\ i<off+(k+1)+vs.length
  ·rw[if_pos h1,if_pos (by omega)]
   rw[show i-(off+k)=(i-(off+(k+1)))+1 by omega]
   simp
  ·rw[if_neg h1]
   by_cases h2:i=off+k
   ·subst h2
    rw[if_pos (by omega)]
    simp[Zb4 (show off+k<cs.size by omega)]
   ·rw[if_neg (by omega),Zc7 (by omega)]
def Cy (vs:List Value):∀(off k:Nat)(cs:Array Value),((vs.zipIdx k).foldl (fun cs(x:Value×Nat)=>cs.setIfInBounds (off+x.2) x.1) cs).size=cs.size:=by
 induction vs with
 |nil=>intro off k cs;rfl
 |cons v vs ih=>intro off k cs;simp only[List.zipIdx_cons,List.foldl_cons];rw[ih];simp
def Gh {M:Nat->Prop}{h:List Y0}{place:Nat->Option (Nat×Nat)}:∀{parts:List (Nat×Value)}{ps:List (Nat×Nat×V)}{cells:Array Value}{cs cs':List L},
 parts.length=ps.length->(∀(i:Nat)x p,parts[i]? =some x->ps[i]? =some p->place x.1=some (p.1,p.2.1)/\ VR M w J h p.2.2 x.2)->tg M w J h cs cells.toList->dq cs ps=some cs'->
 ∃a1,Instr.fill place cells parts=some a1/\ tg M w J h cs' a1.toList
 |[],[],cells,cs,cs',_,_,hl,hf=>by simp[dq]at hf;subst hf;exact⟨cells,rfl,hl⟩
 |[],p::ps,_,_,_,e,_,_,_=>by simp at e
 |x::parts,[],_,_,_,e,_,_,_=>by simp at e
 |x::parts,p::ps,cells,cs,cs',e,hp,hl,hf=>by
  obtain⟨off,n,v⟩:=p
  obtain⟨i,u⟩:=x
  unfold dq at hf
  split at hf
  ·rename_i hc
   obtain⟨hn,hle,aQ⟩:=hc
   obtain⟨au,hv⟩:=hp 0 _ _ rfl rfl
   simp only at au hv
   have ab:=hv.cells (V.c9 aQ)
   have aA:u.cells.size=n:=by rw[<-hn,ab.1];simp
   have hlen:cs.length=cells.size:=by rw[hl.1];simp
   have av:¬(u.cells.size≠n||decide (off+u.cells.size>cells.size))=true:=by simp[aA];omega
   have aB:tg M w J h (putAt cs off v.cells) (u.cells.zipIdx.foldl (fun cs(x:Value×Nat)=>cs.setIfInBounds (off+x.2) x.1) cells).toList:=by
    have aw:u.cells.zipIdx.foldl (fun cs(x:Value×Nat)=>cs.setIfInBounds (off+x.2) x.1) cells=(u.cells.toList.zipIdx 0).foldl (fun cs(x:Value×Nat)=>cs.setIfInBounds (off+x.2) x.1) cells:=by
     rw[<-Array.foldl_toList];simp
    rw[aw]
    refine⟨by rw[wX _ _ _ (by omega)];simp only[N',Cy];exact hlen,fun i' l u' ai ak=> ?_⟩
    rw[wW _ _ _ (by omega)]at ai
    rw[Array.getElem?_toList,Ha _ off 0 cells (by simp[aA];omega)]at ak
    simp only[N',aA,Za7]at ak
    rw[hn]at ai
    split at ai
    ·rename_i aC
     rw[if_pos aC]at ak
     exact ab.2 _ l u' ai ak
    ·rename_i aC
     rw[if_neg aC]at ak
     exact hl.2 _ l u' ai (by simpa using ak)
   obtain⟨a1,aR,ai⟩:=Gh (by simpa using e) (fun i' x' p' aS aT=>hp (i'+1) x' p' (by simpa using aS) (by simpa using aT)) aB hf
   refine⟨a1,?_,ai⟩
   simp only[Instr.fill,au]
   rw[if_neg av]
   exact aR
  ·cases hf
def LV (s:SR Γ M0 base Z a w J){t:TypeId}{parts:Array (Nat×Operand)}{d:Md}{ao:AOp}{v:V}{call:Nat->List V->Option V}
 (hc:fX P kf d (.build t parts)=some ao) (hf:bG call Z ao=some v):
 ∃u,(Instr.build t (parts.map fun x=>(x.1,a.eval x.2))).run P w= .ok u w/\ VR (Mu M0 J Z.h) w J Z.h v u:=by
 simp only[fX]at hc
 split at hc
 ·rename_i fs v0 ps hu hz ax
  split at hc
  ·rename_i cs aE
   split at hc
   ·rename_i ae
    cases hc
    simp only[bG]at hf
    split at hf
    ·rename_i cs' a7
     cases hf
     obtain⟨i,hi,aF⟩:∃i,P.info? t=some i/\ i.zero=some v0:=by
      unfold oA at hz
      cases hi:P.info? t with
      |none=>simp[hi]at hz
      |some i=>simp[hi]at hz;exact⟨i,rfl,hz⟩
     have af:∃a6:List (Nat×Nat),fs.toList.mapM (fun f=>(P.info? f.type).map fun i=>(f.offset,i.size))=some a6/\ ∀(j:Nat)f,fs.toList[j]? =some f->∃n,rS P f.type=some n/\ a6[j]? =some (f.offset,n):=by
      clear ax a7 hu
      revert ae
      generalize fs.toList=fl
      intro ae
      induction fl with
      |nil=>exact⟨[],rfl,fun j f hj=>by simp at hj⟩
      |cons f fl ih=>
       simp only[Zq,Zh]at ae
       obtain⟨pl,h1,h2⟩:=ih ae.2
       obtain⟨n,hn⟩:=Option.isSome_iff_exists.1 ae.1
       obtain⟨i',aj,aU⟩:∃i',P.info? f.type=some i'/\ i'.size=n:=by
        unfold rS at hn
        cases aj:P.info? f.type with
        |none=>simp[aj]at hn
        |some i'=>simp[aj]at hn;exact⟨i',rfl,hn⟩
       refine⟨(f.offset,n)::pl,by simp[List.mapM_cons,aj,aU,h1],fun j f' hj=> ?_⟩
       cases j with
       |zero=>simp at hj;subst hj;exact⟨n,hn,rfl⟩
       |succ j=>simpa using h2 j f' (by simpa using hj)
     obtain⟨a6,aG,aH⟩:=af
     obtain⟨a1,aV,aW⟩:=Gh (w:=w) (J:=J) (M:=Mu M0 J Z.h) (h:=Z.h) (place:=(a6.toArray[·]?)) (parts:=parts.toList.map fun x=>(x.1,a.eval x.2)) (cells:=v0.cells) (cs:=cs)
      (by simp[fk ax]) (fun i' x p hx hp=>by
       simp only[Zp,Zj]at hx hp
       obtain⟨x0,aX,rfl⟩:=hx
       obtain⟨p0,aI,rfl⟩:=hp
       obtain⟨p1,aL,ay⟩:=iN ax i' x0 aX
       rw[aI]at aL;cases aL
       split at ay
       ·rename_i f y aK hy
        simp only[Zj]at ay
        obtain⟨n,hn,rfl⟩:=ay
        simp only
        have aY:fs.toList[x0.1]? =some f:=by
         unfold Kc at aK
         rw[hu]at aK
         simpa using aK
        obtain⟨n',aM,hp⟩:=aH _ _ aY
        rw[hn]at aM;cases aM
        exact⟨by simpa using hp,aD s hy⟩
       ·cases ay) (qn aE) a7
     refine⟨.agg a1,run_build w t _ _ ?_,⟨a1,rfl,aW⟩⟩
     unfold Program.built
     simp only[hi,hu,aF,aG]
     simpa using aV
    ·cases hf
   ·cases hc
  ·cases hc
 ·rename_i N e v0 hu hz ax
  split at hc
  ·rename_i cs n aE hn
   cases hc
   simp only[bG]at hf
   split at hf
   ·rename_i cs' a7
    cases hf
    obtain⟨i,hi,aF⟩:∃i,P.info? t=some i/\ i.zero=some v0:=by
     unfold oA at hz
     cases hi:P.info? t with
     |none=>simp[hi]at hz
     |some i=>simp[hi]at hz;exact⟨i,rfl,hz⟩
    obtain⟨i2,aZ,b0⟩:∃i2,P.info? e=some i2/\ i2.size=n:=by
     unfold rS at hn
     cases aj:P.info? e with
     |none=>simp[aj]at hn
     |some i'=>simp[aj]at hn;exact⟨i',rfl,hn⟩
    have aI:parts.toList=[]:=by
     have:=fk ax
     exact List.length_eq_zero_iff.1 (by simpa using this.symm)
    simp only[Zz,dq]at a7
    cases a7
    refine⟨.agg v0.cells,run_build w t _ _ ?_,⟨v0.cells,rfl,qn aE⟩⟩
    unfold Program.built
    simp[hi,hu,aF,aZ,aI,Instr.fill]
   ·cases hf
  ·cases hc
 ·cases hc
def KR (k:IntKind){i:Int}{y:Nat}(code:BoundsCode)(h0:0<=i)(h1:i<=y):(Instr.sliceBound (.int k i) y code).run P w= .ok i.toNat w:=by
 simp[Instr.sliceBound,asIntOf,h0,h1]
def O7 (s:SR Γ M0 base Z a w J){t:TypeId}{x:Operand}{lo hi mx:Option Operand}{d:Md}{ao:AOp}{v:V}{call:Nat->List V->Option V}
 (hc:fX P kf d (.slice t x lo hi mx)=some ao) (hn:∀z x lo hi,ao≠ .c2 z x lo hi) (hf:bG call Z ao=some v):
 ∃u,(Instr.sliceAt t (a.eval x) (lo.map a.eval) (hi.map a.eval) (mx.map a.eval)).run P w= .ok u w/\ VR (Mu M0 J Z.h) w J Z.h v u:=by
 simp only[fX]at hc
 split at hc
 ·split at hc
  ·split at hc
   ·cases hc
   ·cases hc
    by_cases q:d.st=true
    ·exact absurd (by rw[if_pos q]) (hn _ _ _ _)
    ·rw[if_neg q]at hf;cases hf
  ·cases hc
 ·cases hc
end
end Gi
