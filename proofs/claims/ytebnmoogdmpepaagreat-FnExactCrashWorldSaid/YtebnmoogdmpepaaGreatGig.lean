/- Of this proof. -/
import Derived.Test.YtebnmoogdmpepaaGreatGie
import Derived.Laws.Tables
set_option linter.unusedSimpArgs false
set_option linter.unusedVariables false
namespace Gi
open Go
variable {KI:KF}
section
variable {Γ:Ctx}{P:Program}{M0:Nat→Prop}{base:Nat}{σ:St}{a:Act}{w:World}{ρ:List (Option Nat)}
theorem tc {M:Nat→Prop}{b z cap:Nat}{cur:Array Value}{es:List (List PV)}(hrow:gg w b cur)(hes:∀e∈es,e.length=z)(hm:¬M b)(hcap:es.length≤cap)
 (hc:∀(i:Nat)(e:List PV)(j:Nat)(p:PV),es[i]? =some e→e[j]? =some p→∃v,cur[i*z+j]? =some v∧ap M w p v):ap M w (.lst es) (.slice (some ⟨b,0,none⟩) es.length cap):=by
 simp only[ap]
 refine .inr ⟨b,0,cap,z,rfl,hm,hrow.lt,cZ.of fun i e he=>⟨hes e (Zk he),dV.of fun j p hp=> ?_⟩,hcap⟩
 obtain⟨v,hv,hr⟩:=hc i e j p he hp
 exact⟨v,by rw[hrow.cell];simpa using hv,hr⟩
theorem ap.weak {M M':Nat→Prop}(h:∀b,M' b→M b){p:PV}{v:Value}(r:ap M w p v):ap M' w p v:=
 ap.go ⟨Zl _,fun b _=>h b,fun _ _ _=>rfl⟩ p v r
theorem mY {h:List AObj}(k:HR M0 base w ρ h){l:L}{p:PV}{v:Value}(r:LR (Mu M0 ρ h) w ρ h l v)(e:l.view h=some p)(hm:L.mut h l=false):ap (Mu M0 ρ h) w p v:=by
 cases l with
 |pv q=>simp only[L.view]at e;cases e;exact r
 |nil=>
  simp only[L.view]at e;cases e
  obtain⟨_,rfl⟩:=r
  simp only[ap]
  exact .inl ⟨by trivial,_,_,rfl⟩
 |arr o=>
  obtain⟨r0,ob,hr0,hob,hs⟩:=r
  simp only[L.view,hob]at e
  simp only[L.mut,hob]at hm
  cases ob with
  |froz z es=>
   cases e
   obtain⟨hz,hes,kx⟩:=k.objs o _ r0 hob hr0
   cases r0 with
   |none=>
    obtain rfl:es=[]:=kx
    obtain⟨_,rfl⟩:=hs
    simp only[ap]
    exact .inl ⟨by trivial,_,_,rfl⟩
   |some b=>
    obtain⟨hnm,cur,cap,hrow,h1,h2,h3,h4⟩:=kx
    obtain⟨cur',cap',hrow',_,hc',_,rfl⟩:=hs
    exact tc hrow hes hnm hc' h4
  |arr z es=>simp at hm
  |darr z es=>simp at hm
  |zarr z es=>cases e
  |box cs=>cases e
  |fbox ps=>cases e
  |tbox n=>cases e
  |res=>cases e
  |dead=>cases e
 |_=>cases e
theorem qu {h:List AObj}(k:HR M0 base w ρ h){l:L}{p:PV}{v:Value}(r:LR (Mu M0 ρ h) w ρ h l v)(e:l.view h=some p):ap (fun _=>False) w p v:=by
 by_cases hm:L.mut h l=true
 ·cases l with
  |arr o=>
   obtain⟨r0,ob,hr0,hob,hs⟩:=r
   simp only[L.view,hob]at e
   simp only[L.mut,hob]at hm
   cases ob with
   |arr z es=>
    cases e
    obtain⟨hz,hes,kx⟩:=k.objs o _ r0 hob hr0
    cases r0 with
    |none=>
     obtain rfl:es=[]:=kx
     obtain⟨_,rfl⟩:=hs
     simp only[ap]
     exact .inl ⟨by trivial,_,_,rfl⟩
    |some b=>
     obtain⟨_,cur,cap,hrow,h1,h2,h3,h4⟩:=kx
     obtain⟨cur',cap',hrow',_,hc',_,rfl⟩:=hs
     exact tc hrow hes (fun h=>h) hc' (fun i e j p he hp=>by
      obtain⟨v,hv,hr⟩:=h4 i e j p he hp
      exact⟨v,hv,hr.weak (fun _ h=>h.elim)⟩)
   |darr z es=>
    cases e
    obtain⟨hz,hes,kx⟩:=k.objs o _ r0 hob hr0
    cases r0 with
    |none=>
     obtain rfl:es=[]:=kx
     obtain⟨_,rfl⟩:=hs
     simp only[ap]
     exact .inl ⟨by trivial,_,_,rfl⟩
    |some b=>
     obtain⟨_,cur,cap,hrow,h1,h2,h3,h4⟩:=kx
     obtain⟨cur',cap',hrow',_,hc',_,rfl⟩:=hs
     exact tc hrow hes (fun h=>h) hc' (fun i e j p he hp=>by
      obtain⟨v,hv,hr⟩:=h4 i e j p he hp
      exact⟨v,hv,hr.weak (fun _ h=>h.elim)⟩)
   |_=>simp at hm
  |_=>simp[L.mut]at hm
 ·exact(mY k r e (by simpa using hm)).weak (fun _ h=>h.elim)
theorem sG (s:SR Γ M0 base σ a w ρ){x:V}{u:Value}{es:List (List PV)}(r:VR (Mu M0 ρ σ.h) w ρ σ.h x u)(e:asList σ.h x=some es):ap (fun _=>False) w (.lst es) u:=by
 unfold asList at e
 split at e
 ·rename_i l
  split at e
  ·rename_i es' he
   cases e
   exact qu s.hr r he
  ·cases e
 ·cases e
theorem ap.slice {M:Nat→Prop}{es:List (List PV)}{u:Value}(r:ap M w (.lst es) u):∃ad c,u= .slice ad es.length c:=by
 simp only[ap]at r
 rcases r with⟨rfl,a,c,rfl⟩|⟨b,o,c,z,rfl,_⟩
 ·exact⟨a,c,rfl⟩
 ·exact⟨_,_,rfl⟩
theorem ap.cells {M:Nat→Prop}{es:List (List PV)}{u:Value}(r:ap M w (.lst es) u){z:Nat}(hz:∀e∈es,e.length=z)(hne:es≠[]):
 ∃b o c,u= .slice (some ⟨b,o,none⟩) es.length c∧¬M b∧b<w.heap.size∧∀(i:Nat)(e:List PV)(j:Nat)(p:PV),es[i]? =some e→e[j]? =some p→∃v,w.cell? ⟨b,o+i*z+j,none⟩=some v∧ap M w p v:=by
 simp only[ap]at r
 rcases r with⟨rfl,_⟩|⟨b,o,c,z',rfl,hm,hlt,hr,_⟩
 ·exact absurd rfl hne
 ·obtain⟨e0,es',rfl⟩:=Xk hne
  have h1:z'=z:=by
   have h1:=(cZ.at hr (i:=0) (e:=e0) rfl).1
   rw[←h1];exact hz e0 (by simp)
  subst h1
  refine⟨b,o,c,rfl,hm,hlt,fun i e j p he hp=>(cZ.at hr he).2.at hp⟩
theorem xT :∀{es:List (List PV)}{s:List UInt8},qB es=some s→∃ns:List Int,es=ns.map (fun n=>[PV.int .u8 n])∧s=ns.map (fun n=>UInt8.ofNat n.toNat)
 |[],s,h=>by simp[qB]at h;subst h;exact⟨[],rfl,rfl⟩
 |e::es,s,h=>by
  unfold qB at h
  split at h
  ·rename_i heq;cases heq
  ·rename_i n r heq
   cases heq
   split at h
   ·rename_i l hl
    cases h
    obtain⟨ns,rfl,rfl⟩:=xT hl
    exact⟨n::ns,rfl,rfl⟩
   ·cases h
  ·cases h
theorem MK (ns:List Int)(s:ByteArray):ns.foldl (fun r n=>r.push (UInt8.ofNat n.toNat)) s=⟨(s.data.toList++ns.map (fun n=>UInt8.ofNat n.toNat)).toArray⟩:=by
 induction ns generalizing s with
 |nil=>simp
 |cons n ns ih=>
  rw[List.foldl_cons,ih]
  simp[ByteArray.push]
theorem OY {M:Nat→Prop}{es:List (List PV)}{u:Value}{s:List UInt8}(r:ap M w (.lst es) u)(h:qB es=some s):(Conv.bytesToString u).run P w= .ok (.string ⟨s.toArray⟩) w:=by
 obtain⟨ns,rfl,rfl⟩:=xT h
 by_cases hne:ns=[]
 ·subst hne
  obtain⟨ad,c,rfl⟩:=r.slice
  cases ad with
  |none=>simp[Conv.bytesToString];rfl
  |some ad=>
   have:=run_bytesToString (P:=P) w ad 0 c [] (by simp[loadCells,loadCellsFrom])
   exact this
 ·obtain⟨b,o,c,rfl,_,_,hc⟩:=r.cells (z:=1) (by simp) (by simpa using hne)
  have hl:(loadCells ⟨b,o,none⟩ ns.length).run P w= .ok (ns.map (Value.int .u8)).toArray w:=by
   have:=run_loadCells_list (P:=P) w ⟨b,o,none⟩ (ns.map (Value.int .u8)) (fun j v hv=>by
    simp only[Zp,Zj]at hv
    obtain⟨n,hn,rfl⟩:=hv
    obtain⟨v,hv,hr⟩:=hc j [.int .u8 n] 0 (.int .u8 n) (by simp[hn]) rfl
    simp only[ap]at hr;subst hr
    rw[Addr.add_mid]
    simpa using hv)
   simpa using this
  have:=run_bytesToString (P:=P) w ⟨b,o,none⟩ ns.length c ns hl
  rw[MK]at this
  simpa using this
theorem kO (t:TypeId){n:Nat}(h:o7 P t=some n):(Go.sizeOf t).run P w= .ok n w:=by
 unfold o7 at h
 cases hi:P.info? t with
 |none=>simp[hi]at h
 |some i=>simp[hi]at h;subst h;simp[Go.sizeOf,typeInfo,hi]
theorem Gy (s:SR Γ M0 base σ a w ρ){z:Nat}{x v:V}{u:Value}{n:Nat}{t e:TypeId}{k:IntKind}(ht:gJ P t=some e)(hz:o7 P e=some z)(r:VR (Mu M0 ρ σ.h) w ρ σ.h x u)(hp:aG σ.h z x n=some v):
 ∃u',(Instr.indexAt t u (.int k (n:Int))).run P w= .ok u' w∧VR (Mu M0 ρ σ.h) w ρ σ.h v u':=by
 have hu:P.underlying t=some (.slice e):=by
  unfold gJ at ht
  split at ht<;>cases ht
  assumption
 have go:∀{b o len cap:Nat},n<len→(Instr.indexAt t (.slice (some ⟨b,o,none⟩) len cap) (.int k (n:Int))).run P w= .ok (.pointer (some ⟨b,o+n*z,none⟩)) w:=by
  intro b o len cap hlt
  have h1:(0:Int)≤(n:Int)∧(n:Int)<(len:Int):=⟨by omega,by omega⟩
  simp[Instr.indexAt,asIntOf,run_underlying hu,kO e hz,hlt,Addr.add_mid]
 unfold aG at hp
 split at hp
 ·rename_i o
  obtain⟨r0,ob,hr0,hob,hs⟩:=r
  simp only[hob]at hp
  cases ob with
  |arr z' es=>
   simp only at hp
   split at hp
   ·rename_i hlt
    obtain⟨hlt,rfl⟩:=hlt
    cases hp
    cases r0 with
    |none=>
     obtain⟨_,_,kx⟩:=s.hr.objs o _ _ hob hr0
     obtain rfl:es=[]:=kx
     simp at hlt
    |some b=>
     obtain⟨cur,cap,hrow,_,_,_,rfl⟩:=hs
     refine⟨_,go hlt,some b,_,hr0,hob,b,rfl,?_⟩
     simp[AObj.z]
   ·cases hp
  |froz z' es=>
   simp only at hp
   split at hp
   ·rename_i hlt
    obtain⟨hlt,rfl⟩:=hlt
    cases hp
    cases r0 with
    |none=>
     obtain⟨_,_,kx⟩:=s.hr.objs o _ _ hob hr0
     obtain rfl:es=[]:=kx
     simp at hlt
    |some b=>
     obtain⟨cur,cap,hrow,_,_,_,rfl⟩:=hs
     refine⟨_,go hlt,some b,_,hr0,hob,b,rfl,?_⟩
     simp[AObj.z]
   ·cases hp
  |darr z' es=>
   simp only at hp
   split at hp
   ·rename_i hlt
    obtain⟨hlt,rfl⟩:=hlt
    cases hp
    cases r0 with
    |none=>
     obtain⟨_,_,kx⟩:=s.hr.objs o _ _ hob hr0
     obtain rfl:es=[]:=kx
     simp at hlt
    |some b=>
     obtain⟨cur,cap,hrow,_,_,_,rfl⟩:=hs
     refine⟨_,go hlt,some b,_,hr0,hob,b,rfl,?_⟩
     simp[AObj.z]
   ·cases hp
  |zarr z' es=>cases hp
  |box cs=>cases hp
  |fbox ps=>cases hp
  |tbox n=>cases hp
  |res=>cases hp
  |dead=>cases hp
 ·rename_i es
  split at hp
  ·rename_i e0 he
   split at hp
   ·rename_i hez
    cases hp
    have hlt:n<es.length:=(Zb.1 he).1
    simp only[VR,LR,ap]at r
    rcases r with⟨rfl,_⟩|⟨b,o,c,z',rfl,hm,hb,hr,_⟩
    ·simp at hlt
    ·obtain⟨h1,h2⟩:=cZ.at hr he
     rw[hez]at h1;subst h1
     exact⟨_,go hlt,b,o+n*z,by simp,hm,hb,h2⟩
   ·cases hp
  ·cases hp
 ·cases hp
end
end Gi
namespace Gi
open Go
variable {KI:KF}
section
variable {Γ:Ctx}{P:Program}{M0:Nat→Prop}{base:Nat}{σ:St}{a:Act}{w:World}{ρ:List (Option Nat)}
theorem eT {α β:Type}{f:α→Option β}:∀{xs:List α}{ys:List β},fy f xs=some ys→ys.length=xs.length
 |[],ys,h=>by simp[fy]at h;subst h;rfl
 |x::xs,ys,h=>by
  unfold fy at h
  split at h
  ·rename_i y ys' h1 h2
   cases h
   simp[eT h2]
  ·cases h
theorem ib {α β:Type}{f:α→Option β}:∀{xs:List α}{ys:List β},fy f xs=some ys→∀(i:Nat)(x:α),xs[i]? =some x→∃y,ys[i]? =some y∧f x=some y
 |[],ys,h,i,x,hx=>by simp at hx
 |x0::xs,ys,h,i,x,hx=>by
  unfold fy at h
  split at h
  ·rename_i y ys' h1 h2
   cases h
   cases i with
   |zero=>simp at hx;subst hx;exact⟨y,rfl,h1⟩
   |succ i=>simpa using ib h2 i x (by simpa using hx)
  ·cases h
theorem Td {α β:Type}{f:α→Option β}{xs:List α}{ys:List β}(h:fy f xs=some ys)(i:Nat)(y:β)(hy:ys[i]? =some y):∃x,xs[i]? =some x∧f x=some y:=by
 have hl:=eT h
 have hi:i<xs.length:=by rw[←hl];exact(Zb.1 hy).1
 obtain⟨y',h1,h2⟩:=ib h i xs[i] (by simp[hi])
 rw[hy]at h1;cases h1
 exact⟨_,by simp[hi],h2⟩
theorem Pj {M:Nat→Prop}{h:List AObj}{v:Value}{l:L}(e:Uo v=some l):LR M w ρ h l v:=by
 unfold Uo at e
 split at e<;>cases e
 ·simp[LR,ap]
 ·simp[LR,ap]
 ·simp[LR,ap]
 ·simp[LR]
theorem pD {M:Nat→Prop}{h:List AObj}{vs:List Value}{ls:List L}(e:fy Uo vs=some ls):ru M w ρ h ls vs:=
 ⟨eT e,fun i l v hl hv=>by
  obtain⟨l',h1,h2⟩:=ib e i v hv
  rw[hl]at h1;cases h1
  exact Pj h2⟩
theorem vz {α:Type}(cs:List α)(j:Nat)(ls:List α)(h:j+ls.length≤cs.length):(putAt cs j ls).length=cs.length:=by
 simp[putAt];omega
theorem vy {α:Type}(cs:List α)(j:Nat)(ls:List α)(h:j+ls.length≤cs.length)(i:Nat):(putAt cs j ls)[i]? =if j≤i∧i<j+ls.length then ls[i-j]? else cs[i]? :=by
 unfold putAt
 by_cases h1:i<j
 ·rw[if_neg (by omega),Zo,Ze (by simp;omega)]
  simp[h1]
 ·by_cases h2:i<j+ls.length
  ·rw[if_pos ⟨by omega,h2⟩,Zo,Zh (by simp;omega),Ze (by simp;omega)]
   congr 1
   simp;omega
  ·rw[if_neg (by omega),Zh (by simp;omega),Y0]
   congr 1
   simp;omega
theorem FI (vs:List Value):∀(off k:Nat)(cs:Array Value),off+k+vs.length≤cs.size→
 ∀i,((vs.zipIdx k).foldl (fun cs(x:Value×Nat)=>cs.setIfInBounds (off+x.2) x.1) cs)[i]? =if off+k≤i∧i<off+k+vs.length then vs[i-(off+k)]? else cs[i]? :=by
 induction vs with
 |nil=>intro off k cs _ i;simp;omega
 |cons v vs ih=>
  intro off k cs h i
  simp only[List.zipIdx_cons,List.foldl_cons]
  rw[ih off (k+1) _ (by simp at h⊢;omega)]
  simp only[Zn]at h⊢
  by_cases h1:off+(k+1)≤i∧i<off+(k+1)+vs.length
  ·rw[if_pos h1,if_pos (by omega)]
   rw[show i-(off+k)=(i-(off+(k+1)))+1 by omega]
   simp
  ·rw[if_neg h1]
   by_cases h2:i=off+k
   ·subst h2
    rw[if_pos (by omega)]
    simp[Xb (show off+k<cs.size by omega)]
   ·rw[if_neg (by omega),Xp (by omega)]
theorem Bq (vs:List Value):∀(off k:Nat)(cs:Array Value),((vs.zipIdx k).foldl (fun cs(x:Value×Nat)=>cs.setIfInBounds (off+x.2) x.1) cs).size=cs.size:=by
 induction vs with
 |nil=>intro off k cs;rfl
 |cons v vs ih=>intro off k cs;simp only[List.zipIdx_cons,List.foldl_cons];rw[ih];simp
theorem ES {M:Nat→Prop}{h:List AObj}{place:Nat→Option (Nat×Nat)}:∀{parts:List (Nat×Value)}{ps:List (Nat×Nat×V)}{cells:Array Value}{cs cs':List L},
 parts.length=ps.length→(∀(i:Nat)x p,parts[i]? =some x→ps[i]? =some p→place x.1=some (p.1,p.2.1)∧VR M w ρ h p.2.2 x.2)→ru M w ρ h cs cells.toList→dA cs ps=some cs'→
 ∃cells',Instr.fill place cells parts=some cells'∧ru M w ρ h cs' cells'.toList
 |[],[],cells,cs,cs',_,_,hl,hf=>by simp[dA]at hf;subst hf;exact⟨cells,rfl,hl⟩
 |[],p::ps,_,_,_,e,_,_,_=>by simp at e
 |x::parts,[],_,_,_,e,_,_,_=>by simp at e
 |x::parts,p::ps,cells,cs,cs',e,hp,hl,hf=>by
  obtain⟨off,n,v⟩:=p
  obtain⟨i,u⟩:=x
  unfold dA at hf
  split at hf
  ·rename_i hc
   obtain⟨hn,hle,hpl⟩:=hc
   obtain⟨hpos,hv⟩:=hp 0 _ _ rfl rfl
   simp only at hpos hv
   have hcells:=hv.cells (V.not_tup hpl)
   have hsz:u.cells.size=n:=by rw[←hn,hcells.1];simp
   have hlen:cs.length=cells.size:=by rw[hl.1];simp
   have hcond:¬(u.cells.size≠n||decide (off+u.cells.size>cells.size))=true:=by simp[hsz];omega
   have hnew:ru M w ρ h (putAt cs off v.cells) (u.cells.zipIdx.foldl (fun cs(x:Value×Nat)=>cs.setIfInBounds (off+x.2) x.1) cells).toList:=by
    have hfold:u.cells.zipIdx.foldl (fun cs(x:Value×Nat)=>cs.setIfInBounds (off+x.2) x.1) cells=(u.cells.toList.zipIdx 0).foldl (fun cs(x:Value×Nat)=>cs.setIfInBounds (off+x.2) x.1) cells:=by
     rw[←Array.foldl_toList];simp
    rw[hfold]
    refine⟨by rw[vz _ _ _ (by omega)];simp only[Yu,Bq];exact hlen,fun i' l u' hl' hu'=> ?_⟩
    rw[vy _ _ _ (by omega)]at hl'
    rw[Xl,FI _ off 0 cells (by simp[hsz];omega)]at hu'
    simp only[Yu,hsz,Y1]at hu'
    rw[hn]at hl'
    split at hl'
    ·rename_i hin
     rw[if_pos hin]at hu'
     exact hcells.2 _ l u' hl' hu'
    ·rename_i hin
     rw[if_neg hin]at hu'
     exact hl.2 _ l u' hl' (by simpa using hu')
   obtain⟨cells',hf',hl'⟩:=ES (by simpa using e) (fun i' x' p' hx' hp'=>hp (i'+1) x' p' (by simpa using hx') (by simpa using hp')) hnew hf
   refine⟨cells',?_,hl'⟩
   simp only[Instr.fill,hpos]
   rw[if_neg hcond]
   exact hf'
  ·cases hf
theorem Kc (s:SR Γ M0 base σ a w ρ){t:TypeId}{parts:Array (Nat×Operand)}{d:Md}{ao:AOp}{v:V}{call:Nat→List V→Option V}
 (hc:eV P kf d (.build t parts)=some ao) (hf:bj call σ ao=some v):
 ∃u,(Instr.build t (parts.map fun x=>(x.1,a.eval x.2))).run P w= .ok u w∧VR (Mu M0 ρ σ.h) w ρ σ.h v u:=by
 simp only[eV]at hc
 split at hc
 ·rename_i fs v0 ps hu hz hps
  split at hc
  ·rename_i cs hcs
   split at hc
   ·rename_i hall
    cases hc
    simp only[bj]at hf
    split at hf
    ·rename_i cs' hfill
     cases hf
     obtain⟨i,hi,hz'⟩:∃i,P.info? t=some i∧i.zero=some v0:=by
      unfold m4 at hz
      cases hi:P.info? t with
      |none=>simp[hi]at hz
      |some i=>simp[hi]at hz;exact⟨i,rfl,hz⟩
     have hplaces:∃places:List (Nat×Nat),fs.toList.mapM (fun f=>(P.info? f.type).map fun i=>(f.offset,i.size))=some places∧∀(j:Nat)f,fs.toList[j]? =some f→∃n,o7 P f.type=some n∧places[j]? =some (f.offset,n):=by
      clear hps hfill hu
      revert hall
      generalize fs.toList=fl
      intro hall
      induction fl with
      |nil=>exact⟨[],rfl,fun j f hj=>by simp at hj⟩
      |cons f fl ih=>
       simp only[Zq,Zm]at hall
       obtain⟨pl,h1,h2⟩:=ih hall.2
       obtain⟨n,hn⟩:=Option.isSome_iff_exists.1 hall.1
       obtain⟨i',hi',hs'⟩:∃i',P.info? f.type=some i'∧i'.size=n:=by
        unfold o7 at hn
        cases hi':P.info? f.type with
        |none=>simp[hi']at hn
        |some i'=>simp[hi']at hn;exact⟨i',rfl,hn⟩
       refine⟨(f.offset,n)::pl,by simp[List.mapM_cons,hi',hs',h1],fun j f' hj=> ?_⟩
       cases j with
       |zero=>simp at hj;subst hj;exact⟨n,hn,rfl⟩
       |succ j=>simpa using h2 j f' (by simpa using hj)
     obtain⟨places,hpl1,hpl2⟩:=hplaces
     obtain⟨cells',hfl,hls⟩:=ES (w:=w) (ρ:=ρ) (M:=Mu M0 ρ σ.h) (h:=σ.h) (place:=(places.toArray[·]?)) (parts:=parts.toList.map fun x=>(x.1,a.eval x.2)) (cells:=v0.cells) (cs:=cs)
      (by simp[eT hps]) (fun i' x p hx hp=>by
       simp only[Zp,Zj]at hx hp
       obtain⟨x0,hx0,rfl⟩:=hx
       obtain⟨p0,hp0,rfl⟩:=hp
       obtain⟨p1,hp1,hp2⟩:=ib hps i' x0 hx0
       rw[hp0]at hp1;cases hp1
       split at hp2
       ·rename_i f y hfd hy
        simp only[Zj]at hp2
        obtain⟨n,hn,rfl⟩:=hp2
        simp only
        have hfs:fs.toList[x0.1]? =some f:=by
         unfold AY at hfd
         rw[hu]at hfd
         simpa using hfd
        obtain⟨n',hn',hp⟩:=hpl2 _ _ hfs
        rw[hn]at hn';cases hn'
        exact⟨by simpa using hp,aw s hy⟩
       ·cases hp2) (pD hcs) hfill
     refine⟨.agg cells',run_build w t _ _ ?_,⟨cells',rfl,hls⟩⟩
     unfold Program.built
     simp only[hi,hu,hz',hpl1]
     simpa using hfl
    ·cases hf
   ·cases hc
  ·cases hc
 ·rename_i N e v0 hu hz hps
  split at hc
  ·rename_i cs n hcs hn
   cases hc
   simp only[bj]at hf
   split at hf
   ·rename_i cs' hfill
    cases hf
    obtain⟨i,hi,hz'⟩:∃i,P.info? t=some i∧i.zero=some v0:=by
     unfold m4 at hz
     cases hi:P.info? t with
     |none=>simp[hi]at hz
     |some i=>simp[hi]at hz;exact⟨i,rfl,hz⟩
    obtain⟨i2,hi2,hs2⟩:∃i2,P.info? e=some i2∧i2.size=n:=by
     unfold o7 at hn
     cases hi':P.info? e with
     |none=>simp[hi']at hn
     |some i'=>simp[hi']at hn;exact⟨i',rfl,hn⟩
    have hp0:parts.toList=[]:=by
     have:=eT hps
     exact List.length_eq_zero_iff.1 (by simpa using this.symm)
    simp only[Yb,dA]at hfill
    cases hfill
    refine⟨.agg v0.cells,run_build w t _ _ ?_,⟨v0.cells,rfl,pD hcs⟩⟩
    unfold Program.built
    simp[hi,hu,hz',hi2,hp0,Instr.fill]
   ·cases hf
  ·cases hc
 ·cases hc
theorem oX (k:IntKind){i:Int}{y:Nat}(code:BoundsCode)(h0:0≤i)(h1:i≤y):(Instr.sliceBound (.int k i) y code).run P w= .ok i.toNat w:=by
 simp[Instr.sliceBound,asIntOf,h0,h1]
theorem Ni (s:SR Γ M0 base σ a w ρ){t:TypeId}{x:Operand}{lo hi mx:Option Operand}{d:Md}{ao:AOp}{v:V}{call:Nat→List V→Option V}
 (hc:eV P kf d (.slice t x lo hi mx)=some ao) (hn:∀z x lo hi,ao≠ .slcF z x lo hi) (hf:bj call σ ao=some v):
 ∃u,(Instr.sliceAt t (a.eval x) (lo.map a.eval) (hi.map a.eval) (mx.map a.eval)).run P w= .ok u w∧VR (Mu M0 ρ σ.h) w ρ σ.h v u:=by
 simp only[eV]at hc
 split at hc
 ·rename_i y lo' hi' hu hx hlo hhi
  cases hc
  simp only[bj]at hf
  split at hf
  ·rename_i st hst
   obtain hxu:=(aw s hx).str hst
   have hsz:(⟨st.toArray⟩:ByteArray).size=st.length:=by simp[ByteArray.size]
   have bnd:∀{o:Option Operand}{os:List Opd}{n:Int}(def':Int),fy gl o.toList=some os→
    bh σ def' os.head? =some n→(o=none∧n=def')∨∃oo k,o=some oo∧a.eval oo= .int k n:=by
    intro o os n def' ho hn
    cases o with
    |none=>
     simp[fy]at ho;subst ho
     simp[bh]at hn
     exact .inl ⟨rfl,hn.symm⟩
    |some oo=>
     simp only[Option.toList,fy]at ho
     split at ho
     ·rename_i y' ys' h1 h2
      cases h2;cases ho
      simp only[List.head?_cons,bh]at hn
      split at hn
      ·rename_i k n' heq
       cases hn
       exact .inr ⟨oo,k,rfl,(aw s h1).int heq⟩
      ·cases hn
     ·cases ho
   split at hf
   ·rename_i l r hl hr
    split at hf
    ·rename_i hb
     obtain⟨h0,h1,h2⟩:=hb
     cases hf
     have hL:=bnd 0 hlo hl
     have hR:=bnd (st.length:Int) hhi hr
     refine⟨.string ⟨((st.drop l.toNat).take (r.toNat-l.toNat)).toArray⟩,?_,VR.mkStr _⟩
     have hex:(⟨st.toArray⟩:ByteArray).extract l.toNat r.toNat=⟨((st.drop l.toNat).take (r.toNat-l.toNat)).toArray⟩:=by
      apply ByteArray.ext
      simp[ByteArray.data_extract,List.extract_eq_take_drop]
     have e1:(Instr.sliceBounds false st.length st.length (lo.map a.eval) (hi.map a.eval) none).run P w= .ok (l.toNat,r.toNat,st.length) w:=by
      simp only[Instr.sliceBounds,Sem.run_bind,Sem.run_pure,Result.andThen_ok,Z0,if_false,Option.isSome_none]
      rcases hR with⟨rfl,rfl⟩|⟨oo,k,rfl,ho⟩
      ·rcases hL with⟨rfl,rfl⟩|⟨oo,k,rfl,ho⟩
       ·simp
       ·simp[ho,oX k _ h0 (show l≤(st.length:Int) by omega)]
      ·rcases hL with⟨rfl,rfl⟩|⟨oo',k',rfl,ho'⟩
       ·simp[ho,oX k _ (show(0:Int)≤r by omega) h2]
       ·simp[ho,ho',oX k _ (show(0:Int)≤r by omega) h2,oX k' _ h0 (show l≤(r.toNat:Int) by omega)]
     rw[hxu]
     simp only[Instr.sliceAt,Sem.run_bind,run_underlying hu,Result.andThen_ok,Instr.slice,Option.map_none,Option.isSome_none,Z0,if_false,hsz,e1,Sem.run_pure,hex]
    ·cases hf
   ·cases hf
  ·cases hf
 ·split at hc
  ·split at hc
   ·cases hc
   ·cases hc
    by_cases q:d.st=true
    ·exact absurd (by rw[if_pos q]) (hn _ _ _ _)
    ·rw[if_neg q]at hf;cases hf
  ·cases hc
 ·cases hc
end
end Gi
