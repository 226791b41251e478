/- Of this proof. -/
import Derived.Test.YtpfadfkomcbecaaGreatGkq
import Derived.Test.YtpfadfkomcbecaaGreatGkt
import Derived.Test.YtpfadfkomcbecaaGreatGlB
set_option linter.unusedSimpArgs false
set_option linter.unusedVariables false
namespace Gi
open Go Go.RowKit
set_option maxHeartbeats 8000000
set_option maxRecDepth 4000
attribute [local simp] start sj bf bU dQ fY dP fX f7 f6 uH uQ uI uR uJ uS uK uT uL uU uM uV uN uW uO uX uP uY V.cells plain bm gu isInt isStr isBool bin cQ jJ cR jK fZ un asList L.view ap V.view viewL aV au cU bX bN comp aK bq dw co bz bw bx bI bi cq aW bD aR aX bG cr bF bC bH V.flat L.flat dG dk bt putAt thaw thawL thawT V.ow f5 dU dV cS f4 cT dS freezeVs freezeLs freezeL V.mut L.mut aJ eS iO aN bd aG dj bK bg bQ L.ren aT dH ca dL bO bB wp_seq wp_block bv dY cW bY cX wp_skip wp_exit wp_ret cG cE cP cH dd de db cj aU L.notArr aQ aO aP dX bn storeD a9 fR bo cD be nX L.mov L.closed V.closed PV.bare PV.flat
abbrev rq (s:List UInt8):Bool:=qj s 30 true
theorem vK {s:List UInt8}(h:s.length≤maxLen):ag Ph aF 389 [fJ s]=some (ar (rq s)):=by
 refine ae (fn:=lG) rfl ?_
 simp(maxSteps:=9999999) [lG,sJ h]
theorem wb {s:List UInt8}(h:s.length≤maxLen):ag Ph aF 386 [fJ s]=some (ar (rq s)):=by
 refine ae (fn:=lU) rfl ?_
 simp +contextual (maxSteps:=9999999) [lU]
 refine aA aM Cl.fin [.t,.f,.f,.t,.f,.f,.f,.f,.f,.f,.f,.f,.f,.f,.f,.f,.f,.f,.f,.f,.f,.f,.f,.f,.f,.f,.f,.f,.f] (fun k=>[(3,aa .i64 k)]) s.length (KP true s) rfl (by simp) (fun k hk _=> ?_) (fun _ hp=> ?_)
 ·simp +contextual (maxSteps:=9999999) [gU,KP,rq,qj,hk,aD h hk,aS hk]
 ·simp +contextual (maxSteps:=9999999) [gU,rq,qj,hp,br]
def ph (x:XResponse):Bool:=rg x.type 1 4&&(rg x.status 0 999&&(rg x.version 0 1000000000000&& !(dK 60 x.body.length)))
theorem iJ (x:XResponse):ag Ph aF 403 [x.v]=some (ar (ph x)):=by
 refine ae (fn:=lH) rfl ?_
 simp +contextual (maxSteps:=9999999) [lH,a8,ph,bp]
theorem wc (x:XResponse):ag Ph aF 408 [x.v]=some (ar (ph x)):=by
 refine ae (fn:=lV) rfl ?_
 simp +contextual (maxSteps:=9999999) [lV,br,ph,bp]
def Ju (x:XWrite):Bool:=rg x.dev 1 1000000&&(rg x.seq 1 1000000&&(qE x.key&&(cC x.field&&rg x.n 0 1000000000)))
theorem mE {x:XWrite}(h:x.Ok maxLen):ag Ph aF 390 [x.v]=some (ar (Ju x)):=by
 refine ae (fn:=js) rfl ?_
 simp +contextual (maxSteps:=9999999) [js,a8,nh h.2.2.1,bj h.2.2.2.1,Ju]
theorem mH {x:XWrite}(h:x.Ok maxLen):ag Ph aF 383 [x.v]=some (ar (Ju x)):=by
 refine ae (fn:=jv) rfl ?_
 simp +contextual (maxSteps:=9999999) [jv,br,ni h.2.2.1,cf h.2.2.2.1,Ju]
def wq (a b:XBucket):Bool:=Op.bytesLess a.site b.site||(a.site==b.site&&Op.bytesLess a.top b.top)
theorem sF (a b:XBucket):ag Ph aF 388 [a.v,b.v]=some (ar (wq a b)):=by
 refine ae (fn:=j0) rfl ?_
 simp +contextual (maxSteps:=9999999) [j0,wq]
theorem BZ (a b:XBucket):ag Ph aF 385 [a.v,fJ b.site,fJ b.top]=some (ar (wq a b)):=by
 refine ae (fn:=pa) rfl ?_
 simp +contextual (maxSteps:=9999999) [pa,wq]
def Lv :List (List UInt8):=[[98,97,110,107],[110,101,119,115],[115,104,111,112]]
theorem Af :ag Ph aF 181 []=some (.one (.own 1 (Lv.map vY))):=by
 refine ae (fn:=nO) rfl ?_
 simp(maxSteps:=9999999) [nO,Lv,vY]
theorem DK {us:List (List UInt8)}(hl:us.length≤maxLen)(x:List UInt8):ag Ph aF 182 [bu (us.map vY),fJ x]=some (aa .i64 (gv (fun u=>x==u) us)):=by
 refine ae (fn:=fF) rfl ?_
 simp +contextual (maxSteps:=9999999) [fF]
 refine aA aM Cl.fin [.t,.t,.f,.f,.f,.f,.f,.t,.t,.f,.f,.f,.f,.f,.f,.f,.f,.f,.f] (fun k=>[(8,aa .i64 k)]) us.length (iu (fun u=>x==u) us) rfl (by simp) (fun k hk hj=> ?_) (fun hj _=> ?_)
 ·have hf:=vE hk hj
  have hs:(us.map vY)[k]'(by simpa using hk)=[.str us[k]]:=by simp[vY]
  cases hg:(x==us[k])
  ·simp(maxSteps:=9999999) [cL,iu,hk,hg,aD hl hk,aS hk,vY]
  ·have hf2:=hf hg
   have ha:iu (fun u=>x==u) us k=true:=by simp only[iu,hk,List.getElem?_eq_getElem,hg]
   generalize gv (fun u=>x==u) us=F at hf2⊢
   generalize iu (fun u=>x==u) us=A at ha⊢
   simp(maxSteps:=9999999) [cL,ha,hk,hg,hf2,aD hl hk,aS hk,vY]
 ·simp +contextual (maxSteps:=9999999) [cL,zp hj]
def zY (s:List UInt8):Int:=gv (fun u=>s==u) Lv
theorem vL (s:List UInt8):ag Ph aF 154 [fJ s]=some (aa .i64 (zY s)):=by
 have e1:=DK (us:=Lv) (by decide) s
 simp only[Lv,List.map_cons,List.map_nil,vY]at e1
 refine ae (fn:=lI) rfl ?_
 simp(maxSteps:=9999999) [lI,e1,zY,Lv]
def GU (l v:Int):Bool:= !(rg v 0 1000000000000)||(!(v==0)&& !(dK l v))
def Q6 (l v:Int):Int:=if v=0 then l else v
def Oc (V:List Int)(k:Nat):Int:=(V.take k).foldl Q6 0
def GV (V:List Int)(k:Nat):Bool:=match V[k]? with
 |some v=>GU (Oc V k) v
 |none=>false
def DQ (r:XRegistration):Bool:= !(fT [r.active,r.waiting,r.installing].length (GV [r.active,r.waiting,r.installing]))&&cC r.site
theorem Rm {l v:Int}(h:GU l v=true):(rg v 0 1000000000000=true→(v==0)=false)∧(rg v 0 1000000000000=true→dK l v=false):=by
 refine⟨fun g=> ?_,fun g=> ?_⟩<;>rw[GU,g]at h<;>simp at h
 ·simpa using h.1
 ·exact h.2
theorem Pg {l v:Int}(h:GU l v=false)(hl:0≤l):rg v 0 1000000000000=true∧((v==0)=false→dK l v=true)∧(if l<v then v else l)=Q6 l v∧0≤Q6 l v:=by
 simp only[GU,Bool.or_eq_false_iff,Bool.not_eq_false',Bool.and_eq_false_iff,beq_iff_eq]at h
 obtain⟨h1,h2⟩:=h
 unfold Q6
 by_cases z:v=0
 ·rw[if_pos z];subst z;exact⟨h1,fun q=>by simp at q,by rw[if_neg (by omega)],hl⟩
 ·rw[if_neg z]
  have h3:=h2.resolve_left z
  have:=of_decide_eq_true h3
  exact⟨h1,fun _=>h3,by rw[if_pos this],by omega⟩
theorem PS {V:List Int}{k:Nat}(hk:k<V.length):Oc V (k+1)=Q6 (Oc V k) V[k]:=by
 unfold Oc;rw[List.take_succ_eq_append_getElem hk,List.foldl_append];rfl
theorem HD {V:List Int}:∀{k:Nat},k≤V.length→(∀j,j<k→GV V j=false)→0≤Oc V k
 |0,_,_=>Int.le_refl 0
 |k+1,hk,hj=>by
  have ih:=HD (V:=V) (k:=k) (by omega) (fun j h=>hj j (by omega))
  have hb:=hj k (by omega)
  have hk':k<V.length:=hk
  simp only[GV,hk',List.getElem?_eq_getElem]at hb
  rw[PS hk']
  exact(Pg hb ih).2.2.2
theorem rp {r:XRegistration}(h:r.Ok maxLen):ag Ph aF 395 [r.v]=some (ar (DQ r)):=by
 have e1:=bj h.1
 unfold DQ
 obtain⟨V,hV⟩:∃V,V=[r.active,r.waiting,r.installing]:=⟨_,rfl⟩
 have hR:[[PV.int .i64 r.active],[PV.int .i64 r.waiting],[PV.int .i64 r.installing]]=V.map tV:=by rw[hV];rfl
 have hl:V.length=3:=by rw[hV];rfl
 rw[←hV]
 refine ae (fn:=iV) rfl ?_
 simp(maxSteps:=9999999) [iV]
 rw[hR]
 clear hR hV
 refine aA aM Cl.fin [.f,.t,.f,.t,.f,.f,.f,.f,.f,.f,.f,.f,.t,.t,.t,.f,.f,.f,.f,.f,.f,.f,.f,.f,.f,.f,.f,.f,.f,.f,.f,.f,.f,.f,.f,.f,.f] (fun k=>[(3,aa .i64 (Oc V k)),(14,aa .i64 k)]) V.length (GV V) rfl (by simp[Oc,hl]) (fun k hk hj=> ?_) (fun _ hp=> ?_)
 ·have hpos:=HD (Nat.le_of_lt hk) hj
  have hs:=PS hk
  have hb:GV V k=GU (Oc V k) V[k]:=by simp[GV,hk]
  have e3:=a8 V[k] 0 1000000000000
  have w:=aD (n:=V.length) (by rw[hl];decide) hk
  have lk:dK (k:Int) 3=true:=mG (by omega)
  have hk3:k<3:=by omega
  rw[hb,hs]
  generalize Oc V k=l at hpos⊢
  generalize hv:V[k]=v at e3⊢
  cases b:GU l v
  ·obtain⟨g,z,mx,_⟩:=Pg b hpos
   rw[g]at e3
   cases z0:(v==0)
   ·have z1:=z z0
    have nx:Q6 l v=v:=if_neg (by simpa using z0)
    simp(maxSteps:=9999999) [cK,hk,hk3,hl,hv,tV,e3,z0,z1,mx,nx,w,lk]
   ·have nx:Q6 l v=l:=if_pos (by simpa using z0)
    simp(maxSteps:=9999999) [cK,hk,hk3,hl,hv,tV,e3,z0,mx,nx,w,lk]
  ·obtain⟨q1,q2⟩:=Rm b
   cases g:rg v 0 1000000000000<;>rw[g]at e3
   ·simp +contextual (maxSteps:=9999999) [cK,hk,hk3,hl,hv,tV,e3,w,lk]
   ·have q3:=q1 g
    have q4:=q2 g
    simp +contextual (maxSteps:=9999999) [cK,hk,hk3,hl,hv,tV,e3,q3,q4,w,lk]
 ·rw[hl]at hp
  simp(maxSteps:=9999999) [cK,hp,hl,e1,show dK 3 3=false from rfl]
theorem rJ {r:XRegistration}(h:r.Ok maxLen):ag Ph aF 391 [r.v]=some (ar (DQ r)):=by
 have e1:=cf h.1
 unfold DQ
 obtain⟨V,hV⟩:∃V,V=[r.active,r.waiting,r.installing]:=⟨_,rfl⟩
 have hR:[[PV.int .i64 r.active],[PV.int .i64 r.waiting],[PV.int .i64 r.installing]]=V.map tV:=by rw[hV];rfl
 have hl:V.length=3:=by rw[hV];rfl
 rw[←hV]
 refine ae (fn:=iZ) rfl ?_
 simp(maxSteps:=9999999) [iZ]
 rw[hR]
 clear hR hV
 refine aA aM Cl.fin [.f,.t,.f,.t,.t,.t,.f,.f,.f,.f,.f,.f,.f,.f,.f,.f,.f,.f,.f,.f,.f,.f,.f,.f,.f,.f,.f,.f,.f,.f,.f,.f,.f,.f,.f,.f,.f,.f,.f,.f,.f,.f,.f,.f,.f,.f,.f,.f,.f,.f,.f,.f] (fun k=>[(3,aa .i64 (Oc V k)),(5,aa .i64 k)]) V.length (GV V) rfl (by simp[Oc,hl]) (fun k hk hj=> ?_) (fun _ hp=> ?_)
 ·have hpos:=HD (Nat.le_of_lt hk) hj
  have hs:=PS hk
  have hb:GV V k=GU (Oc V k) V[k]:=by simp[GV,hk]
  have e3:=br V[k] 0 1000000000000
  have w:=aD (n:=V.length) (by rw[hl];decide) hk
  have lk:dK (k:Int) 3=true:=mG (by omega)
  have hk3:k<3:=by omega
  rw[hb,hs]
  generalize Oc V k=l at hpos⊢
  generalize hv:V[k]=v at e3⊢
  cases b:GU l v
  ·obtain⟨g,z,mx,_⟩:=Pg b hpos
   rw[g]at e3
   cases z0:(v==0)
   ·have z1:=z z0
    have nx:Q6 l v=v:=if_neg (by simpa using z0)
    simp(maxSteps:=9999999) [cM,hk,hk3,hl,hv,tV,e3,z0,z1,mx,nx,w,lk]
   ·have nx:Q6 l v=l:=if_pos (by simpa using z0)
    simp(maxSteps:=9999999) [cM,hk,hk3,hl,hv,tV,e3,z0,mx,nx,w,lk]
  ·obtain⟨q1,q2⟩:=Rm b
   cases g:rg v 0 1000000000000<;>rw[g]at e3
   ·simp +contextual (maxSteps:=9999999) [cM,hk,hk3,hl,hv,tV,e3,w,lk]
   ·have q3:=q1 g
    have q4:=q2 g
    simp +contextual (maxSteps:=9999999) [cM,hk,hk3,hl,hv,tV,e3,q3,q4,w,lk]
 ·rw[hl]at hp
  simp(maxSteps:=9999999) [cM,hp,hl,e1,show dK 3 3=false from rfl]
def Sb (fs:List XField)(nm:List UInt8):Nat:=fs.findIdx fun f=> !(Op.bytesLess f.name nm)
def SP (fs:List XField)(nm:List UInt8)(n:Int):List XField:=match fs[Sb fs nm]? with
 |some f=>if f.name=nm then fs.set (Sb fs nm) ⟨nm,n⟩else fs.take (Sb fs nm)++(⟨nm,n⟩::fs.drop (Sb fs nm))
 |none=>fs.take (Sb fs nm)++(⟨nm,n⟩::fs.drop (Sb fs nm))
def setR (fs:List XField)(nm:List UInt8)(n:Int):List XField×Bool:=cond (nV fs&&nV (SP fs nm n)) (SP fs nm n,true) (fs,false)
theorem QM {α:Type}{p:α→Bool}{xs:List α}(h:gv p xs= -1):∀x∈xs,p x=false:=fun x hx=>by
 unfold gv at h
 cases q:xs.findIdx? p with
 |none=>rw[List.findIdx?_eq_none_iff]at q;exact q x hx
 |some i=>rw[q]at h;simp only at h;omega
theorem vT {j:Nat}:dK (j:Int) 0=false:=xD (by omega)
def gN (f:List UInt8)(x:XItem):Int×Bool:=pG x.rcd.fs f
def uz (f:List UInt8)(a b:XItem):Bool:=dK (gN f a).1 (gN f b).1||((gN f a).1==(gN f b).1&&dK (Ns a.key b.key) 0)
def Ny (f:List UInt8)(x:XItem)(out:List XItem):Nat→Nat
 |0=>0
 |n+1=>match out[n]? with
  |none=>n+1
  |some y=>cond (uz f x y) (Ny f x out n) (n+1)
theorem G4 {f:List UInt8}{x:XItem}{out:List XItem}:∀n,Ny f x out n≤n
 |0=>Nat.le_refl _
 |n+1=>by
  unfold Ny
  cases out[n]? with
  |none=>exact Nat.le_refl _
  |some y=>
   cases h:uz f x y with
   |true=>simp only[h,cond_true];exact Nat.le_succ_of_le (G4 n)
   |false=>simp only[h,cond_false];exact Nat.le_refl _
theorem Cu {f:List UInt8}{x:XItem}{out:List XItem}:∀n,n≤out.length→∀p,Ny f x out n≤p→∀(hp:p<n)(ho:p<out.length),uz f x out[p]=true
 |0,_,p,_,hp,_=>by omega
 |n+1,hn,p,h,hp,ho=>by
  unfold Ny at h
  have hn':n<out.length:=by omega
  rw[List.getElem?_eq_getElem hn']at h
  simp only at h
  cases q:uz f x out[n]with
  |true=>
   rw[q,cond_true]at h
   by_cases e:p=n
   ·subst e;exact q
   ·exact Cu n (by omega) p h (by omega) ho
  |false=>rw[q,cond_false]at h;omega
theorem Cv {f:List UInt8}{x:XItem}{out:List XItem}:∀n,n≤out.length→∀j,Ny f x out n=j+1→∃h:j<out.length,uz f x out[j]=false
 |0,_,j,h=>by simp[Ny]at h
 |n+1,hn,j,h=>by
  unfold Ny at h
  have hn':n<out.length:=by omega
  rw[List.getElem?_eq_getElem hn']at h
  simp only at h
  cases q:uz f x out[n]with
  |true=>rw[q,cond_true]at h;exact Cv n (by omega) j h
  |false=>
   rw[q,cond_false]at h
   obtain rfl:n=j:=by omega
   exact⟨hn',q⟩
def DO (out:List XItem)(x:XItem)(p:Nat):List XItem:=out.take p++x::out.drop p
def kE (f:List UInt8)(out:List XItem)(x:XItem):List XItem:=cond (gN f x).2 (DO out x (Ny f x out out.length)) out
def na (f:List UInt8)(xs:List XItem):List XItem:=xs.foldl (kE f) []
theorem Gr {f:List UInt8}{xs:List XItem}{k:Nat}(hk:k<xs.length):na f (xs.take (k+1))=kE f (na f (xs.take k)) xs[k]:=by
 unfold na
 rw[List.take_succ_eq_append_getElem hk,List.foldl_append]
 rfl
theorem Gs (out:List XItem)(x:XItem)(p:Nat):(DO out x p).map XItem.e=(out.map XItem.e).take p++x.e::(out.map XItem.e).drop p:=by simp[DO,List.map_take,List.map_drop]
theorem N4 {out:List XItem}{x y:XItem}{p:Nat}(h:y∈DO out x p):y=x∨y∈out:=by
 unfold DO at h
 rcases List.mem_append.1 h with h|h
 ·exact .inr (List.mem_of_mem_take h)
 ·rcases List.mem_cons.1 h with h|h
  ·exact .inl h
  ·exact .inr (List.mem_of_mem_drop h)
theorem N3 (out:List XItem)(x:XItem){p:Nat}(h:p≤out.length):(DO out x p).length=out.length+1:=by simp[DO];omega
theorem Js {f:List UInt8}{out:List XItem}{x y:XItem}(h:y∈kE f out x):y=x∨y∈out:=by
 unfold kE at h
 cases q:(gN f x).2 with
 |true=>rw[q,cond_true]at h;exact N4 h
 |false=>rw[q,cond_false]at h;exact .inr h
theorem uo {f:List UInt8}:∀(xs out:List XItem)(y:XItem),y∈xs.foldl (kE f) out→y∈xs∨y∈out
 |[],out,y,h=> .inr h
 |x::xs,out,y,h=>by
  rcases uo xs (kE f out x) y h with h|h
  ·exact .inl (List.mem_cons_of_mem _ h)
  ·rcases Js h with rfl|h
   ·exact .inl List.mem_cons_self
   ·exact .inr h
theorem xj {f:List UInt8}{xs:List XItem}{y:XItem}(h:y∈na f xs):y∈xs:=by
 rcases uo xs [] y h with h|h
 ·exact h
 ·cases h
theorem Jr {f:List UInt8}{out:List XItem}{x:XItem}:(kE f out x).length≤out.length+1:=by
 unfold kE
 cases(gN f x).2 with
 |true=>rw[cond_true,N3 _ _ (G4 _)];exact Nat.le_refl _
 |false=>rw[cond_false];omega
theorem um {f:List UInt8}:∀(xs out:List XItem),(xs.foldl (kE f) out).length≤out.length+xs.length
 |[],out=>by simp
 |x::xs,out=>by
  have h1:=um (f:=f) xs (kE f out x)
  have h2:=Jr (f:=f) (out:=out) (x:=x)
  simp only[List.foldl_cons,List.length_cons]
  omega
theorem xi (f:List UInt8)(xs:List XItem):(na f xs).length≤xs.length:=by
 have:=um (f:=f) xs []
 simpa[na]using this
def rY (l:List XItem)(k:Nat):XKey:=match l[k]? with
 |some x=>x.key
 |none=>⟨0,0,[]⟩
def Qw (f:List UInt8)(l:List XItem)(k:Nat):Bool:=match l[k]?,l[k+1]? with
 |some a,some b=>(gN f a).1==(gN f b).1
 |_,_=>false
theorem Qj {f:List UInt8}{l:List XItem}{k:Nat}(hk:k+1<l.length):Qw f l k=((gN f (l[k]'(by omega))).1==(gN f l[k+1]).1):=by
 have:k<l.length:=by omega
 simp[Qw,hk,this]
def Qk (f:List UInt8)(l:List XItem):XKey×XKey×Bool:=match(List.range (l.length-1)).find? (Qw f l)with
 |some k=>(rY l k,rY l (k+1),true)
 |none=>(⟨0,0,[]⟩,⟨0,0,[]⟩,false)
theorem Ky {f:List UInt8}{l:List XItem}{k:Nat}(hk:k<l.length-1)(h:Qw f l k=true)(hn:∀j,j<k→Qw f l j=false):Qk f l=(rY l k,rY l (k+1),true):=by
 have:(List.range (l.length-1)).find? (Qw f l)=some k:=by
  rw[List.find?_range_eq_some]
  exact⟨h,List.mem_range.2 hk,fun j hj=>by simp[hn j hj]⟩
 simp only[Qk,this]
theorem Kx {f:List UInt8}{l:List XItem}(hn:∀j,j<l.length-1→Qw f l j=false):Qk f l=(⟨0,0,[]⟩,⟨0,0,[]⟩,false):=by
 have:(List.range (l.length-1)).find? (Qw f l)=none:=by
  rw[List.find?_range_eq_none]
  exact fun j hj=>by simp[hn j hj]
 simp only[Qk,this]
def Sg (t:XKey×XKey×Bool):V:= .tup [(true,[.pv (.int .i64 t.1.kind), .pv (.int .i64 t.1.n), .pv (.str t.1.text)]),(true,[.pv (.int .i64 t.2.1.kind), .pv (.int .i64 t.2.1.n), .pv (.str t.2.1.text)]),(false,[.pv (.bool t.2.2)])]
section
variable {B:Nat}{f:List UInt8}
theorem Hx {f:List UInt8}{a b:XItem}(ha:a.Ok maxLen)(hb:b.Ok maxLen):ag Ph aF 415 [a.v,b.v,fJ f]=some (ar (uz f a b)):=by
 have e1:=ik ha.2.1 f
 have e2:=ik hb.2.1 f
 have e3:=nU ha.1 hb.1
 unfold uz gN
 generalize pG a.rcd.fs f=u at e1⊢
 generalize pG b.rcd.fs f=v at e2⊢
 obtain⟨w,hw⟩:∃w,(u.1==v.1)=w:=⟨_,rfl⟩
 rw[hw]
 refine ae (fn:=kW) rfl ?_
 simp +contextual (maxSteps:=9999999) [kW,e1,e2,e3,hw]
theorem HO {f:List UInt8}{a b:XItem}(ha:a.Ok maxLen)(hb:b.Ok maxLen):ag Ph aF 414 [a.v,b.v,fJ f]=some (ar (uz f a b)):=by
 have e1:=il ha.2.1 f
 have e2:=il hb.2.1 f
 have e3:=nW ha.1 hb.1
 unfold uz gN
 generalize pG a.rcd.fs f=u at e1⊢
 generalize pG b.rcd.fs f=v at e2⊢
 obtain⟨w,hw⟩:∃w,(u.1==v.1)=w:=⟨_,rfl⟩
 rw[hw]
 refine ae (fn:=qg) rfl ?_
 simp +contextual (maxSteps:=9999999) [qg,e1,e2,e3,hw]
end
theorem Bz {B:Nat}(hB1:B≤1048576){s:XStore}(h:s.Ok B)(f:List UInt8):ag Ph aF 413 [s.v,fJ f]=some (.one (.own 4 ((na f s.items).map XItem.e))):=by
 have hB:B≤maxLen:=by unfold maxLen;omega
 have hl:s.items.length≤1048576:=Nat.le_trans h.2.1.1 hB1
 have hok:=h.2.1.2
 refine ae (fn:=oG) rfl ?_
 simp(maxSteps:=9999999) [oG]
 refine cy aM Cl.fin s.items.length [.f,.t,.f,.f,.f,.t,.f,.f,.f,.f,.f,.f,.f,.t,.t,.t,.f,.f,.f,.f,.f,.f,.f,.f,.f,.f,.f,.f,.f,.f,.f,.f,.f,.f,.f,.f,.f,.f,.f,.f,.f,.f,.f,.f,.f,.f,.f,.f,.f,.f,.f,.f] (fun k=>[(5, .one (.arr 0)),(15,aa .i64 k)]) (fun k=>[.arr 4 ((na f (s.items.take k)).map XItem.e)]) rfl ?_ ?_ ?_
 ·exact Kn.of [1] (by decide) (by simp[show na f []=[]from rfl]) (by simp)
 ·intro k hk
  have hx:=XItem.e.eq_1 s.items[k]
  have hkk:=hok _ (List.getElem_mem hk)
  have hkL:=XItem.Ok.mono hB hkk
  have f1:=ik (r:=s.items[k].rcd) hkL.2.1 f
  have f2:=qC hB1 hkk
  have hol:=Nat.le_trans (xi f (s.items.take k)) (by rw[List.length_take];exact Nat.min_le_left _ _)
  have hoo:∀y∈na f (s.items.take k),y.Ok B:=fun y hy=>hok y (List.mem_of_mem_take (xj hy))
  try dsimp only
  rw[Gr hk]
  generalize na f (s.items.take k)=out at hol hoo⊢
  unfold kE
  have hls:∀q(hq:q<out.length),_:=fun q hq=>Hx (f:=f) hkL (XItem.Ok.mono hB (hoo _ (List.getElem_mem hq)))
  have hgv:gN f s.items[k]=pG s.items[k].rcd.fs f:=rfl
  rw[hgv]
  generalize pG s.items[k].rcd.fs f=u at f1⊢
  obtain⟨u1,u2⟩:=u
  cases u2
  ·simp only[cond_false]
   simp(maxSteps:=9999999) [hJ,hk,aD (n:=s.items.length) (by unfold maxLen;omega) hk,aS hk,hx,f1]
  ·simp only[cond_true]
   have hd1:=G4 (f:=f) (x:=s.items[k]) (out:=out) out.length
   have hd2:=Cu (f:=f) (x:=s.items[k]) (out:=out) out.length (Nat.le_refl _)
   have hd3:=Cv (f:=f) (x:=s.items[k]) (out:=out) out.length (Nat.le_refl _)
   have hm:=Gs out s.items[k] (Ny f s.items[k] out out.length)
   rw[hm,hx]
   clear hm
   have m1:=eR (m:=out.length+1) (z:=56) (by omega) (by omega)
   generalize Ny f s.items[k] out out.length=d at hd1 hd2 hd3⊢
   simp(maxSteps:=9999999) [hJ,hk,aD (n:=s.items.length) (by unfold maxLen;omega) hk,aS hk,hx,f1]
   refine M2 aM Cl.kn (out.length-d) [.f,.t,.f,.f,.f,.t,.f,.t,.f,.f,.t,.f,.f,.t,.t,.t,.f,.f,.f,.f,.f,.f,.f,.f,.f,.f,.f,.f,.f,.f,.f,.f,.f,.f,.f,.f,.f,.f,.f,.f,.f,.f,.f,.f,.f,.f,.f,.f,.f,.f,.f,.f] (fun j=>[(10,aa .i64 ((out.length-j:Nat):Int))]) (fun _=>[.arr 4 (out.map XItem.e), .box [.pv (.int .i64 s.items[k].key.kind), .pv (.int .i64 s.items[k].key.n), .pv (.str s.items[k].key.text), .pv (.lst (s.items[k].rcd.fs.map XField.e))]]) 2 rfl ?_ ?_ ?_ ?_
   ·simp
   ·intro j hj
    obtain⟨q,hq⟩:∃q,out.length-j=q+1:=⟨out.length-j-1,by omega⟩
    have hq1:out.length-(j+1)=q:=by omega
    have hqo:q<out.length:=by omega
    have l1:=hls q hqo
    rw[hd2 q (by omega) hqo hqo]at l1
    have hy:=XItem.e.eq_1 out[q]
    have w4:dK 0 ((q:Int)+1)=true:=mG (by omega)
    have w5:IntKind.i64.wrap ((q:Int)+1-1)=(q:Int):=by rw[IntKind.wrap_i64];omega
    have w6:IntKind.i64.wrap (q:Int)=(q:Int):=by rw[IntKind.wrap_i64];omega
    try dsimp only
    rw[hq,hq1]
    clear hd2 hd3
    simp(maxSteps:=9999999) [f8,hk,hx,hy,hqo,l1,w4,w5,w6]
   ·have hz:out.length-(out.length-d)=d:=by omega
    try dsimp only
    rw[hz]
    cases d with
    |zero=>
     simp(maxSteps:=9999999) [f8,show dK 0 0=false from rfl]
    |succ q=>
     obtain⟨hqo,hlq⟩:=hd3 q rfl
     have l1:=hls q hqo
     rw[hlq]at l1
     have hy:=XItem.e.eq_1 out[q]
     have w4:dK 0 ((q:Int)+1)=true:=mG (by omega)
     have w5:IntKind.i64.wrap ((q:Int)+1-1)=(q:Int):=by rw[IntKind.wrap_i64];omega
     have w6:IntKind.i64.wrap (q:Int)=(q:Int):=by rw[IntKind.wrap_i64];omega
     simp(maxSteps:=9999999) [f8,hk,hx,hy,hqo,l1,w4,w5,w6]
   ·have hz:out.length-(out.length-d)=d:=by omega
    try dsimp only
    rw[hz]
    have hdi:(d:Int)≤(out.length:Int):=by omega
    simp(maxSteps:=9999999) [f2,hk,hx,aD (n:=s.items.length) (by unfold maxLen;omega) hk,hd1,hdi,m1,-eS]
    exact Kn.of [4] (by decide) (by simp) (by simp)
 ·try dsimp only
  rw[List.take_length]
  simp(maxSteps:=9999999) [hJ]
theorem BH {B:Nat}(hB1:B≤1048576){s:XStore}(h:s.Ok B)(f:List UInt8):ag Ph aF 409 [s.v,fJ f]=some (.one (.own 4 ((na f s.items).map XItem.e))):=by
 have hB:B≤maxLen:=by unfold maxLen;omega
 have hl:s.items.length≤1048576:=Nat.le_trans h.2.1.1 hB1
 have hok:=h.2.1.2
 refine ae (fn:=oM) rfl ?_
 simp(maxSteps:=9999999) [oM]
 refine cy aM Cl.fin s.items.length [.f,.t,.t,.f,.f,.t,.t,.f,.f,.f,.f,.f,.f,.f,.f,.f,.f,.f,.f,.f,.f,.f,.f,.f,.f,.f,.f,.f,.f,.f,.f,.f,.f,.f,.f,.f,.f,.f,.f,.f,.f,.f,.f,.f,.f,.f,.f,.f,.f,.f,.f,.f,.f,.f,.f,.f,.f,.f,.f,.f,.f,.f,.f,.f,.f,.f,.f,.f,.f,.f,.f,.f] (fun k=>[(5, .one (.arr 1)),(6,aa .i64 k)]) (fun k=>[.box [.pv (.str s.name), .pv (.lst (s.items.map XItem.e)), .pv (.int .i64 s.auto)], .arr 4 ((na f (s.items.take k)).map XItem.e)]) rfl ?_ ?_ ?_
 ·exact Kn.of [0,1] (by decide) (by simp[show na f []=[]from rfl]) (by simp)
 ·intro k hk
  have hx:=XItem.e.eq_1 s.items[k]
  have hkk:=hok _ (List.getElem_mem hk)
  have hkL:=XItem.Ok.mono hB hkk
  have f1:=il (r:=s.items[k].rcd) hkL.2.1 f
  have f2:=ta hB1 hkk
  have hol:=Nat.le_trans (xi f (s.items.take k)) (by rw[List.length_take];exact Nat.min_le_left _ _)
  have hoo:∀y∈na f (s.items.take k),y.Ok B:=fun y hy=>hok y (List.mem_of_mem_take (xj hy))
  try dsimp only
  rw[Gr hk]
  generalize na f (s.items.take k)=out at hol hoo⊢
  unfold kE
  have hls:∀q(hq:q<out.length),_:=fun q hq=>HO (f:=f) hkL (XItem.Ok.mono hB (hoo _ (List.getElem_mem hq)))
  have hgv:gN f s.items[k]=pG s.items[k].rcd.fs f:=rfl
  rw[hgv]
  generalize pG s.items[k].rcd.fs f=u at f1⊢
  obtain⟨u1,u2⟩:=u
  cases u2
  ·simp only[cond_false]
   simp(maxSteps:=9999999) [hX,hk,aD (n:=s.items.length) (by unfold maxLen;omega) hk,aS hk,hx,f1]
  ·simp only[cond_true]
   have hd1:=G4 (f:=f) (x:=s.items[k]) (out:=out) out.length
   have hd2:=Cu (f:=f) (x:=s.items[k]) (out:=out) out.length (Nat.le_refl _)
   have hd3:=Cv (f:=f) (x:=s.items[k]) (out:=out) out.length (Nat.le_refl _)
   have hm:=Gs out s.items[k] (Ny f s.items[k] out out.length)
   rw[hm,hx]
   clear hm
   have m1:=eR (m:=out.length+1) (z:=56) (by omega) (by omega)
   generalize Ny f s.items[k] out out.length=d at hd1 hd2 hd3⊢
   simp(maxSteps:=9999999) [hX,hk,aD (n:=s.items.length) (by unfold maxLen;omega) hk,aS hk,hx,f1]
   refine M2 aM Cl.kn (out.length-d) [.f,.t,.t,.f,.f,.t,.t,.f,.f,.t,.f,.f,.f,.f,.f,.f,.f,.f,.f,.f,.f,.f,.f,.f,.f,.f,.f,.f,.f,.f,.f,.f,.f,.f,.f,.f,.f,.f,.f,.f,.f,.f,.f,.f,.f,.f,.f,.f,.f,.f,.f,.f,.f,.f,.f,.f,.f,.f,.f,.f,.f,.f,.f,.f,.f,.f,.f,.f,.f,.f,.f,.f] (fun j=>[(9,aa .i64 ((out.length-j:Nat):Int))]) (fun _=>[.box [.pv (.str s.name), .pv (.lst (s.items.map XItem.e)), .pv (.int .i64 s.auto)], .arr 4 (out.map XItem.e)]) 2 rfl ?_ ?_ ?_ ?_
   ·simp
   ·intro j hj
    obtain⟨q,hq⟩:∃q,out.length-j=q+1:=⟨out.length-j-1,by omega⟩
    have hq1:out.length-(j+1)=q:=by omega
    have hqo:q<out.length:=by omega
    have l1:=hls q hqo
    rw[hd2 q (by omega) hqo hqo]at l1
    have hy:=XItem.e.eq_1 out[q]
    have w4:dK 0 ((q:Int)+1)=true:=mG (by omega)
    have w5:IntKind.i64.wrap ((q:Int)+1-1)=(q:Int):=by rw[IntKind.wrap_i64];omega
    have w6:IntKind.i64.wrap (q:Int)=(q:Int):=by rw[IntKind.wrap_i64];omega
    try dsimp only
    rw[hq,hq1]
    clear hd2 hd3
    simp(maxSteps:=9999999) [gh,hk,hx,hy,hqo,l1,w4,w5,w6]
   ·have hz:out.length-(out.length-d)=d:=by omega
    try dsimp only
    rw[hz]
    cases d with
    |zero=>
     simp(maxSteps:=9999999) [gh,show dK 0 0=false from rfl]
    |succ q=>
     obtain⟨hqo,hlq⟩:=hd3 q rfl
     have l1:=hls q hqo
     rw[hlq]at l1
     have hy:=XItem.e.eq_1 out[q]
     have w4:dK 0 ((q:Int)+1)=true:=mG (by omega)
     have w5:IntKind.i64.wrap ((q:Int)+1-1)=(q:Int):=by rw[IntKind.wrap_i64];omega
     have w6:IntKind.i64.wrap (q:Int)=(q:Int):=by rw[IntKind.wrap_i64];omega
     simp(maxSteps:=9999999) [gh,hk,hx,hy,hqo,l1,w4,w5,w6]
   ·have hz:out.length-(out.length-d)=d:=by omega
    try dsimp only
    rw[hz]
    have hdi:(d:Int)≤(out.length:Int):=by omega
    have t1:((out.map XItem.e).take d).all (fun e=>e.length==4)=true:=by rw[←List.map_take];exact dz (e:=XItem.e) (z:=4) (fun _=>rfl) _
    have t2:((out.map XItem.e).drop d).all (fun e=>e.length==4)=true:=by rw[←List.map_drop];exact dz (e:=XItem.e) (z:=4) (fun _=>rfl) _
    have t3:=dz (e:=XItem.e) (z:=4) (fun _=>rfl) out
    have n1:min d out.length=d:=Nat.min_eq_left hd1
    have n3:d+1+(out.length-d)=out.length+1:=by omega
    have m2:=eR (m:=d+1) (z:=56) (by omega) (by omega)
    have m3:=eR (m:=d) (z:=56) (by omega) (by omega)
    have n4:List.take (out.length-d) (List.drop d (List.map XItem.e out))=List.drop d (List.map XItem.e out):=List.take_of_length_le (by simp)
    simp(maxSteps:=9999999) [n4,f2,hk,hx,aD (n:=s.items.length) (by unfold maxLen;omega) hk,hd1,hdi,t1,t2,t3,n1,n3,m1,m2,m3,-eS]
    exact Kn.of [0,7] (by decide) (by simp) (by simp)
 ·try dsimp only
  rw[List.take_length]
  simp(maxSteps:=9999999) [hX]
theorem tY {B:Nat}(hB1:B≤1048576){s:XStore}(h:s.Ok B)(f:List UInt8):ag Ph aF 406 [s.v,fJ f]=some (Sg (Qk f (na f s.items))):=by
 have hB:B≤maxLen:=by unfold maxLen;omega
 have e1:=Bz hB1 h f
 have hll:=Nat.le_trans (xi f s.items) (Nat.le_trans h.2.1.1 hB1)
 have hoo:∀y∈na f s.items,y.Ok maxLen:=fun y hy=>XItem.Ok.mono hB (h.2.1.2 y (xj hy))
 refine ae (fn:=kQ) rfl ?_
 generalize na f s.items=l at e1 hll hoo⊢
 unfold Sg
 simp(maxSteps:=9999999) [kQ,e1]
 refine aA aM Cl.fin [.f,.t,.f,.f,.t,.t,.f,.t,.t,.f,.f,.f,.f,.f,.f,.f,.f,.f,.f,.f,.f,.f,.f,.f,.f,.f,.f,.f,.f,.f,.f,.f,.f,.f,.f,.f,.f,.f,.f,.f,.f,.f,.f,.f,.f,.f,.f,.f,.f,.f,.f,.f,.f,.f,.f,.f,.f,.f,.f] (fun k=>[(8,aa .i64 ((k:Int)+1))]) (l.length-1) (Qw f l) rfl (by simp) (fun k hk hn=> ?_) (fun hp _=> ?_)
 ·have hk1:k+1<l.length:=by omega
  have hk0:k<l.length:=by omega
  obtain⟨i1,i2,i3,i4,i5,i6⟩:=nk (n:=l.length) (by unfold maxLen;omega) hk1
  have f1:=ik (r:=l[k].rcd) (hoo _ (List.getElem_mem hk0)).2.1 f
  have f2:=ik (r:=l[k+1].rcd) (hoo _ (List.getElem_mem hk1)).2.1 f
  have hx:=XItem.e.eq_1 l[k]
  have hy:=XItem.e.eq_1 l[k+1]
  have hq:=Ky (f:=f) hk
  have hpe:=Qj (f:=f) hk1
  unfold gN at hpe
  have ka:rY l k=l[k].key:=by simp[rY,hk0]
  have kb:rY l (k+1)=l[k+1].key:=by simp[rY,hk1]
  rw[hpe]
  rw[hpe,ka,kb]at hq
  generalize pG l[k].rcd.fs f=u at f1 hq⊢
  generalize pG l[k+1].rcd.fs f=v at f2 hq⊢
  cases hc:(u.1==v.1)
  ·simp(maxSteps:=9999999) [fo,hk0,hk1,hx,hy,i1,i2,i4,i5,i6,mG i6,f1,f2,hc]
  ·rw[hq hc hn]
   simp(maxSteps:=9999999) [fo,hk0,hk1,hx,hy,i1,i2,i4,i5,i6,mG i6,f1,f2,hc]
 ·rw[Kx hp]
  have hge:dK (((l.length-1:Nat):Int)+1) (l.length:Int)=false:=xD (by omega)
  simp(maxSteps:=9999999) [fo,hge]
theorem ue {B:Nat}(hB1:B≤1048576){s:XStore}(h:s.Ok B)(f:List UInt8):ag Ph aF 401 [s.v,fJ f]=some (Sg (Qk f (na f s.items))):=by
 have hB:B≤maxLen:=by unfold maxLen;omega
 have e1:=BH hB1 h f
 have hll:=Nat.le_trans (xi f s.items) (Nat.le_trans h.2.1.1 hB1)
 have hoo:∀y∈na f s.items,y.Ok maxLen:=fun y hy=>XItem.Ok.mono hB (h.2.1.2 y (xj hy))
 refine ae (fn:=k7) rfl ?_
 generalize na f s.items=l at e1 hll hoo⊢
 unfold Sg
 simp(maxSteps:=9999999) [k7,e1]
 refine aA aM Cl.fin [.f,.t,.f,.f,.t,.t,.f,.t,.t,.f,.f,.f,.f,.f,.f,.f,.f,.f,.f,.f,.f,.f,.f,.f,.f,.f,.f,.f,.f,.f,.f,.f,.f,.f,.f,.f,.f,.f,.f,.f,.f,.f,.f,.f,.f,.f,.f,.f,.f,.f,.f,.f,.f,.f,.f,.f,.f,.f,.f] (fun k=>[(8,aa .i64 ((k:Int)+1))]) (l.length-1) (Qw f l) rfl (by simp) (fun k hk hn=> ?_) (fun hp _=> ?_)
 ·have hk1:k+1<l.length:=by omega
  have hk0:k<l.length:=by omega
  obtain⟨i1,i2,i3,i4,i5,i6⟩:=nk (n:=l.length) (by unfold maxLen;omega) hk1
  have f1:=il (r:=l[k].rcd) (hoo _ (List.getElem_mem hk0)).2.1 f
  have f2:=il (r:=l[k+1].rcd) (hoo _ (List.getElem_mem hk1)).2.1 f
  have hx:=XItem.e.eq_1 l[k]
  have hy:=XItem.e.eq_1 l[k+1]
  have hq:=Ky (f:=f) hk
  have hpe:=Qj (f:=f) hk1
  unfold gN at hpe
  have ka:rY l k=l[k].key:=by simp[rY,hk0]
  have kb:rY l (k+1)=l[k+1].key:=by simp[rY,hk1]
  rw[hpe]
  rw[hpe,ka,kb]at hq
  generalize pG l[k].rcd.fs f=u at f1 hq⊢
  generalize pG l[k+1].rcd.fs f=v at f2 hq⊢
  cases hc:(u.1==v.1)
  ·simp(maxSteps:=9999999) [fp,hk0,hk1,hx,hy,i1,i2,i4,i5,i6,mG i6,f1,f2,hc]
  ·rw[hq hc hn]
   simp(maxSteps:=9999999) [fp,hk0,hk1,hx,hy,i1,i2,i4,i5,i6,mG i6,f1,f2,hc]
 ·rw[Kx hp]
  have hge:dK (((l.length-1:Nat):Int)+1) (l.length:Int)=false:=xD (by omega)
  simp(maxSteps:=9999999) [fp,hge]
end Gi
