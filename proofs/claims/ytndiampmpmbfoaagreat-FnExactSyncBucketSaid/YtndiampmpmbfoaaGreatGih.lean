/- A part. -/
import Derived.Test.YtndiampmpmbfoaaGreatGig
import Derived.Laws.MakeOwn
import Derived.Laws.AppendOwn
set_option linter.all false
namespace Gi
open Go
variable {KI:KF}
section
variable {Γ:Ctx}{P:Program}{M0:Nat->Prop}{base:Nat}{Z:St}{a:Act}{w:World}{J:List (Option Nat)}
def AOp.cA :AOp->Bool
 | .call _ _ _ _=>true
 | .bm _ _=>true
 | .bR _ _=>true
 | .cG _=>true
 | .insert _ _ _ _ _ _=>true
 | .c3 _ _ _ _=>true
 | .c2 _ _ _ _=>true
 | .bZ _ _=>true
 |_=>false
def tF {t:TypeId}{g:Bool}(h:kY P t=some g):(isAgg t).run P w= .ok g w:=by
 unfold kY at h
 split at h
 ·rename_i fs hu;cases h;simp[isAgg,run_underlying hu]
 ·rename_i n e hu;cases h;simp[isAgg,run_underlying hu]
 ·rename_i d h1 h2 hu
  cases h
  simp only[isAgg,Sem.run_bind,run_underlying hu,Result.andThen_ok]
  cases d<;>first|rfl|exact absurd hu (h1 _)|exact absurd hu (h2 _ _)
 ·cases h
def Ax (s:SR Γ M0 base Z a w J){t:TypeId}{x v:V}{u:Value}{g:Bool}{n:Nat}(hg:kY P t=some g)(hn:rS P t=some n)(r:VR (Mu M0 J Z.h) w J Z.h x u)(hl:bA Z.h g n x=some v):
 ∃u',(loadVar t (match u with| .pointer (some a)=>a|_=>⟨0,0,none⟩)).run P w= .ok u' w/\ (∃b o,u= .pointer (some ⟨b,o,none⟩))/\ VR (Mu M0 J Z.h) w J Z.h v u':=by
 obtain⟨b,o,rfl,h⟩:=OM s.hr hl r
 rcases h with⟨rfl,us,hlen,hr,hv⟩|⟨rfl,aG,u',hc,hv⟩
 ·refine⟨.agg us.toArray,?_,⟨b,o,rfl⟩,hv⟩
  have aH:(loadCells ⟨b,o,none⟩ n).run P w= .ok us.toArray w:=by
   have:=run_loadCells_list (P:=P) w ⟨b,o,none⟩ us (fun j v hv=>by rw[Addr.add_mid];exact hr j v hv)
   rwa[hlen]at this
  simp[loadVar,Sem.run_bind,tF hg,nA t hn,aH]
 ·refine⟨u',?_,⟨b,o,rfl⟩,hv⟩
  have:(load ⟨b,o,none⟩).run P w= .ok u' w:=by simp[load,Sem.run,hc]
  simp only[loadVar,Sem.run_bind,tF hg,Result.andThen_ok,Zy,if_false,this]
def GX {M:Nat->Prop}{h:List Y0}{t:TypeId}{g:Bool}{n off:Nat}{ls:List L}{v:V}{cs:Array Value}(hg:kY P t=some g)(hn:rS P t=some n)(r:tg M w J h ls cs.toList)(hc:gv g n off ls=some v):
 ∃u,(part t cs off).run P w= .ok u w/\ VR M w J h v u:=by
 rcases I7 hc r with⟨rfl,hle,hv⟩|⟨rfl,aG,u,hu,hv⟩
 ·refine⟨_,?_,hv⟩
  have e:cs.extract off (off+n)=((cs.toList.drop off).take n).toArray:=by
   apply Array.ext'
   simp[List.extract_eq_take_drop]
  simp only[part,Sem.run_bind,tF hg,Result.andThen_ok,if_true,nA t hn,Sem.run_pure,e]
 ·refine⟨u,?_,hv⟩
  have:cs[off]? =some u:=by simpa using hu
  simp[part,Sem.run_bind,tF hg,this]
def Mq :∀(ks ae:List EK)(ls ls':List L)(b:Bool),p5 (ks++ae) ls ls'=some b->ks.length<=ls.length/\ ks.length<=ls'.length/\ ∃b1 b2,p5 ks (ls.take ks.length) (ls'.take ks.length)=some b1/\ p5 ae (ls.drop ks.length) (ls'.drop ks.length)=some b2/\ b=(b1&&b2)
 |[],ae,ls,ls',b,h=>⟨by simp,by simp,true,b,rfl,by simpa using h,by simp⟩
 |k::ks,ae,[],_,b,h=>by simp[p5]at h
 |k::ks,ae,_::_,[],b,h=>by simp[p5]at h
 |k::ks,ae,l::ls,l'::ls',b,h=>by
  simp only[Zg,p5]at h
  split at h
  ·rename_i x y hx hy
   cases h
   obtain⟨h1,h2,b1,b2,h3,h4,rfl⟩:=Mq ks ae ls ls' y hy
   refine⟨by simpa using h1,by simpa using h2,x&&b1,b2,?_,by simpa using h4,by rw[Bool.and_assoc]⟩
   simp[p5,hx,h3]
  ·cases h
def W7 {l l':L}{y:Bool}(h:PT .b l l'=some y):∃a b,l= .pv (.bool a)/\ l'= .pv (.bool b)/\ y=(a==b):=by
 unfold PT at h
 split at h<;>simp_all
def W9 {l l':L}{y:Bool}(h:PT .s l l'=some y):∃a b,l= .pv (.str a)/\ l'= .pv (.str b)/\ y=(a==b):=by
 unfold PT at h
 split at h<;>simp_all
def W8 {l l':L}{y:Bool}(h:PT .i l l'=some y):∃k a b,l= .pv (.int k a)/\ l'= .pv (.int k b)/\ y=(a==b):=by
 unfold PT at h
 split at h<;>simp_all
 exact⟨_,_,⟨rfl,rfl⟩,_,⟨rfl,rfl⟩,h.2.symm⟩
def PU {n:Nat}{t:TypeId}{ks:List EK}(h:UO P n t=some ks):(kY P t=some true/\ ∃m fs,n=m+1/\ P.underlying t=some (.struct fs)/\ P.stoodInHeld t=false/\ Ri P (UO P m) fs.toList 0=some ks) \/(kY P t=some false/\ ((P.underlying t=some .bool/\ ks=[.b]) \/(∃k,P.underlying t=some (.int k)/\ ks=[.i]) \/(P.underlying t=some .string/\ ks=[.s]))):=by
 cases n with
 |zero=>simp[UO]at h
 |succ n=>
  unfold UO at h
  split at h
  ·rename_i hu;cases h;exact .inr ⟨by simp[kY,hu], .inl ⟨hu,rfl⟩⟩
  ·rename_i k hu;cases h;exact .inr ⟨by simp[kY,hu], .inr (.inl ⟨k,hu,rfl⟩)⟩
  ·rename_i hu;cases h;exact .inr ⟨by simp[kY,hu], .inr (.inr ⟨hu,rfl⟩)⟩
  ·rename_i fs hu
   split at h
   ·cases h
   ·rename_i hs
    exact .inl ⟨by simp[kY,hu],n,fs,rfl,hu,by simpa using hs,h⟩
  ·cases h
def Rr {M:Nat->Prop}{h:List Y0}:∀(n d:Nat)(t:TypeId)(ks:List EK)(x x':V)(u u':Value)(b:Bool),n<=d->UO P n t=some ks->p5 ks x.cells x'.cells=some b->VR M w J h x u->VR M w J h x' u'->
 (kY P t=some true->∃ls ls',x= .agg ls/\ x'= .agg ls')->(kY P t=some false->∃l l',x= .one l/\ x'= .one l')->(Op.equalIn d t u u').run P w= .ok b w:=by
 intro n
 induction n with
 |zero=>intro d t ks x x' u u' b _ h;simp[UO]at h
 |succ n ih=>
  intro d t ks x x' u u' b hd ht he r r' ha ho
  obtain⟨d,rfl⟩:∃d',d=d'+1:=⟨d-1,by omega⟩
  rcases PU ht with⟨ah,m,fs,hm,hu,af,aI⟩|⟨ah,hk⟩
  ·obtain rfl:m=n:=by omega
   obtain⟨ls,ls',rfl,rfl⟩:=ha ah
   obtain⟨cs,rfl,hl⟩:=r
   obtain⟨cs',rfl,ar⟩:=r'
   have aC:P.fieldsOf t=fs:=by simp[Program.fieldsOf,hu]
   rw[run_equalIn_struct w d t cs cs' (by rw[aC];exact hu) af,aC]
   simp only[V.cells]at he
   have key:∀(fl:List Field)(off:Nat)(ks:List EK)(b:Bool),Ri P (UO P m) fl off=some ks->p5 ks (ls.drop off) (ls'.drop off)=some b->(Op.eqFields d cs cs' fl).run P w= .ok b w:=by
    intro fl
    induction fl with
    |nil=>
     intro off ks b h1 h2
     simp[Ri]at h1;subst h1
     simp[p5]at h2;subst h2
     simp[Op.eqFields]
    |cons f fl aJ=>
     intro off ks b h1 h2
     unfold Ri at h1
     split at h1
     ·rename_i a5
      obtain⟨a5,rfl⟩:=a5
      split at h1
      ·rename_i k1 aE
       split at h1
       ·rename_i ak
        split at h1
        ·rename_i k2 aK
         cases h1
         obtain⟨g1,g2,b1,b2,g3,g4,rfl⟩:=Mq _ _ _ _ _ h2
         rw[List.drop_drop,List.drop_drop]at g4
         simp only[Zc9]at g1 g2
         have i2:=aJ (f.offset+k1.length) k2 b2 aK g4
         have au:∃g,kY P f.type=some g/\ (g=false->k1.length=1):=by
          rcases PU aE with⟨h0,_⟩|⟨h0,⟨_,rfl⟩|⟨_,_,rfl⟩|⟨_,rfl⟩⟩
          ·exact⟨true,h0,by simp⟩
          all_goals exact⟨false,h0,by simp⟩
         obtain⟨g,hg,aL⟩:=au
         have ai:∀(a8:List L),k1.length<=a8.length-f.offset->∃v,gv g k1.length f.offset a8=some v/\ v.cells=(a8.drop f.offset).take k1.length/\ (g=true->∃l,v= .agg l)/\ (g=false->∃l,v= .one l):=by
          intro a8 hle
          have hx:f.offset+k1.length<=a8.length:=by omega
          cases g with
          |true=>exact⟨.agg ((a8.drop f.offset).take k1.length),by simp[gv,hx],rfl,fun _=>⟨_,rfl⟩,by simp⟩
          |false=>
           have h1:=aL rfl
           have aF:f.offset<a8.length:=by omega
           refine⟨.one a8[f.offset],?_,?_,by simp,fun _=>⟨_,rfl⟩⟩
           ·have aM:f.offset+1<=a8.length:=by omega
            simp only[gv,h1,aM,if_true,Zy,if_false,Zm aF]
           ·rw[h1]
            simp only[V.cells]
            rw[List.drop_eq_getElem_cons aF]
            rfl
         obtain⟨v,c1,c2,c3,c4⟩:=ai ls g1
         obtain⟨v',aN,aO,aP,aQ⟩:=ai ls' g2
         obtain⟨pu,p1,p2⟩:=GX (P:=P) hg ak.1 hl c1
         obtain⟨aR,aS,aT⟩:=GX (P:=P) hg ak.1 ar aN
         have i1:=ih d f.type k1 v v' pu aR b1 (by omega) aE (by rw[c2,aO];exact g3) p2 aT
          (fun e=>by rw[hg]at e;cases e;obtain⟨l,rfl⟩:=c3 rfl;obtain⟨l',rfl⟩:=aP rfl;exact⟨l,l',rfl,rfl⟩)
          (fun e=>by rw[hg]at e;cases e;obtain⟨l,rfl⟩:=c4 rfl;obtain⟨l',rfl⟩:=aQ rfl;exact⟨l,l',rfl,rfl⟩)
         simp only[Op.eqFields,if_pos a5,Sem.run_bind,p1,aS,Result.andThen_ok,i1]
         cases b1
         ·simp
         ·simpa using i2
        ·cases h1
       ·cases h1
      ·cases h1
     ·cases h1
   exact key fs.toList 0 ks b aI (by simpa using he)
  ·obtain⟨l,l',rfl,rfl⟩:=ho ah
   simp only[V.cells]at he
   rcases hk with⟨hu,rfl⟩|⟨k,hu,rfl⟩|⟨hu,rfl⟩
   all_goals
    simp only[p5]at he
    split at he
    ·rename_i y z hy hz
     cases hz
     cases he
     simp only[C']
     first
      |(obtain⟨a,b',rfl,rfl,rfl⟩:=W7 hy
        obtain rfl:u= .bool a:=by simpa[VR,LR,aq]using r
        obtain rfl:u'= .bool b':=by simpa[VR,LR,aq]using r'
        exact run_equalIn_bool' w d t a b' hu)
      |(obtain⟨kk,a,b',rfl,rfl,rfl⟩:=W8 hy
        obtain rfl:u= .int kk a:=by simpa[VR,LR,aq]using r
        obtain rfl:u'= .int kk b':=by simpa[VR,LR,aq]using r'
        exact run_equalIn_int w d t kk _ a b' hu)
      |(obtain⟨a,b',rfl,rfl,rfl⟩:=W9 hy
        obtain rfl:u= .string ⟨a.toArray⟩:=by simpa[VR,LR,aq]using r
        obtain rfl:u'= .string ⟨b'.toArray⟩:=by simpa[VR,LR,aq]using r'
        rw[run_equalIn_string w d t _ _ hu,xd,xd])
    ·cases he
def B3 (hP:KI.pr=P)(s:SR Γ M0 base Z a w J){o:Oper}{d:Md}{ao:AOp}{v:V}{call:Nat->List V->Option V}
 (hc:fX P kf d o.op=some ao) (hn:ao.cA=false) (hf:bG call Z ao=some v):
 ∃u,(execOp a.eval o).run P w= .ok (.value u) w/\ VR (Mu M0 J Z.h) w J Z.h v u:=by
 have val:∀{x:Sem Value}{u:Value},x.run P w= .ok u w->(do pure (Next.value (<-x)):Sem Next).run P w= .ok (.value u) w:=fun{x u}h=>by simp[Sem.run_bind,h]
 cases a1:o.op with
 |move x=>
  simp only[execOp,a1]
  rw[a1]at hc;simp only[fX,Zj]at hc
  obtain⟨y,hy,rfl⟩:=hc
  cases hf
  exact⟨_,by simp,aD s hy⟩
 |assign x=>
  simp only[execOp,a1]
  rw[a1]at hc;simp only[fX,Zj]at hc
  obtain⟨y,hy,rfl⟩:=hc
  cases hf
  exact⟨_,by simp,aD s hy⟩
 |pick c x y=>
  simp only[execOp,a1]
  rw[a1]at hc;simp only[fX]at hc
  split at hc
  ·rename_i c' x' y' h1 h2 h3
   cases hc
   simp only[bG]at hf
   split at hf
   ·rename_i t ht
    cases hf
    have:=(aD s h1).bool ht
    refine⟨if t then a.eval x else a.eval y,by simp[asBool,this],?_⟩
    split
    ·exact aD s h2
    ·exact aD s h3
   ·cases hf
  ·cases hc
 |load t x=>
  simp only[execOp,a1]
  rw[a1]at hc;simp only[fX]at hc
  split at hc
  ·rename_i g n y h1 h2 h3
   cases hc
   have aU:bA Z.h g n (y.ev Z)=some v:=by
    by_cases q:d.st=true
    ·rw[if_pos q]at hf
     simp only[bG]at hf
     split at hf
     ·exact hf
     ·cases hf
    ·rw[if_neg q]at hf
     exact hf
   obtain⟨u',ab,⟨b,off,e⟩,hv⟩:=Ax s h1 h2 (aD s h3) aU
   refine⟨u',?_,hv⟩
   rw[e]at ab⊢
   exact val (by simpa[Instr.loadAt,Instr.sureAddr]using ab)
  ·cases hc
 |build t parts=>
  simp only[execOp,a1]
  obtain⟨u,hu,hv⟩:=LV s (a1▸hc) hf
  exact⟨u,val hu,hv⟩
 |binOp op t x y ty=>
  simp only[execOp,a1]
  rw[a1]at hc;simp only[fX]at hc
  split at hc
  ·rename_i x' y' hu hx hy
   split at hc
   ·cases hc
    simp only[bG]at hf
    split at hf
    ·rename_i p q hp hq
     cases hf
     have e1:=(aD s hx).bool hp
     have e2:=(aD s hy).bool hq
     refine⟨.bool (p==q),val ?_,VR.c5 _⟩
     rw[e1,e2,Sem.run_bind,zw,Result.andThen_ok]
     simp[binOp,run_equal_bool w t p q hu]
    ·cases hf
   ·cases hc
    simp only[bG]at hf
    split at hf
    ·rename_i p q hp hq
     cases hf
     have e1:=(aD s hx).bool hp
     have e2:=(aD s hy).bool hq
     refine⟨.bool (!(p==q)),val ?_,VR.c5 _⟩
     rw[e1,e2,Sem.run_bind,zw,Result.andThen_ok]
     simp[binOp,run_equal_bool w t p q hu]
    ·cases hf
   ·cases hc
  ·rename_i x' y' hu hx hy
   cases hc
   obtain⟨u,ab,hv⟩:=I3 (P:=P) (t:=t) (ox:=x) (oy:=y) hf (aD s hx) (aD s hy)
   exact⟨u,val ab,hv⟩
  ·rename_i x' y' hu hx hy
   cases hc
   obtain⟨u,ab,hv⟩:=I3 (P:=P) (t:=t) (ox:=x) (oy:=y) hf (aD s hx) (aD s hy)
   exact⟨u,val ab,hv⟩
  ·rename_i fs x' y' hu hx hy
   split at hc
   ·rename_i ks aV aW
    have fin:∀(neg:Bool),ao= .cR neg ks x' y'->op=(if neg then .neq else .eql)->∃u,(do pure (Next.value (<-(do eqGuard op t x y (a.eval x) (a.eval y);binOp op t (a.eval x) (a.eval y)))):Sem Next).run P w= .ok (.value u) w/\ VR (Mu M0 J Z.h) w J Z.h v u:=by
     rintro neg rfl av
     simp only[bG]at hf
     split at hf
     ·rename_i ls ls' hl ar
      split at hf
      ·rename_i b hb
       cases hf
       have r1:=aD s hx
       have r2:=aD s hy
       rw[hl]at r1;rw[ar]at r2
       have ah:kY P t=some true:=by simp[kY,hu]
       have he:=Rr (P:=P) (w:=w) (J:=J) (M:=Mu M0 J Z.h) (h:=Z.h) 6 10000 t ks (.agg ls) (.agg ls') _ _ b (by omega) aV (by simpa[V.cells]using hb) r1 r2 (fun _=>⟨ls,ls',rfl,rfl⟩) (fun e=>by rw[ah]at e;cases e)
       obtain⟨c1,e1,_⟩:=r1
       obtain⟨c2,e2,_⟩:=r2
       rw[e1,e2]at he⊢
       refine⟨.bool (if neg then !b else b),val ?_,VR.c5 _⟩
       rw[Sem.run_bind,run_eqGuard_agg w op t x y c1 c2 aW,Result.andThen_ok,av]
       cases neg
       ·simp only[Zy,if_false]
        rw[run_eql_struct w t c1 c2,he];rfl
       ·simp only[if_true]
        rw[run_neq_struct w t c1 c2,he];rfl
      ·cases hf
     ·cases hf
    split at hc
    ·cases hc;exact fin false rfl rfl
    ·cases hc;exact fin true rfl rfl
    ·cases hc
   ·cases hc
  ·cases hc
 |unOp op t x=>
  simp only[execOp,a1]
  rw[a1]at hc;simp only[fX,Zj]at hc
  obtain⟨y,hy,rfl⟩:=hc
  obtain⟨u,ab,hv⟩:=Un (P:=P) hf (aD s hy)
  exact⟨u,val ab,hv⟩
 |convert src dst x=>
  simp only[execOp,a1]
  rw[a1]at hc;simp only[fX]at hc
  split at hc
  ·rename_i k' k y h1 h2 h3
   cases hc
   simp only[bG]at hf
   split at hf
   ·rename_i k0 n hn
    cases hf
    have e1:=(aD s h3).int hn
    refine⟨.int k (k.wrap n),val ?_,VR.mkInt _ _⟩
    rw[e1]
    simp[convert,run_underlying h1,run_underlying h2,Conv.intToInt]
   ·cases hf
  ·rename_i e y h1 h2 h3
   split at hc
   ·rename_i h4
    cases hc
    simp only[bG]at hf
    split at hf
    ·rename_i es aw
     split at hf
     ·rename_i st af
      cases hf
      have rd:=ud s (aD s h3) aw
      have:=QQ (P:=P) rd af
      obtain⟨ad,c,e⟩:=rd.slice
      refine⟨.string ⟨st.toArray⟩,val ?_,VR.mkStr _⟩
      rw[e]at this⊢
      simp[convert,run_underlying h1,run_underlying h2,run_underlying h4,this]
     ·cases hf
    ·cases hf
   ·cases hc
  ·split at hc
   ·cases hc;cases hn
   ·cases hc
  ·cases hc
 |slice t x lo hi mx=>
  simp only[execOp,a1]
  obtain⟨u,hu,hv⟩:=O7 s (a1▸hc) (fun z x lo hi e=>by rw[e]at hn;cases hn) hf
  exact⟨u,val hu,hv⟩
 |nilCheck x=>
  simp only[execOp,a1]
  rw[a1]at hc;simp only[fX,Zj]at hc
  obtain⟨y,h2,rfl⟩:=hc
  have r:=aD s h2
  simp only[bG]at hf
  split at hf
  ·rename_i o' i j aa
   cases hf
   rw[aa]at r
   have r':VR (Mu M0 J Z.h) w J Z.h (.one (.ptr o' i (j+0))) (a.eval x):=r
   obtain⟨r0,ob,ax,ay,a6⟩:=r
   obtain⟨b,off,e⟩:∃b off,a.eval x= .pointer (some ⟨b,off,none⟩):=by
    unfold zg at a6
    split at a6
    ·exact a6
    ·exact a6.elim
    ·obtain⟨b,_,e⟩:=a6;exact⟨b,_,e⟩
   rw[e]at r'⊢
   exact⟨_,by simp,r'⟩
  ·rename_i e0 j aa
   cases hf
   rw[aa]at r
   have r':VR (Mu M0 J Z.h) w J Z.h (.one (.ip e0 (j+0))) (a.eval x):=r
   obtain⟨b,o2,e,_⟩:=r
   rw[e]at r'⊢
   exact⟨_,by simp,r'⟩
  ·cases hf
 |fieldAddr t x f=>
  simp only[execOp,a1]
  rw[a1]at hc;simp only[fX]at hc
  split at hc
  ·rename_i fd y h1 h2
   split at hc
   ·rename_i n h3
    split at hc
    ·cases hc
    ·rename_i aX
     cases hc
     obtain⟨fs,hu,aY⟩:∃fs,P.underlying t=some (.struct fs)/\ fs[f]? =some fd:=by
      unfold Kc at h1
      split at h1
      ·rename_i fs hu;exact⟨fs,hu,h1⟩
      ·cases h1
     have fin:∀{b off:Nat},(Instr.fieldAt t (.pointer (some ⟨b,off,none⟩)) f).run P w= .ok (.pointer (some ⟨b,off+fd.offset,none⟩)) w:=by
      intro b off
      simp[Instr.fieldAt,run_underlying hu,aY,Instr.sureAddr,fieldPlace,nA _ h3,aX,Addr.add_mid]
     have r:=aD s h2
     simp only[bG]at hf
     split at hf
     ·rename_i o' i j aa
      cases hf
      rw[aa]at r
      obtain⟨r0,ob,ax,ay,a6⟩:=r
      have aZ:ob= .dead->∃u,(do pure (Next.value (<-Instr.fieldAt t (a.eval x) f)):Sem Next).run P w= .ok (.value u) w/\ VR (Mu M0 J Z.h) w J Z.h (.one (.ptr o' i (j+fd.offset))) u:=by
       rintro rfl
       obtain⟨b,off,e⟩:=a6
       exact⟨_,val (by rw[e];exact fin),r0,_,ax,ay,b,_,rfl⟩
      have ag:ob≠ .dead->ob≠ .res->∃u,(do pure (Next.value (<-Instr.fieldAt t (a.eval x) f)):Sem Next).run P w= .ok (.value u) w/\ VR (Mu M0 J Z.h) w J Z.h (.one (.ptr o' i (j+fd.offset))) u:=by
       intro hd hn
       obtain⟨b,rfl,e⟩:∃b,r0=some b/\ a.eval x= .pointer (some ⟨b,i*ob.z+j,none⟩):=by
        unfold zg at a6
        split at a6
        ·exact absurd rfl hd
        ·exact absurd rfl hn
        ·exact a6
       refine⟨_,val (by rw[e];exact fin),some b,ob,ax,ay,?_⟩
       unfold zg
       split
       ·exact absurd rfl hd
       ·exact absurd rfl hn
       ·exact⟨b,rfl,by rw[Zc3]⟩
      cases ob with
      |dead=>exact aZ rfl
      |box cs=>exact ag (by simp) (by simp)
      |bL ps=>exact ag (by simp) (by simp)
      |bT n=>exact ag (by simp) (by simp)
      |res=>exact(show False from a6).elim
      |arr z es=>exact ag (by simp) (by simp)
      |bH z es=>exact ag (by simp) (by simp)
      |bA z es=>exact ag (by simp) (by simp)
      |bB z es=>exact ag (by simp) (by simp)
     ·rename_i e j aa
      cases hf
      rw[aa]at r
      obtain⟨b,off,e',hm,az,hr⟩:=r
      exact⟨_,val (by rw[e'];exact fin),b,off,by rw[Zc3],hm,az,hr⟩
     ·cases hf
   ·cases hc
  ·cases hc
 |indexAddr t x i=>
  simp only[execOp,a1]
  rw[a1]at hc;simp only[fX]at hc
  split at hc
  ·rename_i e y j h1 h2 h3
   split at hc
   ·rename_i z h4
    cases hc
    simp only[bG]at hf
    split at hf
    ·rename_i k n hn
     split at hf
     ·rename_i h0
      have ei:=(aD s h3).int hn
      obtain⟨m,rfl⟩:=Int.eq_ofNat_of_zero_le h0
      obtain⟨u,hu,hv⟩:=HY (k:=k) s h1 h4 (aD s h2) hf
      exact⟨u,val (by rw[ei];exact hu),hv⟩
     ·cases hf
    ·cases hf
   ·cases hc
  ·cases hc
 |index t x i=>
  simp only[execOp,a1]
  rw[a1]at hc;simp only[fX]at hc
  split at hc
  ·rename_i y j h1 h2 h3
   cases hc
   simp only[bG]at hf
   split at hf
   ·rename_i st k n af hn
    split at hf
    ·rename_i h0
     split at hf
     ·rename_i b hb
      cases hf
      have e1:=(aD s h2).str af
      have e2:=(aD s h3).int hn
      refine⟨.int .u8 b.toNat,val ?_,VR.mkInt _ _⟩
      have aA:(⟨st.toArray⟩:ByteArray)[n.toNat]? =some b:=by
       obtain⟨az,aA⟩:=Zb.1 hb
       rw[getElem?_pos (⟨st.toArray⟩:ByteArray) n.toNat (by simpa[ByteArray.size]using az)]
       simp[ByteArray.getElem_eq_getElem_data,aA]
      rw[e1,e2]
      simp[Instr.index,asIntOf,run_underlying h1,h0,aA]
     ·cases hf
    ·cases hf
   ·cases hf
  ·cases hc
 |extract x i=>
  simp only[execOp,a1]
  rw[a1]at hc;simp only[fX,Zj]at hc
  obtain⟨y,hy,rfl⟩:=hc
  have r:=aD s hy
  simp only[bG]at hf
  split at hf
  ·rename_i xs aa
   rw[aa]at r
   obtain⟨vs,e,hl,hr⟩:=r
   have hex:∀{u:Value},vs[i]? =some u->(Instr.extract (.tuple vs) i).run P w= .ok u w:=fun{u}hu=>by simp[Instr.extract,hu]
   split at hf
   ·rename_i ls hx
    cases hf
    have hi:i<vs.size:=by rw[<-hl];exact(Zb.1 hx).1
    have hu:vs[i]? =some vs[i]:=by simp[hi]
    exact⟨vs[i],val (by rw[e];exact hex hu),hr i _ _ hx hu⟩
   ·rename_i l hx
    cases hf
    have hi:i<vs.size:=by rw[<-hl];exact(Zb.1 hx).1
    have hu:vs[i]? =some vs[i]:=by simp[hi]
    exact⟨vs[i],val (by rw[e];exact hex hu),hr i _ _ hx hu⟩
   ·cases hf
  ·cases hf
 |call c=>
  rw[a1]at hc;simp only[fX]at hc
  simp only[execOp,a1]
  have bl:∀(b:Builtin)(args:List Operand)(al:List TypeId),c.callee= .builtin b->c.args.toList=args->c.argTypes.toList=al->
   ∃an,(do let d<-resolve a.eval c o.type;invoke d.target d.args:Sem Next).run P w=(builtin b al.toArray o.type an (args.map a.eval).toArray).run P w:=by
   intro b args al h1 h2 h3
   have e2:c.args.map a.eval=(args.map a.eval).toArray:=Array.ext' (by rw[ZZ,h2])
   have e3:c.argTypes=al.toArray:=by rw[<-h3]
   refine⟨c.args.map fun| .const _=>true|_=>false,?_⟩
   simp only[resolve,h1,Sem.run_bind,Sem.run_pure,Result.andThen_ok,invoke,e3,e2]
   rfl
  split at hc
  ·split at hc
   ·repeat' (split at hc)
    all_goals first|(cases hc;done)|(cases hc;cases hn;done)
   ·cases hc
  ·split at hc
   ·cases hc;cases hn
   ·cases hc
  ·rename_i a7
   split at hc
   ·rename_i x t a2 aB
    obtain⟨an,aj⟩:=bl _ _ _ a7 a2 aB
    rw[aj]
    split at hc
    ·rename_i y hu hy
     cases hc
     simp only[bG]at hf
     split at hf
     ·rename_i st af
      cases hf
      have e:=(aD s hy).str af
      have ak:(⟨st.toArray⟩:ByteArray).size=st.length:=by simp[ByteArray.size]
      exact⟨.int .i64 st.length,val (x:=Builtin.len_ [t].toArray o.type ([x].map a.eval).toArray) (by simp[Builtin.len_,run_underlying hu,e,goInt,ak]),VR.mkInt _ _⟩
     ·cases hf
    ·rename_i e0 y hu hy
     cases hc
     simp only[bG]at hf
     split at hf
     ·rename_i es aw
      cases hf
      obtain⟨ad,cp,e⟩:=(ud s (aD s hy) aw).slice
      exact⟨.int .i64 es.length,val (x:=Builtin.len_ [t].toArray o.type ([x].map a.eval).toArray) (by simp[Builtin.len_,run_underlying hu,e,goInt]),VR.mkInt _ _⟩
     ·cases hf
    ·cases hc
   ·cases hc
  ·split at hc
   ·split at hc
    ·split at hc
     ·split at hc
      ·cases hc;cases hf
      ·cases hc
     ·cases hc
    ·split at hc
     ·cases hc;cases hf
     ·cases hc
    ·cases hc
   ·cases hc
  ·rename_i a7
   split at hc
   ·rename_i x y a2
    obtain⟨an,aj⟩:=bl _ _ _ a7 a2 rfl
    rw[aj]
    split at hc
    ·rename_i x' y' hx hy
     cases hc
     simp only[bG]at hf
     split at hf
     ·rename_i k m k' n h1 h2
      split at hf
      ·rename_i hk
       subst hk
       cases hf
       have e1:=(aD s hx).int h1
       have e2:=(aD s hy).int h2
       exact⟨.int k (if n<m then n else m),val (x:=Builtin.min_ c.argTypes.toList.toArray o.type ([x,y].map a.eval).toArray) (by simp[Builtin.min_,Builtin.min2,e1,e2]),VR.mkInt _ _⟩
      ·cases hf
     ·cases hf
    ·cases hc
   ·cases hc
  ·rename_i a7
   split at hc
   ·rename_i x y a2
    obtain⟨an,aj⟩:=bl _ _ _ a7 a2 rfl
    rw[aj]
    split at hc
    ·rename_i x' y' hx hy
     cases hc
     simp only[bG]at hf
     split at hf
     ·rename_i k m k' n h1 h2
      split at hf
      ·rename_i hk
       subst hk
       cases hf
       have e1:=(aD s hx).int h1
       have e2:=(aD s hy).int h2
       exact⟨.int k (if m<n then n else m),val (x:=Builtin.max_ c.argTypes.toList.toArray o.type ([x,y].map a.eval).toArray) (by simp[Builtin.max_,Builtin.max2,e1,e2]),VR.mkInt _ _⟩
      ·cases hf
     ·cases hf
    ·cases hc
   ·cases hc
  ·cases hc
 |alloc t=>
  rw[a1]at hc;simp only[fX]at hc
  split at hc
  ·split at hc
   ·cases hc;cases hf
   ·cases hc
  ·cases hc
 |box t x=>
  rw[a1]at hc;simp only[fX,Zj]at hc
  obtain⟨y,hy,rfl⟩:=hc
  cases hf
 |buildSlice t n ps=>
  rw[a1]at hc;simp only[fX]at hc
  split at hc
  ·rename_i e1 b0 _ _
   split at hc
   ·split at hc
    ·cases hc
     by_cases q:(d.st&&(b0.isEmpty|| !d.dp))=true
     ·rw[if_pos q]at hn;cases hn
     ·rw[if_neg q]at hf;cases hf
    ·cases hc
   ·cases hc
  ·cases hc
 |store t x y=>
  rw[a1]at hc;simp only[fX]at hc
  split at hc
  ·cases hc;cases hf
  ·cases hc
 |makeSlice t x y=>
  rw[a1]at hc;simp only[fX]at hc
  split at hc
  ·split at hc
   ·split at hc
    ·split at hc
     ·split at hc
      ·cases hc;cases hf
      ·cases hc
     ·cases hc
    ·cases hc
   ·cases hc
  ·cases hc
 |makeFunc fn first caps=>
  rw[a1]at hc
  cases fn with
  |func f=>
   simp only[fX]at hc
   split at hc
   ·split at hc
    ·cases hc;cases hf
    ·cases hc
   ·cases hc
  |_=>simp[fX]at hc
 |_=>
  rw[a1]at hc
  simp[fX]at hc
end
end Gi
