/- Of this proof. -/
import Derived.Test.YtebnmoogdmpepaaGreatGig
import Derived.Laws.MakeOwn
import Derived.Laws.AppendOwn
set_option linter.unusedSimpArgs false
set_option linter.unusedVariables false
namespace Gi
open Go
variable {KI:KF}
section
variable {Γ:Ctx}{P:Program}{M0:Nat→Prop}{base:Nat}{σ:St}{a:Act}{w:World}{ρ:List (Option Nat)}
def AOp.isCall :AOp→Bool
 | .call _ _ _ _=>true
 | .callV _ _=>true
 | .callD _ _=>true
 | .s2b _=>true
 | .insert _ _ _ _ _ _=>true
 | .delF _ _ _ _=>true
 | .delR _ _ _ _ _=>true
 | .slcF _ _ _ _=>true
 | .buildF _ _=>true
 |_=>false
theorem r8 {t:TypeId}{g:Bool}(h:jA P t=some g):(isAgg t).run P w= .ok g w:=by
 unfold jA at h
 split at h
 ·rename_i fs hu;cases h;simp[isAgg,run_underlying hu]
 ·rename_i n e hu;cases h;simp[isAgg,run_underlying hu]
 ·rename_i d h1 h2 hu
  cases h
  simp only[isAgg,Sem.run_bind,run_underlying hu,Result.andThen_ok]
  cases d<;>first|rfl|exact absurd hu (h1 _)|exact absurd hu (h2 _ _)
 ·cases h
theorem yZ (s:SR Γ M0 base σ a w ρ){t:TypeId}{x v:V}{u:Value}{g:Bool}{n:Nat}(hg:jA P t=some g)(hn:o7 P t=some n)(r:VR (Mu M0 ρ σ.h) w ρ σ.h x u)(hl:bo σ.h g n x=some v):
 ∃u',(loadVar t (match u with| .pointer (some a)=>a|_=>⟨0,0,none⟩)).run P w= .ok u' w∧(∃b o,u= .pointer (some ⟨b,o,none⟩))∧VR (Mu M0 ρ σ.h) w ρ σ.h v u':=by
 obtain⟨b,o,rfl,h⟩:=MY s.hr hl r
 rcases h with⟨rfl,us,hlen,hr,hv⟩|⟨rfl,hn1,u',hc,hv⟩
 ·refine⟨.agg us.toArray,?_,⟨b,o,rfl⟩,hv⟩
  have hcl:(loadCells ⟨b,o,none⟩ n).run P w= .ok us.toArray w:=by
   have:=run_loadCells_list (P:=P) w ⟨b,o,none⟩ us (fun j v hv=>by rw[Addr.add_mid];exact hr j v hv)
   rwa[hlen]at this
  simp[loadVar,Sem.run_bind,r8 hg,kO t hn,hcl]
 ·refine⟨u',?_,⟨b,o,rfl⟩,hv⟩
  have:(load ⟨b,o,none⟩).run P w= .ok u' w:=by simp[load,Sem.run,hc]
  simp only[loadVar,Sem.run_bind,r8 hg,Result.andThen_ok,Z0,if_false,this]
theorem xw {M:Nat→Prop}{h:List AObj}{t:TypeId}{g:Bool}{n off:Nat}{ls:List L}{v:V}{cs:Array Value}(hg:jA P t=some g)(hn:o7 P t=some n)(r:ru M w ρ h ls cs.toList)(hc:gn g n off ls=some v):
 ∃u,(part t cs off).run P w= .ok u w∧VR M w ρ h v u:=by
 rcases HG hc r with⟨rfl,hle,hv⟩|⟨rfl,hn1,u,hu,hv⟩
 ·refine⟨_,?_,hv⟩
  have e:cs.extract off (off+n)=((cs.toList.drop off).take n).toArray:=by
   apply Array.ext'
   simp[List.extract_eq_take_drop]
  simp only[part,Sem.run_bind,r8 hg,Result.andThen_ok,if_true,kO t hn,Sem.run_pure,e]
 ·refine⟨u,?_,hv⟩
  have:cs[off]? =some u:=by simpa using hu
  simp[part,Sem.run_bind,r8 hg,this]
theorem KK :∀(ks ks':List EK)(ls ls':List L)(b:Bool),qw (ks++ks') ls ls'=some b→ks.length≤ls.length∧ks.length≤ls'.length∧∃b1 b2,qw ks (ls.take ks.length) (ls'.take ks.length)=some b1∧qw ks' (ls.drop ks.length) (ls'.drop ks.length)=some b2∧b=(b1&&b2)
 |[],ks',ls,ls',b,h=>⟨by simp,by simp,true,b,rfl,by simpa using h,by simp⟩
 |k::ks,ks',[],_,b,h=>by simp[qw]at h
 |k::ks,ks',_::_,[],b,h=>by simp[qw]at h
 |k::ks,ks',l::ls,l'::ls',b,h=>by
  simp only[Zf,qw]at h
  split at h
  ·rename_i x y hx hy
   cases h
   obtain⟨h1,h2,b1,b2,h3,h4,rfl⟩:=KK ks ks' ls ls' y hy
   refine⟨by simpa using h1,by simpa using h2,x&&b1,b2,?_,by simpa using h4,by rw[Bool.and_assoc]⟩
   simp[qw,hx,h3]
  ·cases h
theorem UD {l l':L}{y:Bool}(h:QD .b l l'=some y):∃a b,l= .pv (.bool a)∧l'= .pv (.bool b)∧y=(a==b):=by
 unfold QD at h
 split at h<;>simp_all
theorem UF {l l':L}{y:Bool}(h:QD .s l l'=some y):∃a b,l= .pv (.str a)∧l'= .pv (.str b)∧y=(a==b):=by
 unfold QD at h
 split at h<;>simp_all
theorem UE {l l':L}{y:Bool}(h:QD .i l l'=some y):∃k a b,l= .pv (.int k a)∧l'= .pv (.int k b)∧y=(a==b):=by
 unfold QD at h
 split at h<;>simp_all
 exact⟨_,_,⟨rfl,rfl⟩,_,⟨rfl,rfl⟩,h.2.symm⟩
theorem NY {n:Nat}{t:TypeId}{ks:List EK}(h:SI P n t=some ks):(jA P t=some true∧∃m fs,n=m+1∧P.underlying t=some (.struct fs)∧P.stoodInHeld t=false∧Pq P (SI P m) fs.toList 0=some ks)∨(jA P t=some false∧((P.underlying t=some .bool∧ks=[.b])∨(∃k,P.underlying t=some (.int k)∧ks=[.i])∨(P.underlying t=some .string∧ks=[.s]))):=by
 cases n with
 |zero=>simp[SI]at h
 |succ n=>
  unfold SI at h
  split at h
  ·rename_i hu;cases h;exact .inr ⟨by simp[jA,hu], .inl ⟨hu,rfl⟩⟩
  ·rename_i k hu;cases h;exact .inr ⟨by simp[jA,hu], .inr (.inl ⟨k,hu,rfl⟩)⟩
  ·rename_i hu;cases h;exact .inr ⟨by simp[jA,hu], .inr (.inr ⟨hu,rfl⟩)⟩
  ·rename_i fs hu
   split at h
   ·cases h
   ·rename_i hs
    exact .inl ⟨by simp[jA,hu],n,fs,rfl,hu,by simpa using hs,h⟩
  ·cases h
theorem Pz {M:Nat→Prop}{h:List AObj}:∀(n d:Nat)(t:TypeId)(ks:List EK)(x x':V)(u u':Value)(b:Bool),n≤d→SI P n t=some ks→qw ks x.cells x'.cells=some b→VR M w ρ h x u→VR M w ρ h x' u'→
 (jA P t=some true→∃ls ls',x= .agg ls∧x'= .agg ls')→(jA P t=some false→∃l l',x= .one l∧x'= .one l')→(Op.equalIn d t u u').run P w= .ok b w:=by
 intro n
 induction n with
 |zero=>intro d t ks x x' u u' b _ h;simp[SI]at h
 |succ n ih=>
  intro d t ks x x' u u' b hd ht he r r' ha ho
  obtain⟨d,rfl⟩:∃d',d=d'+1:=⟨d-1,by omega⟩
  rcases NY ht with⟨hag,m,fs,hm,hu,hst,hfs⟩|⟨hag,hk⟩
  ·obtain rfl:m=n:=by omega
   obtain⟨ls,ls',rfl,rfl⟩:=ha hag
   obtain⟨cs,rfl,hl⟩:=r
   obtain⟨cs',rfl,hl'⟩:=r'
   have hfo:P.fieldsOf t=fs:=by simp[Program.fieldsOf,hu]
   rw[run_equalIn_struct w d t cs cs' (by rw[hfo];exact hu) hst,hfo]
   simp only[V.cells]at he
   have key:∀(fl:List Field)(off:Nat)(ks:List EK)(b:Bool),Pq P (SI P m) fl off=some ks→qw ks (ls.drop off) (ls'.drop off)=some b→(Op.eqFields d cs cs' fl).run P w= .ok b w:=by
    intro fl
    induction fl with
    |nil=>
     intro off ks b h1 h2
     simp[Pq]at h1;subst h1
     simp[qw]at h2;subst h2
     simp[Op.eqFields]
    |cons f fl ihf=>
     intro off ks b h1 h2
     unfold Pq at h1
     split at h1
     ·rename_i hname
      obtain⟨hname,rfl⟩:=hname
      split at h1
      ·rename_i k1 hk1
       split at h1
       ·rename_i hsz
        split at h1
        ·rename_i k2 hk2
         cases h1
         obtain⟨g1,g2,b1,b2,g3,g4,rfl⟩:=KK _ _ _ _ _ h2
         rw[List.drop_drop,List.drop_drop]at g4
         simp only[List.length_drop]at g1 g2
         have i2:=ihf (f.offset+k1.length) k2 b2 hk2 g4
         have hag1:∃g,jA P f.type=some g∧(g=false→k1.length=1):=by
          rcases NY hk1 with⟨h0,_⟩|⟨h0,⟨_,rfl⟩|⟨_,_,rfl⟩|⟨_,rfl⟩⟩
          ·exact⟨true,h0,by simp⟩
          all_goals exact⟨false,h0,by simp⟩
         obtain⟨g,hg,hg1⟩:=hag1
         have cutx:∀(ls0:List L),k1.length≤ls0.length-f.offset→∃v,gn g k1.length f.offset ls0=some v∧v.cells=(ls0.drop f.offset).take k1.length∧(g=true→∃l,v= .agg l)∧(g=false→∃l,v= .one l):=by
          intro ls0 hle
          have hx:f.offset+k1.length≤ls0.length:=by omega
          cases g with
          |true=>exact⟨.agg ((ls0.drop f.offset).take k1.length),by simp[gn,hx],rfl,fun _=>⟨_,rfl⟩,by simp⟩
          |false=>
           have h1:=hg1 rfl
           have hx':f.offset<ls0.length:=by omega
           refine⟨.one ls0[f.offset],?_,?_,by simp,fun _=>⟨_,rfl⟩⟩
           ·have hx1:f.offset+1≤ls0.length:=by omega
            simp only[gn,h1,hx1,if_true,Z0,if_false,Zr hx']
           ·rw[h1]
            simp only[V.cells]
            rw[List.drop_eq_getElem_cons hx']
            rfl
         obtain⟨v,c1,c2,c3,c4⟩:=cutx ls g1
         obtain⟨v',c1',c2',c3',c4'⟩:=cutx ls' g2
         obtain⟨pu,p1,p2⟩:=xw (P:=P) hg hsz.1 hl c1
         obtain⟨pu',p1',p2'⟩:=xw (P:=P) hg hsz.1 hl' c1'
         have i1:=ih d f.type k1 v v' pu pu' b1 (by omega) hk1 (by rw[c2,c2'];exact g3) p2 p2'
          (fun e=>by rw[hg]at e;cases e;obtain⟨l,rfl⟩:=c3 rfl;obtain⟨l',rfl⟩:=c3' rfl;exact⟨l,l',rfl,rfl⟩)
          (fun e=>by rw[hg]at e;cases e;obtain⟨l,rfl⟩:=c4 rfl;obtain⟨l',rfl⟩:=c4' rfl;exact⟨l,l',rfl,rfl⟩)
         simp only[Op.eqFields,if_pos hname,Sem.run_bind,p1,p1',Result.andThen_ok,i1]
         cases b1
         ·simp
         ·simpa using i2
        ·cases h1
       ·cases h1
      ·cases h1
     ·cases h1
   exact key fs.toList 0 ks b hfs (by simpa using he)
  ·obtain⟨l,l',rfl,rfl⟩:=ho hag
   simp only[V.cells]at he
   rcases hk with⟨hu,rfl⟩|⟨k,hu,rfl⟩|⟨hu,rfl⟩
   all_goals
    simp only[qw]at he
    split at he
    ·rename_i y z hy hz
     cases hz
     cases he
     simp only[Xi]
     first
      |(obtain⟨a,b',rfl,rfl,rfl⟩:=UD hy
        obtain rfl:u= .bool a:=by simpa[VR,LR,ap]using r
        obtain rfl:u'= .bool b':=by simpa[VR,LR,ap]using r'
        exact run_equalIn_bool' w d t a b' hu)
      |(obtain⟨kk,a,b',rfl,rfl,rfl⟩:=UE hy
        obtain rfl:u= .int kk a:=by simpa[VR,LR,ap]using r
        obtain rfl:u'= .int kk b':=by simpa[VR,LR,ap]using r'
        exact run_equalIn_int w d t kk _ a b' hu)
      |(obtain⟨a,b',rfl,rfl,rfl⟩:=UF hy
        obtain rfl:u= .string ⟨a.toArray⟩:=by simpa[VR,LR,ap]using r
        obtain rfl:u'= .string ⟨b'.toArray⟩:=by simpa[VR,LR,ap]using r'
        rw[run_equalIn_string w d t _ _ hu,vC,vC])
    ·cases he
theorem A0 (hP:KI.pr=P)(s:SR Γ M0 base σ a w ρ){o:Oper}{d:Md}{ao:AOp}{v:V}{call:Nat→List V→Option V}
 (hc:eV P kf d o.op=some ao) (hn:ao.isCall=false) (hf:bj call σ ao=some v):
 ∃u,(execOp a.eval o).run P w= .ok (.value u) w∧VR (Mu M0 ρ σ.h) w ρ σ.h v u:=by
 have val:∀{x:Sem Value}{u:Value},x.run P w= .ok u w→(do pure (Next.value (←x)):Sem Next).run P w= .ok (.value u) w:=fun{x u}h=>by simp[Sem.run_bind,h]
 cases hop:o.op with
 |move x=>
  simp only[execOp,hop]
  rw[hop]at hc;simp only[eV,Zj]at hc
  obtain⟨y,hy,rfl⟩:=hc
  cases hf
  exact⟨_,by simp,aw s hy⟩
 |assign x=>
  simp only[execOp,hop]
  rw[hop]at hc;simp only[eV,Zj]at hc
  obtain⟨y,hy,rfl⟩:=hc
  cases hf
  exact⟨_,by simp,aw s hy⟩
 |pick c x y=>
  simp only[execOp,hop]
  rw[hop]at hc;simp only[eV]at hc
  split at hc
  ·rename_i c' x' y' h1 h2 h3
   cases hc
   simp only[bj]at hf
   split at hf
   ·rename_i t ht
    cases hf
    have:=(aw s h1).bool ht
    refine⟨if t then a.eval x else a.eval y,by simp[asBool,this],?_⟩
    split
    ·exact aw s h2
    ·exact aw s h3
   ·cases hf
  ·cases hc
 |load t x=>
  simp only[execOp,hop]
  rw[hop]at hc;simp only[eV]at hc
  split at hc
  ·rename_i g n y h1 h2 h3
   cases hc
   have hf':bo σ.h g n (y.ev σ)=some v:=by
    by_cases q:d.st=true
    ·rw[if_pos q]at hf
     simp only[bj]at hf
     split at hf
     ·exact hf
     ·cases hf
    ·rw[if_neg q]at hf
     exact hf
   obtain⟨u',hu',⟨b,off,e⟩,hv⟩:=yZ s h1 h2 (aw s h3) hf'
   refine⟨u',?_,hv⟩
   rw[e]at hu'⊢
   exact val (by simpa[Instr.loadAt,Instr.sureAddr]using hu')
  ·cases hc
 |build t parts=>
  simp only[execOp,hop]
  obtain⟨u,hu,hv⟩:=Kc s (hop▸hc) hf
  exact⟨u,val hu,hv⟩
 |binOp op t x y ty=>
  simp only[execOp,hop]
  rw[hop]at hc;simp only[eV]at hc
  split at hc
  ·rename_i x' y' hu hx hy
   split at hc
   ·cases hc
    simp only[bj]at hf
    split at hf
    ·rename_i p q hp hq
     cases hf
     have e1:=(aw s hx).bool hp
     have e2:=(aw s hy).bool hq
     refine⟨.bool (p==q),val ?_,VR.mkBool _⟩
     rw[e1,e2,Sem.run_bind,xW,Result.andThen_ok]
     simp[binOp,run_equal_bool w t p q hu]
    ·cases hf
   ·cases hc
    simp only[bj]at hf
    split at hf
    ·rename_i p q hp hq
     cases hf
     have e1:=(aw s hx).bool hp
     have e2:=(aw s hy).bool hq
     refine⟨.bool (!(p==q)),val ?_,VR.mkBool _⟩
     rw[e1,e2,Sem.run_bind,xW,Result.andThen_ok]
     simp[binOp,run_equal_bool w t p q hu]
    ·cases hf
   ·cases hc
  ·rename_i x' y' hu hx hy
   cases hc
   obtain⟨u,hu',hv⟩:=HA (P:=P) (t:=t) (ox:=x) (oy:=y) hf (aw s hx) (aw s hy)
   exact⟨u,val hu',hv⟩
  ·rename_i x' y' hu hx hy
   cases hc
   obtain⟨u,hu',hv⟩:=HA (P:=P) (t:=t) (ox:=x) (oy:=y) hf (aw s hx) (aw s hy)
   exact⟨u,val hu',hv⟩
  ·rename_i fs x' y' hu hx hy
   split at hc
   ·rename_i ks hks hgt
    have fin:∀(neg:Bool),ao= .eqS neg ks x' y'→op=(if neg then .neq else .eql)→∃u,(do pure (Next.value (←(do eqGuard op t x y (a.eval x) (a.eval y);binOp op t (a.eval x) (a.eval y)))):Sem Next).run P w= .ok (.value u) w∧VR (Mu M0 ρ σ.h) w ρ σ.h v u:=by
     rintro neg rfl hopn
     simp only[bj]at hf
     split at hf
     ·rename_i ls ls' hl hl'
      split at hf
      ·rename_i b hb
       cases hf
       have r1:=aw s hx
       have r2:=aw s hy
       rw[hl]at r1;rw[hl']at r2
       have hag:jA P t=some true:=by simp[jA,hu]
       have he:=Pz (P:=P) (w:=w) (ρ:=ρ) (M:=Mu M0 ρ σ.h) (h:=σ.h) 6 10000 t ks (.agg ls) (.agg ls') _ _ b (by omega) hks (by simpa[V.cells]using hb) r1 r2 (fun _=>⟨ls,ls',rfl,rfl⟩) (fun e=>by rw[hag]at e;cases e)
       obtain⟨c1,e1,_⟩:=r1
       obtain⟨c2,e2,_⟩:=r2
       rw[e1,e2]at he⊢
       refine⟨.bool (if neg then !b else b),val ?_,VR.mkBool _⟩
       rw[Sem.run_bind,run_eqGuard_agg w op t x y c1 c2 hgt,Result.andThen_ok,hopn]
       cases neg
       ·simp only[Z0,if_false]
        rw[run_eql_struct w t c1 c2,he];rfl
       ·simp only[if_true]
        rw[run_neq_struct w t c1 c2,he];rfl
      ·cases hf
     ·cases hf
    split at hc
    ·cases hc;exact fin false rfl rfl
    ·cases hc;exact fin true rfl rfl
    ·cases hc
   ·cases hc
  ·cases hc
 |unOp op t x=>
  simp only[execOp,hop]
  rw[hop]at hc;simp only[eV,Zj]at hc
  obtain⟨y,hy,rfl⟩:=hc
  obtain⟨u,hu',hv⟩:=Si (P:=P) hf (aw s hy)
  exact⟨u,val hu',hv⟩
 |convert src dst x=>
  simp only[execOp,hop]
  rw[hop]at hc;simp only[eV]at hc
  split at hc
  ·rename_i k' k y h1 h2 h3
   cases hc
   simp only[bj]at hf
   split at hf
   ·rename_i k0 n hn
    cases hf
    have e1:=(aw s h3).int hn
    refine⟨.int k (k.wrap n),val ?_,VR.mkInt _ _⟩
    rw[e1]
    simp[convert,run_underlying h1,run_underlying h2,Conv.intToInt]
   ·cases hf
  ·rename_i e y h1 h2 h3
   split at hc
   ·rename_i h4
    cases hc
    simp only[bj]at hf
    split at hf
    ·rename_i es hes
     split at hf
     ·rename_i st hst
      cases hf
      have rd:=sG s (aw s h3) hes
      have:=OY (P:=P) rd hst
      obtain⟨ad,c,e⟩:=rd.slice
      refine⟨.string ⟨st.toArray⟩,val ?_,VR.mkStr _⟩
      rw[e]at this⊢
      simp[convert,run_underlying h1,run_underlying h2,run_underlying h4,this]
     ·cases hf
    ·cases hf
   ·cases hc
  ·split at hc
   ·cases hc;cases hn
   ·cases hc
  ·cases hc
 |slice t x lo hi mx=>
  simp only[execOp,hop]
  obtain⟨u,hu,hv⟩:=Ni s (hop▸hc) (fun z x lo hi e=>by rw[e]at hn;cases hn) hf
  exact⟨u,val hu,hv⟩
 |nilCheck x=>
  simp only[execOp,hop]
  rw[hop]at hc;simp only[eV,Zj]at hc
  obtain⟨y,h2,rfl⟩:=hc
  have r:=aw s h2
  simp only[bj]at hf
  split at hf
  ·rename_i o' i j hev
   cases hf
   rw[hev]at r
   have r':VR (Mu M0 ρ σ.h) w ρ σ.h (.one (.ptr o' i (j+0))) (a.eval x):=r
   obtain⟨r0,ob,hr0,hob,hpt⟩:=r
   obtain⟨b,off,e⟩:∃b off,a.eval x= .pointer (some ⟨b,off,none⟩):=by
    unfold xP at hpt
    split at hpt
    ·exact hpt
    ·exact hpt.elim
    ·obtain⟨b,_,e⟩:=hpt;exact⟨b,_,e⟩
   rw[e]at r'⊢
   exact⟨_,by simp,r'⟩
  ·rename_i e0 j hev
   cases hf
   rw[hev]at r
   have r':VR (Mu M0 ρ σ.h) w ρ σ.h (.one (.ip e0 (j+0))) (a.eval x):=r
   obtain⟨b,o2,e,_⟩:=r
   rw[e]at r'⊢
   exact⟨_,by simp,r'⟩
  ·cases hf
 |fieldAddr t x f=>
  simp only[execOp,hop]
  rw[hop]at hc;simp only[eV]at hc
  split at hc
  ·rename_i fd y h1 h2
   split at hc
   ·rename_i n h3
    split at hc
    ·cases hc
    ·rename_i hn0
     cases hc
     obtain⟨fs,hu,hfd⟩:∃fs,P.underlying t=some (.struct fs)∧fs[f]? =some fd:=by
      unfold AY at h1
      split at h1
      ·rename_i fs hu;exact⟨fs,hu,h1⟩
      ·cases h1
     have fin:∀{b off:Nat},(Instr.fieldAt t (.pointer (some ⟨b,off,none⟩)) f).run P w= .ok (.pointer (some ⟨b,off+fd.offset,none⟩)) w:=by
      intro b off
      simp[Instr.fieldAt,run_underlying hu,hfd,Instr.sureAddr,fieldPlace,kO _ h3,hn0,Addr.add_mid]
     have r:=aw s h2
     simp only[bj]at hf
     split at hf
     ·rename_i o' i j hev
      cases hf
      rw[hev]at r
      obtain⟨r0,ob,hr0,hob,hpt⟩:=r
      have hd0:ob= .dead→∃u,(do pure (Next.value (←Instr.fieldAt t (a.eval x) f)):Sem Next).run P w= .ok (.value u) w∧VR (Mu M0 ρ σ.h) w ρ σ.h (.one (.ptr o' i (j+fd.offset))) u:=by
       rintro rfl
       obtain⟨b,off,e⟩:=hpt
       exact⟨_,val (by rw[e];exact fin),r0,_,hr0,hob,b,_,rfl⟩
      have hnd:ob≠ .dead→ob≠ .res→∃u,(do pure (Next.value (←Instr.fieldAt t (a.eval x) f)):Sem Next).run P w= .ok (.value u) w∧VR (Mu M0 ρ σ.h) w ρ σ.h (.one (.ptr o' i (j+fd.offset))) u:=by
       intro hd hn
       obtain⟨b,rfl,e⟩:∃b,r0=some b∧a.eval x= .pointer (some ⟨b,i*ob.z+j,none⟩):=by
        unfold xP at hpt
        split at hpt
        ·exact absurd rfl hd
        ·exact absurd rfl hn
        ·exact hpt
       refine⟨_,val (by rw[e];exact fin),some b,ob,hr0,hob,?_⟩
       unfold xP
       split
       ·exact absurd rfl hd
       ·exact absurd rfl hn
       ·exact⟨b,rfl,by rw[Xj]⟩
      cases ob with
      |dead=>exact hd0 rfl
      |box cs=>exact hnd (by simp) (by simp)
      |fbox ps=>exact hnd (by simp) (by simp)
      |tbox n=>exact hnd (by simp) (by simp)
      |res=>exact(show False from hpt).elim
      |arr z es=>exact hnd (by simp) (by simp)
      |froz z es=>exact hnd (by simp) (by simp)
      |darr z es=>exact hnd (by simp) (by simp)
      |zarr z es=>exact hnd (by simp) (by simp)
     ·rename_i e j hev
      cases hf
      rw[hev]at r
      obtain⟨b,off,e',hm,hlt,hr⟩:=r
      exact⟨_,val (by rw[e'];exact fin),b,off,by rw[Xj],hm,hlt,hr⟩
     ·cases hf
   ·cases hc
  ·cases hc
 |field t x f=>
  simp only[execOp,hop]
  rw[hop]at hc;simp only[eV]at hc
  split at hc
  ·rename_i fd y h1 h2
   split at hc
   ·rename_i g n h3 h4
    cases hc
    obtain⟨fs,hu,hfd⟩:∃fs,P.underlying t=some (.struct fs)∧fs[f]? =some fd:=by
     unfold AY at h1
     split at h1
     ·rename_i fs hu;exact⟨fs,hu,h1⟩
     ·cases h1
    have r:=aw s h2
    simp only[bj]at hf
    split at hf
    ·rename_i ls hev
     rw[hev]at r
     obtain⟨cs,e,hl⟩:=r
     obtain⟨u,hu',hv⟩:=xw (P:=P) h3 h4 hl hf
     exact⟨u,val (by rw[e];simp[Instr.field,run_underlying hu,hfd,asAgg,hu']),hv⟩
    ·cases hf
   ·cases hc
  ·cases hc
 |indexAddr t x i=>
  simp only[execOp,hop]
  rw[hop]at hc;simp only[eV]at hc
  split at hc
  ·rename_i e y j h1 h2 h3
   split at hc
   ·rename_i z h4
    cases hc
    simp only[bj]at hf
    split at hf
    ·rename_i k n hn
     split at hf
     ·rename_i h0
      have ei:=(aw s h3).int hn
      obtain⟨m,rfl⟩:=Int.eq_ofNat_of_zero_le h0
      obtain⟨u,hu,hv⟩:=Gy (k:=k) s h1 h4 (aw s h2) hf
      exact⟨u,val (by rw[ei];exact hu),hv⟩
     ·cases hf
    ·cases hf
   ·cases hc
  ·cases hc
 |index t x i=>
  simp only[execOp,hop]
  rw[hop]at hc;simp only[eV]at hc
  split at hc
  ·rename_i y j h1 h2 h3
   cases hc
   simp only[bj]at hf
   split at hf
   ·rename_i st k n hst hn
    split at hf
    ·rename_i h0
     split at hf
     ·rename_i b hb
      cases hf
      have e1:=(aw s h2).str hst
      have e2:=(aw s h3).int hn
      refine⟨.int .u8 b.toNat,val ?_,VR.mkInt _ _⟩
      have hb':(⟨st.toArray⟩:ByteArray)[n.toNat]? =some b:=by
       obtain⟨hlt,hb'⟩:=Zb.1 hb
       rw[getElem?_pos (⟨st.toArray⟩:ByteArray) n.toNat (by simpa[ByteArray.size]using hlt)]
       simp[ByteArray.getElem_eq_getElem_data,hb']
      rw[e1,e2]
      simp[Instr.index,asIntOf,run_underlying h1,h0,hb']
     ·cases hf
    ·cases hf
   ·cases hf
  ·cases hc
 |extract x i=>
  simp only[execOp,hop]
  rw[hop]at hc;simp only[eV,Zj]at hc
  obtain⟨y,hy,rfl⟩:=hc
  have r:=aw s hy
  simp only[bj]at hf
  split at hf
  ·rename_i xs hev
   rw[hev]at r
   obtain⟨vs,e,hl,hr⟩:=r
   have hex:∀{u:Value},vs[i]? =some u→(Instr.extract (.tuple vs) i).run P w= .ok u w:=fun{u}hu=>by simp[Instr.extract,hu]
   split at hf
   ·rename_i ls hx
    cases hf
    have hi:i<vs.size:=by rw[←hl];exact(Zb.1 hx).1
    have hu:vs[i]? =some vs[i]:=by simp[hi]
    exact⟨vs[i],val (by rw[e];exact hex hu),hr i _ _ hx hu⟩
   ·rename_i l hx
    cases hf
    have hi:i<vs.size:=by rw[←hl];exact(Zb.1 hx).1
    have hu:vs[i]? =some vs[i]:=by simp[hi]
    exact⟨vs[i],val (by rw[e];exact hex hu),hr i _ _ hx hu⟩
   ·cases hf
  ·cases hf
 |call c=>
  rw[hop]at hc;simp only[eV]at hc
  simp only[execOp,hop]
  have bl:∀(b:Builtin)(args:List Operand)(tys:List TypeId),c.callee= .builtin b→c.args.toList=args→c.argTypes.toList=tys→
   ∃cst,(do let d←resolve a.eval c o.type;invoke d.target d.args:Sem Next).run P w=(builtin b tys.toArray o.type cst (args.map a.eval).toArray).run P w:=by
   intro b args tys h1 h2 h3
   have e2:c.args.map a.eval=(args.map a.eval).toArray:=Array.ext' (by rw[Yj,h2])
   have e3:c.argTypes=tys.toArray:=by rw[←h3]
   refine⟨c.args.map fun| .const _=>true|_=>false,?_⟩
   simp only[resolve,h1,Sem.run_bind,Sem.run_pure,Result.andThen_ok,invoke,e3,e2]
   rfl
  split at hc
  ·split at hc
   ·repeat' (split at hc)
    all_goals first|(cases hc;done)|(cases hc;cases hn;done)
   ·cases hc
  ·split at hc
   ·cases hc;cases hn
   ·cases hc
  ·rename_i hcal
   split at hc
   ·rename_i x t hargs htys
    obtain⟨cst,hbl⟩:=bl _ _ _ hcal hargs htys
    rw[hbl]
    split at hc
    ·rename_i y hu hy
     cases hc
     simp only[bj]at hf
     split at hf
     ·rename_i st hst
      cases hf
      have e:=(aw s hy).str hst
      have hsz:(⟨st.toArray⟩:ByteArray).size=st.length:=by simp[ByteArray.size]
      exact⟨.int .i64 st.length,val (x:=Builtin.len_ [t].toArray o.type ([x].map a.eval).toArray) (by simp[Builtin.len_,run_underlying hu,e,goInt,hsz]),VR.mkInt _ _⟩
     ·cases hf
    ·rename_i e0 y hu hy
     cases hc
     simp only[bj]at hf
     split at hf
     ·rename_i es hes
      cases hf
      obtain⟨ad,cp,e⟩:=(sG s (aw s hy) hes).slice
      exact⟨.int .i64 es.length,val (x:=Builtin.len_ [t].toArray o.type ([x].map a.eval).toArray) (by simp[Builtin.len_,run_underlying hu,e,goInt]),VR.mkInt _ _⟩
     ·cases hf
    ·cases hc
   ·cases hc
  ·split at hc
   ·split at hc
    ·split at hc
     ·split at hc
      ·cases hc;cases hf
      ·cases hc
     ·cases hc
    ·split at hc
     ·cases hc;cases hf
     ·cases hc
    ·cases hc
   ·cases hc
  ·rename_i hcal
   split at hc
   ·rename_i x y hargs
    obtain⟨cst,hbl⟩:=bl _ _ _ hcal hargs rfl
    rw[hbl]
    split at hc
    ·rename_i x' y' hx hy
     cases hc
     simp only[bj]at hf
     split at hf
     ·rename_i k m k' n h1 h2
      split at hf
      ·rename_i hk
       subst hk
       cases hf
       have e1:=(aw s hx).int h1
       have e2:=(aw s hy).int h2
       exact⟨.int k (if n<m then n else m),val (x:=Builtin.min_ c.argTypes.toList.toArray o.type ([x,y].map a.eval).toArray) (by simp[Builtin.min_,Builtin.min2,e1,e2]),VR.mkInt _ _⟩
      ·cases hf
     ·cases hf
    ·cases hc
   ·cases hc
  ·rename_i hcal
   split at hc
   ·rename_i x y hargs
    obtain⟨cst,hbl⟩:=bl _ _ _ hcal hargs rfl
    rw[hbl]
    split at hc
    ·rename_i x' y' hx hy
     cases hc
     simp only[bj]at hf
     split at hf
     ·rename_i k m k' n h1 h2
      split at hf
      ·rename_i hk
       subst hk
       cases hf
       have e1:=(aw s hx).int h1
       have e2:=(aw s hy).int h2
       exact⟨.int k (if m<n then n else m),val (x:=Builtin.max_ c.argTypes.toList.toArray o.type ([x,y].map a.eval).toArray) (by simp[Builtin.max_,Builtin.max2,e1,e2]),VR.mkInt _ _⟩
      ·cases hf
     ·cases hf
    ·cases hc
   ·cases hc
  ·cases hc
 |alloc t=>
  rw[hop]at hc;simp only[eV]at hc
  split at hc
  ·split at hc
   ·cases hc;cases hf
   ·cases hc
  ·cases hc
 |box t x=>
  rw[hop]at hc;simp only[eV,Zj]at hc
  obtain⟨y,hy,rfl⟩:=hc
  cases hf
 |buildSlice t n ps=>
  rw[hop]at hc;simp only[eV]at hc
  split at hc
  ·rename_i e1 ps1 _ _
   split at hc
   ·split at hc
    ·cases hc
     by_cases q:(d.st&&(ps1.isEmpty|| !d.dp))=true
     ·rw[if_pos q]at hn;cases hn
     ·rw[if_neg q]at hf;cases hf
    ·cases hc
   ·cases hc
  ·cases hc
 |store t x y=>
  rw[hop]at hc;simp only[eV]at hc
  split at hc
  ·cases hc;cases hf
  ·cases hc
 |makeSlice t x y=>
  rw[hop]at hc;simp only[eV]at hc
  split at hc
  ·split at hc
   ·split at hc
    ·split at hc
     ·split at hc
      ·cases hc;cases hf
      ·cases hc
     ·cases hc
    ·cases hc
   ·cases hc
  ·cases hc
 |makeFunc fn first caps=>
  rw[hop]at hc
  cases fn with
  |func f=>
   simp only[eV]at hc
   split at hc
   ·split at hc
    ·cases hc;cases hf
    ·cases hc
   ·cases hc
  |_=>simp[eV]at hc
 |_=>
  rw[hop]at hc
  simp[eV]at hc
end
end Gi
