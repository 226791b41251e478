/- Of this proof. -/
import Derived.Test.YtbeaonmepfkmmaaGreatGigd
import Derived.Laws.MakeOwn
import Derived.Laws.AppendOwn
set_option linter.unusedSimpArgs false
set_option linter.unusedVariables false
namespace Gi
open Go
variable {KI:KF}
section
variable {Γ:Ctx}{P:Program}{M0:Nat→Prop}{base:Nat}{σ:St}{a:Act}{w:World}{ρ:List (Option Nat)}
def AOp.isCall :AOp→Bool
 | .call _ _ _ _=>true
 | .callV _ _=>true
 | .callD _ _=>true
 | .s2b _=>true
 | .insert _ _ _ _ _ _=>true
 | .delF _ _ _ _=>true
 | .slcF _ _ _ _=>true
 | .buildF _ _=>true
 |_=>false
theorem qy {t:TypeId}{g:Bool}(h:jc P t=some g):(isAgg t).run P w= .ok g w:=by
 unfold jc at h
 split at h
 ·rename_i fs hu;cases h;simp[isAgg,run_underlying hu]
 ·rename_i n e hu;cases h;simp[isAgg,run_underlying hu]
 ·rename_i d h1 h2 hu
  cases h
  simp only[isAgg,Sem.run_bind,run_underlying hu,Result.andThen_ok]
  cases d<;>first|rfl|exact absurd hu (h1 _)|exact absurd hu (h2 _ _)
 ·cases h
theorem wB (s:SR Γ M0 base σ a w ρ){t:TypeId}{x v:V}{u:Value}{g:Bool}{n:Nat}(hg:jc P t=some g)(hn:pe P t=some n)(r:VR (Mu M0 ρ σ.h) w ρ σ.h x u)(hl:bf σ.h g n x=some v):
 ∃u',(loadVar t (match u with| .pointer (some a)=>a|_=>⟨0,0,none⟩)).run P w= .ok u' w∧(∃b o,u= .pointer (some ⟨b,o,none⟩))∧VR (Mu M0 ρ σ.h) w ρ σ.h v u':=by
 obtain⟨b,o,rfl,h⟩:=KU s.hr hl r
 rcases h with⟨rfl,us,hlen,hr,hv⟩|⟨rfl,hn1,u',hc,hv⟩
 ·refine⟨.agg us.toArray,?_,⟨b,o,rfl⟩,hv⟩
  have hcl:(loadCells ⟨b,o,none⟩ n).run P w= .ok us.toArray w:=by
   have:=run_loadCells_list (P:=P) w ⟨b,o,none⟩ us (fun j v hv=>by rw[Addr.add_mid];exact hr j v hv)
   rwa[hlen]at this
  simp[loadVar,Sem.run_bind,qy hg,j9 t hn,hcl]
 ·refine⟨u',?_,⟨b,o,rfl⟩,hv⟩
  have:(load ⟨b,o,none⟩).run P w= .ok u' w:=by simp[load,Sem.run,hc]
  simp only[loadVar,Sem.run_bind,qy hg,Result.andThen_ok,Bool.false_eq_true,if_false,this]
theorem vg {M:Nat→Prop}{h:List AObj}{t:TypeId}{g:Bool}{n off:Nat}{ls:List L}{v:V}{cs:Array Value}(hg:jc P t=some g)(hn:pe P t=some n)(r:qe M w ρ h ls cs.toList)(hc:fO g n off ls=some v):
 ∃u,(part t cs off).run P w= .ok u w∧VR M w ρ h v u:=by
 rcases EL hc r with⟨rfl,hle,hv⟩|⟨rfl,hn1,u,hu,hv⟩
 ·refine⟨_,?_,hv⟩
  have e:cs.extract off (off+n)=((cs.toList.drop off).take n).toArray:=by
   apply Array.ext'
   simp[List.extract_eq_take_drop]
  simp only[part,Sem.run_bind,qy hg,Result.andThen_ok,if_true,j9 t hn,Sem.run_pure,e]
 ·refine⟨u,?_,hv⟩
  have:cs[off]? =some u:=by simpa using hu
  simp[part,Sem.run_bind,qy hg,this]
theorem Iv :∀(ks ks':List EK)(ls ls':List L)(b:Bool),nV (ks++ks') ls ls'=some b→ks.length≤ls.length∧ks.length≤ls'.length∧∃b1 b2,nV ks (ls.take ks.length) (ls'.take ks.length)=some b1∧nV ks' (ls.drop ks.length) (ls'.drop ks.length)=some b2∧b=(b1&&b2)
 |[],ks',ls,ls',b,h=>⟨by simp,by simp,true,b,rfl,by simpa using h,by simp⟩
 |k::ks,ks',[],_,b,h=>by simp[nV]at h
 |k::ks,ks',_::_,[],b,h=>by simp[nV]at h
 |k::ks,ks',l::ls,l'::ls',b,h=>by
  simp only[List.cons_append,nV]at h
  split at h
  ·rename_i x y hx hy
   cases h
   obtain⟨h1,h2,b1,b2,h3,h4,rfl⟩:=Iv ks ks' ls ls' y hy
   refine⟨by simpa using h1,by simpa using h2,x&&b1,b2,?_,by simpa using h4,by rw[Bool.and_assoc]⟩
   simp[nV,hx,h3]
  ·cases h
theorem TO {l l':L}{y:Bool}(h:L6 .b l l'=some y):∃a b,l= .pv (.bool a)∧l'= .pv (.bool b)∧y=(a==b):=by
 unfold L6 at h
 split at h<;>simp_all
theorem TQ {l l':L}{y:Bool}(h:L6 .s l l'=some y):∃a b,l= .pv (.str a)∧l'= .pv (.str b)∧y=(a==b):=by
 unfold L6 at h
 split at h<;>simp_all
theorem TP {l l':L}{y:Bool}(h:L6 .i l l'=some y):∃k a b,l= .pv (.int k a)∧l'= .pv (.int k b)∧y=(a==b):=by
 unfold L6 at h
 split at h<;>simp_all
 exact⟨_,_,⟨rfl,rfl⟩,_,⟨rfl,rfl⟩,h.2.symm⟩
theorem L7 {n:Nat}{t:TypeId}{ks:List EK}(h:Rv P n t=some ks):(jc P t=some true∧∃m fs,n=m+1∧P.underlying t=some (.struct fs)∧P.stoodInHeld t=false∧NO P (Rv P m) fs.toList 0=some ks)∨(jc P t=some false∧((P.underlying t=some .bool∧ks=[.b])∨(∃k,P.underlying t=some (.int k)∧ks=[.i])∨(P.underlying t=some .string∧ks=[.s]))):=by
 cases n with
 |zero=>simp[Rv]at h
 |succ n=>
  unfold Rv at h
  split at h
  ·rename_i hu;cases h;exact .inr ⟨by simp[jc,hu], .inl ⟨hu,rfl⟩⟩
  ·rename_i k hu;cases h;exact .inr ⟨by simp[jc,hu], .inr (.inl ⟨k,hu,rfl⟩)⟩
  ·rename_i hu;cases h;exact .inr ⟨by simp[jc,hu], .inr (.inr ⟨hu,rfl⟩)⟩
  ·rename_i fs hu
   split at h
   ·cases h
   ·rename_i hs
    exact .inl ⟨by simp[jc,hu],n,fs,rfl,hu,by simpa using hs,h⟩
  ·cases h
theorem NX {M:Nat→Prop}{h:List AObj}:∀(n d:Nat)(t:TypeId)(ks:List EK)(x x':V)(u u':Value)(b:Bool),n≤d→Rv P n t=some ks→nV ks x.cells x'.cells=some b→VR M w ρ h x u→VR M w ρ h x' u'→
 (jc P t=some true→∃ls ls',x= .agg ls∧x'= .agg ls')→(jc P t=some false→∃l l',x= .one l∧x'= .one l')→(Op.equalIn d t u u').run P w= .ok b w:=by
 intro n
 induction n with
 |zero=>intro d t ks x x' u u' b _ h;simp[Rv]at h
 |succ n ih=>
  intro d t ks x x' u u' b hd ht he r r' ha ho
  obtain⟨d,rfl⟩:∃d',d=d'+1:=⟨d-1,by omega⟩
  rcases L7 ht with⟨hag,m,fs,hm,hu,hst,hfs⟩|⟨hag,hk⟩
  ·obtain rfl:m=n:=by omega
   obtain⟨ls,ls',rfl,rfl⟩:=ha hag
   obtain⟨cs,rfl,hl⟩:=r
   obtain⟨cs',rfl,hl'⟩:=r'
   have hfo:P.fieldsOf t=fs:=by simp[Program.fieldsOf,hu]
   rw[run_equalIn_struct w d t cs cs' (by rw[hfo];exact hu) hst,hfo]
   simp only[V.cells]at he
   have key:∀(fl:List Field)(off:Nat)(ks:List EK)(b:Bool),NO P (Rv P m) fl off=some ks→nV ks (ls.drop off) (ls'.drop off)=some b→(Op.eqFields d cs cs' fl).run P w= .ok b w:=by
    intro fl
    induction fl with
    |nil=>
     intro off ks b h1 h2
     simp[NO]at h1;subst h1
     simp[nV]at h2;subst h2
     simp[Op.eqFields]
    |cons f fl ihf=>
     intro off ks b h1 h2
     unfold NO at h1
     split at h1
     ·rename_i hname
      obtain⟨hname,rfl⟩:=hname
      split at h1
      ·rename_i k1 hk1
       split at h1
       ·rename_i hsz
        split at h1
        ·rename_i k2 hk2
         cases h1
         obtain⟨g1,g2,b1,b2,g3,g4,rfl⟩:=Iv _ _ _ _ _ h2
         rw[List.drop_drop,List.drop_drop]at g4
         simp only[List.length_drop]at g1 g2
         have i2:=ihf (f.offset+k1.length) k2 b2 hk2 g4
         have hag1:∃g,jc P f.type=some g∧(g=false→k1.length=1):=by
          rcases L7 hk1 with⟨h0,_⟩|⟨h0,⟨_,rfl⟩|⟨_,_,rfl⟩|⟨_,rfl⟩⟩
          ·exact⟨true,h0,by simp⟩
          all_goals exact⟨false,h0,by simp⟩
         obtain⟨g,hg,hg1⟩:=hag1
         have cutx:∀(ls0:List L),k1.length≤ls0.length-f.offset→∃v,fO g k1.length f.offset ls0=some v∧v.cells=(ls0.drop f.offset).take k1.length∧(g=true→∃l,v= .agg l)∧(g=false→∃l,v= .one l):=by
          intro ls0 hle
          have hx:f.offset+k1.length≤ls0.length:=by omega
          cases g with
          |true=>exact⟨.agg ((ls0.drop f.offset).take k1.length),by simp[fO,hx],rfl,fun _=>⟨_,rfl⟩,by simp⟩
          |false=>
           have h1:=hg1 rfl
           have hx':f.offset<ls0.length:=by omega
           refine⟨.one ls0[f.offset],?_,?_,by simp,fun _=>⟨_,rfl⟩⟩
           ·have hx1:f.offset+1≤ls0.length:=by omega
            simp only[fO,h1,hx1,if_true,Bool.false_eq_true,if_false,List.getElem?_eq_getElem hx']
           ·rw[h1]
            simp only[V.cells]
            rw[List.drop_eq_getElem_cons hx']
            rfl
         obtain⟨v,c1,c2,c3,c4⟩:=cutx ls g1
         obtain⟨v',c1',c2',c3',c4'⟩:=cutx ls' g2
         obtain⟨pu,p1,p2⟩:=vg (P:=P) hg hsz.1 hl c1
         obtain⟨pu',p1',p2'⟩:=vg (P:=P) hg hsz.1 hl' c1'
         have i1:=ih d f.type k1 v v' pu pu' b1 (by omega) hk1 (by rw[c2,c2'];exact g3) p2 p2'
          (fun e=>by rw[hg]at e;cases e;obtain⟨l,rfl⟩:=c3 rfl;obtain⟨l',rfl⟩:=c3' rfl;exact⟨l,l',rfl,rfl⟩)
          (fun e=>by rw[hg]at e;cases e;obtain⟨l,rfl⟩:=c4 rfl;obtain⟨l',rfl⟩:=c4' rfl;exact⟨l,l',rfl,rfl⟩)
         simp only[Op.eqFields,if_pos hname,Sem.run_bind,p1,p1',Result.andThen_ok,i1]
         cases b1
         ·simp
         ·simpa using i2
        ·cases h1
       ·cases h1
      ·cases h1
     ·cases h1
   exact key fs.toList 0 ks b hfs (by simpa using he)
  ·obtain⟨l,l',rfl,rfl⟩:=ho hag
   simp only[V.cells]at he
   rcases hk with⟨hu,rfl⟩|⟨k,hu,rfl⟩|⟨hu,rfl⟩
   all_goals
    simp only[nV]at he
    split at he
    ·rename_i y z hy hz
     cases hz
     cases he
     simp only[Bool.and_true]
     first
      |(obtain⟨a,b',rfl,rfl,rfl⟩:=TO hy
        obtain rfl:u= .bool a:=by simpa[VR,LR,ar]using r
        obtain rfl:u'= .bool b':=by simpa[VR,LR,ar]using r'
        exact run_equalIn_bool' w d t a b' hu)
      |(obtain⟨kk,a,b',rfl,rfl,rfl⟩:=TP hy
        obtain rfl:u= .int kk a:=by simpa[VR,LR,ar]using r
        obtain rfl:u'= .int kk b':=by simpa[VR,LR,ar]using r'
        exact run_equalIn_int w d t kk _ a b' hu)
      |(obtain⟨a,b',rfl,rfl,rfl⟩:=TQ hy
        obtain rfl:u= .string ⟨a.toArray⟩:=by simpa[VR,LR,ar]using r
        obtain rfl:u'= .string ⟨b'.toArray⟩:=by simpa[VR,LR,ar]using r'
        rw[run_equalIn_string w d t _ _ hu,tN,tN])
    ·cases he
theorem yt (hP:KI.pr=P)(s:SR Γ M0 base σ a w ρ){o:Oper}{d:Md}{ao:AOp}{v:V}{call:Nat→List V→Option V}
 (hc:eO P kf d o.op=some ao) (hn:ao.isCall=false) (hf:a9 call σ ao=some v):
 ∃u,(execOp a.eval o).run P w= .ok (.value u) w∧VR (Mu M0 ρ σ.h) w ρ σ.h v u:=by
 have val:∀{x:Sem Value}{u:Value},x.run P w= .ok u w→(do pure (Next.value (←x)):Sem Next).run P w= .ok (.value u) w:=fun{x u}h=>by simp[Sem.run_bind,h]
 cases hop:o.op with
 |move x=>
  simp only[execOp,hop]
  rw[hop]at hc;simp only[eO,Option.map_eq_some_iff]at hc
  obtain⟨y,hy,rfl⟩:=hc
  cases hf
  exact⟨_,by simp,aA s hy⟩
 |assign x=>
  simp only[execOp,hop]
  rw[hop]at hc;simp only[eO,Option.map_eq_some_iff]at hc
  obtain⟨y,hy,rfl⟩:=hc
  cases hf
  exact⟨_,by simp,aA s hy⟩
 |lookup t x i c=>
  simp only[execOp,hop]
  rw[hop]at hc;simp only[eO]at hc
  split at hc
  ·cases hc
  ·rename_i hcf
   split at hc
   ·rename_i x' i' k e h1 h2 h3
    split at hc
    ·rename_i hz
     split at hc
     ·rename_i ht
      cases hc
      simp only[a9]at hf
      split at hf
      ·rename_i o' n hx hk
       split at hf
       ·rename_i kvs hob
        split at hf
        ·rename_i hin
         cases hf
         subst hP
         have rx:=aA s h1
         rw[hx]at rx
         obtain⟨b,kvs',hr,ho,ev⟩:=rx
         rw[hob]at ho;cases ho
         have rk:=aA s h2
         rw[hk]at rk
         have ek:a.eval i= .int .i64 n:=by simpa[VR,LR,ar]using rk
         obtain⟨b',e1,hbase,hM⟩:=s.hr.objs o' _ _ hob hr
         cases e1
         obtain⟨t',k',e',D,q1,q2,q3,q4⟩:=hM
         rw[ht]at q1;cases q1
         rw[h3]at q2;cases q2
         obtain⟨u1,u2,u3⟩:=uj h3
         obtain⟨inf,hi,hz'⟩:∃inf,KI.pr.info? e=some inf∧inf.zero=some (.int .i64 0):=by
          unfold lf at hz
          cases hi:KI.pr.info? e with
          |none=>simp[hi]at hz
          |some inf=>simp[hi]at hz;exact⟨inf,rfl,hz⟩
         obtain⟨c',hrun,hat,_⟩:=q3.lookup_int (Maps.int_keyed u2) u1 u3 (by simp[zeroValue,typeInfo,hi,hz']) (Maps.keyOf_int_mk u2 (Gp hin))
         rw[q4 n (Gp hin)]at hat
         have hcv:KV kvs n=c':=by simpa using hat
         have hcf':c=false:=by simpa using hcf
         refine⟨.int .i64 (KV kvs n),?_,by simp[VR,LR,ar]⟩
         rw[hcv]
         exact val (by rw[ev,ek,hcf'];exact hrun)
        ·cases hf
       ·cases hf
      ·cases hf
     ·cases hc
    ·cases hc
   ·cases hc
 |pick c x y=>
  simp only[execOp,hop]
  rw[hop]at hc;simp only[eO]at hc
  split at hc
  ·rename_i c' x' y' h1 h2 h3
   cases hc
   simp only[a9]at hf
   split at hf
   ·rename_i t ht
    cases hf
    have:=(aA s h1).bool ht
    refine⟨if t then a.eval x else a.eval y,by simp[asBool,this],?_⟩
    split
    ·exact aA s h2
    ·exact aA s h3
   ·cases hf
  ·cases hc
 |load t x=>
  simp only[execOp,hop]
  rw[hop]at hc;simp only[eO]at hc
  split at hc
  ·rename_i g n y h1 h2 h3
   cases hc
   have hf':bf σ.h g n (y.ev σ)=some v:=by
    by_cases q:d.st=true
    ·rw[if_pos q]at hf
     simp only[a9]at hf
     split at hf
     ·exact hf
     ·cases hf
    ·rw[if_neg q]at hf
     exact hf
   obtain⟨u',hu',⟨b,off,e⟩,hv⟩:=wB s h1 h2 (aA s h3) hf'
   refine⟨u',?_,hv⟩
   rw[e]at hu'⊢
   exact val (by simpa[Instr.loadAt,Instr.sureAddr]using hu')
  ·cases hc
 |build t parts=>
  simp only[execOp,hop]
  obtain⟨u,hu,hv⟩:=HY s (hop▸hc) hf
  exact⟨u,val hu,hv⟩
 |binOp op t x y ty=>
  simp only[execOp,hop]
  rw[hop]at hc;simp only[eO]at hc
  split at hc
  ·rename_i x' y' hu hx hy
   split at hc
   ·cases hc
    simp only[a9]at hf
    split at hf
    ·rename_i p q hp hq
     cases hf
     have e1:=(aA s hx).bool hp
     have e2:=(aA s hy).bool hq
     refine⟨.bool (p==q),val ?_,VR.mkBool _⟩
     rw[e1,e2,Sem.run_bind,vG,Result.andThen_ok]
     simp[binOp,run_equal_bool w t p q hu]
    ·cases hf
   ·cases hc
    simp only[a9]at hf
    split at hf
    ·rename_i p q hp hq
     cases hf
     have e1:=(aA s hx).bool hp
     have e2:=(aA s hy).bool hq
     refine⟨.bool (!(p==q)),val ?_,VR.mkBool _⟩
     rw[e1,e2,Sem.run_bind,vG,Result.andThen_ok]
     simp[binOp,run_equal_bool w t p q hu]
    ·cases hf
   ·cases hc
  ·rename_i x' y' hu hx hy
   cases hc
   obtain⟨u,hu',hv⟩:=EH (P:=P) (t:=t) (ox:=x) (oy:=y) hf (aA s hx) (aA s hy)
   exact⟨u,val hu',hv⟩
  ·rename_i x' y' hu hx hy
   cases hc
   obtain⟨u,hu',hv⟩:=EH (P:=P) (t:=t) (ox:=x) (oy:=y) hf (aA s hx) (aA s hy)
   exact⟨u,val hu',hv⟩
  ·rename_i fs x' y' hu hx hy
   split at hc
   ·rename_i ks hks hgt
    have fin:∀(neg:Bool),ao= .eqS neg ks x' y'→op=(if neg then .neq else .eql)→∃u,(do pure (Next.value (←(do eqGuard op t x y (a.eval x) (a.eval y);binOp op t (a.eval x) (a.eval y)))):Sem Next).run P w= .ok (.value u) w∧VR (Mu M0 ρ σ.h) w ρ σ.h v u:=by
     rintro neg rfl hopn
     simp only[a9]at hf
     split at hf
     ·rename_i ls ls' hl hl'
      split at hf
      ·rename_i b hb
       cases hf
       have r1:=aA s hx
       have r2:=aA s hy
       rw[hl]at r1;rw[hl']at r2
       have hag:jc P t=some true:=by simp[jc,hu]
       have he:=NX (P:=P) (w:=w) (ρ:=ρ) (M:=Mu M0 ρ σ.h) (h:=σ.h) 6 10000 t ks (.agg ls) (.agg ls') _ _ b (by omega) hks (by simpa[V.cells]using hb) r1 r2 (fun _=>⟨ls,ls',rfl,rfl⟩) (fun e=>by rw[hag]at e;cases e)
       obtain⟨c1,e1,_⟩:=r1
       obtain⟨c2,e2,_⟩:=r2
       rw[e1,e2]at he⊢
       refine⟨.bool (if neg then !b else b),val ?_,VR.mkBool _⟩
       rw[Sem.run_bind,run_eqGuard_agg w op t x y c1 c2 hgt,Result.andThen_ok,hopn]
       cases neg
       ·simp only[Bool.false_eq_true,if_false]
        rw[run_eql_struct w t c1 c2,he];rfl
       ·simp only[if_true]
        rw[run_neq_struct w t c1 c2,he];rfl
      ·cases hf
     ·cases hf
    split at hc
    ·cases hc;exact fin false rfl rfl
    ·cases hc;exact fin true rfl rfl
    ·cases hc
   ·cases hc
  ·cases hc
 |unOp op t x=>
  simp only[execOp,hop]
  rw[hop]at hc;simp only[eO,Option.map_eq_some_iff]at hc
  obtain⟨y,hy,rfl⟩:=hc
  obtain⟨u,hu',hv⟩:=QX (P:=P) hf (aA s hy)
  exact⟨u,val hu',hv⟩
 |convert src dst x=>
  simp only[execOp,hop]
  rw[hop]at hc;simp only[eO]at hc
  split at hc
  ·rename_i k' k y h1 h2 h3
   cases hc
   simp only[a9]at hf
   split at hf
   ·rename_i k0 n hn
    cases hf
    have e1:=(aA s h3).int hn
    refine⟨.int k (k.wrap n),val ?_,VR.mkInt _ _⟩
    rw[e1]
    simp[convert,run_underlying h1,run_underlying h2,Conv.intToInt]
   ·cases hf
  ·rename_i e y h1 h2 h3
   split at hc
   ·rename_i h4
    cases hc
    simp only[a9]at hf
    split at hf
    ·rename_i es hes
     split at hf
     ·rename_i st hst
      cases hf
      have rd:=qV s (aA s h3) hes
      have:=Nk (P:=P) rd hst
      obtain⟨ad,c,e⟩:=rd.slice
      refine⟨.string ⟨st.toArray⟩,val ?_,VR.mkStr _⟩
      rw[e]at this⊢
      simp[convert,run_underlying h1,run_underlying h2,run_underlying h4,this]
     ·cases hf
    ·cases hf
   ·cases hc
  ·split at hc
   ·cases hc;cases hn
   ·cases hc
  ·cases hc
 |slice t x lo hi mx=>
  simp only[execOp,hop]
  obtain⟨u,hu,hv⟩:=Lj s (hop▸hc) (fun z x lo hi e=>by rw[e]at hn;cases hn) hf
  exact⟨u,val hu,hv⟩
 |fieldAddr t x f=>
  simp only[execOp,hop]
  rw[hop]at hc;simp only[eO]at hc
  split at hc
  ·rename_i fd y h1 h2
   split at hc
   ·rename_i n h3
    split at hc
    ·cases hc
    ·rename_i hn0
     cases hc
     obtain⟨fs,hu,hfd⟩:∃fs,P.underlying t=some (.struct fs)∧fs[f]? =some fd:=by
      unfold yq at h1
      split at h1
      ·rename_i fs hu;exact⟨fs,hu,h1⟩
      ·cases h1
     have fin:∀{b off:Nat},(Instr.fieldAt t (.pointer (some ⟨b,off,none⟩)) f).run P w= .ok (.pointer (some ⟨b,off+fd.offset,none⟩)) w:=by
      intro b off
      simp[Instr.fieldAt,run_underlying hu,hfd,Instr.sureAddr,fieldPlace,j9 _ h3,hn0,Addr.add_mid]
     have r:=aA s h2
     simp only[a9]at hf
     split at hf
     ·rename_i o' i j hev
      cases hf
      rw[hev]at r
      obtain⟨r0,ob,hr0,hob,hpt⟩:=r
      have hd0:ob= .dead→∃u,(do pure (Next.value (←Instr.fieldAt t (a.eval x) f)):Sem Next).run P w= .ok (.value u) w∧VR (Mu M0 ρ σ.h) w ρ σ.h (.one (.ptr o' i (j+fd.offset))) u:=by
       rintro rfl
       obtain⟨b,off,e⟩:=hpt
       exact⟨_,val (by rw[e];exact fin),r0,_,hr0,hob,b,_,rfl⟩
      have hnd:ob≠ .dead→ob≠ .res→∃u,(do pure (Next.value (←Instr.fieldAt t (a.eval x) f)):Sem Next).run P w= .ok (.value u) w∧VR (Mu M0 ρ σ.h) w ρ σ.h (.one (.ptr o' i (j+fd.offset))) u:=by
       intro hd hn
       obtain⟨b,rfl,e⟩:∃b,r0=some b∧a.eval x= .pointer (some ⟨b,i*ob.z+j,none⟩):=by
        unfold t7 at hpt
        split at hpt
        ·exact absurd rfl hd
        ·exact absurd rfl hn
        ·exact hpt
       refine⟨_,val (by rw[e];exact fin),some b,ob,hr0,hob,?_⟩
       unfold t7
       split
       ·exact absurd rfl hd
       ·exact absurd rfl hn
       ·exact⟨b,rfl,by rw[Nat.add_assoc]⟩
      cases ob with
      |dead=>exact hd0 rfl
      |box cs=>exact hnd (by simp) (by simp)
      |fbox ps=>exact hnd (by simp) (by simp)
      |imap kvs=>exact hnd (by simp) (by simp)
      |tbox n=>exact hnd (by simp) (by simp)
      |res=>exact(show False from hpt).elim
      |arr z es=>exact hnd (by simp) (by simp)
      |froz z es=>exact hnd (by simp) (by simp)
      |darr z es=>exact hnd (by simp) (by simp)
      |zarr z es=>exact hnd (by simp) (by simp)
     ·rename_i e j hev
      cases hf
      rw[hev]at r
      obtain⟨b,off,e',hm,hlt,hr⟩:=r
      exact⟨_,val (by rw[e'];exact fin),b,off,by rw[Nat.add_assoc],hm,hlt,hr⟩
     ·cases hf
   ·cases hc
  ·cases hc
 |field t x f=>
  simp only[execOp,hop]
  rw[hop]at hc;simp only[eO]at hc
  split at hc
  ·rename_i fd y h1 h2
   split at hc
   ·rename_i g n h3 h4
    cases hc
    obtain⟨fs,hu,hfd⟩:∃fs,P.underlying t=some (.struct fs)∧fs[f]? =some fd:=by
     unfold yq at h1
     split at h1
     ·rename_i fs hu;exact⟨fs,hu,h1⟩
     ·cases h1
    have r:=aA s h2
    simp only[a9]at hf
    split at hf
    ·rename_i ls hev
     rw[hev]at r
     obtain⟨cs,e,hl⟩:=r
     obtain⟨u,hu',hv⟩:=vg (P:=P) h3 h4 hl hf
     exact⟨u,val (by rw[e];simp[Instr.field,run_underlying hu,hfd,asAgg,hu']),hv⟩
    ·cases hf
   ·cases hc
  ·cases hc
 |indexAddr t x i=>
  simp only[execOp,hop]
  rw[hop]at hc;simp only[eO]at hc
  split at hc
  ·rename_i e y j h1 h2 h3
   split at hc
   ·rename_i z h4
    cases hc
    simp only[a9]at hf
    split at hf
    ·rename_i k n hn
     split at hf
     ·rename_i h0
      have ei:=(aA s h3).int hn
      obtain⟨m,rfl⟩:=Int.eq_ofNat_of_zero_le h0
      obtain⟨u,hu,hv⟩:=DH (k:=k) s h1 h4 (aA s h2) hf
      exact⟨u,val (by rw[ei];exact hu),hv⟩
     ·cases hf
    ·cases hf
   ·cases hc
  ·rename_i y j h1 h2 h3
   split at hc
   ·rename_i N e hu
    split at hc
    ·rename_i z h4
     cases hc
     have r:=aA s h2
     simp only[a9]at hf
     split at hf
     ·rename_i o' i0 j0 k n hev hn
      split at hf
      ·rename_i hb
       cases hf
       have ei:=(aA s h3).int hn
       obtain⟨m,rfl⟩:=Int.eq_ofNat_of_zero_le hb.1
       have hmN:m<N:=by have:=hb.2;omega
       have fin:∀{b off:Nat},(Instr.indexAt t (.pointer (some ⟨b,off,none⟩)) (.int k (m:Int))).run P w= .ok (.pointer (some ⟨b,off+m*z,none⟩)) w:=by
        intro b off
        simp[Instr.indexAt,asIntOf,run_underlying hu,Instr.sureAddr,j9 _ h4,hmN,Addr.add_mid]
       rw[hev]at r
       obtain⟨r0,ob,hr0,hob,hpt⟩:=r
       have hd0:ob= .dead→∃u,(do pure (Next.value (←Instr.indexAt t (a.eval x) (a.eval i))):Sem Next).run P w= .ok (.value u) w∧VR (Mu M0 ρ σ.h) w ρ σ.h (.one (.ptr o' i0 (j0+m*z))) u:=by
        rintro rfl
        obtain⟨b,off,e⟩:=hpt
        exact⟨_,val (by rw[e,ei];exact fin),r0,_,hr0,hob,b,_,rfl⟩
       have hnd:ob≠ .dead→ob≠ .res→∃u,(do pure (Next.value (←Instr.indexAt t (a.eval x) (a.eval i))):Sem Next).run P w= .ok (.value u) w∧VR (Mu M0 ρ σ.h) w ρ σ.h (.one (.ptr o' i0 (j0+m*z))) u:=by
        intro hd hn
        obtain⟨b,rfl,e⟩:∃b,r0=some b∧a.eval x= .pointer (some ⟨b,i0*ob.z+j0,none⟩):=by
         unfold t7 at hpt
         split at hpt
         ·exact absurd rfl hd
         ·exact absurd rfl hn
         ·exact hpt
        refine⟨_,val (by rw[e,ei];exact fin),some b,ob,hr0,hob,?_⟩
        unfold t7
        split
        ·exact absurd rfl hd
        ·exact absurd rfl hn
        ·exact⟨b,rfl,by rw[Nat.add_assoc]⟩
       cases ob with
       |dead=>exact hd0 rfl
       |box cs=>exact hnd (by simp) (by simp)
       |fbox ps=>exact hnd (by simp) (by simp)
       |imap kvs=>exact hnd (by simp) (by simp)
       |tbox n=>exact hnd (by simp) (by simp)
       |res=>exact(show False from hpt).elim
       |arr z es=>exact hnd (by simp) (by simp)
       |froz z es=>exact hnd (by simp) (by simp)
       |darr z es=>exact hnd (by simp) (by simp)
       |zarr z es=>exact hnd (by simp) (by simp)
      ·cases hf
     ·cases hf
    ·cases hc
   ·cases hc
  ·cases hc
 |index t x i=>
  simp only[execOp,hop]
  rw[hop]at hc;simp only[eO]at hc
  split at hc
  ·rename_i y j h1 h2 h3
   cases hc
   simp only[a9]at hf
   split at hf
   ·rename_i st k n hst hn
    split at hf
    ·rename_i h0
     split at hf
     ·rename_i b hb
      cases hf
      have e1:=(aA s h2).str hst
      have e2:=(aA s h3).int hn
      refine⟨.int .u8 b.toNat,val ?_,VR.mkInt _ _⟩
      have hb':(⟨st.toArray⟩:ByteArray)[n.toNat]? =some b:=by
       obtain⟨hlt,hb'⟩:=List.getElem?_eq_some_iff.1 hb
       rw[getElem?_pos (⟨st.toArray⟩:ByteArray) n.toNat (by simpa[ByteArray.size]using hlt)]
       simp[ByteArray.getElem_eq_getElem_data,hb']
      rw[e1,e2]
      simp[Instr.index,asIntOf,run_underlying h1,h0,hb']
     ·cases hf
    ·cases hf
   ·cases hf
  ·cases hc
 |extract x i=>
  simp only[execOp,hop]
  rw[hop]at hc;simp only[eO,Option.map_eq_some_iff]at hc
  obtain⟨y,hy,rfl⟩:=hc
  have r:=aA s hy
  simp only[a9]at hf
  split at hf
  ·rename_i xs hev
   rw[hev]at r
   obtain⟨vs,e,hl,hr⟩:=r
   have hex:∀{u:Value},vs[i]? =some u→(Instr.extract (.tuple vs) i).run P w= .ok u w:=fun{u}hu=>by simp[Instr.extract,hu]
   split at hf
   ·rename_i ls hx
    cases hf
    have hi:i<vs.size:=by rw[←hl];exact(List.getElem?_eq_some_iff.1 hx).1
    have hu:vs[i]? =some vs[i]:=by simp[hi]
    exact⟨vs[i],val (by rw[e];exact hex hu),hr i _ _ hx hu⟩
   ·rename_i l hx
    cases hf
    have hi:i<vs.size:=by rw[←hl];exact(List.getElem?_eq_some_iff.1 hx).1
    have hu:vs[i]? =some vs[i]:=by simp[hi]
    exact⟨vs[i],val (by rw[e];exact hex hu),hr i _ _ hx hu⟩
   ·cases hf
  ·cases hf
 |call c=>
  rw[hop]at hc;simp only[eO]at hc
  simp only[execOp,hop]
  have bl:∀(b:Builtin)(args:List Operand)(tys:List TypeId),c.callee= .builtin b→c.args.toList=args→c.argTypes.toList=tys→
   ∃cst,(do let d←resolve a.eval c o.type;invoke d.target d.args:Sem Next).run P w=(builtin b tys.toArray o.type cst (args.map a.eval).toArray).run P w:=by
   intro b args tys h1 h2 h3
   have e2:c.args.map a.eval=(args.map a.eval).toArray:=Array.ext' (by rw[Array.toList_map,h2])
   have e3:c.argTypes=tys.toArray:=by rw[←h3]
   refine⟨c.args.map fun| .const _=>true|_=>false,?_⟩
   simp only[resolve,h1,Sem.run_bind,Sem.run_pure,Result.andThen_ok,invoke,e3,e2]
   rfl
  split at hc
  ·split at hc
   ·repeat' (split at hc)
    all_goals first|(cases hc;done)|(cases hc;cases hn;done)
   ·cases hc
  ·split at hc
   ·cases hc;cases hn
   ·cases hc
  ·rename_i hcal
   split at hc
   ·rename_i x t hargs htys
    obtain⟨cst,hbl⟩:=bl _ _ _ hcal hargs htys
    rw[hbl]
    split at hc
    ·rename_i y hu hy
     cases hc
     simp only[a9]at hf
     split at hf
     ·rename_i st hst
      cases hf
      have e:=(aA s hy).str hst
      have hsz:(⟨st.toArray⟩:ByteArray).size=st.length:=by simp[ByteArray.size]
      exact⟨.int .i64 st.length,val (x:=Builtin.len_ [t].toArray o.type ([x].map a.eval).toArray) (by simp[Builtin.len_,run_underlying hu,e,goInt,hsz]),VR.mkInt _ _⟩
     ·cases hf
    ·rename_i e0 y hu hy
     cases hc
     simp only[a9]at hf
     split at hf
     ·rename_i es hes
      cases hf
      obtain⟨ad,cp,e⟩:=(qV s (aA s hy) hes).slice
      exact⟨.int .i64 es.length,val (x:=Builtin.len_ [t].toArray o.type ([x].map a.eval).toArray) (by simp[Builtin.len_,run_underlying hu,e,goInt]),VR.mkInt _ _⟩
     ·cases hf
    ·cases hc
   ·cases hc
  ·split at hc
   ·split at hc
    ·split at hc
     ·split at hc
      ·cases hc;cases hf
      ·cases hc
     ·cases hc
    ·split at hc
     ·cases hc;cases hf
     ·cases hc
    ·cases hc
   ·cases hc
  ·rename_i hcal
   split at hc
   ·rename_i x y hargs
    obtain⟨cst,hbl⟩:=bl _ _ _ hcal hargs rfl
    rw[hbl]
    split at hc
    ·rename_i x' y' hx hy
     cases hc
     simp only[a9]at hf
     split at hf
     ·rename_i k m k' n h1 h2
      split at hf
      ·rename_i hk
       subst hk
       cases hf
       have e1:=(aA s hx).int h1
       have e2:=(aA s hy).int h2
       exact⟨.int k (if n<m then n else m),val (x:=Builtin.min_ c.argTypes.toList.toArray o.type ([x,y].map a.eval).toArray) (by simp[Builtin.min_,Builtin.min2,e1,e2]),VR.mkInt _ _⟩
      ·cases hf
     ·cases hf
    ·cases hc
   ·cases hc
  ·rename_i hcal
   split at hc
   ·rename_i x y hargs
    obtain⟨cst,hbl⟩:=bl _ _ _ hcal hargs rfl
    rw[hbl]
    split at hc
    ·rename_i x' y' hx hy
     cases hc
     simp only[a9]at hf
     split at hf
     ·rename_i k m k' n h1 h2
      split at hf
      ·rename_i hk
       subst hk
       cases hf
       have e1:=(aA s hx).int h1
       have e2:=(aA s hy).int h2
       exact⟨.int k (if m<n then n else m),val (x:=Builtin.max_ c.argTypes.toList.toArray o.type ([x,y].map a.eval).toArray) (by simp[Builtin.max_,Builtin.max2,e1,e2]),VR.mkInt _ _⟩
      ·cases hf
     ·cases hf
    ·cases hc
   ·cases hc
  ·cases hc
 |alloc t=>
  rw[hop]at hc;simp only[eO]at hc
  split at hc
  ·split at hc
   ·cases hc;cases hf
   ·cases hc
  ·cases hc
 |box t x=>
  rw[hop]at hc;simp only[eO,Option.map_eq_some_iff]at hc
  obtain⟨y,hy,rfl⟩:=hc
  cases hf
 |buildSlice t n ps=>
  rw[hop]at hc;simp only[eO]at hc
  split at hc
  ·rename_i e1 ps1 _ _
   split at hc
   ·split at hc
    ·cases hc
     by_cases q:(d.st&&(ps1.isEmpty|| !d.dp))=true
     ·rw[if_pos q]at hn;cases hn
     ·rw[if_neg q]at hf;cases hf
    ·cases hc
   ·cases hc
  ·cases hc
 |store t x y=>
  rw[hop]at hc;simp only[eO]at hc
  split at hc
  ·cases hc;cases hf
  ·cases hc
 |makeSlice t x y=>
  rw[hop]at hc;simp only[eO]at hc
  split at hc
  ·split at hc
   ·split at hc
    ·split at hc
     ·split at hc
      ·cases hc;cases hf
      ·cases hc
     ·cases hc
    ·cases hc
   ·cases hc
  ·cases hc
 |makeFunc fn first caps=>
  rw[hop]at hc
  cases fn with
  |func f=>
   simp only[eO]at hc
   split at hc
   ·split at hc
    ·cases hc;cases hf
    ·cases hc
   ·cases hc
  |_=>simp[eO]at hc
 |makeMap t r=>
  rw[hop]at hc
  simp only[eO]at hc
  split at hc
  ·split at hc
   ·cases hc;cases hf
   ·cases hc
  ·cases hc
 |mapUpdate t m x y=>
  rw[hop]at hc
  simp only[eO]at hc
  split at hc
  ·split at hc
   ·cases hc;cases hf
   ·cases hc
  ·cases hc
 |_=>
  rw[hop]at hc
  simp[eO]at hc
end
end Gi
