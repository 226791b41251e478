/- Of this proof. -/
import Derived.Test.YtpnolnkjijmfjaaGreatGig
import Derived.Laws.MakeOwn
import Derived.Laws.AppendOwn
set_option linter.all false
namespace Gi
open Go
variable {KI:KF}
section
variable {Γ:Ctx}{P:Program}{M0:Nat->Prop}{base:Nat}{Z:St}{a:Act}{w:World}{J:List (Option Nat)}
def AOp.cG :AOp->Bool
 | .call _ _ _ _=>true
 | .bp _ _=>true
 | .bS _ _=>true
 | .cM _=>true
 | .insert _ _ _ _ _ _=>true
 | .c9 _ _ _ _=>true
 | .c8 _ _ _ _=>true
 | .bc _ _=>true
 |_=>false
def xv {t:TypeId}{g:Bool}(h:oh P t=some g):(isAgg t).run P w= .ok g w:=by
 unfold oh at h;split at h;rename_i fs hu;cases h;simp[isAgg,run_underlying hu];rename_i n e hu;cases h;simp[isAgg,run_underlying hu]
 ·rename_i d h1 h2 hu;cases h;simp only[isAgg,Sem.run_bind,run_underlying hu,Result.andThen_ok];cases d<;>first|rfl|exact absurd hu (h1 _)|exact absurd hu (h2 _ _)
 cases h
def DQ (s:SR Γ M0 base Z a w J){t:TypeId}{x v:V}{u:Value}{g:Bool}{n:Nat}(hg:oh P t=some g)(hn:vX P t=some n)(r:VR (Mu M0 J Z.h) w J Z.h x u)(hl:dP Z.h g n x=some v):
 ∃u',(loadVar t (match u with| .pointer (some a)=>a|_=>⟨0,0,none⟩)).run P w= .ok u' w/\ (∃b o,u= .pointer (some ⟨b,o,none⟩))/\ VR (Mu M0 J Z.h) w J Z.h v u':=by
 obtain⟨b,o,rfl,h⟩:=TD s.hr hl r;rcases h with⟨rfl,us,hlen,hr,hv⟩|⟨rfl,aW,u',hc,hv⟩;refine⟨.agg us.toArray,?_,⟨b,o,rfl⟩,hv⟩;have aX:(loadCells ⟨b,o,none⟩ n).run P w= .ok us.toArray w:=by have:=run_loadCells_list (P:=P) w ⟨b,o,none⟩ us (fun j v hv=>by rw[Addr.add_mid];exact hr j v hv);rwa[hlen]at this
 simp[loadVar,Sem.run_bind,xv hg,qy t hn,aX];refine⟨u',?_,⟨b,o,rfl⟩,hv⟩;have:(load ⟨b,o,none⟩).run P w= .ok u' w:=by simp[load,Sem.run,hc]
 simp only[loadVar,Sem.run_bind,xv hg,Result.andThen_ok,ZA,if_false,this]
def Ka {M:Nat->Prop}{h:List Q0}{t:TypeId}{g:Bool}{n off:Nat}{ls:List L}{v:V}{cs:Array Value}(hg:oh P t=some g)(hn:vX P t=some n)(r:xc M w J h ls cs.toList)(hc:ja g n off ls=some v):
 ∃u,(part t cs off).run P w= .ok u w/\ VR M w J h v u:=by
 rcases Mp hc r with⟨rfl,hle,hv⟩|⟨rfl,aW,u,hu,hv⟩;refine⟨_,?_,hv⟩;have e:cs.extract off (off+n)=((cs.toList.drop off).take n).toArray:=by apply Array.ext';simp[List.extract_eq_take_drop]
 simp only[part,Sem.run_bind,xv hg,Result.andThen_ok,if_true,qy t hn,Sem.run_pure,e];refine⟨u,?_,hv⟩;have:cs[off]? =some u:=by simpa using hu
 simp[part,Sem.run_bind,xv hg,this]
def Ra :∀(ks ag:List EK)(ls ls':List L)(b:Bool),ul (ks++ag) ls ls'=some b->ks.length<=ls.length/\ ks.length<=ls'.length/\ ∃b1 b2,ul ks (ls.take ks.length) (ls'.take ks.length)=some b1/\ ul ag (ls.drop ks.length) (ls'.drop ks.length)=some b2/\ b=(b1&&b2)
 |[],ag,ls,ls',b,h=>⟨by simp,by simp,true,b,rfl,by simpa using h,by simp⟩
 |k::ks,ag,[],_,b,h=>by simp[ul]at h
 |k::ks,ag,_::_,[],b,h=>by simp[ul]at h
 |k::ks,ag,l::ls,l'::ls',b,h=>by simp only[Zh,ul]at h;split at h;rename_i x y hx hy;cases h;obtain⟨h1,h2,b1,b2,h3,h4,rfl⟩:=Ra ks ag ls ls' y hy;refine⟨by simpa using h1,by simpa using h2,x&&b1,b2,?_,by simpa using h4,by rw[Bool.and_assoc]⟩;simp[ul,hx,h3];cases h
def ae0 {l l':L}{y:Bool}(h:UD .b l l'=some y):∃a b,l= .pv (.bool a)/\ l'= .pv (.bool b)/\ y=(a==b):=by unfold UD at h;split at h<;>simp_all
def ae2 {l l':L}{y:Bool}(h:UD .s l l'=some y):∃a b,l= .pv (.str a)/\ l'= .pv (.str b)/\ y=(a==b):=by unfold UD at h;split at h<;>simp_all
def ae1 {l l':L}{y:Bool}(h:UD .i l l'=some y):∃k a b,l= .pv (.int k a)/\ l'= .pv (.int k b)/\ y=(a==b):=by unfold UD at h;split at h<;>simp_all;exact⟨_,_,⟨rfl,rfl⟩,_,⟨rfl,rfl⟩,h.2.symm⟩
def UE {n:Nat}{t:TypeId}{ks:List EK}(h:eqT P n t=some ks):(oh P t=some true/\ ∃m fs,n=m+1/\ P.underlying t=some (.struct fs)/\ P.stoodInHeld t=false/\ V7 P (eqT P m) fs.toList 0=some ks) \/(oh P t=some false/\ ((P.underlying t=some .bool/\ ks=[.b]) \/(∃k,P.underlying t=some (.int k)/\ ks=[.i]) \/(P.underlying t=some .string/\ ks=[.s]))):=by
 cases n with
 |zero=>simp[eqT]at h
 |succ n=>unfold eqT at h;split at h;rename_i hu;cases h;exact .inr ⟨by simp[oh,hu], .inl ⟨hu,rfl⟩⟩;rename_i k hu;cases h;exact .inr ⟨by simp[oh,hu], .inr (.inl ⟨k,hu,rfl⟩)⟩;rename_i hu;cases h;exact .inr ⟨by simp[oh,hu], .inr (.inr ⟨hu,rfl⟩)⟩;rename_i fs hu;split at h;cases h;rename_i hs;exact .inl ⟨by simp[oh,hu],n,fs,rfl,hu,by simpa using hs,h⟩;cases h
def Wg {M:Nat->Prop}{h:List Q0}:∀(n d:Nat)(t:TypeId)(ks:List EK)(x x':V)(u u':Value)(b:Bool),n<=d->eqT P n t=some ks->ul ks x.cells x'.cells=some b->VR M w J h x u->VR M w J h x' u'->
 (oh P t=some true->∃ls ls',x= .agg ls/\ x'= .agg ls')->(oh P t=some false->∃l l',x= .one l/\ x'= .one l')->(Op.equalIn d t u u').run P w= .ok b w:=by
 intro n;induction n with
 |zero=>intro d t ks x x' u u' b _ h;simp[eqT]at h
 |succ n ih=>
  intro d t ks x x' u u' b hd ht he r r' ha ho;obtain⟨d,rfl⟩:∃d',d=d'+1:=⟨d-1,by omega⟩;rcases UE ht with⟨aq,m,fs,hm,hu,ah,aY⟩|⟨aq,hk⟩
  ·obtain rfl:m=n:=by omega
   obtain⟨ls,ls',rfl,rfl⟩:=ha aq;obtain⟨cs,rfl,hl⟩:=r;obtain⟨cs',rfl,aB⟩:=r';have aO:P.fieldsOf t=fs:=by simp[Program.fieldsOf,hu]
   rw[run_equalIn_struct w d t cs cs' (by rw[aO];exact hu) ah,aO];simp only[V.cells]at he;have key:∀(fl:List Field)(off:Nat)(ks:List EK)(b:Bool),V7 P (eqT P m) fl off=some ks->ul ks (ls.drop off) (ls'.drop off)=some b->(Op.eqFields d cs cs' fl).run P w= .ok b w:=by
    intro fl;induction fl with
    |nil=>intro off ks b h1 h2;simp[V7]at h1;subst h1;simp[ul]at h2;subst h2;simp[Op.eqFields]
    |cons f fl aZ=>
     intro off ks b h1 h2;unfold V7 at h1;split at h1
     ·rename_i a5;obtain⟨a5,rfl⟩:=a5;split at h1
      ·rename_i k1 aP;split at h1
       ·rename_i ae;split at h1
        ·rename_i k2 b0;cases h1;obtain⟨g1,g2,b1,b2,g3,g4,rfl⟩:=Ra _ _ _ _ _ h2;rw[List.drop_drop,List.drop_drop]at g4;simp only[YE]at g1 g2;have i2:=aZ (f.offset+k1.length) k2 b2 b0 g4;have aC:∃g,oh P f.type=some g/\ (g=false->k1.length=1):=by rcases UE aP with⟨h0,_⟩|⟨h0,⟨_,rfl⟩|⟨_,_,rfl⟩|⟨_,rfl⟩⟩;exact⟨true,h0,by simp⟩;all_goals exact⟨false,h0,by simp⟩
         obtain⟨g,hg,b3⟩:=aC;have ar:∀(a8:List L),k1.length<=a8.length-f.offset->∃v,ja g k1.length f.offset a8=some v/\ v.cells=(a8.drop f.offset).take k1.length/\ (g=true->∃l,v= .agg l)/\ (g=false->∃l,v= .one l):=by
          intro a8 hle;have hx:f.offset+k1.length<=a8.length:=by omega
          cases g with
          |true=>exact⟨.agg ((a8.drop f.offset).take k1.length),by simp[ja,hx],rfl,fun _=>⟨_,rfl⟩,by simp⟩
          |false=>
           have h1:=b3 rfl;have aQ:f.offset<a8.length:=by omega
           refine⟨.one a8[f.offset],?_,?_,by simp,fun _=>⟨_,rfl⟩⟩;have b4:f.offset+1<=a8.length:=by omega
           simp only[ja,h1,b4,if_true,ZA,if_false,Zj aQ];rw[h1];simp only[V.cells];rw[QS aQ];rfl
         obtain⟨v,c1,c2,c3,c4⟩:=ar ls g1;obtain⟨v',b5,b6,b7,b8⟩:=ar ls' g2;obtain⟨pu,p1,p2⟩:=Ka (P:=P) hg ae.1 hl c1;obtain⟨b9,ba,bb⟩:=Ka (P:=P) hg ae.1 aB b5;have i1:=ih d f.type k1 v v' pu b9 b1 (by omega) aP (by rw[c2,b6];exact g3) p2 bb
          (fun e=>by rw[hg]at e;cases e;obtain⟨l,rfl⟩:=c3 rfl;obtain⟨l',rfl⟩:=b7 rfl;exact⟨l,l',rfl,rfl⟩)
          (fun e=>by rw[hg]at e;cases e;obtain⟨l,rfl⟩:=c4 rfl;obtain⟨l',rfl⟩:=b8 rfl;exact⟨l,l',rfl,rfl⟩)
         simp only[Op.eqFields,if_pos a5,Sem.run_bind,p1,ba,Result.andThen_ok,i1];cases b1;simp;simpa using i2
        cases h1
       cases h1
      cases h1
     cases h1
   exact key fs.toList 0 ks b aY (by simpa using he)
  ·obtain⟨l,l',rfl,rfl⟩:=ho aq;simp only[V.cells]at he;rcases hk with⟨hu,rfl⟩|⟨k,hu,rfl⟩|⟨hu,rfl⟩;all_goals
    simp only[ul]at he
    split at he
    ·rename_i y z hy hz
     cases hz
     cases he
     simp only[Yk]
     first
      |(obtain⟨a,b',rfl,rfl,rfl⟩:=ae0 hy
        obtain rfl:u= .bool a:=by simpa[VR,LR,cG]using r
        obtain rfl:u'= .bool b':=by simpa[VR,LR,cG]using r'
        exact run_equalIn_bool' w d t a b' hu)
      |(obtain⟨kk,a,b',rfl,rfl,rfl⟩:=ae1 hy
        obtain rfl:u= .int kk a:=by simpa[VR,LR,cG]using r
        obtain rfl:u'= .int kk b':=by simpa[VR,LR,cG]using r'
        exact run_equalIn_int w d t kk _ a b' hu)
      |(obtain⟨a,b',rfl,rfl,rfl⟩:=ae2 hy
        obtain rfl:u= .string ⟨a.toArray⟩:=by simpa[VR,LR,cG]using r
        obtain rfl:u'= .string ⟨b'.toArray⟩:=by simpa[VR,LR,cG]using r'
        rw[run_equalIn_string w d t _ _ hu,AT,AT])
    ·cases he
def Fu (hP:KI.pr=P)(s:SR Γ M0 base Z a w J){o:Oper}{d:Md}{ao:AOp}{v:V}{call:Nat->List V->Option V}
 (hc:jm P kf d o.op=some ao) (hn:ao.cG=false) (hf:dY call Z ao=some v):
 ∃u,(execOp a.eval o).run P w= .ok (.value u) w/\ VR (Mu M0 J Z.h) w J Z.h v u:=by
 have val:∀{x:Sem Value}{u:Value},x.run P w= .ok u w->(do pure (Next.value (<-x)):Sem Next).run P w= .ok (.value u) w:=fun{x u}h=>by simp[Sem.run_bind,h]
 cases a1:o.op with
 |move x=>simp only[execOp,a1];rw[a1]at hc;simp only[jm,Zl]at hc;obtain⟨y,hy,rfl⟩:=hc;cases hf;exact⟨_,by simp,cR s hy⟩
 |assign x=>simp only[execOp,a1];rw[a1]at hc;simp only[jm,Zl]at hc;obtain⟨y,hy,rfl⟩:=hc;cases hf;exact⟨_,by simp,cR s hy⟩
 |pick c x y=>simp only[execOp,a1];rw[a1]at hc;simp only[jm]at hc;split at hc;rename_i c' x' y' h1 h2 h3;cases hc;simp only[dY]at hf;split at hf;rename_i t ht;cases hf;have:=(cR s h1).bool ht;refine⟨if t then a.eval x else a.eval y,by simp[asBool,this],?_⟩;split;exact cR s h2;exact cR s h3;cases hf;cases hc
 |load t x=>
  simp only[execOp,a1];rw[a1]at hc;simp only[jm]at hc;split at hc;rename_i g n y h1 h2 h3;cases hc;have bd:dP Z.h g n (y.ev Z)=some v:=by by_cases q:d.st=true;rw[if_pos q]at hf;simp only[dY]at hf;split at hf;exact hf;cases hf;rw[if_neg q]at hf;exact hf
  obtain⟨u',af,⟨b,off,e⟩,hv⟩:=DQ s h1 h2 (cR s h3) bd;refine⟨u',?_,hv⟩;rw[e]at af⊢;exact val (by simpa[Instr.loadAt,Instr.sureAddr]using af);cases hc
 |build t parts=>simp only[execOp,a1];obtain⟨u,hu,hv⟩:=PG s (a1▸hc) hf;exact⟨u,val hu,hv⟩
 |binOp op t x y ty=>
  simp only[execOp,a1];rw[a1]at hc;simp only[jm]at hc;split at hc;rename_i x' y' hu hx hy;split at hc;cases hc;simp only[dY]at hf;split at hf;rename_i p q hp hq;cases hf;have e1:=(cR s hx).bool hp;have e2:=(cR s hy).bool hq;refine⟨.bool (p==q),val ?_,VR.cA _⟩;rw[e1,e2,Sem.run_bind,CY,Result.andThen_ok];simp[binOp,run_equal_bool w t p q hu];cases hf;cases hc;simp only[dY]at hf;split at hf;rename_i p q hp hq;cases hf;have e1:=(cR s hx).bool hp;have e2:=(cR s hy).bool hq;refine⟨.bool (!(p==q)),val ?_,VR.cA _⟩;rw[e1,e2,Sem.run_bind,CY,Result.andThen_ok];simp[binOp,run_equal_bool w t p q hu];cases hf;cases hc;rename_i x' y' hu hx hy;cases hc;obtain⟨u,af,hv⟩:=Mj (P:=P) (t:=t) (ox:=x) (oy:=y) hf (cR s hx) (cR s hy);exact⟨u,val af,hv⟩;rename_i x' y' hu hx hy;cases hc;obtain⟨u,af,hv⟩:=Mj (P:=P) (t:=t) (ox:=x) (oy:=y) hf (cR s hx) (cR s hy);exact⟨u,val af,hv⟩;rename_i fs x' y' hu hx hy;split at hc;rename_i ks bf bg;have fin:∀(neg:Bool),ao= .cY neg ks x' y'->op=(if neg then .neq else .eql)->∃u,(do pure (Next.value (<-(do eqGuard op t x y (a.eval x) (a.eval y);binOp op t (a.eval x) (a.eval y)))):Sem Next).run P w= .ok (.value u) w/\ VR (Mu M0 J Z.h) w J Z.h v u:=by
   rintro neg rfl aD;simp only[dY]at hf;split at hf;rename_i ls ls' hl aB;split at hf;rename_i b hb;cases hf;have r1:=cR s hx;have r2:=cR s hy;rw[hl]at r1;rw[aB]at r2;have aq:oh P t=some true:=by simp[oh,hu]
   have he:=Wg (P:=P) (w:=w) (J:=J) (M:=Mu M0 J Z.h) (h:=Z.h) 6 10000 t ks (.agg ls) (.agg ls') _ _ b (by omega) bf (by simpa[V.cells]using hb) r1 r2 (fun _=>⟨ls,ls',rfl,rfl⟩) (fun e=>by rw[aq]at e;cases e);obtain⟨c1,e1,_⟩:=r1;obtain⟨c2,e2,_⟩:=r2;rw[e1,e2]at he⊢;refine⟨.bool (if neg then !b else b),val ?_,VR.cA _⟩;rw[Sem.run_bind,run_eqGuard_agg w op t x y c1 c2 bg,Result.andThen_ok,aD];cases neg;simp only[ZA,if_false];rw[run_eql_struct w t c1 c2,he];rfl;simp only[if_true];rw[run_neq_struct w t c1 c2,he];rfl;cases hf;cases hf
  split at hc;cases hc;exact fin false rfl rfl;cases hc;exact fin true rfl rfl;cases hc;cases hc;cases hc
 |unOp op t x=>simp only[execOp,a1];rw[a1]at hc;simp only[jm,Zl]at hc;obtain⟨y,hy,rfl⟩:=hc;obtain⟨u,af,hv⟩:=ab7 (P:=P) hf (cR s hy);exact⟨u,val af,hv⟩
 |convert src dst x=>simp only[execOp,a1];rw[a1]at hc;simp only[jm]at hc;split at hc;rename_i k' k y h1 h2 h3;cases hc;simp only[dY]at hf;split at hf;rename_i k0 n hn;cases hf;have e1:=(cR s h3).int hn;refine⟨.int k (k.wrap n),val ?_,VR.mkInt _ _⟩;rw[e1];simp[convert,run_underlying h1,run_underlying h2,Conv.intToInt];cases hf;rename_i e y h1 h2 h3;split at hc;rename_i h4;cases hc;simp only[dY]at hf;split at hf;rename_i es ai;split at hf;rename_i st ah;cases hf;have rd:=xW s (cR s h3) ai;have:=VF (P:=P) rd ah;obtain⟨ad,c,e⟩:=rd.slice;refine⟨.string ⟨st.toArray⟩,val ?_,VR.mkStr _⟩;rw[e]at this⊢;simp[convert,run_underlying h1,run_underlying h2,run_underlying h4,this];cases hf;cases hf;cases hc;split at hc;cases hc;cases hn;cases hc;cases hc
 |slice t x lo hi mx=>simp only[execOp,a1];obtain⟨u,hu,hv⟩:=TW s (a1▸hc) (fun z x lo hi e=>by rw[e]at hn;cases hn) hf;exact⟨u,val hu,hv⟩
 |nilCheck x=>
  simp only[execOp,a1];rw[a1]at hc;simp only[jm,Zl]at hc;obtain⟨y,h2,rfl⟩:=hc;have r:=cR s h2;simp only[dY]at hf;split at hf;rename_i o' i j aa;cases hf;rw[aa]at r;have r':VR (Mu M0 J Z.h) w J Z.h (.one (.ptr o' i (j+0))) (a.eval x):=r;obtain⟨r0,ob,aE,aF,a6⟩:=r;obtain⟨b,off,e⟩:∃b off,a.eval x= .pointer (some ⟨b,off,none⟩):=by unfold CO at a6;split at a6;exact a6;exact a6.elim;obtain⟨b,_,e⟩:=a6;exact⟨b,_,e⟩
  rw[e]at r'⊢;exact⟨_,by simp,r'⟩;rename_i e0 j aa;cases hf;rw[aa]at r;have r':VR (Mu M0 J Z.h) w J Z.h (.one (.ip e0 (j+0))) (a.eval x):=r;obtain⟨b,o2,e,_⟩:=r;rw[e]at r'⊢;exact⟨_,by simp,r'⟩;cases hf
 |fieldAddr t x f=>
  simp only[execOp,a1];rw[a1]at hc;simp only[jm]at hc;split at hc;rename_i fd y h1 h2;split at hc;rename_i n h3;split at hc;cases hc;rename_i bh;cases hc;obtain⟨fs,hu,bj⟩:∃fs,P.underlying t=some (.struct fs)/\ fs[f]? =some fd:=by unfold NI at h1;split at h1;rename_i fs hu;exact⟨fs,hu,h1⟩;cases h1
  have fin:∀{b off:Nat},(Instr.fieldAt t (.pointer (some ⟨b,off,none⟩)) f).run P w= .ok (.pointer (some ⟨b,off+fd.offset,none⟩)) w:=by intro b off;simp[Instr.fieldAt,run_underlying hu,bj,Instr.sureAddr,fieldPlace,qy _ h3,bh,Addr.add_mid]
  have r:=cR s h2;simp only[dY]at hf;split at hf;rename_i o' i j aa;cases hf;rw[aa]at r;obtain⟨r0,ob,aE,aF,a6⟩:=r;have bk:ob= .dead->∃u,(do pure (Next.value (<-Instr.fieldAt t (a.eval x) f)):Sem Next).run P w= .ok (.value u) w/\ VR (Mu M0 J Z.h) w J Z.h (.one (.ptr o' i (j+fd.offset))) u:=by rintro rfl;obtain⟨b,off,e⟩:=a6;exact⟨_,val (by rw[e];exact fin),r0,_,aE,aF,b,_,rfl⟩
  have aj:ob≠ .dead->ob≠ .res->∃u,(do pure (Next.value (<-Instr.fieldAt t (a.eval x) f)):Sem Next).run P w= .ok (.value u) w/\ VR (Mu M0 J Z.h) w J Z.h (.one (.ptr o' i (j+fd.offset))) u:=by
   intro hd hn;obtain⟨b,rfl,e⟩:∃b,r0=some b/\ a.eval x= .pointer (some ⟨b,i*ob.z+j,none⟩):=by unfold CO at a6;split at a6;exact absurd rfl hd;exact absurd rfl hn;exact a6
   refine⟨_,val (by rw[e];exact fin),some b,ob,aE,aF,?_⟩;unfold CO;split;exact absurd rfl hd;exact absurd rfl hn;exact⟨b,rfl,by rw[Nat.add_assoc]⟩
  cases ob with
  |dead=>exact bk rfl
  |box cs=>exact aj (by simp) (by simp)
  |bM ps=>exact aj (by simp) (by simp)
  |bU n=>exact aj (by simp) (by simp)
  |res=>exact(show False from a6).elim
  |arr z es=>exact aj (by simp) (by simp)
  |bI z es=>exact aj (by simp) (by simp)
  |bA z es=>exact aj (by simp) (by simp)
  |bC z es=>exact aj (by simp) (by simp)
  rename_i e j aa;cases hf;rw[aa]at r;obtain⟨b,off,e',hm,hlt,hr⟩:=r;exact⟨_,val (by rw[e'];exact fin),b,off,by rw[Nat.add_assoc],hm,hlt,hr⟩;cases hf;cases hc;cases hc
 |indexAddr t x i=>simp only[execOp,a1];rw[a1]at hc;simp only[jm]at hc;split at hc;rename_i e y j h1 h2 h3;split at hc;rename_i z h4;cases hc;simp only[dY]at hf;split at hf;rename_i k n hn;split at hf;rename_i h0;have ei:=(cR s h3).int hn;obtain⟨m,rfl⟩:=Int.eq_ofNat_of_zero_le h0;obtain⟨u,hu,hv⟩:=Le (k:=k) s h1 h4 (cR s h2) hf;exact⟨u,val (by rw[ei];exact hu),hv⟩;cases hf;cases hf;cases hc;cases hc
 |index t x i=>
  simp only[execOp,a1];rw[a1]at hc;simp only[jm]at hc;split at hc;rename_i y j h1 h2 h3;cases hc;simp only[dY]at hf;split at hf;rename_i st k n ah hn;split at hf;rename_i h0;split at hf;rename_i b hb;cases hf;have e1:=(cR s h2).str ah;have e2:=(cR s h3).int hn;refine⟨.int .u8 b.toNat,val ?_,VR.mkInt _ _⟩;have au:(⟨st.toArray⟩:ByteArray)[n.toNat]? =some b:=by obtain⟨hlt,au⟩:=Zb.1 hb;rw[getElem?_pos (⟨st.toArray⟩:ByteArray) n.toNat (by simpa[ByteArray.size]using hlt)];simp[ByteArray.getElem_eq_getElem_data,au]
  rw[e1,e2];simp[Instr.index,asIntOf,run_underlying h1,h0,au];cases hf;cases hf;cases hf;cases hc
 |extract x i=>
  simp only[execOp,a1];rw[a1]at hc;simp only[jm,Zl]at hc;obtain⟨y,hy,rfl⟩:=hc;have r:=cR s hy;simp only[dY]at hf;split at hf;rename_i xs aa;rw[aa]at r;obtain⟨vs,e,hl,hr⟩:=r;have hex:∀{u:Value},vs[i]? =some u->(Instr.extract (.tuple vs) i).run P w= .ok u w:=fun{u}hu=>by simp[Instr.extract,hu]
  split at hf;rename_i ls hx;cases hf;have hi:i<vs.size:=by rw[<-hl];exact(Zb.1 hx).1
  have hu:vs[i]? =some vs[i]:=by simp[hi]
  exact⟨vs[i],val (by rw[e];exact hex hu),hr i _ _ hx hu⟩;rename_i l hx;cases hf;have hi:i<vs.size:=by rw[<-hl];exact(Zb.1 hx).1
  have hu:vs[i]? =some vs[i]:=by simp[hi]
  exact⟨vs[i],val (by rw[e];exact hex hu),hr i _ _ hx hu⟩;cases hf;cases hf
 |call c=>
  rw[a1]at hc;simp only[jm]at hc;simp only[execOp,a1];have bl:∀(b:Builtin)(args:List Operand)(az:List TypeId),c.callee= .builtin b->c.args.toList=args->c.argTypes.toList=az->
   ∃aA,(do let d<-resolve a.eval c o.type;invoke d.target d.args:Sem Next).run P w=(builtin b az.toArray o.type aA (args.map a.eval).toArray).run P w:=by
   intro b args az h1 h2 h3;have e2:c.args.map a.eval=(args.map a.eval).toArray:=Array.ext' (by rw[ZZ,h2]);have e3:c.argTypes=az.toArray:=by rw[<-h3]
   refine⟨c.args.map fun| .const _=>true|_=>false,?_⟩;simp only[resolve,h1,Sem.run_bind,Sem.run_pure,Result.andThen_ok,invoke,e3,e2];rfl
  split at hc
  ·split at hc
   ·repeat' (split at hc)
    all_goals first|(cases hc;done)|(cases hc;cases hn;done)
   cases hc
  split at hc;cases hc;cases hn;cases hc;rename_i a7;split at hc;rename_i x t a2 aG;obtain⟨aA,av⟩:=bl _ _ _ a7 a2 aG;rw[av];split at hc;rename_i y hu hy;cases hc;simp only[dY]at hf;split at hf;rename_i st ah;cases hf;have e:=(cR s hy).str ah;have ae:(⟨st.toArray⟩:ByteArray).size=st.length:=by simp[ByteArray.size]
  exact⟨.int .i64 st.length,val (x:=Builtin.len_ [t].toArray o.type ([x].map a.eval).toArray) (by simp[Builtin.len_,run_underlying hu,e,goInt,ae]),VR.mkInt _ _⟩;cases hf;rename_i e0 y hu hy;cases hc;simp only[dY]at hf;split at hf;rename_i es ai;cases hf;obtain⟨ad,cp,e⟩:=(xW s (cR s hy) ai).slice;exact⟨.int .i64 es.length,val (x:=Builtin.len_ [t].toArray o.type ([x].map a.eval).toArray) (by simp[Builtin.len_,run_underlying hu,e,goInt]),VR.mkInt _ _⟩;cases hf;cases hc;cases hc;split at hc;split at hc;split at hc;split at hc;cases hc;cases hf;cases hc;cases hc;split at hc;cases hc;cases hf;cases hc;cases hc;cases hc;rename_i a7;split at hc;rename_i x y a2;obtain⟨aA,av⟩:=bl _ _ _ a7 a2 rfl;rw[av];split at hc;rename_i x' y' hx hy;cases hc;simp only[dY]at hf;split at hf;rename_i k m k' n h1 h2;split at hf;rename_i hk;subst hk;cases hf;have e1:=(cR s hx).int h1;have e2:=(cR s hy).int h2;exact⟨.int k (if n<m then n else m),val (x:=Builtin.min_ c.argTypes.toList.toArray o.type ([x,y].map a.eval).toArray) (by simp[Builtin.min_,Builtin.min2,e1,e2]),VR.mkInt _ _⟩;cases hf;cases hf;cases hc;cases hc;rename_i a7;split at hc;rename_i x y a2;obtain⟨aA,av⟩:=bl _ _ _ a7 a2 rfl;rw[av];split at hc;rename_i x' y' hx hy;cases hc;simp only[dY]at hf;split at hf;rename_i k m k' n h1 h2;split at hf;rename_i hk;subst hk;cases hf;have e1:=(cR s hx).int h1;have e2:=(cR s hy).int h2;exact⟨.int k (if m<n then n else m),val (x:=Builtin.max_ c.argTypes.toList.toArray o.type ([x,y].map a.eval).toArray) (by simp[Builtin.max_,Builtin.max2,e1,e2]),VR.mkInt _ _⟩;cases hf;cases hf;cases hc;cases hc;cases hc
 |alloc t=>rw[a1]at hc;simp only[jm]at hc;split at hc;split at hc;cases hc;cases hf;cases hc;cases hc
 |box t x=>rw[a1]at hc;simp only[jm,Zl]at hc;obtain⟨y,hy,rfl⟩:=hc;cases hf
 |buildSlice t n ps=>rw[a1]at hc;simp only[jm]at hc;split at hc;rename_i e1 bm _ _;split at hc;split at hc;cases hc;by_cases q:(d.st&&(bm.isEmpty|| !d.dp))=true;rw[if_pos q]at hn;cases hn;rw[if_neg q]at hf;cases hf;cases hc;cases hc;cases hc
 |store t x y=>rw[a1]at hc;simp only[jm]at hc;split at hc;cases hc;cases hf;cases hc
 |makeSlice t x y=>rw[a1]at hc;simp only[jm]at hc;split at hc;split at hc;split at hc;split at hc;split at hc;cases hc;cases hf;cases hc;cases hc;cases hc;cases hc;cases hc
 |makeFunc fn first caps=>
  rw[a1]at hc;cases fn with
  |func f=>simp only[jm]at hc;split at hc;split at hc;cases hc;cases hf;cases hc;cases hc
  |_=>simp[jm]at hc
 |_=>rw[a1]at hc;simp[jm]at hc
end
end Gi
namespace Gi
open Go Go.RowKit
variable {KI:KF}
section
variable {Γ:Ctx}{P:Program}{M0:Nat->Prop}{base:Nat}{Z:St}{a:Act}{w:World}{J:List (Option Nat)}
def gY (b:Nat):∀(vs:List Value)(o:Nat)(w:World)(cur:Array Value),jb w b cur->o+vs.length<=cur.size->
 ∃cur',jb (w.setCells b o vs) b cur'/\ cur'.size=cur.size/\ ∀i,cur'[i]? =if o<=i/\ i<o+vs.length then vs[i-o]? else cur[i]?
 |[],o,w,cur,hr,_=>⟨cur,hr,rfl,fun i=>by rw[if_neg (by simp)]⟩
 |v::vs,o,w,cur,hr,hl=>by
  simp only[Zo]at hl;have h1:jb (w.setCell ⟨b,o,none⟩ v) b (cur.setIfInBounds o v):=by obtain⟨T,hr⟩:=hr;exact⟨T,heap_setCell_same w b o cur T v hr⟩
  obtain⟨cur',h2,h3,h4⟩:=gY b vs (o+1) _ _ h1 (by simp;omega);refine⟨cur',h2,by rw[h3];simp,fun i=> ?_⟩;rw[h4];simp only[Zo];by_cases e1:o+1<=i/\ i<o+1+vs.length;rw[if_pos e1,if_pos (by omega),show i-o=(i-(o+1))+1 by omega];simp;rw[if_neg e1];by_cases e2:i=o;subst e2;rw[if_pos (by omega),YG (by omega)];simp;rw[if_neg (by omega),YR (by omega)]
def gE (b:Nat):∀(vs:List Value)(o:Nat)(w:World)(k:Nat),k≠b->(w.setCells b o vs).heap[k]? =w.heap[k]?
 |[],_,_,_,_=>rfl
 |v::vs,o,w,k,h=>by rw[World.setCells,gE b vs (o+1) _ k h];exact heap_setCell_other w ⟨b,o,none⟩ k v h
def gF (b:Nat):∀(vs:List Value)(o:Nat)(w:World),(w.setCells b o vs).heap.size=w.heap.size
 |[],_,_=>rfl
 |v::vs,o,w=>by rw[World.setCells,gF b vs (o+1)];simp
def fH (b B:Nat)(hB:B<=b):∀(vs:List Value)(o:Nat)(w0 w:World),Below B w0 w->Below B w0 (w.setCells b o vs)
 |[],_,_,_,h=>h
 |v::vs,o,w0,w,h=>by rw[World.setCells];exact fH b B hB vs (o+1) w0 _ (h.setCell (p:=⟨b,o,none⟩) hB v)
def nU [KF](P:Program)(M0:Nat->Prop)(base:Nat)(Z:St)(w:World)(J:List (Option Nat))(v:V)(h':List Q0)(s:Sem Next):Prop:=
 ∃n u w' J',s.run P w= .ok n w'/\ (n= .value u \/(n= .skip/\ u=undef))/\ Below base w w'/\ HR M0 base w' J' h'/\ Ch (Mu M0 J Z.h) (Mu M0 J' h') w w' J J' Z.h h'/\ VR (Mu M0 J' h') w' J' h' v u
def jb.new (w:World)(cells:Array Value)(t:TypeId):jb (w.alloc (.cells cells t)) w.heap.size cells:=⟨t,heap_alloc_new w _⟩
def iw (w:World)(o:Obj)(b:Nat)(h:b<w.heap.size):(w.alloc o).heap[b]? =w.heap[b]? :=by simp only[World.alloc,Array.getElem?_push];rw[if_neg (by omega)]
def aby (k:HR M0 base w J Z.h)(t:TypeId)(cells:Array Value)(cs:List L)(hl:xc (Mu M0 J Z.h) w J Z.h cs cells.toList):
 ∃J',Below base w (w.alloc (.cells cells t))/\ HR M0 base (w.alloc (.cells cells t)) J' (Z.h++[.box cs])/\ Ch (Mu M0 J Z.h) (Mu M0 J' (Z.h++[.box cs])) w (w.alloc (.cells cells t)) J J' Z.h (Z.h++[.box cs])/\
  VR (Mu M0 J' (Z.h++[.box cs])) (w.alloc (.cells cells t)) J' (Z.h++[.box cs]) (.one (.ptr Z.h.length 0 0)) (.pointer (some ⟨w.heap.size,0,none⟩)):=by
 obtain⟨h1,h2⟩:=k.push (w':=w.alloc (.cells cells t)) (by simp) (fun b hb=>iw w _ b hb) (some w.heap.size) (.box cs) (fun b e=>by cases e;exact Zi _)
  (fun c=>⟨w.heap.size,cells,rfl,k.le,jb.new w cells t,hl.ch c⟩)
 refine⟨_,(Below.refl _ _).alloc k.le _,h1,h2,some w.heap.size, .box cs,?_,?_,w.heap.size,rfl,by simp⟩;rw[<-k.len];simp;simp
def rn {h:List Q0}:∀{ls:List L}{ps:List PV},viewL h ls=some ps->ps.length=ls.length/\ ∀(i:Nat)l,ls[i]? =some l->∃p,ps[i]? =some p/\ l.view h=some p
 |[],ps,e=>by simp[viewL]at e;subst e;exact⟨rfl,fun i l hl=>by simp at hl⟩
 |l::ls,ps,e=>by
  unfold viewL at e;split at e;rename_i p bB h1 h2;cases e;obtain⟨h3,h4⟩:=rn h2;refine⟨by simp[h3],fun i l' hl=> ?_⟩;cases i with
  |zero=>simp at hl;subst hl;exact⟨p,rfl,h1⟩
  |succ i=>simpa using h4 i l' (by simpa using hl)
  cases e
def NN {h:List Q0}(l l':L):l'.view (freezeL h l)=l'.view h:=by
 cases l with
 |arr o=>
  simp only[freezeL];split;rename_i z es ho;cases l' with
  |arr o'=>simp only[L.view];by_cases e:o=o';subst e;rw[Zd (Zb.1 ho).1,ho];rw[Za e]
  |_=>rfl
  rename_i z es ho;cases l' with
  |arr o'=>simp only[L.view];by_cases e:o=o';subst e;rw[Zd (Zb.1 ho).1,ho];rw[Za e]
  |_=>rfl
  rfl
 |_=>rfl
def Gu {h:List Q0}(l l':L)(hm:L.mut h l'=false \/l'=l):L.mut (freezeL h l) l'=false:=by
 cases l with
 |arr o=>
  simp only[freezeL];split;rename_i z es ho;cases l' with
  |arr o'=>simp only[L.mut];by_cases e:o=o';subst e;rw[Zd (Zb.1 ho).1];rw[Za e];rcases hm with hm|hm;exact hm;cases hm;exact absurd rfl e
  |_=>rfl
  rename_i z es ho;cases l' with
  |arr o'=>simp only[L.mut];by_cases e:o=o';subst e;rw[Zd (Zb.1 ho).1];rw[Za e];rcases hm with hm|hm;exact hm;cases hm;exact absurd rfl e
  |_=>rfl
  rename_i bD bn;cases l' with
  |arr o'=>rcases hm with hm|hm;exact hm;cases hm;simp only[L.mut]
  |_=>rfl
 |_=>rcases hm with hm|hm;exact hm;subst hm;rfl
def lw :∀(ls:List L){h:List Q0}(l':L),l'.view (freezeLs h ls)=l'.view h
 |[],_,_=>rfl
 |l::ls,h,l'=>(lw ls (h:=freezeL h l) l').trans (NN l l')
def la :∀(ls:List L){h:List Q0}(l':L),(L.mut h l'=false \/l'∈ls)->L.mut (freezeLs h ls) l'=false
 |[],h,l',hm=>by rcases hm with hm|hm;exact hm;cases hm
 |l::ls,h,l',hm=>by refine la ls (h:=freezeL h l) l' ?_;rcases hm with hm|hm;exact .inl (Gu l l' (.inl hm));rcases ZG.1 hm with rfl|hm;exact .inl (Gu _ _ (.inr rfl));exact .inr hm
def m4 :∀(vs:List V){h:List Q0}(l':L),l'.view (freezeVs h vs)=l'.view h
 |[],_,_=>rfl
 |v::vs,h,l'=>(m4 vs (h:=freezeLs h v.cells) l').trans (lw v.cells l')
def oI :∀(vs:List V){h:List Q0}(l':L),(L.mut h l'=false \/∃v∈vs,l'∈v.cells)->L.mut (freezeVs h vs) l'=false
 |[],h,l',hm=>by rcases hm with hm|⟨v,hv,_⟩;exact hm;cases hv
 |v::vs,h,l',hm=>by refine oI vs (h:=freezeLs h v.cells) l' ?_;rcases hm with hm|⟨v',an,hl⟩;exact .inl (la _ l' (.inl hm));rcases ZG.1 an with rfl|an;exact .inl (la _ l' (.inr hl));exact .inr ⟨v',an,hl⟩
def yd {h h1:List Q0}(k1:HR M0 base w J h1){ls:List L}{us:List Value}{ps:List PV}(hl:xc (Mu M0 J h1) w J h1 ls us)(hv:viewL h ls=some ps)
 (aw:∀l∈ls,l.view h1=l.view h) (aH:∀l∈ls,L.mut h1 l=false):ps.length=us.length/\ ∀(j:Nat)p,ps[j]? =some p->∃v,us[j]? =some v/\ cG (Mu M0 J h1) w p v:=by
 obtain⟨e1,e2⟩:=rn hv;refine⟨e1.trans hl.1,fun j p hp=> ?_⟩;have hj:j<ls.length:=by rw[<-e1];exact(Zb.1 hp).1
 have aR:ls[j]? =some ls[j]:=by simp[hj]
 have aS:us[j]? =some (us[j]'(by rw[<-hl.1];exact hj)):=by simp[<-hl.1,hj]
 obtain⟨p',aT,ak⟩:=e2 j _ aR;rw[hp]at aT;cases aT;have ax:ls[j]∈ls:=Zf hj;exact⟨_,aS,ro k1 (hl.2 j _ _ aR aS) (by rw[aw _ ax];exact ak) (aH _ ax)⟩
def Gg (s:SR Γ M0 base Z a w J){o:Oper}{d:Md}{ao:AOp}{v:V}{h':List Q0}{call:Nat->List V->Option V}{t:TypeId}(a1:o.op= .alloc t)
 (hc:jm P kf d o.op=some ao) (he:fa call Z ao=some (v,h')):nU P M0 base Z w J v h' (execOp a.eval o):=by
 rw[a1]at hc;simp only[jm]at hc;split at hc;rename_i v0 hz;split at hc;rename_i cs ay;cases hc;cases he;obtain⟨i,hi,aI⟩:∃i,P.info? t=some i/\ i.zero=some v0:=by
  unfold si at hz;cases hi:P.info? t with
  |none=>simp[hi]at hz
  |some i=>simp[hi]at hz;exact⟨i,rfl,hz⟩
 obtain⟨J',h1,h2,h3,h4⟩:=aby s.hr t v0.cells cs (uJ ay);refine⟨_,_,_,J',?_, .inl rfl,h1,h2,h3,h4⟩;simp only[execOp,a1];simp[Instr.alloc,zeroValue,typeInfo,hi,aI,newVar,newRow,run_newObj_alloc];cases hc;cases hc
def Mm (s:SR Γ M0 base Z a w J){o:Oper}{d:Md}{ao:AOp}{v:V}{h':List Q0}{call:Nat->List V->Option V}{t:TypeId}{x:Operand}(a1:o.op= .box t x)
 (hc:jm P kf d o.op=some ao) (he:fa call Z ao=some (v,h')):nU P M0 base Z w J v h' (execOp a.eval o):=by rw[a1]at hc;simp only[jm,Zl]at hc;obtain⟨y,hy,rfl⟩:=hc;simp only[fa]at he;split at he;rename_i bo;cases he;have r:=(cR s hy).cells (V.cF bo);obtain⟨J',h1,h2,h3,h4⟩:=aby s.hr t (a.eval x).cells _ r;refine⟨_,_,_,J',?_, .inl rfl,h1,h2,h3,h4⟩;simp only[execOp,a1];simp[Instr.box,newVar,newRow,run_newObj_alloc];cases he
def Ic {h:List Q0}(k:HR M0 base w J h){w':World}(hs:w.heap.size<w'.heap.size)(hb:∀b,b<w.heap.size->w'.heap[b]? =w.heap[b]?){z cap:Nat}{es:List (List PV)}{cur:Array Value}
 (hz:0<z) (ai:∀e∈es,e.length=z) (ab:jb w' w.heap.size cur) (h1:cur.size=cap*z) (h2:es.length<=cap) (h3:cap<=maxLen)
 (hr:∀(i:Nat)(e:List PV)(j:Nat)(p:PV),es[i]? =some e->e[j]? =some p->∃v,cur[i*z+j]? =some v/\ cG (Mu M0 J h) w p v):
 HR M0 base w' (J++[some w.heap.size]) (h++[.arr z es])/\ Ch (Mu M0 J h) (Mu M0 (J++[some w.heap.size]) (h++[.arr z es])) w w' J (J++[some w.heap.size]) h (h++[.arr z es])/\
  VR (Mu M0 (J++[some w.heap.size]) (h++[.arr z es])) w' (J++[some w.heap.size]) (h++[.arr z es]) (.one (.arr h.length)) (.slice (some ⟨w.heap.size,0,none⟩) es.length cap):=by
 obtain⟨g1,g2⟩:=k.push (w':=w') (Yy hs) hb (some w.heap.size) (.arr z es) (fun b e=>by cases e;exact Zi _)
  (fun c=>⟨hz,ai,k.le,cur,cap,ab,h1,h2,h3,fun i e j p he hp=>by
   obtain⟨v,hv,bq⟩:=hr i e j p he hp
   exact⟨v,hv,cG.go c.go p v bq⟩⟩)
 refine⟨g1,g2,some w.heap.size, .arr z es,?_,?_,cur,cap,ab,h1,h2,h3,rfl⟩;rw[<-k.len];simp;simp
def abx {h:List Q0}(k:HR M0 base w J h){w':World}(hs:w.heap.size<w'.heap.size)(hb:∀b,b<w.heap.size->w'.heap[b]? =w.heap[b]?){z cap:Nat}{es:List (List PV)}{cur:Array Value}
 (hz:0<z) (ai:∀e∈es,e.length=z) (ab:jb w' w.heap.size cur) (h1:cur.size=cap*z) (h2:es.length<=cap) (h3:cap<=maxLen)
 (hr:∀(i:Nat)(e:List PV)(j:Nat)(p:PV),es[i]? =some e->e[j]? =some p->∃v,cur[i*z+j]? =some v/\ cG (Mu M0 J h) w p v):
 ∃J',HR M0 base w' J' (h++[.arr z es])/\ Ch (Mu M0 J h) (Mu M0 J' (h++[.arr z es])) w w' J J' h (h++[.arr z es])/\
  VR (Mu M0 J' (h++[.arr z es])) w' J' (h++[.arr z es]) (.one (.arr h.length)) (.slice (some ⟨w.heap.size,0,none⟩) es.length cap):=
 ⟨_,Ic k hs hb hz ai ab h1 h2 h3 hr⟩
def abu {z:Array Value}{n i j:Nat}(hj:j<z.size)(hi:i<n):(madeCells z (n*z.size))[i*z.size+j]? =some z[j]:=by
 have hlt:i*z.size+j<n*z.size:=by
  calc i*z.size+j<i*z.size+z.size:=by omega
   _=(i+1)*z.size:=by rw[Nat.add_mul,Yl]
   _<=n*z.size:=ZE _ hi
 have aJ:(i*z.size+j)%z.size=j:=by rw[YH,Nat.mul_add_mod];exact Nat.mod_eq_of_lt hj
 simp[madeCells,hlt,aJ,hj]
def V1 {M:Nat->Prop}{v:Value}{p:PV}(e:cvP v=some p):cG M w p v:=by unfold cvP at e;split at e<;>cases e;simp[cG];simp[cG];simp[cG];simp only[cG];exact .inl ⟨by trivial,_,_,rfl⟩
def TE (s:SR Γ M0 base Z a w J){o:Oper}{d:Md}{ao:AOp}{v:V}{h':List Q0}{call:Nat->List V->Option V}{t:TypeId}{x y:Operand}(a1:o.op= .makeSlice t x y)
 (hc:jm P kf d o.op=some ao) (he:fa call Z ao=some (v,h')):nU P M0 base Z w J v h' (execOp a.eval o):=by
 rw[a1]at hc;simp only[jm]at hc;split at hc;rename_i e x' y' ht hx hy;split at hc;rename_i br;subst br;split at hc;rename_i aU z v0 aK ae hz;split at hc;rename_i zs aV;split at hc;rename_i aL;cases hc;simp only[fa]at he;split at he;rename_i kk m hm;split at he;rename_i hb;obtain⟨h0,aM,bs,bE⟩:=hb;cases he;obtain⟨m,rfl⟩:=Int.eq_ofNat_of_zero_le h0;have ex:=(cR s hx).int hm;have ey:=(cR s hy).int hm;obtain⟨i,hi,aI,bt,au⟩:∃i,P.info? e=some i/\ i.zero=some v0/\ i.size=z/\ i.bytes=aU:=by
  unfold si at hz;unfold vX at ae;unfold S9 at aK;cases hi:P.info? e with
  |none=>simp[hi]at hz
  |some i=>simp[hi]at hz ae aK;exact⟨i,rfl,hz,ae,aK⟩
 have hu:P.underlying t=some (.slice e):=by unfold lR at ht;split at ht<;>cases ht;assumption
 have ay:v0.cells.size=z:=by rw[<-aL,iH aV];simp
 have bu:(aU:Int)*(m:Int)<=281474976710656:=by rw[Int.mul_comm];omega
 have al:=run_make (P:=P) w t e i v0 hu hi aI kk kk (m:Int) (m:Int) (by omega) (by omega) (by rw[au];exact bu) bs;simp only[Int.toNat_natCast]at al;rw[bt,<-ay]at al;rw[aL];have bw:0<z:=by omega
 obtain⟨J',g1,g2,g3⟩:=abx (h:=Z.h) s.hr (w':=w.alloc (.cells (madeCells v0.cells (m*v0.cells.size)) e)) (by simp) (fun b hb=>iw w _ b hb) (z:=z) (cap:=m) (es:=List.replicate m zs) bw
  (fun e' aN=>by rw[(List.mem_replicate.1 aN).2];exact aL) (jb.new w _ e) (by rw[size_madeCells,ay]) (by simp) (by simp only[maxLen];omega)
  (fun i' e' j p aN hp=>by
   obtain⟨bx,rfl⟩:i'<m/\ zs=e':=by simpa[List.getElem?_replicate]using aN
   obtain⟨v',an,bz⟩:=ac3 aV j p hp
   have hj:j<v0.cells.size:=by simpa using(Zb.1 an).1
   refine⟨v0.cells[j],by rw[<-ay];exact abu hj bx,?_⟩
   have:v'=v0.cells[j]:=by simpa[hj]using an.symm
   rw[<-this]
   exact V1 bz)
 refine⟨.value (.slice (some ⟨w.heap.size,0,none⟩) m m), .slice (some ⟨w.heap.size,0,none⟩) m m,_,J',?_, .inl rfl,(Below.refl _ _).alloc s.hr.le _,g1,g2,?_⟩;simp only[execOp,a1,ex,ey];simp only[Sem.run_bind,al,Result.andThen_ok,Sem.run_pure];simpa using g3;cases he;cases he;cases hc;cases hc;cases hc;cases hc;cases hc
end
end Gi
