/- Of this proof. -/
import Derived.Test.YtgmnakghjemjlaaGreatGif
import Derived.Laws.Tables
set_option linter.unusedSimpArgs false
set_option linter.unusedVariables false
namespace Gi
open Go
variable {KI:KF}
section
variable {Γ:Ctx}{P:Program}{M0:Nat→Prop}{base:Nat}{σ:St}{a:Act}{w:World}{ρ:List (Option Nat)}
theorem eX {α β:Type}{f:α→Option β}:∀{xs:List α}{ys:List β},fK f xs=some ys→ys.length=xs.length
 |[],ys,h=>by simp[fK]at h;subst h;rfl
 |x::xs,ys,h=>by
  unfold fK at h
  split at h
  ·rename_i y ys' h1 h2
   cases h
   simp[eX h2]
  ·cases h
theorem iu {α β:Type}{f:α→Option β}:∀{xs:List α}{ys:List β},fK f xs=some ys→∀(i:Nat)(x:α),xs[i]? =some x→∃y,ys[i]? =some y∧f x=some y
 |[],ys,h,i,x,hx=>by simp at hx
 |x0::xs,ys,h,i,x,hx=>by
  unfold fK at h
  split at h
  ·rename_i y ys' h1 h2
   cases h
   cases i with
   |zero=>simp at hx;subst hx;exact⟨y,rfl,h1⟩
   |succ i=>simpa using iu h2 i x (by simpa using hx)
  ·cases h
theorem OO {α β:Type}{f:α→Option β}{xs:List α}{ys:List β}(h:fK f xs=some ys)(i:Nat)(y:β)(hy:ys[i]? =some y):∃x,xs[i]? =some x∧f x=some y:=by
 have hl:=eX h
 have hi:i<xs.length:=by rw[←hl];exact(List.getElem?_eq_some_iff.1 hy).1
 obtain⟨y',h1,h2⟩:=iu h i xs[i] (by simp[hi])
 rw[hy]at h1;cases h1
 exact⟨_,by simp[hi],h2⟩
theorem Lr {M:Nat→Prop}{h:List AObj}{v:Value}{l:L}(e:P3 v=some l):LR M w ρ h l v:=by
 unfold P3 at e
 split at e<;>cases e
 ·simp[LR,ak]
 ·simp[LR,ak]
 ·simp[LR,ak]
 ·simp[LR]
theorem qi {M:Nat→Prop}{h:List AObj}{vs:List Value}{ls:List L}(e:fK P3 vs=some ls):pG M w ρ h ls vs:=
 ⟨eX e,fun i l v hl hv=>by
  obtain⟨l',h1,h2⟩:=iu e i v hv
  rw[hl]at h1;cases h1
  exact Lr h2⟩
theorem sK {α:Type}(cs:List α)(j:Nat)(ls:List α)(h:j+ls.length≤cs.length):(putAt cs j ls).length=cs.length:=by
 simp[putAt];omega
theorem sJ {α:Type}(cs:List α)(j:Nat)(ls:List α)(h:j+ls.length≤cs.length)(i:Nat):(putAt cs j ls)[i]? =if j≤i∧i<j+ls.length then ls[i-j]? else cs[i]? :=by
 unfold putAt
 by_cases h1:i<j
 ·rw[if_neg (by omega),List.append_assoc,List.getElem?_append_left (by simp;omega)]
  simp[h1]
 ·by_cases h2:i<j+ls.length
  ·rw[if_pos ⟨by omega,h2⟩,List.append_assoc,List.getElem?_append_right (by simp;omega),List.getElem?_append_left (by simp;omega)]
   congr 1
   simp;omega
  ·rw[if_neg (by omega),List.getElem?_append_right (by simp;omega),List.getElem?_drop]
   congr 1
   simp;omega
theorem CT (vs:List Value):∀(off k:Nat)(cs:Array Value),off+k+vs.length≤cs.size→
 ∀i,((vs.zipIdx k).foldl (fun cs(x:Value×Nat)=>cs.setIfInBounds (off+x.2) x.1) cs)[i]? =if off+k≤i∧i<off+k+vs.length then vs[i-(off+k)]? else cs[i]? :=by
 induction vs with
 |nil=>intro off k cs _ i;simp;omega
 |cons v vs ih=>
  intro off k cs h i
  simp only[List.zipIdx_cons,List.foldl_cons]
  rw[ih off (k+1) _ (by simp at h⊢;omega)]
  simp only[List.length_cons]at h⊢
  by_cases h1:off+(k+1)≤i∧i<off+(k+1)+vs.length
  ·rw[if_pos h1,if_pos (by omega)]
   rw[show i-(off+k)=(i-(off+(k+1)))+1 by omega]
   simp
  ·rw[if_neg h1]
   by_cases h2:i=off+k
   ·subst h2
    rw[if_pos (by omega)]
    simp[Array.getElem?_setIfInBounds_self_of_lt (show off+k<cs.size by omega)]
   ·rw[if_neg (by omega),Array.getElem?_setIfInBounds_ne (by omega)]
theorem yE (vs:List Value):∀(off k:Nat)(cs:Array Value),((vs.zipIdx k).foldl (fun cs(x:Value×Nat)=>cs.setIfInBounds (off+x.2) x.1) cs).size=cs.size:=by
 induction vs with
 |nil=>intro off k cs;rfl
 |cons v vs ih=>intro off k cs;simp only[List.zipIdx_cons,List.foldl_cons];rw[ih];simp
theorem Cb {M:Nat→Prop}{h:List AObj}{place:Nat→Option (Nat×Nat)}:∀{parts:List (Nat×Value)}{ps:List (Nat×Nat×V)}{cells:Array Value}{cs cs':List L},
 parts.length=ps.length→(∀(i:Nat)x p,parts[i]? =some x→ps[i]? =some p→place x.1=some (p.1,p.2.1)∧VR M w ρ h p.2.2 x.2)→pG M w ρ h cs cells.toList→dM cs ps=some cs'→
 ∃cells',Instr.fill place cells parts=some cells'∧pG M w ρ h cs' cells'.toList
 |[],[],cells,cs,cs',_,_,hl,hf=>by simp[dM]at hf;subst hf;exact⟨cells,rfl,hl⟩
 |[],p::ps,_,_,_,e,_,_,_=>by simp at e
 |x::parts,[],_,_,_,e,_,_,_=>by simp at e
 |x::parts,p::ps,cells,cs,cs',e,hp,hl,hf=>by
  obtain⟨off,n,v⟩:=p
  obtain⟨i,u⟩:=x
  unfold dM at hf
  split at hf
  ·rename_i hc
   obtain⟨hn,hle,hpl⟩:=hc
   obtain⟨hpos,hv⟩:=hp 0 _ _ rfl rfl
   simp only at hpos hv
   have hcells:=hv.cells (V.not_tup hpl)
   have hsz:u.cells.size=n:=by rw[←hn,hcells.1];simp
   have hlen:cs.length=cells.size:=by rw[hl.1];simp
   have hcond:¬(u.cells.size≠n||decide (off+u.cells.size>cells.size))=true:=by simp[hsz];omega
   have hnew:pG M w ρ h (putAt cs off v.cells) (u.cells.zipIdx.foldl (fun cs(x:Value×Nat)=>cs.setIfInBounds (off+x.2) x.1) cells).toList:=by
    have hfold:u.cells.zipIdx.foldl (fun cs(x:Value×Nat)=>cs.setIfInBounds (off+x.2) x.1) cells=(u.cells.toList.zipIdx 0).foldl (fun cs(x:Value×Nat)=>cs.setIfInBounds (off+x.2) x.1) cells:=by
     rw[←Array.foldl_toList];simp
    rw[hfold]
    refine⟨by rw[sK _ _ _ (by omega)];simp only[Array.length_toList,yE];exact hlen,fun i' l u' hl' hu'=> ?_⟩
    rw[sJ _ _ _ (by omega)]at hl'
    rw[Array.getElem?_toList,CT _ off 0 cells (by simp[hsz];omega)]at hu'
    simp only[Array.length_toList,hsz,Nat.add_zero]at hu'
    rw[hn]at hl'
    split at hl'
    ·rename_i hin
     rw[if_pos hin]at hu'
     exact hcells.2 _ l u' hl' hu'
    ·rename_i hin
     rw[if_neg hin]at hu'
     exact hl.2 _ l u' hl' (by simpa using hu')
   obtain⟨cells',hf',hl'⟩:=Cb (by simpa using e) (fun i' x' p' hx' hp'=>hp (i'+1) x' p' (by simpa using hx') (by simpa using hp')) hnew hf
   refine⟨cells',?_,hl'⟩
   simp only[Instr.fill,hpos]
   rw[if_neg hcond]
   exact hf'
  ·cases hf
theorem G5 (s:SR Γ M0 base σ a w ρ){t:TypeId}{parts:Array (Nat×Operand)}{d:Md}{ao:AOp}{v:V}{call:Nat→List V→Option V}
 (hc:eV P kf d (.build t parts)=some ao) (hf:bg call σ ao=some v):
 ∃u,(Instr.build t (parts.map fun x=>(x.1,a.eval x.2))).run P w= .ok u w∧VR (Mu M0 ρ σ.h) w ρ σ.h v u:=by
 simp only[eV]at hc
 split at hc
 ·rename_i fs v0 ps hu hz hps
  split at hc
  ·rename_i cs hcs
   split at hc
   ·rename_i hall
    cases hc
    simp only[bg]at hf
    split at hf
    ·rename_i cs' hfill
     cases hf
     obtain⟨i,hi,hz'⟩:∃i,P.info? t=some i∧i.zero=some v0:=by
      unfold lJ at hz
      cases hi:P.info? t with
      |none=>simp[hi]at hz
      |some i=>simp[hi]at hz;exact⟨i,rfl,hz⟩
     have hplaces:∃places:List (Nat×Nat),fs.toList.mapM (fun f=>(P.info? f.type).map fun i=>(f.offset,i.size))=some places∧∀(j:Nat)f,fs.toList[j]? =some f→∃n,qT P f.type=some n∧places[j]? =some (f.offset,n):=by
      clear hps hfill hu
      revert hall
      generalize fs.toList=fl
      intro hall
      induction fl with
      |nil=>exact⟨[],rfl,fun j f hj=>by simp at hj⟩
      |cons f fl ih=>
       simp only[List.all_cons,Bool.and_eq_true]at hall
       obtain⟨pl,h1,h2⟩:=ih hall.2
       obtain⟨n,hn⟩:=Option.isSome_iff_exists.1 hall.1
       obtain⟨i',hi',hs'⟩:∃i',P.info? f.type=some i'∧i'.size=n:=by
        unfold qT at hn
        cases hi':P.info? f.type with
        |none=>simp[hi']at hn
        |some i'=>simp[hi']at hn;exact⟨i',rfl,hn⟩
       refine⟨(f.offset,n)::pl,by simp[List.mapM_cons,hi',hs',h1],fun j f' hj=> ?_⟩
       cases j with
       |zero=>simp at hj;subst hj;exact⟨n,hn,rfl⟩
       |succ j=>simpa using h2 j f' (by simpa using hj)
     obtain⟨places,hpl1,hpl2⟩:=hplaces
     obtain⟨cells',hfl,hls⟩:=Cb (w:=w) (ρ:=ρ) (M:=Mu M0 ρ σ.h) (h:=σ.h) (place:=(places.toArray[·]?)) (parts:=parts.toList.map fun x=>(x.1,a.eval x.2)) (cells:=v0.cells) (cs:=cs)
      (by simp[eX hps]) (fun i' x p hx hp=>by
       simp only[List.getElem?_map,Option.map_eq_some_iff]at hx hp
       obtain⟨x0,hx0,rfl⟩:=hx
       obtain⟨p0,hp0,rfl⟩:=hp
       obtain⟨p1,hp1,hp2⟩:=iu hps i' x0 hx0
       rw[hp0]at hp1;cases hp1
       split at hp2
       ·rename_i f y hfd hy
        simp only[Option.map_eq_some_iff]at hp2
        obtain⟨n,hn,rfl⟩:=hp2
        simp only
        have hfs:fs.toList[x0.1]? =some f:=by
         unfold yd at hfd
         rw[hu]at hfd
         simpa using hfd
        obtain⟨n',hn',hp⟩:=hpl2 _ _ hfs
        rw[hn]at hn';cases hn'
        exact⟨by simpa using hp,aq s hy⟩
       ·cases hp2) (qi hcs) hfill
     refine⟨.agg cells',run_build w t _ _ ?_,⟨cells',rfl,hls⟩⟩
     unfold Program.built
     simp only[hi,hu,hz',hpl1]
     simpa using hfl
    ·cases hf
   ·cases hc
  ·cases hc
 ·cases hc
theorem rZ (k:IntKind){i:Int}{y:Nat}(code:BoundsCode)(h0:0≤i)(h1:i≤y):(Instr.sliceBound (.int k i) y code).run P w= .ok i.toNat w:=by
 simp[Instr.sliceBound,asIntOf,h0,h1]
theorem JJ (s:SR Γ M0 base σ a w ρ){t:TypeId}{x:Operand}{lo hi mx:Option Operand}{d:Md}{ao:AOp}{v:V}{call:Nat→List V→Option V}
 (hc:eV P kf d (.slice t x lo hi mx)=some ao) (hn:∀z x lo hi,ao≠ .slcF z x lo hi) (hf:bg call σ ao=some v):
 ∃u,(Instr.sliceAt t (a.eval x) (lo.map a.eval) (hi.map a.eval) (mx.map a.eval)).run P w= .ok u w∧VR (Mu M0 ρ σ.h) w ρ σ.h v u:=by
 simp only[eV]at hc
 split at hc
 ·rename_i y lo' hi' hu hx hlo hhi
  cases hc
  simp only[bg]at hf
  split at hf
  ·rename_i st hst
   obtain hxu:=(aq s hx).str hst
   have hsz:(⟨st.toArray⟩:ByteArray).size=st.length:=by simp[ByteArray.size]
   have bnd:∀{o:Option Operand}{os:List Opd}{n:Int}(def':Int),fK fk o.toList=some os→
    bC σ def' os.head? =some n→(o=none∧n=def')∨∃oo k,o=some oo∧a.eval oo= .int k n:=by
    intro o os n def' ho hn
    cases o with
    |none=>
     simp[fK]at ho;subst ho
     simp[bC]at hn
     exact .inl ⟨rfl,hn.symm⟩
    |some oo=>
     simp only[Option.toList,fK]at ho
     split at ho
     ·rename_i y' ys' h1 h2
      cases h2;cases ho
      simp only[List.head?_cons,bC]at hn
      split at hn
      ·rename_i k n' heq
       cases hn
       exact .inr ⟨oo,k,rfl,(aq s h1).int heq⟩
      ·cases hn
     ·cases ho
   split at hf
   ·rename_i l r hl hr
    split at hf
    ·rename_i hb
     obtain⟨h0,h1,h2⟩:=hb
     cases hf
     have hL:=bnd 0 hlo hl
     have hR:=bnd (st.length:Int) hhi hr
     refine⟨.string ⟨((st.drop l.toNat).take (r.toNat-l.toNat)).toArray⟩,?_,VR.mkStr _⟩
     have hex:(⟨st.toArray⟩:ByteArray).extract l.toNat r.toNat=⟨((st.drop l.toNat).take (r.toNat-l.toNat)).toArray⟩:=by
      apply ByteArray.ext
      simp[ByteArray.data_extract,List.extract_eq_take_drop]
     have e1:(Instr.sliceBounds false st.length st.length (lo.map a.eval) (hi.map a.eval) none).run P w= .ok (l.toNat,r.toNat,st.length) w:=by
      simp only[Instr.sliceBounds,Sem.run_bind,Sem.run_pure,Result.andThen_ok,Bool.false_eq_true,if_false,Option.isSome_none]
      rcases hR with⟨rfl,rfl⟩|⟨oo,k,rfl,ho⟩
      ·rcases hL with⟨rfl,rfl⟩|⟨oo,k,rfl,ho⟩
       ·simp
       ·simp[ho,rZ k _ h0 (show l≤(st.length:Int) by omega)]
      ·rcases hL with⟨rfl,rfl⟩|⟨oo',k',rfl,ho'⟩
       ·simp[ho,rZ k _ (show(0:Int)≤r by omega) h2]
       ·simp[ho,ho',rZ k _ (show(0:Int)≤r by omega) h2,rZ k' _ h0 (show l≤(r.toNat:Int) by omega)]
     rw[hxu]
     simp only[Instr.sliceAt,Sem.run_bind,run_underlying hu,Result.andThen_ok,Instr.slice,Option.map_none,Option.isSome_none,Bool.false_eq_true,if_false,hsz,e1,Sem.run_pure,hex]
    ·cases hf
   ·cases hf
  ·cases hf
 ·split at hc
  ·split at hc
   ·cases hc
   ·cases hc
    by_cases q:d.st=true
    ·exact absurd (by rw[if_pos q]) (hn _ _ _ _)
    ·rw[if_neg q]at hf;cases hf
  ·cases hc
 ·cases hc
end
end Gi
