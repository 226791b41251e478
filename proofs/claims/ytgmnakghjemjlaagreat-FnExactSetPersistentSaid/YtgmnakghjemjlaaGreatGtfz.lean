/- Of this proof. -/
import Derived.Test.YtgmnakghjemjlaaGreatGka
import Derived.Test.YtgmnakghjemjlaaGreatRows
import Derived.KernelRfl
import Derived.Lib.Bytealg
import Derived.Lib.Walk
import Derived.WalkKit
import Derived.Shelf.Abstract
import Derived.Test.YtgmnakghjemjlaaGreatGins
set_option linter.unusedSimpArgs false
set_option linter.unusedVariables false
namespace Go.Proofs.YtgmnakghjemjlaaGreat
open Go Go.RowKit Gi
set_option maxHeartbeats 8000000
def kp :List (Nat×Nat):=[(328,248),(327,247),(214,355),(307,225),(308,226),(27,175),(79,210),(261,404),(301,411),(304,190),(80,61),(303,413),(143,387),(207,396),(208,397),(212,67),(145,389),(82,380),(146,178),(264,407),(83,151),(148,390),(213,246),(206,395),(209,398),(260,403),(86,382),(84,381),(81,379),(149,354),(28,374),(7,619),(85,154),(265,195),(306,224),(266,196),(267,197),(305,223),(263,406),(210,162),(144,388),(269,362),(140,478),(256,261),(201,490),(75,459),(255,498),(202,491),(205,218),(74,458),(204,493),(297,501),(141,479),(73,457),(258,242),(203,492),(254,334),(77,461),(76,460),(72,456),(142,191),(257,499),(26,434),(259,333),(299,347),(326,217),(340,241),(324,415),(268,90),(211,213),(3,610),(223,82),(157,50),(150,205),(87,171),(273,259),(310,268),(271,257),(216,236),(341,279),(330,275),(32,142),(272,258),(217,237),(342,91),(332,69),(331,276),(312,269),(275,94),(220,77),(221,78),(276,9),(222,55),(277,38),(219,76),(151,44),(153,206),(89,172),(31,141),(152,45),(154,207),(90,173),(313,270),(88,14),(30,140),(314,39),(215,235),(218,238),(346,282),(92,19),(34,144),(91,174),(33,143),(29,139),(156,24),(311,63),(155,208),(274,260),(8,108),(224,83),(158,51),(112,469),(104,462),(167,483),(164,480),(226,494),(44,438),(168,484),(166,482),(106,464),(107,465),(111,468),(105,463),(108,466),(43,437),(109,467),(42,436),(46,440),(45,439),(41,435),(165,481),(110,422),(10,425),(113,470),(102,448),(93,441),(162,474),(159,471),(225,485),(38,429),(163,475),(161,473),(96,443),(97,444),(101,447),(95,442),(98,445),(37,428),(99,446),(36,427),(40,431),(39,430),(35,426),(160,472),(100,421),(94,432),(9,420),(103,449),(120,46),(114,198),(47,163),(229,251),(278,262),(227,249),(170,228),(333,277),(315,271),(14,130),(228,250),(171,229),(334,87),(317,64),(316,272),(280,263),(231,92),(174,71),(175,72),(232,5),(176,52),(233,30),(173,70),(115,40),(117,199),(49,164),(13,129),(116,41),(50,165),(281,264),(48,10),(12,128),(282,31),(169,227),(172,230),(343,280),(52,15),(16,132),(51,166),(15,131),(11,127),(119,20),(279,57),(118,200),(230,252),(4,104),(177,79),(121,47),(199,80),(138,48),(131,201),(66,167),(249,255),(292,265),(247,253),(192,232),(335,278),(321,273),(23,136),(248,254),(193,233),(336,89),(323,66),(322,274),(294,266),(251,93),(196,74),(197,75),(252,7),(198,53),(253,34),(195,73),(132,42),(134,202),(68,168),(22,135),(133,43),(135,203),(69,169),(295,267),(67,12),(21,134),(296,35),(191,231),(194,234),(344,281),(71,17),(25,138),(70,170),(24,137),(20,133),(137,22),(293,60),(136,204),(250,256),(6,106),(200,81),(139,49),(262,405),(78,209),(298,346),(339,240),(300,410),(302,412),(147,182),(325,356),(320,245),(319,244),(185,351),(290,221),(291,222),(18,145),(241,400),(287,186),(286,409),(128,384),(187,392),(188,393),(183,65),(130,386),(65,378),(125,177),(243,402),(62,149),(126,383),(184,243),(186,391),(189,394),(285,408),(61,376),(59,375),(64,377),(127,350),(19,373),(5,618),(244,192),(289,220),(245,193),(246,194),(288,219),(242,401),(190,161),(179,487),(123,477),(181,489),(283,329),(57,454),(234,495),(178,486),(240,399),(54,451),(63,58),(284,500),(58,455),(236,497),(180,488),(55,452),(56,453),(122,476),(53,450),(129,385),(17,433),(60,181),(239,359),(238,88),(237,239),(124,187),(182,214),(318,414),(235,496),(270,363)]
def Re (f:Nat):Option Nat:=kp.lookup f
noncomputable instance kfI:KF:=⟨Re,Tryz.prog⟩
theorem FY :∀{l:List (Nat×Nat)}{f k:Nat},l.lookup f=some k→(f,k)∈l
 |[],_,_,h=>by simp at h
 |(a,b)::l,f,k,h=>by
  rw[List.lookup_cons]at h
  split at h
  ·rename_i he
   cases h
   rw[show f=a by simpa using he]
   exact List.mem_cons_self
  ·exact List.mem_cons_of_mem _ (FY h)
def Gm :Ctx:=⟨fun _=>True,0,fun _ _ _ _=>trivial,fun _ _=>Nat.zero_le _⟩
def IU (p:Nat×Nat):Prop:=(∃fn af,Tryz.prog.funcs[p.1]? =some fn∧P2 Tryz.prog Gi.kf fn=some af∧Ph p.2=some af)∨
 (Ph p.2=none∧(∃fn,Tryz.prog.funcs[p.1]? =some fn∧fn.body.isNone=false∧(fn.name== "runtime.NumGoroutine")=false)∧∀xs r,aG p.2 xs=some r→yS Gm Tryz.prog p.1 xs r)
set_option maxRecDepth 100000 in
theorem I5 (a b:ByteArray)(w:World):Calls Tryz.prog 309 #[.string a, .string b] w fun e w'=>e= .returned (.int .i64 (Lib.compareBytes a.data.toList b.data.toList))∧w'=w:=by
 have mixed:Tryz.prog.follows .mixedOrders=true:=by kernel_rfl
 go_enter Tryz.func309,Tryz.ntmps309
 go_wp2
 rw[run_callFunc_extern Tryz.func329 (by kernel_rfl) (by kernel_rfl) (by kernel_rfl) (e:=Extern.BytealgCompare.compare) (by kernel_rfl),Lib.run_compareString]
 simp only[Result.andThen]
 rw[Oper.upon_value]
 go_wp2
 go_ret
 exact⟨rfl,rfl⟩
set_option maxRecDepth 100000 in
theorem Lp (a b:ByteArray)(w:World):Calls Tryz.prog 270 #[.string a, .string b] w fun e w'=>e= .returned (.int .i64 (Lib.compareBytes a.data.toList b.data.toList))∧w'=w:=by
 have mixed:Tryz.prog.follows .mixedOrders=true:=by kernel_rfl
 have e213:∀args w,(callFunc 309 args).run Tryz.prog w= .ok (.enter 309 args) w:=enters_of Tryz.func309 (by kernel_rfl) rfl
 go_enter Tryz.func270,Tryz.ntmps270
 go_wp2_with (go_at_fn 309;refine(I5 _ _ _).mono ?_;rintro e w' ⟨rfl,rfl⟩)
 go_ret
 exact⟨rfl,rfl⟩
theorem Lq :∀xs r,aG 363 xs=some r→yS Gm Tryz.prog 270 xs r:=by
 intro xs r h
 unfold aG at h
 split at h
 rotate_left
 ·cases h
 ·rename_i heq
  cases heq
  rename_i a b
  cases h
  refine⟨rfl,fun M0 w vals hG hM ha=> ?_⟩
  obtain⟨hl,hv⟩:=ha
  obtain⟨v,v2,hvs⟩:∃v v2,vals.toList=[v,v2]:=by
   match h:vals.toList,hl with
   |[v,v2],_=>exact⟨v,v2,rfl⟩
  have h0:VR M0 w [] [] (dS a) v:=hv 0 _ v rfl (by rw[hvs];rfl)
  have h1:VR M0 w [] [] (dS b) v2:=hv 1 _ v2 rfl (by rw[hvs];rfl)
  have hv0:v= .string ⟨a.toArray⟩:=by simpa[VR,LR,ak]using h0
  have hv1:v2= .string ⟨b.toArray⟩:=by simpa[VR,LR,ak]using h1
  obtain rfl:vals= #[.string ⟨a.toArray⟩, .string ⟨b.toArray⟩]:=by cases vals;simp_all
  refine(Lp ⟨a.toArray⟩ ⟨b.toArray⟩ w).mono fun e w'⟨he,hw'⟩=> ?_
  subst hw'
  refine⟨_,he,Below.refl _ _,[],?_,?_⟩
  ·exact⟨rfl,hM,Nat.le_refl _,fun i x q hi hq=>by simp[thaw,thawL]at hi,fun i i' x x' b h1=>by simp[thaw,thawL]at h1⟩
  ·simp[thaw,thawL,VR,LR,ak]
 ·cases h
theorem Ow :IU (325,356):=Or.inr ⟨rfl,⟨Tryz.f325,Tryz.func325,by kernel_rfl,by kernel_rfl⟩,fun xs r h=>by unfold aG at h;split at h<;>first|(rename_i heq;cases heq;done)|cases h⟩
theorem Ox :IU (270,363):=Or.inr ⟨rfl,⟨Tryz.f270,Tryz.func270,by kernel_rfl,by kernel_rfl⟩,Lq⟩
def Al {α:Type}(P:α→Prop):List α→Prop
 |[]=>True
 |a::l=>P a∧Al P l
theorem MM {α:Type}{P:α→Prop}:∀{l:List α},Al P l→∀a∈l,P a
 |[],_,a,m=>by cases m
 |b::l,h,a,m=>by
  rcases List.mem_cons.1 m with rfl|m
  ·exact h.1
  ·exact MM h.2 a m
theorem fN {i k:Nat}{fn:_}{af:AFn}(h:Tryz.prog.funcs[i]? =some fn)(h3:Ph k=some af:=by exact rfl)(h2:P2 Tryz.prog Gi.kf fn=some af:=by as_aux_lemma=>kernel_rfl):IU (i,k):=Or.inl ⟨fn,af,h,h2,h3⟩
def Gc (c:Nat):Prop:=Al IU ((kp.drop (c*16)).take 16)
set_option maxRecDepth 100000 in
theorem Q3 :Gc 0:=⟨fN Tryz.func328,fN Tryz.func327,fN Tryz.func214,fN Tryz.func307,fN Tryz.func308,fN Tryz.func27,fN Tryz.func79,fN Tryz.func261,fN Tryz.func301,fN Tryz.func304,fN Tryz.func80,fN Tryz.func303,fN Tryz.func143,fN Tryz.func207,fN Tryz.func208,fN Tryz.func212,trivial⟩
set_option maxRecDepth 100000 in
theorem Q4 :Gc 1:=⟨fN Tryz.func145,fN Tryz.func82,fN Tryz.func146,fN Tryz.func264,fN Tryz.func83,fN Tryz.func148,fN Tryz.func213,fN Tryz.func206,fN Tryz.func209,fN Tryz.func260,fN Tryz.func86,fN Tryz.func84,fN Tryz.func81,fN Tryz.func149,fN Tryz.func28,fN Tryz.func7,trivial⟩
set_option maxRecDepth 100000 in
theorem Q5 :Gc 2:=⟨fN Tryz.func85,fN Tryz.func265,fN Tryz.func306,fN Tryz.func266,fN Tryz.func267,fN Tryz.func305,fN Tryz.func263,fN Tryz.func210,fN Tryz.func144,fN Tryz.func269,fN Tryz.func140,fN Tryz.func256,fN Tryz.func201,fN Tryz.func75,fN Tryz.func255,fN Tryz.func202,trivial⟩
set_option maxRecDepth 100000 in
theorem Q6 :Gc 3:=⟨fN Tryz.func205,fN Tryz.func74,fN Tryz.func204,fN Tryz.func297,fN Tryz.func141,fN Tryz.func73,fN Tryz.func258,fN Tryz.func203,fN Tryz.func254,fN Tryz.func77,fN Tryz.func76,fN Tryz.func72,fN Tryz.func142,fN Tryz.func257,fN Tryz.func26,fN Tryz.func259,trivial⟩
set_option maxRecDepth 100000 in
theorem Q7 :Gc 4:=⟨fN Tryz.func299,fN Tryz.func326,fN Tryz.func340,fN Tryz.func324,fN Tryz.func268,fN Tryz.func211,fN Tryz.func3,fN Tryz.func223,fN Tryz.func157,fN Tryz.func150,fN Tryz.func87,fN Tryz.func273,fN Tryz.func310,fN Tryz.func271,fN Tryz.func216,fN Tryz.func341,trivial⟩
set_option maxRecDepth 100000 in
theorem Q8 :Gc 5:=⟨fN Tryz.func330,fN Tryz.func32,fN Tryz.func272,fN Tryz.func217,fN Tryz.func342,fN Tryz.func332,fN Tryz.func331,fN Tryz.func312,fN Tryz.func275,fN Tryz.func220,fN Tryz.func221,fN Tryz.func276,fN Tryz.func222,fN Tryz.func277,fN Tryz.func219,fN Tryz.func151,trivial⟩
set_option maxRecDepth 100000 in
theorem Q9 :Gc 6:=⟨fN Tryz.func153,fN Tryz.func89,fN Tryz.func31,fN Tryz.func152,fN Tryz.func154,fN Tryz.func90,fN Tryz.func313,fN Tryz.func88,fN Tryz.func30,fN Tryz.func314,fN Tryz.func215,fN Tryz.func218,fN Tryz.func346,fN Tryz.func92,fN Tryz.func34,fN Tryz.func91,trivial⟩
set_option maxRecDepth 100000 in
theorem Ra :Gc 7:=⟨fN Tryz.func33,fN Tryz.func29,fN Tryz.func156,fN Tryz.func311,fN Tryz.func155,fN Tryz.func274,fN Tryz.func8,fN Tryz.func224,fN Tryz.func158,fN Tryz.func112,fN Tryz.func104,fN Tryz.func167,fN Tryz.func164,fN Tryz.func226,fN Tryz.func44,fN Tryz.func168,trivial⟩
set_option maxRecDepth 100000 in
theorem Rb :Gc 8:=⟨fN Tryz.func166,fN Tryz.func106,fN Tryz.func107,fN Tryz.func111,fN Tryz.func105,fN Tryz.func108,fN Tryz.func43,fN Tryz.func109,fN Tryz.func42,fN Tryz.func46,fN Tryz.func45,fN Tryz.func41,fN Tryz.func165,fN Tryz.func110,fN Tryz.func10,fN Tryz.func113,trivial⟩
set_option maxRecDepth 100000 in
theorem Rc :Gc 9:=⟨fN Tryz.func102,fN Tryz.func93,fN Tryz.func162,fN Tryz.func159,fN Tryz.func225,fN Tryz.func38,fN Tryz.func163,fN Tryz.func161,fN Tryz.func96,fN Tryz.func97,fN Tryz.func101,fN Tryz.func95,fN Tryz.func98,fN Tryz.func37,fN Tryz.func99,fN Tryz.func36,trivial⟩
set_option maxRecDepth 100000 in
theorem QH :Gc 10:=⟨fN Tryz.func40,fN Tryz.func39,fN Tryz.func35,fN Tryz.func160,fN Tryz.func100,fN Tryz.func94,fN Tryz.func9,fN Tryz.func103,fN Tryz.func120,fN Tryz.func114,fN Tryz.func47,fN Tryz.func229,fN Tryz.func278,fN Tryz.func227,fN Tryz.func170,fN Tryz.func333,trivial⟩
set_option maxRecDepth 100000 in
theorem QI :Gc 11:=⟨fN Tryz.func315,fN Tryz.func14,fN Tryz.func228,fN Tryz.func171,fN Tryz.func334,fN Tryz.func317,fN Tryz.func316,fN Tryz.func280,fN Tryz.func231,fN Tryz.func174,fN Tryz.func175,fN Tryz.func232,fN Tryz.func176,fN Tryz.func233,fN Tryz.func173,fN Tryz.func115,trivial⟩
set_option maxRecDepth 100000 in
theorem QJ :Gc 12:=⟨fN Tryz.func117,fN Tryz.func49,fN Tryz.func13,fN Tryz.func116,fN Tryz.func50,fN Tryz.func281,fN Tryz.func48,fN Tryz.func12,fN Tryz.func282,fN Tryz.func169,fN Tryz.func172,fN Tryz.func343,fN Tryz.func52,fN Tryz.func16,fN Tryz.func51,fN Tryz.func15,trivial⟩
set_option maxRecDepth 100000 in
theorem QK :Gc 13:=⟨fN Tryz.func11,fN Tryz.func119,fN Tryz.func279,fN Tryz.func118,fN Tryz.func230,fN Tryz.func4,fN Tryz.func177,fN Tryz.func121,fN Tryz.func199,fN Tryz.func138,fN Tryz.func131,fN Tryz.func66,fN Tryz.func249,fN Tryz.func292,fN Tryz.func247,fN Tryz.func192,trivial⟩
set_option maxRecDepth 100000 in
theorem QL :Gc 14:=⟨fN Tryz.func335,fN Tryz.func321,fN Tryz.func23,fN Tryz.func248,fN Tryz.func193,fN Tryz.func336,fN Tryz.func323,fN Tryz.func322,fN Tryz.func294,fN Tryz.func251,fN Tryz.func196,fN Tryz.func197,fN Tryz.func252,fN Tryz.func198,fN Tryz.func253,fN Tryz.func195,trivial⟩
set_option maxRecDepth 100000 in
theorem QM :Gc 15:=⟨fN Tryz.func132,fN Tryz.func134,fN Tryz.func68,fN Tryz.func22,fN Tryz.func133,fN Tryz.func135,fN Tryz.func69,fN Tryz.func295,fN Tryz.func67,fN Tryz.func21,fN Tryz.func296,fN Tryz.func191,fN Tryz.func194,fN Tryz.func344,fN Tryz.func71,fN Tryz.func25,trivial⟩
set_option maxRecDepth 100000 in
theorem QN :Gc 16:=⟨fN Tryz.func70,fN Tryz.func24,fN Tryz.func20,fN Tryz.func137,fN Tryz.func293,fN Tryz.func136,fN Tryz.func250,fN Tryz.func6,fN Tryz.func200,fN Tryz.func139,fN Tryz.func262,fN Tryz.func78,fN Tryz.func298,fN Tryz.func339,fN Tryz.func300,fN Tryz.func302,trivial⟩
set_option maxRecDepth 100000 in
theorem QO :Gc 17:=⟨fN Tryz.func147,Ow,fN Tryz.func320,fN Tryz.func319,fN Tryz.func185,fN Tryz.func290,fN Tryz.func291,fN Tryz.func18,fN Tryz.func241,fN Tryz.func287,fN Tryz.func286,fN Tryz.func128,fN Tryz.func187,fN Tryz.func188,fN Tryz.func183,fN Tryz.func130,trivial⟩
set_option maxRecDepth 100000 in
theorem QP :Gc 18:=⟨fN Tryz.func65,fN Tryz.func125,fN Tryz.func243,fN Tryz.func62,fN Tryz.func126,fN Tryz.func184,fN Tryz.func186,fN Tryz.func189,fN Tryz.func285,fN Tryz.func61,fN Tryz.func59,fN Tryz.func64,fN Tryz.func127,fN Tryz.func19,fN Tryz.func5,fN Tryz.func244,trivial⟩
set_option maxRecDepth 100000 in
theorem QQ :Gc 19:=⟨fN Tryz.func289,fN Tryz.func245,fN Tryz.func246,fN Tryz.func288,fN Tryz.func242,fN Tryz.func190,fN Tryz.func179,fN Tryz.func123,fN Tryz.func181,fN Tryz.func283,fN Tryz.func57,fN Tryz.func234,fN Tryz.func178,fN Tryz.func240,fN Tryz.func54,fN Tryz.func63,trivial⟩
set_option maxRecDepth 100000 in
theorem QR :Gc 20:=⟨fN Tryz.func284,fN Tryz.func58,fN Tryz.func236,fN Tryz.func180,fN Tryz.func55,fN Tryz.func56,fN Tryz.func122,fN Tryz.func53,fN Tryz.func129,fN Tryz.func17,fN Tryz.func60,fN Tryz.func239,fN Tryz.func238,fN Tryz.func237,fN Tryz.func124,fN Tryz.func182,trivial⟩
set_option maxRecDepth 100000 in
theorem QS :Gc 21:=⟨fN Tryz.func318,fN Tryz.func235,Ox,trivial⟩
theorem Pj :∀{n:Nat}{l:List (Nat×Nat)},(∀c,c<n→Al IU ((l.drop (c*16)).take 16))→l.length≤n*16→∀p∈l,IU p:=by
 intro n l h hl p hp
 obtain⟨i,hi,rfl⟩:=List.getElem_of_mem hp
 refine MM (h (i/16) (by omega)) _ (List.mem_iff_getElem?.2 ⟨i%16,?_⟩)
 rw[List.getElem?_take,if_pos (Nat.mod_lt _ (by decide)),List.getElem?_drop,show i/16*16+i%16=i by omega]
 simp[hi]
set_option maxRecDepth 100000 in
theorem Qd :∀p∈kp,IU p:=Pj (n:=22) (fun c hc=>match c,hc with
 |0,_=>Q3
 |1,_=>Q4
 |2,_=>Q5
 |3,_=>Q6
 |4,_=>Q7
 |5,_=>Q8
 |6,_=>Q9
 |7,_=>Ra
 |8,_=>Rb
 |9,_=>Rc
 |10,_=>QH
 |11,_=>QI
 |12,_=>QJ
 |13,_=>QK
 |14,_=>QL
 |15,_=>QM
 |16,_=>QN
 |17,_=>QO
 |18,_=>QP
 |19,_=>QQ
 |20,_=>QR
 |21,_=>QS
 |c+22,hc=>by omega) (by decide)
theorem mixed :Tryz.prog.follows .mixedOrders=true:=by kernel_rfl
theorem OC :kp.all (fun p=>match Tryz.prog.funcs[p.1]? with|some fn=> !(fn.origin== "slices.Insert")||p.1==325|none=>true)=true:=by kernel_rfl
theorem ins :∀f k fn t e z b,Gi.kf f=some k→Tryz.prog.funcs[f]? =some fn→fn.origin= "slices.Insert" →fn.params.toList.head? =some t→kR Tryz.prog t=some e→qT Tryz.prog e=some z→Lg Tryz.prog e=some b→Ey Tryz.prog f z b:=by
 intro f k fn t e z b hk hfn horg hpar he hz hb
 have h1:=List.all_eq_true.1 OC (f,k) (FY (l:=kp) (f:=f) (k:=k) hk)
 simp only[hfn,horg,beq_self_eq_true,Bool.not_true,Bool.false_or,Bool.or_eq_true,beq_iff_eq]at h1
 obtain rfl:=h1
 ·rw[Tryz.func325]at hfn
  cases hfn
  obtain rfl:78=t:=by simpa using hpar
  rw[show kR Tryz.prog 78=some 256 by kernel_rfl]at he
  cases he
  rw[show qT Tryz.prog 256=some 4 by kernel_rfl]at hz
  rw[show Lg Tryz.prog 256=some 56 by kernel_rfl]at hb
  cases hz
  cases hb
  exact OB
set_option maxRecDepth 100000 in
theorem PF :kp.all (fun p=>Nat.blt p.2 jr&&(Ph (p.2+jr)).isNone)=true:=by kernel_rfl
theorem small :∀f k,Gi.kf f=some k→k<jr∧Ph (k+jr)=none:=by
 intro f k h
 have h1:=List.all_eq_true.1 PF (f,k) (FY (l:=kp) (f:=f) (k:=k) h)
 simp only[Bool.and_eq_true,Option.isNone_iff_eq_none]at h1
 exact⟨by simpa using h1.1,h1.2⟩
theorem QT :Impl Gm Tryz.prog Gi.kf Ph aG:=⟨rfl,mixed,fun f k h=>Qd (f,k) (FY (l:=kp) (f:=f) (k:=k) h),small,ins⟩
end Go.Proofs.YtgmnakghjemjlaaGreat
