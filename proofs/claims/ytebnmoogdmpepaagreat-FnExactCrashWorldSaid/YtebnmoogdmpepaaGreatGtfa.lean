/- Of this proof. -/
import Derived.Test.YtebnmoogdmpepaaGreatGnA
import Derived.Test.YtebnmoogdmpepaaGreatRows
import Derived.KernelRfl
import Derived.Lib.Bytealg
import Derived.Lib.Walk
import Derived.WalkKit
import Derived.Shelf.Abstract
import Derived.Test.YtebnmoogdmpepaaGreatGins
import Derived.Test.YtebnmoogdmpepaaGreatGindr
set_option linter.unusedSimpArgs false
set_option linter.unusedVariables false
namespace Go.Proofs.YtebnmoogdmpepaaGreat
open Go Go.RowKit Gi
set_option maxHeartbeats 8000000
def kp :List (Nat×Nat):=[(402,248),(401,247),(337,349),(278,580),(275,355),(114,668),(38,645),(115,669),(9,625),(36,643),(376,225),(377,226),(62,175),(152,210),(110,152),(201,180),(327,404),(370,411),(373,190),(336,348),(103,61),(372,413),(193,387),(269,396),(270,397),(273,67),(195,389),(105,380),(196,178),(228,407),(106,151),(197,390),(274,246),(268,395),(155,398),(326,403),(108,382),(107,381),(104,379),(198,354),(35,374),(379,358),(276,578),(204,562),(277,579),(113,667),(37,644),(63,154),(330,195),(375,224),(331,196),(332,197),(374,223),(329,406),(271,162),(194,388),(334,362),(190,478),(203,261),(109,490),(100,459),(202,498),(112,491),(267,218),(99,458),(266,493),(230,501),(191,479),(98,457),(324,242),(154,492),(199,334),(102,461),(101,460),(97,456),(192,191),(227,499),(34,434),(325,333),(368,347),(346,217),(386,241),(400,415),(333,90),(272,213),(3,613),(287,82),(212,50),(205,205),(116,171),(11,259),(380,268),(338,257),(280,236),(413,279),(404,275),(42,142),(339,258),(281,237),(414,91),(406,69),(405,276),(382,269),(341,94),(284,77),(285,78),(342,9),(286,55),(343,38),(283,76),(206,44),(208,206),(118,172),(41,141),(207,45),(209,207),(119,173),(383,270),(117,14),(40,140),(384,39),(279,235),(282,238),(419,282),(121,19),(44,144),(120,174),(43,143),(39,139),(211,24),(381,63),(210,208),(340,260),(10,108),(288,83),(213,51),(141,469),(133,462),(221,483),(218,480),(290,494),(54,438),(222,484),(220,482),(135,464),(136,465),(140,468),(134,463),(137,466),(53,437),(138,467),(52,436),(56,440),(55,439),(51,435),(219,481),(139,422),(14,425),(142,470),(131,448),(122,441),(13,474),(214,471),(289,485),(48,429),(217,475),(216,473),(125,443),(126,444),(130,447),(124,442),(127,445),(47,428),(128,446),(46,427),(50,431),(49,430),(45,426),(215,472),(129,421),(123,432),(12,420),(132,449),(166,46),(160,198),(66,163),(302,251),(349,262),(300,249),(235,228),(409,277),(391,271),(20,130),(301,250),(236,229),(410,87),(393,64),(392,272),(351,263),(304,92),(239,71),(240,72),(305,5),(241,52),(306,30),(238,70),(161,40),(163,199),(68,164),(19,129),(162,41),(69,165),(352,264),(67,10),(18,128),(353,31),(234,227),(237,230),(417,280),(71,15),(22,132),(70,166),(21,131),(17,127),(165,20),(350,57),(164,200),(303,252),(5,104),(242,79),(167,47),(264,80),(188,48),(181,201),(91,167),(8,255),(362,265),(318,253),(257,232),(411,278),(397,273),(31,136),(319,254),(258,233),(412,89),(399,66),(398,274),(364,266),(321,93),(261,74),(262,75),(322,7),(263,53),(323,34),(260,73),(182,42),(184,202),(93,168),(30,135),(183,43),(185,203),(94,169),(365,267),(92,12),(29,134),(366,35),(256,231),(259,234),(418,281),(96,17),(33,138),(95,170),(32,137),(28,133),(187,22),(363,60),(186,204),(320,256),(7,106),(265,81),(189,49),(328,405),(111,666),(151,209),(200,179),(367,346),(385,240),(369,410),(371,412),(153,182),(348,356),(396,245),(395,244),(317,345),(255,574),(247,351),(89,664),(27,642),(90,665),(6,624),(25,640),(359,221),(360,222),(57,145),(86,150),(311,400),(356,186),(316,343),(355,409),(173,384),(249,392),(250,393),(245,65),(175,386),(84,378),(170,177),(224,402),(81,149),(171,383),(246,243),(248,391),(144,394),(354,408),(80,376),(78,375),(83,377),(172,350),(24,373),(179,344),(180,677),(361,357),(253,572),(178,559),(254,573),(88,663),(26,641),(313,192),(358,220),(314,193),(315,194),(357,219),(312,401),(251,161),(87,487),(168,477),(243,489),(252,329),(76,454),(176,495),(85,486),(310,399),(73,451),(82,58),(226,500),(77,455),(223,497),(143,488),(74,452),(75,453),(148,476),(72,450),(174,385),(23,433),(79,181),(309,359),(308,88),(307,239),(169,187),(244,214),(394,414),(177,496),(335,363)]
def VS (f:Nat):Option Nat:=kp.lookup f
noncomputable instance kfI:KF:=⟨VS,Tryz.prog⟩
theorem Be :∀{l:List (Nat×Nat)}{f k:Nat},l.lookup f=some k→(f,k)∈l
 |[],_,_,h=>by simp at h
 |(a,b)::l,f,k,h=>by
  rw[List.lookup_cons]at h
  split at h
  ·rename_i he
   cases h
   rw[show f=a by simpa using he]
   exact List.mem_cons_self
  ·exact List.mem_cons_of_mem _ (Be h)
def Gm :Ctx:=⟨fun _=>True,0,fun _ _ _ _=>trivial,fun _ _=>Nat.zero_le _⟩
def JZ (p:Nat×Nat):Prop:=(∃fn af,Tryz.prog.funcs[p.1]? =some fn∧UC Tryz.prog Gi.kf p.2 fn=some af∧Ph p.2=some af)∨
 (Ph p.2=none∧(∃fn,Tryz.prog.funcs[p.1]? =some fn∧fn.body.isNone=false∧(fn.name== "runtime.NumGoroutine")=false)∧∀xs r,au p.2 xs=some r→xQ Gm Tryz.prog p.1 xs r)
theorem Vt {M0:Nat→Prop}{w w':World}{r:V}{v:Value}(hM:∀b,M0 b→b<w.heap.size)(hb:Below w.heap.size w w')(ht:thaw [] r=(r,[]))(hv:VR (Mu M0 [] []) w' [] [] r v):vD M0 w.heap.size w' r v:=by
 refine⟨[],?_,?_⟩
 ·rw[ht]
  exact⟨⟨rfl,fun b h=>⟨Nat.lt_of_lt_of_le (hM b h) hb.size,fun o ob ho=>by simp at ho⟩,hb.size,fun i x r hi=>by simp at hi,fun i i' x x' b h1=>by simp at h1⟩,fun _=>[],⟨fun i x b hi=>by simp at hi,fun i x z2 es2 b hi=>by simp at hi⟩,fun _ _=>rfl,nofun⟩
 ·rw[ht]
  exact hv
set_option maxRecDepth 100000 in
theorem Mt (a b:ByteArray)(w:World):Calls Tryz.prog 378 #[.string a, .string b] w fun e w'=>e= .returned (.int .i64 (Lib.compareBytes a.data.toList b.data.toList))∧w'=w:=by
 have mixed:Tryz.prog.follows .mixedOrders=true:=by kernel_rfl
 go_enter Tryz.func378,Tryz.ntmps378
 go_wp2
 rw[run_callFunc_extern Tryz.func403 (by kernel_rfl) (by kernel_rfl) (by kernel_rfl) (e:=Extern.BytealgCompare.compare) (by kernel_rfl),Lib.run_compareString]
 simp only[Result.andThen]
 rw[Oper.upon_value]
 go_wp2
 go_ret
 exact⟨rfl,rfl⟩
set_option maxRecDepth 100000 in
theorem Pg (a b:ByteArray)(w:World):Calls Tryz.prog 335 #[.string a, .string b] w fun e w'=>e= .returned (.int .i64 (Lib.compareBytes a.data.toList b.data.toList))∧w'=w:=by
 have mixed:Tryz.prog.follows .mixedOrders=true:=by kernel_rfl
 have e213:∀args w,(callFunc 378 args).run Tryz.prog w= .ok (.enter 378 args) w:=enters_of Tryz.func378 (by kernel_rfl) rfl
 go_enter Tryz.func335,Tryz.ntmps335
 go_wp2_with (go_at_fn 378;refine(Mt _ _ _).mono ?_;rintro e w' ⟨rfl,rfl⟩)
 go_ret
 exact⟨rfl,rfl⟩
theorem Pi :∀xs r,au 363 xs=some r→xQ Gm Tryz.prog 335 xs r:=by
 intro xs r h
 unfold au at h
 split at h
 rotate_left
 ·cases h
 ·rename_i heq
  cases heq
  rename_i a b
  cases h
  refine⟨rfl,fun M0 w vals hG hM ha=> ?_⟩
  obtain⟨hl,hv⟩:=ha
  obtain⟨v,v2,hvs⟩:∃v v2,vals.toList=[v,v2]:=by
   match h:vals.toList,hl with
   |[v,v2],_=>exact⟨v,v2,rfl⟩
  have h0:VR M0 w [] [] (f9 a) v:=hv 0 _ v rfl (by rw[hvs];rfl)
  have h1:VR M0 w [] [] (f9 b) v2:=hv 1 _ v2 rfl (by rw[hvs];rfl)
  have hv0:v= .string ⟨a.toArray⟩:=by simpa[VR,LR,ap]using h0
  have hv1:v2= .string ⟨b.toArray⟩:=by simpa[VR,LR,ap]using h1
  obtain rfl:vals= #[.string ⟨a.toArray⟩, .string ⟨b.toArray⟩]:=by cases vals;simp_all
  refine(Pg ⟨a.toArray⟩ ⟨b.toArray⟩ w).mono fun e w'⟨he,hw'⟩=> ?_
  subst hw'
  exact⟨_,he,Below.refl _ _,Vt hM (Below.refl _ _) rfl (by simp[VR,LR,ap])⟩
set_option maxRecDepth 100000 in
theorem SL :JZ (111,666):=Or.inr ⟨rfl,⟨Tryz.f111,Tryz.func111,by kernel_rfl,by kernel_rfl⟩,fun xs r h=>by unfold au at h;split at h<;>first|(rename_i heq;cases heq;done)|cases h⟩
set_option maxRecDepth 100000 in
theorem SN :JZ (348,356):=Or.inr ⟨rfl,⟨Tryz.f348,Tryz.func348,by kernel_rfl,by kernel_rfl⟩,fun xs r h=>by unfold au at h;split at h<;>first|(rename_i heq;cases heq;done)|cases h⟩
set_option maxRecDepth 100000 in
theorem SO :JZ (335,363):=Or.inr ⟨rfl,⟨Tryz.f335,Tryz.func335,by kernel_rfl,by kernel_rfl⟩,Pi⟩
def Al {α:Type}(P:α→Prop):List α→Prop
 |[]=>True
 |a::l=>P a∧Al P l
theorem QG {α:Type}{P:α→Prop}:∀{l:List α},Al P l→∀a∈l,P a
 |[],_,a,m=>by cases m
 |b::l,h,a,m=>by
  rcases List.mem_cons.1 m with rfl|m
  ·exact h.1
  ·exact QG h.2 a m
theorem fN {i k:Nat}{fn:_}{af:AFn}(h:Tryz.prog.funcs[i]? =some fn)(h3:Ph k=some af:=by exact rfl)(h2:UC Tryz.prog Gi.kf k fn=some af:=by as_aux_lemma=>kernel_rfl):JZ (i,k):=Or.inl ⟨fn,af,h,h2,h3⟩
def Gc (c:Nat):Prop:=Al JZ ((kp.drop (c*16)).take 16)
end Go.Proofs.YtebnmoogdmpepaaGreat
