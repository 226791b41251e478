/- A part. -/
import Derived.Test.YtndiampmpmbfoaaGreatGka
import Derived.Test.YtndiampmpmbfoaaGreatRows
import Derived.KernelRfl
import Derived.Lib.Bytealg
import Derived.Lib.Walk
import Derived.WalkKit
import Derived.Shelf.Abstract
import Derived.Test.YtndiampmpmbfoaaGreatGins
import Derived.Test.YtndiampmpmbfoaaGreatGindl
import Derived.Test.YtndiampmpmbfoaaGreatGkc
set_option linter.all false
namespace Go.Proofs.YtndiampmpmbfoaaGreat
open Go Go.RowKit Gi
set_option maxHeartbeats 8000000
def kp :List (Nat×Nat):=[(115,673),(194,689),(392,248),(391,247),(116,681),(262,355),(366,225),(367,226),(34,175),(96,210),(269,188),(327,216),(314,404),(360,411),(112,679),(363,190),(98,61),(362,413),(179,387),(256,396),(257,397),(260,67),(181,389),(100,380),(182,178),(113,407),(101,151),(183,390),(261,246),(255,395),(219,398),(313,403),(103,382),(102,381),(99,379),(184,354),(36,374),(190,148),(271,342),(114,680),(270,341),(191,326),(35,154),(317,195),(365,224),(318,196),(319,197),(364,223),(9,629),(39,652),(316,406),(258,162),(180,388),(321,362),(185,478),(325,261),(263,490),(107,459),(324,498),(264,491),(187,218),(106,458),(265,493),(188,501),(186,479),(105,457),(266,242),(38,492),(323,334),(109,461),(108,460),(104,456),(110,191),(111,499),(37,434),(189,176),(268,212),(312,333),(358,347),(328,217),(370,241),(390,415),(320,90),(259,213),(40,653),(3,615),(283,82),(202,50),(195,205),(117,171),(334,259),(376,268),(332,257),(276,236),(405,279),(396,275),(44,142),(333,258),(277,237),(406,91),(398,69),(397,276),(378,269),(336,94),(280,77),(281,78),(337,9),(282,55),(338,38),(279,76),(196,44),(198,206),(119,172),(43,141),(197,45),(199,207),(120,173),(379,270),(118,14),(42,140),(380,39),(275,235),(278,238),(409,282),(122,19),(46,144),(121,174),(45,143),(41,139),(201,24),(377,63),(200,208),(335,260),(10,108),(284,83),(203,51),(142,469),(134,462),(212,483),(209,480),(286,494),(56,438),(213,484),(211,482),(136,464),(137,465),(141,468),(135,463),(138,466),(55,437),(139,467),(54,436),(58,440),(57,439),(53,435),(210,481),(140,422),(12,425),(143,470),(132,448),(123,441),(207,474),(204,471),(285,485),(50,429),(208,475),(206,473),(126,443),(127,444),(131,447),(125,442),(128,445),(49,428),(129,446),(48,427),(52,431),(51,430),(47,426),(205,472),(130,421),(124,432),(11,420),(133,449),(155,46),(149,198),(63,163),(289,251),(339,262),(287,249),(223,228),(399,277),(381,271),(20,130),(288,250),(224,229),(400,87),(383,64),(382,272),(341,263),(291,92),(227,71),(228,72),(292,5),(229,52),(293,30),(226,70),(150,40),(152,199),(65,164),(19,129),(151,41),(66,165),(342,264),(64,10),(18,128),(343,31),(222,227),(225,230),(407,280),(68,15),(22,132),(67,166),(21,131),(17,127),(154,20),(340,57),(153,200),(290,252),(6,104),(230,79),(156,47),(253,80),(177,48),(170,201),(89,167),(307,255),(352,265),(305,253),(246,232),(401,278),(387,273),(31,136),(306,254),(247,233),(402,89),(389,66),(388,274),(354,266),(309,93),(250,74),(251,75),(310,7),(252,53),(311,34),(249,73),(171,42),(173,202),(91,168),(30,135),(172,43),(174,203),(92,169),(355,267),(90,12),(29,134),(356,35),(245,231),(248,234),(408,281),(94,17),(33,138),(93,170),(32,137),(28,133),(176,22),(353,60),(175,204),(308,256),(8,106),(254,81),(178,49),(315,405),(193,688),(267,211),(95,209),(357,346),(369,240),(326,215),(359,410),(361,412),(97,182),(192,691),(329,353),(330,356),(86,670),(386,245),(385,244),(88,678),(233,351),(349,221),(350,222),(23,145),(242,184),(297,400),(83,675),(346,186),(345,409),(160,384),(235,392),(236,393),(231,65),(162,386),(75,378),(157,177),(84,402),(72,149),(158,383),(232,243),(234,391),(215,394),(344,408),(71,376),(70,375),(74,377),(159,350),(25,373),(168,147),(87,677),(244,339),(85,676),(243,338),(169,323),(24,153),(299,192),(348,220),(300,193),(301,194),(347,219),(7,628),(27,651),(298,401),(237,161),(239,487),(164,477),(240,489),(351,329),(80,454),(302,495),(238,486),(296,399),(77,451),(73,58),(166,500),(81,455),(167,690),(82,497),(214,488),(78,452),(79,453),(163,476),(76,450),(161,385),(26,433),(69,181),(295,359),(294,88),(304,239),(165,187),(241,214),(384,414),(303,496),(322,363)]
def Yx (f:Nat):Option Nat:=kp.lookup f
noncomputable instance kfI:KF:=⟨Yx,Tryz.prog⟩
def GJ :∀{l:List (Nat×Nat)}{f k:Nat},l.lookup f=some k->(f,k)∈l
 |[],_,_,h=>by simp at h
 |(a,b)::l,f,k,h=>by
  rw[List.lookup_cons]at h
  split at h
  ·rename_i he
   cases h
   rw[show f=a by simpa using he]
   exact List.mem_cons_self
  ·exact List.mem_cons_of_mem _ (GJ h)
def Gm :Ctx:=⟨fun _=>True,0,fun _ _ _ _=>trivial,fun _ _=>Nat.zero_le _⟩
def HL (p:Nat×Nat):Prop:=(∃fn af,Tryz.prog.funcs[p.1]? =some fn/\ W6 Tryz.prog Gi.kf p.2 fn=some af/\ Ph p.2=some af) \/
 (Ph p.2=none/\ (∃fn,Tryz.prog.funcs[p.1]? =some fn/\ fn.body.isNone=false/\ (fn.name== "runtime.NumGoroutine")=false)/\ ∀xs r,aC p.2 xs=some r->zh Gm Tryz.prog p.1 xs r)
def Ya {M0:Nat->Prop}{w w':World}{r:V}{v:Value}(hM:∀b,M0 b->b<w.heap.size)(hb:Below w.heap.size w w')(ht:thaw [] r=(r,[]))(hv:VR (Mu M0 [] []) w' [] [] r v):xe M0 w.heap.size w' r v:=by
 refine⟨[],?_,?_⟩
 ·rw[ht]
  exact⟨⟨rfl,fun b h=>⟨Nat.lt_of_lt_of_le (hM b h) hb.size,fun o ob ho=>by simp at ho⟩,hb.size,fun i x r hi=>by simp at hi,fun i i' x x' b h1=>by simp at h1⟩,fun _=>[],⟨fun i x b hi=>by simp at hi,fun i x z2 es2 b hi=>by simp at hi⟩,fun _ _=>rfl,nofun⟩
 ·rw[ht]
  exact hv
set_option maxRecDepth 100000 in
def Om (a b:ByteArray)(w:World):Calls Tryz.prog 368 #[.string a, .string b] w fun e w'=>e= .returned (.int .i64 (Lib.compareBytes a.data.toList b.data.toList))/\ w'=w:=by
 have mixed:Tryz.prog.follows .mixedOrders=true:=by kernel_rfl
 go_enter Tryz.func368,Tryz.ntmps368
 go_wp2
 rw[run_callFunc_extern Tryz.func393 (by kernel_rfl) (by kernel_rfl) (by kernel_rfl) (e:=Extern.BytealgCompare.compare) (by kernel_rfl),Lib.run_compareString]
 simp only[Result.andThen]
 rw[Oper.upon_value]
 go_wp2
 go_ret
 exact⟨rfl,rfl⟩
set_option maxRecDepth 100000 in
def Q8 (a b:ByteArray)(w:World):Calls Tryz.prog 322 #[.string a, .string b] w fun e w'=>e= .returned (.int .i64 (Lib.compareBytes a.data.toList b.data.toList))/\ w'=w:=by
 have mixed:Tryz.prog.follows .mixedOrders=true:=by kernel_rfl
 have e213:∀args w,(callFunc 368 args).run Tryz.prog w= .ok (.enter 368 args) w:=enters_of Tryz.func368 (by kernel_rfl) rfl
 go_enter Tryz.func322,Tryz.ntmps322
 go_wp2_with (go_at_fn 368;refine(Om _ _ _).mono ?_;rintro e w' ⟨rfl,rfl⟩)
 go_ret
 exact⟨rfl,rfl⟩
def Q9 :∀xs r,aC 363 xs=some r->zh Gm Tryz.prog 322 xs r:=by
 intro xs r h
 unfold aC at h
 split at h
 rotate_left
 ·cases h
 ·rename_i heq
  cases heq
  rename_i a b
  cases h
  refine⟨rfl,fun M0 w vals hG hM ha=> ?_⟩
  obtain⟨hl,hv⟩:=ha
  obtain⟨v,v2,hvs⟩:∃v v2,vals.toList=[v,v2]:=by
   match h:vals.toList,hl with
   |[v,v2],_=>exact⟨v,v2,rfl⟩
  have h0:VR M0 w [] [] (eE a) v:=hv 0 _ v rfl (by rw[hvs];rfl)
  have h1:VR M0 w [] [] (eE b) v2:=hv 1 _ v2 rfl (by rw[hvs];rfl)
  have hv0:v= .string ⟨a.toArray⟩:=by simpa[VR,LR,aq]using h0
  have hv1:v2= .string ⟨b.toArray⟩:=by simpa[VR,LR,aq]using h1
  obtain rfl:vals= #[.string ⟨a.toArray⟩, .string ⟨b.toArray⟩]:=by cases vals;simp_all
  refine(Q8 ⟨a.toArray⟩ ⟨b.toArray⟩ w).mono fun e w'⟨he,hw'⟩=> ?_
  subst hw'
  exact⟨_,he,Below.refl _ _,Ya hM (Below.refl _ _) rfl (by simp[VR,LR,aq])⟩
set_option maxRecDepth 100000 in
def UP :HL (193,688):=Or.inr ⟨rfl,⟨Tryz.f193,Tryz.func193,by kernel_rfl,by kernel_rfl⟩,fun xs r h=>by unfold aC at h;split at h<;>first|(rename_i heq;cases heq;done)|cases h⟩
set_option maxRecDepth 100000 in
def UQ :HL (192,691):=Or.inr ⟨rfl,⟨Tryz.f192,Tryz.func192,by kernel_rfl,by kernel_rfl⟩,fun xs r h=>by unfold aC at h;split at h<;>first|(rename_i heq;cases heq;done)|cases h⟩
set_option maxRecDepth 100000 in
def UR :HL (329,353):=Or.inr ⟨rfl,⟨Tryz.f329,Tryz.func329,by kernel_rfl,by kernel_rfl⟩,fun xs r h=>by unfold aC at h;split at h<;>first|(rename_i heq;cases heq;done)|cases h⟩
set_option maxRecDepth 100000 in
def US :HL (330,356):=Or.inr ⟨rfl,⟨Tryz.f330,Tryz.func330,by kernel_rfl,by kernel_rfl⟩,fun xs r h=>by unfold aC at h;split at h<;>first|(rename_i heq;cases heq;done)|cases h⟩
set_option maxRecDepth 100000 in
def UT :HL (322,363):=Or.inr ⟨rfl,⟨Tryz.f322,Tryz.func322,by kernel_rfl,by kernel_rfl⟩,Q9⟩
def Al {α:Type}(P:α->Prop):List α->Prop
 |[]=>True
 |a::l=>P a/\ Al P l
def SK {α:Type}{P:α->Prop}:∀{l:List α},Al P l->∀a∈l,P a
 |[],_,a,m=>by cases m
 |b::l,h,a,m=>by
  rcases List.mem_cons.1 m with rfl|m
  ·exact h.1
  ·exact SK h.2 a m
def fN {i k:Nat}{fn:_}{af:AFn}(h:Tryz.prog.funcs[i]? =some fn)(h3:Ph k=some af:=by exact rfl)(h2:W6 Tryz.prog Gi.kf k fn=some af:=by as_aux_lemma=>kernel_rfl):HL (i,k):=Or.inl ⟨fn,af,h,h2,h3⟩
def Gc (c:Nat):Prop:=Al HL ((kp.drop (c*16)).take 16)
end Go.Proofs.YtndiampmpmbfoaaGreat
