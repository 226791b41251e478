/- Of this proof. -/
import Derived.Test.YtlmhdkdolfpedaaGreatGka
import Derived.Test.YtlmhdkdolfpedaaGreatRows
import Derived.KernelRfl
import Derived.Lib.Bytealg
import Derived.Lib.Walk
import Derived.WalkKit
import Derived.Shelf.Abstract
import Derived.Test.YtlmhdkdolfpedaaGreatGins
import Derived.Test.YtlmhdkdolfpedaaGreatGindl
import Derived.Test.YtlmhdkdolfpedaaGreatGkc
set_option linter.all false
namespace Go.Proofs.YtlmhdkdolfpedaaGreat
open Go Go.RowKit Gi
set_option maxHeartbeats 8000000
def kp :List (Nat×Nat):=[(181,673),(256,689),(379,248),(378,247),(182,681),(250,355),(7,631),(354,225),(355,226),(90,175),(173,210),(314,188),(358,216),(303,404),(348,411),(178,679),(351,190),(86,61),(350,413),(168,387),(244,396),(245,397),(248,67),(170,389),(88,380),(171,178),(179,407),(89,151),(175,390),(249,246),(243,395),(183,398),(302,403),(93,382),(91,381),(87,379),(176,354),(28,374),(185,148),(30,627),(97,649),(316,342),(180,680),(98,650),(315,341),(253,326),(92,154),(306,195),(353,224),(307,196),(308,197),(352,223),(29,629),(95,652),(305,406),(246,162),(184,313),(169,388),(186,674),(310,362),(165,478),(299,261),(239,490),(83,459),(298,498),(240,491),(242,218),(82,458),(241,493),(251,501),(166,479),(81,457),(300,242),(94,492),(297,334),(85,461),(84,460),(80,456),(167,191),(177,499),(27,434),(252,176),(313,212),(301,333),(346,347),(359,217),(382,241),(377,415),(309,90),(247,213),(96,653),(3,616),(265,82),(194,50),(187,205),(99,171),(322,259),(363,268),(320,257),(258,236),(397,279),(388,275),(34,142),(321,258),(259,237),(398,91),(390,69),(389,276),(365,269),(324,94),(262,77),(263,78),(325,9),(264,55),(326,38),(261,76),(188,44),(190,206),(101,172),(33,141),(189,45),(191,207),(102,173),(366,270),(100,14),(32,140),(367,39),(257,235),(260,238),(403,282),(104,19),(36,144),(103,174),(35,143),(31,139),(193,24),(364,63),(192,208),(323,260),(8,108),(266,83),(195,51),(124,469),(116,462),(204,483),(201,480),(268,494),(46,438),(205,484),(203,482),(118,464),(119,465),(123,468),(117,463),(120,466),(45,437),(121,467),(44,436),(48,440),(47,439),(43,435),(202,481),(122,422),(10,425),(125,470),(114,448),(105,441),(199,474),(196,471),(267,485),(40,429),(200,475),(198,473),(108,443),(109,444),(113,447),(107,442),(110,445),(39,428),(111,446),(38,427),(42,431),(41,430),(37,426),(197,472),(112,421),(106,432),(9,420),(115,449),(132,46),(126,198),(49,163),(271,251),(327,262),(269,249),(207,228),(391,277),(368,271),(14,130),(270,250),(208,229),(392,87),(370,64),(369,272),(329,263),(273,92),(211,71),(212,72),(274,5),(213,52),(275,30),(210,70),(127,40),(129,199),(51,164),(13,129),(128,41),(52,165),(330,264),(50,10),(12,128),(331,31),(206,227),(209,230),(399,280),(54,15),(16,132),(53,166),(15,131),(11,127),(131,20),(328,57),(130,200),(272,252),(4,104),(214,79),(133,47),(237,80),(163,48),(156,201),(74,167),(292,255),(340,265),(290,253),(230,232),(393,278),(374,273),(24,136),(291,254),(231,233),(394,89),(376,66),(375,274),(342,266),(294,93),(234,74),(235,75),(295,7),(236,53),(296,34),(233,73),(157,42),(159,202),(76,168),(23,135),(158,43),(160,203),(77,169),(343,267),(75,12),(22,134),(344,35),(229,231),(232,234),(400,281),(79,17),(26,138),(78,170),(25,137),(21,133),(162,22),(341,60),(161,204),(293,256),(6,106),(238,81),(164,49),(304,405),(255,688),(312,211),(172,209),(345,346),(381,240),(357,215),(347,410),(349,412),(174,182),(254,691),(360,353),(361,356),(147,670),(373,245),(372,244),(149,678),(221,351),(5,630),(338,221),(339,222),(65,145),(287,184),(282,400),(144,675),(335,186),(334,409),(140,384),(223,392),(224,393),(219,65),(142,386),(68,378),(137,177),(145,402),(64,149),(138,383),(220,243),(222,391),(151,394),(333,408),(63,376),(61,375),(67,377),(139,350),(18,373),(153,147),(148,677),(20,626),(71,646),(155,672),(289,339),(146,676),(72,647),(288,338),(228,323),(69,153),(284,192),(337,220),(285,193),(286,194),(336,219),(19,628),(70,651),(283,401),(225,161),(216,487),(135,477),(217,489),(332,329),(59,454),(276,495),(215,486),(281,399),(56,451),(66,58),(226,500),(60,455),(227,690),(143,497),(152,311),(150,488),(57,452),(58,453),(154,671),(134,476),(55,450),(141,385),(17,433),(62,181),(73,648),(280,359),(279,88),(278,239),(136,187),(218,214),(371,414),(277,496),(311,363)]
def kfS (f:Nat):Option Nat:=kp.lookup f
noncomputable instance kfI:KF:=⟨kfS,Tryz.prog⟩
def Jz :∀{l:List (Nat×Nat)}{f k:Nat},l.lookup f=some k->(f,k)∈l
 |[],_,_,h=>by simp at h
 |(a,b)::l,f,k,h=>by rw[List.lookup_cons]at h;split at h;rename_i he;cases h;rw[show f=a by simpa using he];exact List.mem_cons_self;exact List.mem_cons_of_mem _ (Jz h)
def Gm :Ctx:=⟨fun _=>True,0,fun _ _ _ _=>trivial,fun _ _=>Nat.zero_le _⟩
def KC (p:Nat×Nat):Prop:=(∃fn af,Tryz.prog.funcs[p.1]? =some fn/\ cFn Tryz.prog Gi.kf p.2 fn=some af/\ Ph p.2=some af) \/
 (Ph p.2=none/\ (∃fn,Tryz.prog.funcs[p.1]? =some fn/\ fn.body.isNone=false/\ (fn.name== "runtime.NumGoroutine")=false)/\ ∀xs r,cL p.2 xs=some r->Cs Gm Tryz.prog p.1 xs r)
def afv {M0:Nat->Prop}{w w':World}{r:V}{v:Value}(hM:∀b,M0 b->b<w.heap.size)(hb:Below w.heap.size w w')(ht:thaw [] r=(r,[]))(hv:VR (Mu M0 [] []) w' [] [] r v):Az M0 w.heap.size w' r v:=by refine⟨[],?_,?_⟩;rw[ht];exact⟨⟨rfl,fun b h=>⟨Nat.lt_of_lt_of_le (hM b h) hb.size,fun o ob ho=>by simp at ho⟩,hb.size,fun i x r hi=>by simp at hi,fun i i' x x' b h1=>by simp at h1⟩,fun _=>[],⟨fun i x b hi=>by simp at hi,fun i x z2 es2 b hi=>by simp at hi⟩,fun _ _=>rfl,nofun⟩;rw[ht];exact hv
set_option maxRecDepth 100000 in
def SL (a b:ByteArray)(w:World):Calls Tryz.prog 356 #[.string a, .string b] w fun e w'=>e= .returned (.int .i64 (Lib.compareBytes a.data.toList b.data.toList))/\ w'=w:=by
 have mixed:Tryz.prog.follows .mixedOrders=true:=by kernel_rfl
 go_enter Tryz.func356,Tryz.ntmps356;go_wp2;rw[run_callFunc_extern Tryz.func380 (by kernel_rfl) (by kernel_rfl) (by kernel_rfl) (e:=Extern.BytealgCompare.compare) (by kernel_rfl),Lib.run_compareString];simp only[Result.andThen];rw[Oper.upon_value];go_wp2;go_ret;exact⟨rfl,rfl⟩
set_option maxRecDepth 100000 in
def Vt (a b:ByteArray)(w:World):Calls Tryz.prog 311 #[.string a, .string b] w fun e w'=>e= .returned (.int .i64 (Lib.compareBytes a.data.toList b.data.toList))/\ w'=w:=by
 have mixed:Tryz.prog.follows .mixedOrders=true:=by kernel_rfl
 have e213:∀args w,(callFunc 356 args).run Tryz.prog w= .ok (.enter 356 args) w:=enters_of Tryz.func356 (by kernel_rfl) rfl;go_enter Tryz.func311,Tryz.ntmps311;go_wp2_with (go_at_fn 356;refine(SL _ _ _).mono ?_;rintro e w' ⟨rfl,rfl⟩);go_ret;exact⟨rfl,rfl⟩
def Vu :∀xs r,cL 363 xs=some r->Cs Gm Tryz.prog 311 xs r:=by
 intro xs r h;unfold cL at h;split at h;rotate_left;cases h;rename_i heq;cases heq;rename_i a b;cases h;refine⟨rfl,fun M0 w vals hG hM ha=> ?_⟩;obtain⟨hl,hv⟩:=ha;obtain⟨v,v2,hvs⟩:∃v v2,vals.toList=[v,v2]:=by
  match h:vals.toList,hl with
  |[v,v2],_=>exact⟨v,v2,rfl⟩
 have h0:VR M0 w [] [] (fY a) v:=hv 0 _ v rfl (by rw[hvs];rfl);have h1:VR M0 w [] [] (fY b) v2:=hv 1 _ v2 rfl (by rw[hvs];rfl);have hv0:v= .string ⟨a.toArray⟩:=by simpa[VR,LR,cE]using h0
 have hv1:v2= .string ⟨b.toArray⟩:=by simpa[VR,LR,cE]using h1
 obtain rfl:vals= #[.string ⟨a.toArray⟩, .string ⟨b.toArray⟩]:=by cases vals;simp_all
 refine(Vt ⟨a.toArray⟩ ⟨b.toArray⟩ w).mono fun e w'⟨he,hw'⟩=> ?_;subst hw';exact⟨_,he,Below.refl _ _,afv hM (Below.refl _ _) rfl (by simp[VR,LR,cE])⟩
set_option maxRecDepth 100000 in
def ab6 :KC (255,688):=Or.inr ⟨rfl,⟨Tryz.f255,Tryz.func255,by kernel_rfl,by kernel_rfl⟩,fun xs r h=>by unfold cL at h;split at h<;>first|(rename_i heq;cases heq;done)|cases h⟩
set_option maxRecDepth 100000 in
def ab7 :KC (254,691):=Or.inr ⟨rfl,⟨Tryz.f254,Tryz.func254,by kernel_rfl,by kernel_rfl⟩,fun xs r h=>by unfold cL at h;split at h<;>first|(rename_i heq;cases heq;done)|cases h⟩
set_option maxRecDepth 100000 in
def ab8 :KC (360,353):=Or.inr ⟨rfl,⟨Tryz.f360,Tryz.func360,by kernel_rfl,by kernel_rfl⟩,fun xs r h=>by unfold cL at h;split at h<;>first|(rename_i heq;cases heq;done)|cases h⟩
set_option maxRecDepth 100000 in
def ab9 :KC (361,356):=Or.inr ⟨rfl,⟨Tryz.f361,Tryz.func361,by kernel_rfl,by kernel_rfl⟩,fun xs r h=>by unfold cL at h;split at h<;>first|(rename_i heq;cases heq;done)|cases h⟩
set_option maxRecDepth 100000 in
def aca :KC (311,363):=Or.inr ⟨rfl,⟨Tryz.f311,Tryz.func311,by kernel_rfl,by kernel_rfl⟩,Vu⟩
def Al {α:Type}(P:α->Prop):List α->Prop
 |[]=>True
 |a::l=>P a/\ Al P l
def WZ {α:Type}{P:α->Prop}:∀{l:List α},Al P l->∀a∈l,P a
 |[],_,a,m=>by cases m
 |b::l,h,a,m=>by rcases List.mem_cons.1 m with rfl|m;exact h.1;exact WZ h.2 a m
def fN {i k:Nat}{fn:_}{af:AFn}(h:Tryz.prog.funcs[i]? =some fn)(h3:Ph k=some af:=by exact rfl)(h2:cFn Tryz.prog Gi.kf k fn=some af:=by as_aux_lemma=>kernel_rfl):KC (i,k):=Or.inl ⟨fn,af,h,h2,h3⟩
def Gc (c:Nat):Prop:=Al KC ((kp.drop (c*16)).take 16)
end Go.Proofs.YtlmhdkdolfpedaaGreat
