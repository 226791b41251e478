/- Of this proof. -/
import Derived.Test.YtpnolnkjijmfjaaGreatGka
import Derived.Test.YtpnolnkjijmfjaaGreatRows
import Derived.KernelRfl
import Derived.Lib.Bytealg
import Derived.Lib.Walk
import Derived.WalkKit
import Derived.Shelf.Abstract
import Derived.Test.YtpnolnkjijmfjaaGreatGins
import Derived.Test.YtpnolnkjijmfjaaGreatGindl
import Derived.Test.YtpnolnkjijmfjaaGreatGkc
set_option linter.all false
namespace Go.Proofs.YtpnolnkjijmfjaaGreat
open Go Go.RowKit Gi
set_option maxHeartbeats 8000000
def kp :List (Nat×Nat):=[(160,673),(236,689),(396,248),(395,247),(232,681),(290,355),(27,631),(374,225),(375,226),(70,175),(156,210),(292,188),(343,216),(331,404),(368,411),(229,679),(371,190),(146,61),(370,413),(222,387),(284,396),(285,397),(288,67),(224,389),(148,380),(225,178),(230,407),(149,151),(226,390),(289,246),(283,395),(158,398),(330,403),(151,382),(150,381),(147,379),(227,354),(68,374),(161,148),(28,627),(72,649),(294,342),(231,680),(73,650),(293,341),(233,326),(26,424),(7,633),(71,154),(334,195),(373,224),(335,196),(336,197),(372,223),(69,629),(153,652),(333,406),(286,162),(159,313),(223,388),(162,674),(338,362),(219,478),(327,261),(279,490),(143,459),(326,498),(280,491),(282,218),(142,458),(281,493),(234,501),(220,479),(141,457),(328,242),(152,492),(325,334),(145,461),(144,460),(140,456),(221,191),(228,499),(67,434),(237,176),(297,212),(329,333),(366,347),(344,217),(379,241),(394,415),(337,90),(287,213),(154,653),(3,617),(246,82),(170,50),(163,205),(74,171),(300,259),(347,268),(298,257),(239,236),(401,279),(384,275),(32,142),(299,258),(240,237),(402,91),(386,69),(385,276),(349,269),(302,94),(243,77),(244,78),(303,9),(245,55),(304,38),(242,76),(164,44),(166,206),(76,172),(31,141),(165,45),(167,207),(77,173),(350,270),(75,14),(30,140),(351,39),(238,235),(241,238),(407,282),(79,19),(34,144),(78,174),(33,143),(29,139),(169,24),(348,63),(168,208),(301,260),(8,108),(247,83),(171,51),(99,469),(91,462),(180,483),(177,480),(249,494),(44,438),(181,484),(179,482),(93,464),(94,465),(98,468),(92,463),(95,466),(43,437),(96,467),(42,436),(46,440),(45,439),(41,435),(178,481),(97,422),(10,425),(100,470),(89,448),(80,441),(175,474),(172,471),(248,485),(38,429),(176,475),(174,473),(83,443),(84,444),(88,447),(82,442),(85,445),(37,428),(86,446),(36,427),(40,431),(39,430),(35,426),(173,472),(87,421),(81,432),(9,420),(90,449),(107,46),(101,198),(47,163),(252,251),(305,262),(250,249),(183,228),(387,277),(352,271),(14,130),(251,250),(184,229),(388,87),(354,64),(353,272),(307,263),(254,92),(187,71),(188,72),(255,5),(189,52),(256,30),(186,70),(102,40),(104,199),(49,164),(13,129),(103,41),(50,165),(308,264),(48,10),(12,128),(309,31),(182,227),(185,230),(403,280),(52,15),(16,132),(51,166),(15,131),(11,127),(106,20),(306,57),(105,200),(253,252),(4,104),(190,79),(108,47),(217,80),(138,48),(131,201),(61,167),(274,255),(320,265),(272,253),(210,232),(392,278),(362,273),(23,136),(273,254),(211,233),(393,89),(364,66),(363,274),(322,266),(276,93),(214,74),(215,75),(277,7),(216,53),(278,34),(213,73),(132,42),(134,202),(63,168),(22,135),(133,43),(135,203),(64,169),(323,267),(62,12),(21,134),(324,35),(209,231),(212,234),(404,281),(66,17),(25,138),(65,170),(24,137),(20,133),(137,22),(321,60),(136,204),(275,256),(6,106),(218,81),(139,49),(332,405),(235,688),(296,211),(155,209),(365,346),(378,240),(342,215),(367,410),(369,412),(157,182),(291,691),(345,353),(346,356),(126,670),(391,245),(390,244),(204,678),(261,351),(18,630),(360,221),(361,222),(56,145),(267,184),(314,400),(200,675),(357,186),(356,409),(196,384),(263,392),(264,393),(259,65),(198,386),(121,378),(193,177),(201,402),(118,149),(194,383),(260,243),(262,391),(124,394),(355,408),(117,376),(115,375),(120,377),(195,350),(54,373),(127,147),(203,677),(19,626),(58,646),(130,672),(269,339),(202,676),(59,647),(268,338),(205,323),(17,423),(5,632),(57,153),(316,192),(359,220),(317,193),(318,194),(358,219),(55,628),(122,651),(315,401),(265,161),(208,487),(191,477),(257,489),(319,329),(113,454),(270,495),(207,486),(313,399),(110,451),(119,58),(206,500),(114,455),(266,690),(199,497),(125,311),(123,488),(111,452),(112,453),(129,671),(128,476),(109,450),(197,385),(53,433),(116,181),(60,648),(312,359),(311,88),(310,239),(192,187),(258,214),(389,414),(271,496),(339,363)]
def kfS (f:Nat):Option Nat:=kp.lookup f
noncomputable instance kfI:KF:=⟨kfS,Tryz.prog⟩
def JV :∀{l:List (Nat×Nat)}{f k:Nat},l.lookup f=some k->(f,k)∈l
 |[],_,_,h=>by simp at h
 |(a,b)::l,f,k,h=>by rw[List.lookup_cons]at h;split at h;rename_i he;cases h;rw[show f=a by simpa using he];exact List.mem_cons_self;exact List.mem_cons_of_mem _ (JV h)
def Gm :Ctx:=⟨fun _=>True,0,fun _ _ _ _=>trivial,fun _ _=>Nat.zero_le _⟩
def K6 (p:Nat×Nat):Prop:=(∃fn af,Tryz.prog.funcs[p.1]? =some fn/\ cFn Tryz.prog Gi.kf p.2 fn=some af/\ Ph p.2=some af) \/
 (Ph p.2=none/\ (∃fn,Tryz.prog.funcs[p.1]? =some fn/\ fn.body.isNone=false/\ (fn.name== "runtime.NumGoroutine")=false)/\ ∀xs r,cK p.2 xs=some r->CP Gm Tryz.prog p.1 xs r)
def af8 {M0:Nat->Prop}{w w':World}{r:V}{v:Value}(hM:∀b,M0 b->b<w.heap.size)(hb:Below w.heap.size w w')(ht:thaw [] r=(r,[]))(hv:VR (Mu M0 [] []) w' [] [] r v):AU M0 w.heap.size w' r v:=by refine⟨[],?_,?_⟩;rw[ht];exact⟨⟨rfl,fun b h=>⟨Nat.lt_of_lt_of_le (hM b h) hb.size,fun o ob ho=>by simp at ho⟩,hb.size,fun i x r hi=>by simp at hi,fun i i' x x' b h1=>by simp at h1⟩,fun _=>[],⟨fun i x b hi=>by simp at hi,fun i x z2 es2 b hi=>by simp at hi⟩,fun _ _=>rfl,nofun⟩;rw[ht];exact hv
set_option maxRecDepth 100000 in
def Td (a b:ByteArray)(w:World):Calls Tryz.prog 376 #[.string a, .string b] w fun e w'=>e= .returned (.int .i64 (Lib.compareBytes a.data.toList b.data.toList))/\ w'=w:=by
 have mixed:Tryz.prog.follows .mixedOrders=true:=by kernel_rfl
 go_enter Tryz.func376,Tryz.ntmps376;go_wp2;rw[run_callFunc_extern Tryz.func397 (by kernel_rfl) (by kernel_rfl) (by kernel_rfl) (e:=Extern.BytealgCompare.compare) (by kernel_rfl),Lib.run_compareString];simp only[Result.andThen];rw[Oper.upon_value];go_wp2;go_ret;exact⟨rfl,rfl⟩
set_option maxRecDepth 100000 in
def VY (a b:ByteArray)(w:World):Calls Tryz.prog 339 #[.string a, .string b] w fun e w'=>e= .returned (.int .i64 (Lib.compareBytes a.data.toList b.data.toList))/\ w'=w:=by
 have mixed:Tryz.prog.follows .mixedOrders=true:=by kernel_rfl
 have e213:∀args w,(callFunc 376 args).run Tryz.prog w= .ok (.enter 376 args) w:=enters_of Tryz.func376 (by kernel_rfl) rfl;go_enter Tryz.func339,Tryz.ntmps339;go_wp2_with (go_at_fn 376;refine(Td _ _ _).mono ?_;rintro e w' ⟨rfl,rfl⟩);go_ret;exact⟨rfl,rfl⟩
def VZ :∀xs r,cK 363 xs=some r->CP Gm Tryz.prog 339 xs r:=by
 intro xs r h;unfold cK at h;split at h;rotate_left;cases h;rename_i heq;cases heq;rename_i a b;cases h;refine⟨rfl,fun M0 w vals hG hM ha=> ?_⟩;obtain⟨hl,hv⟩:=ha;obtain⟨v,v2,hvs⟩:∃v v2,vals.toList=[v,v2]:=by
  match h:vals.toList,hl with
  |[v,v2],_=>exact⟨v,v2,rfl⟩
 have h0:VR M0 w [] [] (fZ a) v:=hv 0 _ v rfl (by rw[hvs];rfl);have h1:VR M0 w [] [] (fZ b) v2:=hv 1 _ v2 rfl (by rw[hvs];rfl);have hv0:v= .string ⟨a.toArray⟩:=by simpa[VR,LR,cG]using h0
 have hv1:v2= .string ⟨b.toArray⟩:=by simpa[VR,LR,cG]using h1
 obtain rfl:vals= #[.string ⟨a.toArray⟩, .string ⟨b.toArray⟩]:=by cases vals;simp_all
 refine(VY ⟨a.toArray⟩ ⟨b.toArray⟩ w).mono fun e w'⟨he,hw'⟩=> ?_;subst hw';exact⟨_,he,Below.refl _ _,af8 hM (Below.refl _ _) rfl (by simp[VR,LR,cG])⟩
set_option maxRecDepth 100000 in
def acF :K6 (235,688):=Or.inr ⟨rfl,⟨Tryz.f235,Tryz.func235,by kernel_rfl,by kernel_rfl⟩,fun xs r h=>by unfold cK at h;split at h<;>first|(rename_i heq;cases heq;done)|cases h⟩
set_option maxRecDepth 100000 in
def acG :K6 (291,691):=Or.inr ⟨rfl,⟨Tryz.f291,Tryz.func291,by kernel_rfl,by kernel_rfl⟩,fun xs r h=>by unfold cK at h;split at h<;>first|(rename_i heq;cases heq;done)|cases h⟩
set_option maxRecDepth 100000 in
def acH :K6 (345,353):=Or.inr ⟨rfl,⟨Tryz.f345,Tryz.func345,by kernel_rfl,by kernel_rfl⟩,fun xs r h=>by unfold cK at h;split at h<;>first|(rename_i heq;cases heq;done)|cases h⟩
set_option maxRecDepth 100000 in
def acI :K6 (346,356):=Or.inr ⟨rfl,⟨Tryz.f346,Tryz.func346,by kernel_rfl,by kernel_rfl⟩,fun xs r h=>by unfold cK at h;split at h<;>first|(rename_i heq;cases heq;done)|cases h⟩
set_option maxRecDepth 100000 in
def acJ :K6 (339,363):=Or.inr ⟨rfl,⟨Tryz.f339,Tryz.func339,by kernel_rfl,by kernel_rfl⟩,VZ⟩
def Al {α:Type}(P:α->Prop):List α->Prop
 |[]=>True
 |a::l=>P a/\ Al P l
def aax {α:Type}{P:α->Prop}:∀{l:List α},Al P l->∀a∈l,P a
 |[],_,a,m=>by cases m
 |b::l,h,a,m=>by rcases List.mem_cons.1 m with rfl|m;exact h.1;exact aax h.2 a m
def fN {i k:Nat}{fn:_}{af:AFn}(h:Tryz.prog.funcs[i]? =some fn)(h3:Ph k=some af:=by exact rfl)(h2:cFn Tryz.prog Gi.kf k fn=some af:=by as_aux_lemma=>kernel_rfl):K6 (i,k):=Or.inl ⟨fn,af,h,h2,h3⟩
def Gc (c:Nat):Prop:=Al K6 ((kp.drop (c*16)).take 16)
end Go.Proofs.YtpnolnkjijmfjaaGreat
