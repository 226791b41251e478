/- Of this proof. -/
import Derived.Test.YtpfadfkomcbecaaGreatGzc
import Derived.Test.YtpfadfkomcbecaaGreatRows
import Derived.KernelRfl
import Derived.Lib.Bytealg
import Derived.Lib.Walk
import Derived.WalkKit
import Derived.Shelf.Abstract
import Derived.Test.YtpfadfkomcbecaaGreatGins
import Derived.Test.YtpfadfkomcbecaaGreatGindl
set_option linter.unusedSimpArgs false
set_option linter.unusedVariables false
namespace Go.Proofs.YtpfadfkomcbecaaGreat
open Go Go.RowKit Gi
set_option maxHeartbeats 8000000
def kp :List (Nat×Nat):=[(342,248),(341,247),(228,355),(321,225),(322,226),(89,175),(158,210),(275,404),(315,411),(318,190),(95,662),(85,61),(317,413),(153,387),(221,396),(222,397),(226,67),(155,389),(87,380),(156,178),(278,407),(88,151),(160,390),(227,246),(220,395),(223,398),(274,403),(92,382),(90,381),(86,379),(161,354),(29,374),(7,623),(28,638),(84,659),(30,639),(94,661),(91,154),(279,195),(320,224),(280,196),(281,197),(319,223),(277,406),(224,162),(154,388),(283,362),(150,478),(270,261),(215,490),(80,459),(269,498),(216,491),(219,218),(79,458),(218,493),(311,501),(151,479),(78,457),(272,242),(217,492),(268,334),(82,461),(81,460),(77,456),(152,191),(271,499),(27,434),(273,333),(313,347),(340,217),(354,241),(338,415),(163,687),(282,90),(225,213),(3,612),(237,82),(171,50),(164,205),(96,171),(287,259),(324,268),(285,257),(230,236),(355,279),(344,275),(34,142),(286,258),(231,237),(356,91),(346,69),(345,276),(326,269),(289,94),(234,77),(235,78),(290,9),(236,55),(291,38),(233,76),(165,44),(167,206),(98,172),(33,141),(166,45),(168,207),(99,173),(327,270),(97,14),(32,140),(328,39),(229,235),(232,238),(360,282),(101,19),(36,144),(100,174),(35,143),(31,139),(170,24),(325,63),(169,208),(288,260),(8,108),(238,83),(172,51),(121,469),(113,462),(181,483),(178,480),(240,494),(46,438),(182,484),(180,482),(115,464),(116,465),(120,468),(114,463),(117,466),(45,437),(118,467),(44,436),(48,440),(47,439),(43,435),(179,481),(119,422),(10,425),(122,470),(111,448),(102,441),(176,474),(173,471),(239,485),(40,429),(177,475),(175,473),(105,443),(106,444),(110,447),(104,442),(107,445),(39,428),(108,446),(38,427),(42,431),(41,430),(37,426),(174,472),(109,421),(103,432),(9,420),(112,449),(129,46),(123,198),(49,163),(243,251),(292,262),(241,249),(184,228),(347,277),(329,271),(14,130),(242,250),(185,229),(348,87),(331,64),(330,272),(294,263),(245,92),(188,71),(189,72),(246,5),(190,52),(247,30),(187,70),(124,40),(126,199),(51,164),(13,129),(125,41),(52,165),(295,264),(50,10),(12,128),(296,31),(183,227),(186,230),(357,280),(54,15),(16,132),(53,166),(15,131),(11,127),(128,20),(293,57),(127,200),(244,252),(4,104),(191,79),(130,47),(213,80),(148,48),(141,201),(71,167),(263,255),(306,265),(261,253),(206,232),(349,278),(335,273),(24,136),(262,254),(207,233),(350,89),(337,66),(336,274),(308,266),(265,93),(210,74),(211,75),(266,7),(212,53),(267,34),(209,73),(142,42),(144,202),(73,168),(23,135),(143,43),(145,203),(74,169),(309,267),(72,12),(22,134),(310,35),(205,231),(208,234),(358,281),(76,17),(26,138),(75,170),(25,137),(21,133),(147,22),(307,60),(146,204),(264,256),(6,106),(214,81),(149,49),(276,405),(93,660),(157,209),(312,346),(353,240),(83,658),(314,410),(316,412),(159,182),(339,356),(334,245),(333,244),(199,351),(304,221),(305,222),(66,145),(255,400),(301,186),(70,657),(300,409),(137,384),(201,392),(202,393),(197,65),(139,386),(69,378),(134,177),(257,402),(65,149),(135,383),(198,243),(200,391),(203,394),(299,408),(64,376),(62,375),(68,377),(136,350),(19,373),(5,622),(18,636),(20,637),(258,192),(303,220),(259,193),(260,194),(302,219),(256,401),(204,161),(193,487),(132,477),(195,489),(297,329),(59,454),(248,495),(192,486),(254,399),(56,451),(67,58),(298,500),(60,455),(250,497),(194,488),(57,452),(140,685),(58,453),(61,656),(131,476),(55,450),(138,385),(17,433),(63,181),(253,359),(252,88),(251,239),(133,187),(196,214),(332,414),(249,496),(284,363)]
def TP (f:Nat):Option Nat:=kp.lookup f
noncomputable instance kfI:KF:=⟨TP,Tryz.prog⟩
theorem DU :∀{l:List (Nat×Nat)}{f k:Nat},l.lookup f=some k→(f,k)∈l
 |[],_,_,h=>by simp at h
 |(a,b)::l,f,k,h=>by
  rw[List.lookup_cons]at h
  split at h
  ·rename_i he
   cases h
   rw[show f=a by simpa using he]
   exact List.mem_cons_self
  ·exact List.mem_cons_of_mem _ (DU h)
def Gm :Ctx:=⟨fun _=>True,0,fun _ _ _ _=>trivial,fun _ _=>Nat.zero_le _⟩
def Iz (p:Nat×Nat):Prop:=(∃fn af,Tryz.prog.funcs[p.1]? =some fn∧Sq Tryz.prog Gi.kf p.2 fn=some af∧Ph p.2=some af)∨
 (Ph p.2=none∧(∃fn,Tryz.prog.funcs[p.1]? =some fn∧fn.body.isNone=false∧(fn.name== "runtime.NumGoroutine")=false)∧∀xs r,aF p.2 xs=some r→wn Gm Tryz.prog p.1 xs r)
theorem Tr {M0:Nat→Prop}{w w':World}{r:V}{v:Value}(hM:∀b,M0 b→b<w.heap.size)(hb:Below w.heap.size w w')(ht:thaw [] r=(r,[]))(hv:VR (Mu M0 [] []) w' [] [] r v):tR M0 w.heap.size w' r v:=by
 refine⟨[],?_,?_⟩
 ·rw[ht]
  exact⟨⟨rfl,fun b h=>⟨Nat.lt_of_lt_of_le (hM b h) hb.size,fun o ob ho=>by simp at ho⟩,hb.size,fun i x r hi=>by simp at hi,fun i i' x x' b h1=>by simp at h1⟩,fun _=>[],⟨fun i x b hi=>by simp at hi,fun i x z2 es2 b hi=>by simp at hi⟩,fun _ _=>rfl,nofun⟩
 ·rw[ht]
  exact hv
set_option maxRecDepth 100000 in
theorem KU (a b:ByteArray)(w:World):Calls Tryz.prog 323 #[.string a, .string b] w fun e w'=>e= .returned (.int .i64 (Lib.compareBytes a.data.toList b.data.toList))∧w'=w:=by
 have mixed:Tryz.prog.follows .mixedOrders=true:=by kernel_rfl
 go_enter Tryz.func323,Tryz.ntmps323
 go_wp2
 rw[run_callFunc_extern Tryz.func343 (by kernel_rfl) (by kernel_rfl) (by kernel_rfl) (e:=Extern.BytealgCompare.compare) (by kernel_rfl),Lib.run_compareString]
 simp only[Result.andThen]
 rw[Oper.upon_value]
 go_wp2
 go_ret
 exact⟨rfl,rfl⟩
set_option maxRecDepth 100000 in
theorem Nt (a b:ByteArray)(w:World):Calls Tryz.prog 284 #[.string a, .string b] w fun e w'=>e= .returned (.int .i64 (Lib.compareBytes a.data.toList b.data.toList))∧w'=w:=by
 have mixed:Tryz.prog.follows .mixedOrders=true:=by kernel_rfl
 have e213:∀args w,(callFunc 323 args).run Tryz.prog w= .ok (.enter 323 args) w:=enters_of Tryz.func323 (by kernel_rfl) rfl
 go_enter Tryz.func284,Tryz.ntmps284
 go_wp2_with (go_at_fn 323;refine(KU _ _ _).mono ?_;rintro e w' ⟨rfl,rfl⟩)
 go_ret
 exact⟨rfl,rfl⟩
theorem Nu :∀xs r,aF 363 xs=some r→wn Gm Tryz.prog 284 xs r:=by
 intro xs r h
 unfold aF at h
 split at h
 rotate_left
 ·cases h
 ·rename_i heq
  cases heq
  rename_i a b
  cases h
  refine⟨rfl,fun M0 w vals hG hM ha=> ?_⟩
  obtain⟨hl,hv⟩:=ha
  obtain⟨v,v2,hvs⟩:∃v v2,vals.toList=[v,v2]:=by
   match h:vals.toList,hl with
   |[v,v2],_=>exact⟨v,v2,rfl⟩
  have h0:VR M0 w [] [] (fJ a) v:=hv 0 _ v rfl (by rw[hvs];rfl)
  have h1:VR M0 w [] [] (fJ b) v2:=hv 1 _ v2 rfl (by rw[hvs];rfl)
  have hv0:v= .string ⟨a.toArray⟩:=by simpa[VR,LR,ak]using h0
  have hv1:v2= .string ⟨b.toArray⟩:=by simpa[VR,LR,ak]using h1
  obtain rfl:vals= #[.string ⟨a.toArray⟩, .string ⟨b.toArray⟩]:=by cases vals;simp_all
  refine(Nt ⟨a.toArray⟩ ⟨b.toArray⟩ w).mono fun e w'⟨he,hw'⟩=> ?_
  subst hw'
  exact⟨_,he,Below.refl _ _,Tr hM (Below.refl _ _) rfl (by simp[VR,LR,ak])⟩
set_option maxRecDepth 100000 in
theorem QO :Iz (93,660):=Or.inr ⟨rfl,⟨Tryz.f93,Tryz.func93,by kernel_rfl,by kernel_rfl⟩,fun xs r h=>by unfold aF at h;split at h<;>first|(rename_i heq;cases heq;done)|cases h⟩
theorem QP :Iz (339,356):=Or.inr ⟨rfl,⟨Tryz.f339,Tryz.func339,by kernel_rfl,by kernel_rfl⟩,fun xs r h=>by unfold aF at h;split at h<;>first|(rename_i heq;cases heq;done)|cases h⟩
theorem QQ :Iz (284,363):=Or.inr ⟨rfl,⟨Tryz.f284,Tryz.func284,by kernel_rfl,by kernel_rfl⟩,Nu⟩
def Al {α:Type}(P:α→Prop):List α→Prop
 |[]=>True
 |a::l=>P a∧Al P l
theorem OX {α:Type}{P:α→Prop}:∀{l:List α},Al P l→∀a∈l,P a
 |[],_,a,m=>by cases m
 |b::l,h,a,m=>by
  rcases List.mem_cons.1 m with rfl|m
  ·exact h.1
  ·exact OX h.2 a m
theorem fN {i k:Nat}{fn:_}{af:AFn}(h:Tryz.prog.funcs[i]? =some fn)(h3:Ph k=some af:=by exact rfl)(h2:Sq Tryz.prog Gi.kf k fn=some af:=by as_aux_lemma=>kernel_rfl):Iz (i,k):=Or.inl ⟨fn,af,h,h2,h3⟩
def Gc (c:Nat):Prop:=Al Iz ((kp.drop (c*16)).take 16)
end Go.Proofs.YtpfadfkomcbecaaGreat
