/- Of this proof. -/
import Derived.Test.YtgmnakghjemjlabGreatGkb
import Derived.Test.YtgmnakghjemjlabGreatRows
import Derived.KernelRfl
import Derived.Lib.Bytealg
import Derived.Lib.Walk
import Derived.WalkKit
import Derived.Shelf.Abstract
import Derived.Test.YtgmnakghjemjlabGreatGins
set_option linter.unusedSimpArgs false
set_option linter.unusedVariables false
namespace Go.Proofs.YtgmnakghjemjlabGreat
open Go Go.RowKit Gi
set_option maxHeartbeats 8000000
def kp :List (Nat×Nat):=[(336,248),(335,247),(224,355),(315,225),(316,226),(33,635),(89,175),(155,210),(271,404),(309,411),(312,190),(32,61),(311,413),(150,387),(217,396),(218,397),(93,655),(160,684),(222,67),(152,389),(87,380),(153,178),(274,407),(88,151),(157,390),(223,246),(216,395),(219,398),(270,403),(92,382),(90,381),(86,379),(158,354),(31,374),(91,154),(275,195),(314,224),(276,196),(277,197),(313,223),(7,621),(273,406),(220,162),(151,388),(279,362),(94,478),(228,261),(161,490),(83,459),(227,498),(162,491),(215,218),(82,458),(214,493),(281,501),(148,479),(81,457),(268,242),(163,492),(226,334),(85,461),(84,460),(80,456),(149,191),(229,499),(30,434),(269,333),(307,347),(334,217),(348,241),(332,415),(278,90),(221,213),(3,611),(238,82),(170,50),(164,205),(95,171),(284,259),(318,268),(282,257),(231,236),(349,279),(338,275),(37,142),(283,258),(232,237),(350,91),(340,69),(339,276),(320,269),(286,94),(235,77),(236,78),(287,9),(237,55),(288,38),(234,76),(165,44),(167,206),(97,172),(36,141),(166,45),(168,207),(98,173),(321,270),(96,14),(35,140),(322,39),(230,235),(233,238),(354,282),(100,19),(39,144),(99,174),(38,143),(34,139),(169,24),(319,63),(9,208),(285,260),(8,108),(239,83),(171,51),(117,469),(110,462),(180,483),(177,480),(241,494),(50,438),(181,484),(179,482),(112,464),(113,465),(116,468),(111,463),(114,466),(49,437),(115,467),(48,436),(52,440),(51,439),(47,435),(178,481),(13,422),(12,425),(118,470),(108,448),(101,441),(175,474),(172,471),(240,485),(43,429),(176,475),(174,473),(103,443),(104,444),(107,447),(102,442),(105,445),(42,428),(106,446),(41,427),(45,431),(44,430),(40,426),(173,472),(11,421),(46,432),(10,420),(109,449),(125,46),(119,198),(53,163),(244,251),(289,262),(242,249),(183,228),(341,277),(323,271),(17,130),(243,250),(184,229),(342,87),(325,64),(324,272),(291,263),(246,92),(187,71),(188,72),(247,5),(189,52),(248,30),(186,70),(120,40),(122,199),(55,164),(16,129),(121,41),(56,165),(292,264),(54,10),(15,128),(293,31),(182,227),(185,230),(351,280),(58,15),(19,132),(57,166),(18,131),(14,127),(124,20),(290,57),(123,200),(245,252),(4,104),(190,79),(126,47),(212,80),(146,48),(139,201),(74,167),(263,255),(301,265),(261,253),(205,232),(343,278),(329,273),(27,136),(262,254),(206,233),(344,89),(331,66),(330,274),(303,266),(265,93),(209,74),(210,75),(266,7),(211,53),(267,34),(208,73),(140,42),(142,202),(76,168),(26,135),(141,43),(143,203),(77,169),(304,267),(75,12),(25,134),(305,35),(204,231),(207,234),(352,281),(79,17),(29,138),(78,170),(28,137),(24,133),(145,22),(302,60),(144,204),(264,256),(6,106),(213,81),(147,49),(159,683),(272,405),(154,209),(306,346),(347,240),(225,658),(308,410),(310,412),(156,182),(333,356),(328,245),(327,244),(195,351),(299,221),(300,222),(23,634),(69,145),(253,400),(296,186),(295,409),(132,384),(197,392),(198,393),(72,654),(193,65),(134,386),(71,378),(129,177),(255,402),(68,149),(130,383),(194,243),(196,391),(199,394),(294,408),(67,376),(65,375),(70,377),(131,350),(21,373),(256,192),(298,220),(257,193),(258,194),(297,219),(5,620),(254,401),(200,161),(137,487),(127,477),(191,489),(259,329),(63,454),(201,495),(136,486),(252,399),(60,451),(22,58),(260,500),(64,455),(203,497),(138,488),(61,452),(62,453),(73,476),(135,682),(59,450),(133,385),(20,433),(66,181),(251,359),(250,88),(249,239),(128,187),(192,214),(326,414),(202,496),(280,363)]
def R3 (f:Nat):Option Nat:=kp.lookup f
noncomputable instance kfI:KF:=⟨R3,Tryz.prog⟩
theorem Dd :∀{l:List (Nat×Nat)}{f k:Nat},l.lookup f=some k→(f,k)∈l
 |[],_,_,h=>by simp at h
 |(a,b)::l,f,k,h=>by
  rw[List.lookup_cons]at h
  split at h
  ·rename_i he
   cases h
   rw[show f=a by simpa using he]
   exact List.mem_cons_self
  ·exact List.mem_cons_of_mem _ (Dd h)
def Gm :Ctx:=⟨fun _=>True,0,fun _ _ _ _=>trivial,fun _ _=>Nat.zero_le _⟩
def Js (p:Nat×Nat):Prop:=(∃fn af,Tryz.prog.funcs[p.1]? =some fn∧QH Tryz.prog Gi.kf p.2 fn=some af∧Ph p.2=some af)∨
 (Ph p.2=none∧(∃fn,Tryz.prog.funcs[p.1]? =some fn∧fn.body.isNone=false∧(fn.name== "runtime.NumGoroutine")=false)∧∀xs r,aE p.2 xs=some r→zG Gm Tryz.prog p.1 xs r)
theorem RE {M0:Nat→Prop}{w w':World}{r:V}{v:Value}(hM:∀b,M0 b→b<w.heap.size)(hb:Below w.heap.size w w')(ht:thaw [] r=(r,[]))(hv:VR (Mu M0 [] []) w' [] [] r v):tz M0 w.heap.size w' r v:=by
 refine⟨[],?_,?_⟩
 ·rw[ht]
  exact⟨⟨rfl,fun b h=>⟨Nat.lt_of_lt_of_le (hM b h) hb.size,fun o ob ho=>by simp at ho⟩,hb.size,fun i x r hi=>by simp at hi,fun i i' x x' b h1=>by simp at h1⟩,fun _=>[],⟨fun i x b hi=>by simp at hi,fun i x z2 es2 b hi=>by simp at hi⟩,fun _ _=>rfl,nofun⟩
 ·rw[ht]
  exact hv
set_option maxRecDepth 100000 in
theorem JG (a b:ByteArray)(w:World):Calls Tryz.prog 317 #[.string a, .string b] w fun e w'=>e= .returned (.int .i64 (Lib.compareBytes a.data.toList b.data.toList))∧w'=w:=by
 have mixed:Tryz.prog.follows .mixedOrders=true:=by kernel_rfl
 go_enter Tryz.func317,Tryz.ntmps317
 go_wp2
 rw[run_callFunc_extern Tryz.func337 (by kernel_rfl) (by kernel_rfl) (by kernel_rfl) (e:=Extern.BytealgCompare.compare) (by kernel_rfl),Lib.run_compareString]
 simp only[Result.andThen]
 rw[Oper.upon_value]
 go_wp2
 go_ret
 exact⟨rfl,rfl⟩
set_option maxRecDepth 100000 in
theorem L8 (a b:ByteArray)(w:World):Calls Tryz.prog 280 #[.string a, .string b] w fun e w'=>e= .returned (.int .i64 (Lib.compareBytes a.data.toList b.data.toList))∧w'=w:=by
 have mixed:Tryz.prog.follows .mixedOrders=true:=by kernel_rfl
 have e213:∀args w,(callFunc 317 args).run Tryz.prog w= .ok (.enter 317 args) w:=enters_of Tryz.func317 (by kernel_rfl) rfl
 go_enter Tryz.func280,Tryz.ntmps280
 go_wp2_with (go_at_fn 317;refine(JG _ _ _).mono ?_;rintro e w' ⟨rfl,rfl⟩)
 go_ret
 exact⟨rfl,rfl⟩
theorem L9 :∀xs r,aE 363 xs=some r→zG Gm Tryz.prog 280 xs r:=by
 intro xs r h
 unfold aE at h
 split at h
 rotate_left
 ·cases h
 ·rename_i heq
  cases heq
  rename_i a b
  cases h
  refine⟨rfl,fun M0 w vals hG hM ha=> ?_⟩
  obtain⟨hl,hv⟩:=ha
  obtain⟨v,v2,hvs⟩:∃v v2,vals.toList=[v,v2]:=by
   match h:vals.toList,hl with
   |[v,v2],_=>exact⟨v,v2,rfl⟩
  have h0:VR M0 w [] [] (fM a) v:=hv 0 _ v rfl (by rw[hvs];rfl)
  have h1:VR M0 w [] [] (fM b) v2:=hv 1 _ v2 rfl (by rw[hvs];rfl)
  have hv0:v= .string ⟨a.toArray⟩:=by simpa[VR,LR,al]using h0
  have hv1:v2= .string ⟨b.toArray⟩:=by simpa[VR,LR,al]using h1
  obtain rfl:vals= #[.string ⟨a.toArray⟩, .string ⟨b.toArray⟩]:=by cases vals;simp_all
  refine(L8 ⟨a.toArray⟩ ⟨b.toArray⟩ w).mono fun e w'⟨he,hw'⟩=> ?_
  subst hw'
  exact⟨_,he,Below.refl _ _,RE hM (Below.refl _ _) rfl (by simp[VR,LR,al])⟩
theorem Pf :Js (333,356):=Or.inr ⟨rfl,⟨Tryz.f333,Tryz.func333,by kernel_rfl,by kernel_rfl⟩,fun xs r h=>by unfold aE at h;split at h<;>first|(rename_i heq;cases heq;done)|cases h⟩
theorem Pg :Js (280,363):=Or.inr ⟨rfl,⟨Tryz.f280,Tryz.func280,by kernel_rfl,by kernel_rfl⟩,L9⟩
def Al {α:Type}(P:α→Prop):List α→Prop
 |[]=>True
 |a::l=>P a∧Al P l
theorem Nx {α:Type}{P:α→Prop}:∀{l:List α},Al P l→∀a∈l,P a
 |[],_,a,m=>by cases m
 |b::l,h,a,m=>by
  rcases List.mem_cons.1 m with rfl|m
  ·exact h.1
  ·exact Nx h.2 a m
theorem fN {i k:Nat}{fn:_}{af:AFn}(h:Tryz.prog.funcs[i]? =some fn)(h3:Ph k=some af:=by exact rfl)(h2:QH Tryz.prog Gi.kf k fn=some af:=by as_aux_lemma=>kernel_rfl):Js (i,k):=Or.inl ⟨fn,af,h,h2,h3⟩
def Gc (c:Nat):Prop:=Al Js ((kp.drop (c*16)).take 16)
end Go.Proofs.YtgmnakghjemjlabGreat
