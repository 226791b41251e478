/- Of this proof. -/
import Derived.Test.YtbeaonmepfkmmaaGreatGnAd
import Derived.Test.YtbeaonmepfkmmaaGreatRows
import Derived.KernelRfl
import Derived.Lib.Bytealg
import Derived.Lib.Walk
import Derived.WalkKit
import Derived.Shelf.Abstract
import Derived.Test.YtbeaonmepfkmmaaGreatGinsd
import Derived.Test.YtbeaonmepfkmmaaGreatGindld
set_option linter.unusedSimpArgs false
set_option linter.unusedVariables false
namespace Go.Proofs.YtbeaonmepfkmmaaGreat
open Go Go.RowKit Gi
set_option maxHeartbeats 8000000
def kp :List (Nat×Nat):=[(312,604),(255,248),(254,247),(252,349),(176,580),(308,355),(177,581),(101,563),(178,582),(313,605),(344,608),(12,538),(197,225),(179,583),(198,226),(155,319),(83,175),(151,210),(273,188),(318,216),(50,404),(104,411),(311,190),(251,348),(257,61),(345,609),(310,413),(180,397),(271,67),(256,178),(261,596),(272,246),(258,354),(306,358),(49,548),(275,342),(174,578),(100,562),(175,579),(181,584),(102,564),(274,341),(260,406),(253,595),(37,146),(340,362),(250,261),(99,498),(105,218),(182,242),(51,191),(319,217),(347,241),(342,415),(316,90),(307,213),(262,597),(4,533),(236,82),(164,50),(158,205),(88,171),(295,259),(333,268),(293,257),(231,236),(367,279),(358,275),(43,142),(294,258),(232,237),(314,91),(263,69),(359,276),(335,269),(297,94),(235,77),(19,78),(106,9),(52,55),(183,38),(234,76),(159,44),(161,206),(90,172),(42,141),(160,45),(162,207),(91,173),(336,270),(89,14),(41,140),(184,39),(230,235),(233,238),(373,282),(93,19),(45,144),(92,174),(44,143),(40,139),(13,24),(334,63),(163,208),(296,260),(10,108),(237,83),(165,51),(117,484),(60,468),(16,540),(114,448),(107,441),(188,474),(185,471),(264,485),(56,429),(116,475),(187,473),(110,443),(20,444),(59,447),(109,442),(111,445),(55,428),(112,446),(54,427),(58,431),(57,430),(53,426),(15,539),(186,472),(113,421),(108,432),(14,420),(115,449),(134,46),(128,198),(68,163),(278,251),(322,262),(276,249),(202,228),(363,277),(352,271),(25,130),(277,250),(203,229),(364,87),(354,64),(353,272),(324,263),(280,92),(206,71),(207,72),(281,5),(208,52),(282,30),(205,70),(129,40),(131,199),(70,164),(24,129),(130,41),(71,165),(325,264),(69,10),(23,128),(326,31),(201,227),(204,230),(371,280),(73,15),(27,132),(72,166),(26,131),(22,127),(133,20),(323,57),(132,200),(279,252),(6,104),(209,79),(135,47),(220,80),(148,48),(141,201),(77,167),(285,255),(327,265),(283,253),(213,232),(365,278),(355,273),(34,136),(284,254),(214,233),(366,89),(357,66),(356,274),(329,266),(287,93),(217,74),(218,75),(288,7),(219,53),(289,34),(216,73),(142,42),(144,202),(79,168),(33,135),(143,43),(145,203),(80,169),(330,267),(78,12),(32,134),(331,35),(212,231),(215,234),(372,281),(82,17),(36,138),(81,170),(35,137),(31,133),(147,22),(328,60),(146,204),(286,256),(8,106),(221,81),(149,49),(259,405),(343,607),(226,335),(150,209),(346,240),(317,215),(103,410),(309,412),(320,353),(321,356),(303,601),(244,245),(242,244),(239,345),(168,574),(300,351),(240,591),(96,560),(241,592),(304,602),(11,537),(191,221),(170,576),(192,222),(138,316),(28,145),(267,184),(47,400),(302,186),(238,343),(339,606),(301,409),(171,393),(265,65),(246,177),(243,593),(266,243),(245,350),(298,357),(46,547),(269,339),(166,572),(95,559),(167,573),(172,577),(97,561),(268,338),(247,401),(248,58),(337,359),(315,88),(173,239),(299,600),(48,187),(98,214),(338,414),(94,496),(305,603),(169,575),(249,594),(341,363)]
def U3 (f:Nat):Option Nat:=kp.lookup f
noncomputable instance kfI:KF:=⟨U3,Tryz.prog⟩
theorem Cx :∀{l:List (Nat×Nat)}{f k:Nat},l.lookup f=some k→(f,k)∈l
 |[],_,_,h=>by simp at h
 |(a,b)::l,f,k,h=>by
  rw[List.lookup_cons]at h
  split at h
  ·rename_i he
   cases h
   rw[show f=a by simpa using he]
   exact List.mem_cons_self
  ·exact List.mem_cons_of_mem _ (Cx h)
def Gm :Ctx:=⟨fun _=>True,0,fun _ _ _ _=>trivial,fun _ _=>Nat.zero_le _⟩
def Fq (p:Nat×Nat):Prop:=(∃fn af,Tryz.prog.funcs[p.1]? =some fn∧TL Tryz.prog Gi.kf p.2 fn=some af∧Ph p.2=some af)∨
 (Ph p.2=none∧(∃fn,Tryz.prog.funcs[p.1]? =some fn∧fn.body.isNone=false∧(fn.name== "runtime.NumGoroutine")=false)∧∀xs r,aN p.2 xs=some r→vw Gm Tryz.prog p.1 xs r)
theorem UE {M0:Nat→Prop}{w w':World}{r:V}{v:Value}(hM:∀b,M0 b→b<w.heap.size)(hb:Below w.heap.size w w')(ht:thaw [] r=(r,[]))(hv:VR (Mu M0 [] []) w' [] [] r v):tO M0 w.heap.size w' r v:=by
 refine⟨[],?_,?_⟩
 ·rw[ht]
  exact⟨⟨rfl,fun b h=>⟨Nat.lt_of_lt_of_le (hM b h) hb.size,fun o ob ho=>by simp at ho⟩,hb.size,fun i x r hi=>by simp at hi,fun i i' x x' b h1=>by simp at h1⟩,fun _=>[],⟨fun i x b hi=>by simp at hi,fun i x z2 es2 b hi=>by simp at hi⟩,fun _ _=>rfl,nofun⟩
 ·rw[ht]
  exact hv
set_option maxRecDepth 100000 in
theorem Km (a b:ByteArray)(w:World):Calls Tryz.prog 360 #[.string a, .string b] w fun e w'=>e= .returned (.int .i64 (Lib.compareBytes a.data.toList b.data.toList))∧w'=w:=by
 have mixed:Tryz.prog.follows .mixedOrders=true:=by kernel_rfl
 go_enter Tryz.func360,Tryz.ntmps360
 go_wp2
 rw[run_callFunc_extern Tryz.func368 (by kernel_rfl) (by kernel_rfl) (by kernel_rfl) (e:=Extern.BytealgCompare.compare) (by kernel_rfl),Lib.run_compareString]
 simp only[Result.andThen]
 rw[Oper.upon_value]
 go_wp2
 go_ret
 exact⟨rfl,rfl⟩
set_option maxRecDepth 100000 in
theorem NC (a b:ByteArray)(w:World):Calls Tryz.prog 341 #[.string a, .string b] w fun e w'=>e= .returned (.int .i64 (Lib.compareBytes a.data.toList b.data.toList))∧w'=w:=by
 have mixed:Tryz.prog.follows .mixedOrders=true:=by kernel_rfl
 have e213:∀args w,(callFunc 360 args).run Tryz.prog w= .ok (.enter 360 args) w:=enters_of Tryz.func360 (by kernel_rfl) rfl
 go_enter Tryz.func341,Tryz.ntmps341
 go_wp2_with (go_at_fn 360;refine(Km _ _ _).mono ?_;rintro e w' ⟨rfl,rfl⟩)
 go_ret
 exact⟨rfl,rfl⟩
theorem ND :∀xs r,aN 363 xs=some r→vw Gm Tryz.prog 341 xs r:=by
 intro xs r h
 unfold aN at h
 split at h
 rotate_left
 ·cases h
 ·rename_i heq
  cases heq
  rename_i a b
  cases h
  refine⟨rfl,fun M0 w vals hG hM ha=> ?_⟩
  obtain⟨hl,hv⟩:=ha
  obtain⟨v,v2,hvs⟩:∃v v2,vals.toList=[v,v2]:=by
   match h:vals.toList,hl with
   |[v,v2],_=>exact⟨v,v2,rfl⟩
  have h0:VR M0 w [] [] (dv a) v:=hv 0 _ v rfl (by rw[hvs];rfl)
  have h1:VR M0 w [] [] (dv b) v2:=hv 1 _ v2 rfl (by rw[hvs];rfl)
  have hv0:v= .string ⟨a.toArray⟩:=by simpa[VR,LR,ar]using h0
  have hv1:v2= .string ⟨b.toArray⟩:=by simpa[VR,LR,ar]using h1
  obtain rfl:vals= #[.string ⟨a.toArray⟩, .string ⟨b.toArray⟩]:=by cases vals;simp_all
  refine(NC ⟨a.toArray⟩ ⟨b.toArray⟩ w).mono fun e w'⟨he,hw'⟩=> ?_
  subst hw'
  exact⟨_,he,Below.refl _ _,UE hM (Below.refl _ _) rfl (by simp[VR,LR,ar])⟩
set_option maxRecDepth 100000 in
theorem Ry :Fq (343,607):=Or.inr ⟨rfl,⟨Tryz.f343,Tryz.func343,by kernel_rfl,by kernel_rfl⟩,fun xs r h=>by unfold aN at h;split at h<;>first|(rename_i heq;cases heq;done)|cases h⟩
set_option maxRecDepth 100000 in
theorem Rz :Fq (320,353):=Or.inr ⟨rfl,⟨Tryz.f320,Tryz.func320,by kernel_rfl,by kernel_rfl⟩,fun xs r h=>by unfold aN at h;split at h<;>first|(rename_i heq;cases heq;done)|cases h⟩
set_option maxRecDepth 100000 in
theorem RA :Fq (321,356):=Or.inr ⟨rfl,⟨Tryz.f321,Tryz.func321,by kernel_rfl,by kernel_rfl⟩,fun xs r h=>by unfold aN at h;split at h<;>first|(rename_i heq;cases heq;done)|cases h⟩
set_option maxRecDepth 100000 in
theorem RB :Fq (341,363):=Or.inr ⟨rfl,⟨Tryz.f341,Tryz.func341,by kernel_rfl,by kernel_rfl⟩,ND⟩
def Al {α:Type}(P:α→Prop):List α→Prop
 |[]=>True
 |a::l=>P a∧Al P l
theorem Pf {α:Type}{P:α→Prop}:∀{l:List α},Al P l→∀a∈l,P a
 |[],_,a,m=>by cases m
 |b::l,h,a,m=>by
  rcases List.mem_cons.1 m with rfl|m
  ·exact h.1
  ·exact Pf h.2 a m
theorem fN {i k:Nat}{fn:_}{af:AFn}(h:Tryz.prog.funcs[i]? =some fn)(h3:Ph k=some af:=by exact rfl)(h2:TL Tryz.prog Gi.kf k fn=some af:=by as_aux_lemma=>kernel_rfl):Fq (i,k):=Or.inl ⟨fn,af,h,h2,h3⟩
def Gc (c:Nat):Prop:=Al Fq ((kp.drop (c*16)).take 16)
end Go.Proofs.YtbeaonmepfkmmaaGreat
