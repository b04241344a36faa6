import Derived.Test.YtmljmabbopkpiaaV1
import Derived.Test.YtmljmabbopkpiaaV8
set_option linter.unusedSimpArgs false
set_option linter.unusedVariables false
set_option maxRecDepth 100000
set_option maxHeartbeats 4000000
section
open Go.Proofs.Ytmljmabbopkpiaa.Vm Go.RowKit
attribute [local push_cast] eqB eqBL allB
section
namespace Go.Proofs.Ytmljmabbopkpiaa.Vm
open Go.RowKit
theorem mul64_lit (a b:Nat)(ha:a≤65535)(hb:b≤65535):LitOk Try.prog 121 [.nat .u64 a,.nat .u64 b] [.gone] (.tup [.nat .u64 0,.nat .u64 (a*b)]) [.gone]:=by
 refine litOkM (fn:=Try.f121) 1 51 0 rfl rfl rfl rfl rfl u2_ rfl fun w0 M E hro=>?_
 have hab:a*b≤4294967295:=Nat.le_trans (Nat.mul_le_mul ha hb) (by decide)
 have mask:∀x,x≤4294967295→x &&& 4294967295=x:=fun x hx=>by
  have:=Nat.and_two_pow_sub_one_eq_mod x 32
  have p32:(2:Nat) ^ 32=4294967296:=by decide
  rw[p32]at this
  rw[show (4294967296 - 1:Nat)=4294967295 by decide]at this
  rw[this]
  exact Nat.mod_eq_of_lt (by omega)
 have e32:min 32 (IntKind.bits .u64)=32:=by decide
 have p32:(2:Nat) ^ 32=4294967296:=by decide
 have shr:∀x,x≤4294967295→x / 2 ^ (min 32 (IntKind.bits .u64))=0:=fun x hx=>by
  rw[e32,p32]
  exact Nat.div_eq_of_lt (by omega)
 have ma:=mask a (by omega)
 have mb:=mask b (by omega)
 have sa:=shr a (by omega)
 have sb:=shr b (by omega)
 have sab:=shr (a*b) hab
 repeat' (first|refine Ctl.h ?_ |((with_reducible intro hif);first |(focus (cases hif;done)) |((try simp only[JH]at hif);try exact hy_)) |((with_reducible first|apply J22 c1_ok za_|apply J23 fol c1_ok za_|apply J24);(·rfl);(· (simp only[push_cast,↓JP,Nat.reduceAdd,Nat.reduceEqDiff,Nat.reduceLT,Nat.reduceMul,Nat.reduceLeDiff,reduceCtorEq,reduceIte,ma,mb,sa,sb,sab,inN,Nat.zero_mul,Nat.mul_zero,Nat.zero_div,Nat.zero_and];rfl));(try kernel_rfl);try exact k15_)|fail)
 apply At.endsRet za_ (fn:=Try.f121) (rs:=[.tmp 4,.tmp 5]) Anc.refl hro (lb_ rfl) rfl
 ·exact k3_
 ·exact k4_
 ·exact k5_
 ·rfl
 ·exact k6_
 ·exact k7_
 ·exact fun β=>rfl
 ·exact k6_
def sMul64:Spec:=fun args h m=>match args with
 | [.nat q1 v1,.nat q2 v2]=>bif keq q1 .u64 && keq q2 .u64 then some ((v1≤65535)∧(v2≤65535),.tup [.nat .u64 0,.nat .u64 (v1*v2)],[],[])else none
 | _=>none
theorem sMul64_ok:zs_ Try.prog 121 sMul64:=by
 refine⟨zp_ (by kernel_rfl),fun args h m c v rd wr hs hm hc w0 M β h' w R hrd hwr hst=>?_⟩
 unfold sMul64 at hs
 split at hs
 ·rename_i q1 v1 q2 v2
  obtain⟨hb,hs⟩:=zq_ hs
  simp only[Option.some.injEq,Prod.mk.injEq]at hs
  obtain⟨rfl,rfl,rfl,rfl⟩:=hs
  simp only[Bool.and_eq_true]at hb
  obtain⟨b1,b2⟩:=hb
  have w1:=keq_eq b1
  subst w1
  have w2:=keq_eq b2
  subst w2
  obtain⟨y1,y2⟩:=hc
  refine callRo (views:=[]) (mul64_lit v1 v2 y1 y2) ?_ R hm hwr ?_ ?_ ?_
  ·intro x hx;cases hx
  ·intro β1 hv
   simp only[denL,aggDen,intDen,natDen,yr_,zi_]
  ·exact k6_
  ·exact k6_
 ·cases hs
def cMul:FuncId→Option Spec:=look2 [(121,sMul64)]
theorem cMul_ok:∀f S,cMul f=some S→zs_ Try.prog f S:=yi_ ⟨sMul64_ok,trivial⟩
theorem mul_lit (a b:Nat)(ha:a≤65535)(hb:b≤65535):LitOk Try.prog 92 [.nat .u64 a,.nat .u64 b] [.gone] (.tup [.nat .u64 0,.nat .u64 (a*b)]) [.gone]:=by
 refine litOkM (fn:=Try.f92) 1 30 0 rfl rfl rfl rfl rfl u2_ rfl fun w0 M E hro=>?_
 repeat' (first|refine Ctl.h ?_ |((with_reducible intro hif);first |(focus (cases hif;done)) |((try simp only[JH]at hif);try exact hy_)) |((with_reducible first|apply J22 cMul_ok za_|apply J23 fol cMul_ok za_|apply J24);(·rfl);(· (simp only[push_cast,↓JP,Nat.reduceAdd,Nat.reduceEqDiff,Nat.reduceLT,Nat.reduceMul,Nat.reduceLeDiff,reduceCtorEq,reduceIte,cMul,sMul64,inN];rfl));(try kernel_rfl);try exact k15_)|fail)
 apply At.endsRet za_ (fn:=Try.f92) (rs:=[.tmp 4,.tmp 5]) Anc.refl hro (lb_ rfl) rfl
 ·exact k3_
 ·exact k4_
 ·exact k5_
 ·rfl
 ·exact k6_
 ·exact k7_
 ·exact fun β=>rfl
 ·exact k6_
def sMul:Spec:=fun args h m=>match args with
 | [.nat q1 v1,.nat q2 v2]=>bif keq q1 .u64 && keq q2 .u64 then some ((v1≤65535)∧(v2≤65535),.tup [.nat .u64 0,.nat .u64 (v1*v2)],[],[])else none
 | _=>none
theorem sMul_ok:zs_ Try.prog 92 sMul:=by
 refine⟨zp_ (by kernel_rfl),fun args h m c v rd wr hs hm hc w0 M β h' w R hrd hwr hst=>?_⟩
 unfold sMul at hs
 split at hs
 ·rename_i q1 v1 q2 v2
  obtain⟨hb,hs⟩:=zq_ hs
  simp only[Option.some.injEq,Prod.mk.injEq]at hs
  obtain⟨rfl,rfl,rfl,rfl⟩:=hs
  simp only[Bool.and_eq_true]at hb
  obtain⟨b1,b2⟩:=hb
  have w1:=keq_eq b1
  subst w1
  have w2:=keq_eq b2
  subst w2
  obtain⟨y1,y2⟩:=hc
  refine callRo (views:=[]) (mul_lit v1 v2 y1 y2) ?_ R hm hwr ?_ ?_ ?_
  ·intro x hx;cases hx
  ·intro β1 hv
   simp only[denL,aggDen,intDen,natDen,yr_,zi_]
  ·exact k6_
  ·exact k6_
 ·cases hs
def cRep:FuncId→Option Spec:=look2 [(92,sMul)]
theorem cRep_ok:∀f S,cRep f=some S→zs_ Try.prog f S:=yi_ ⟨sMul_ok,trivial⟩
theorem list_one {α : Type}{l:List α}(h:l.length=1)(d:α):l=[l.getD 0 d]:=by
 match l,h with
 | [a],_=>rfl
structure RepI (c:Nat) (v:SV) (j:Nat) (F:Nat→SV):Prop where
 le:j≤c
 one:c=0∨1≤j
 eq:∀q,q < j→F q=v
 st:∀(h:HM) (q:Nat),zb_ h (F q)
theorem repI0 {c:Nat}{v:SV}{f:Nat→SV}(z:SV)(h0:f 0=v)(hf:∀(h:HM) (q:Nat),zb_ h (f q))(hz:∀h:HM,zb_ h z):RepI c v (min 1 c) (fun q=>SV.ite (decide (q < min 1 c)) (f q) z):=
 ⟨by omega,by omega,fun q hq=>by
  have:q=0:=by omega
  subst this
  rw[ite_eq]
  simp only[hq,decide_true,cond_true]
  exact h0,fun h q=>zb_.ite (hf h q) (hz h)⟩
theorem RepI.step {c:Nat}{v:SV}{j:Nat}{F:Nat→SV}(h:RepI c v j F)(hj:j < c):RepI c v (j+min j (c - j)) (fun q=>SV.ite (decide (j≤q) && decide (q < j+min j (c - j))) (F (q - j)) (F q)):=
 ⟨by have:=h.le;omega,.inr (by rcases h.one with e|e<;>omega),fun q hq=>by
  rw[ite_eq]
  by_cases h1:j≤q
  ·simp only[h1,hq,decide_true,Bool.and_true,cond_true]
   exact h.eq _ (by omega)
  ·simp only[h1,decide_false,Bool.false_and,cond_false]
   exact h.eq _ (by omega),fun h' q=>zb_.ite (h.st h' _) (h.st h' _)⟩
theorem repZ_lit (xs:List Int)(c:Nat)(p1:Nat)(h1:xs.length=1)(hc:c≤65535):LitOk Try.prog 119 [.sl 1 2 [] 1 0 xs.length (some p1),.nat .i64 c] [.gone,.gone,.ro (.arr xs.length 1 (i64S xs))] (.sl 3 3 [] 1 0 c none) [.gone,.gone,.gone,.own 3 (.arr c 1 (i64S (List.replicate c (xs.getD 0 0)))) false]:=by
 obtain⟨x,rfl⟩:∃x,xs=[x]:=⟨_,list_one h1 0⟩
 refine litOkM (fn:=Try.f119) 3 48 0 rfl rfl rfl rfl rfl u2_ rfl fun w0 M E hro=>?_
 repeat' (first|refine Ctl.h ?_ |((with_reducible intro hif);first |(focus (cases hif;done)) |((try simp only[JH]at hif);try exact hy_)) |((with_reducible first|apply J22 cRep_ok za_|apply J23 fol cRep_ok za_|apply J24);(·rfl);(· (simp only[push_cast,↓JP,Nat.reduceAdd,Nat.reduceEqDiff,Nat.reduceLT,Nat.reduceMul,Nat.reduceLeDiff,reduceCtorEq,reduceIte,cRep,sMul,inN,inR,Nat.one_mul,Nat.sub_zero,Nat.zero_le,Nat.lt_irrefl];rfl));(try kernel_rfl);try exact k16_)|fail)
 refine WF.loopAt (fun (z:Nat×(Nat→SV))=>RepI c (.int .i64 x) z.1 z.2) (fun (z:Nat×(Nat→SV))=>[(0,.sl 1 2 [] 1 0 [x].length (some p1)),(7,.sl 3 3 [] 1 0 c none),(8,.nat .i64 z.1)]) (fun (z:Nat×(Nat→SV))=>[.gone,.gone,.ro (.arr [x].length 1 (i64S [x])),.own 3 (.arr c 1 z.2) false]) (fun (z:Nat×(Nat→SV))=>c - z.1) (min 1 c,fun q=>SV.ite (decide (q < min 1 c)) (i64S [x] q) (.nat .i64 0)) (repI0 _ rfl (fun h q=>by simp[i64S,zb_,zd_]) (fun h=>by simp[zb_,zd_])) ?_ ?_ rfl ?_ ?_ rfl ?_
 ·exact k13_
 ·exact k5_
 ·exact k14_
 ·exact k14_
 rintro⟨j,F⟩ hI
 have hle:=hI.le
 have hst:=hI.st
 dsimp only at hle hst ⊢
 repeat' (first|refine Ctl.h ?_ |((with_reducible intro hif);first |(focus (cases hif;done)) |((try simp only[JH]at hif);try exact hy_)) |((with_reducible first|apply J22 cRep_ok za_|apply J23 fol cRep_ok za_|apply J24);(·rfl);(· (simp only[push_cast,↓JP,Nat.reduceAdd,Nat.reduceEqDiff,Nat.reduceLT,Nat.reduceMul,Nat.reduceLeDiff,reduceCtorEq,reduceIte,inN];rfl));(try kernel_rfl);try exact k15_)|fail)
 ·refine At.next (j+min j (c - j),fun q=>SV.ite (decide (j≤q) && decide (q < j+min j (c - j))) (F (q - j)) (F q)) ?_ ?_ ?_ rfl ?_ ?_ rfl
  ·exact⟨hI.step (by omega),by have:=hI.one;dsimp only;omega⟩
  ·exact k13_
  ·exact k5_
  ·exact k14_
  ·exact k14_
 ·have hjc:j=c:=by omega
  subst hjc
  have hL:∀q,q < j→F q=i64S (List.replicate j x) q:=fun q hq=>by have:=hI.eq q hq;dsimp only at this;rw[this];simp[i64S,hq]
  apply At.endsRet za_ (fn:=Try.f119) (rs:=[.tmp 4]) Anc.refl hro (lb_ rfl) rfl
  ·exact k3_
  ·exact k4_
  ·exact k5_
  ·rfl
  ·exact k14_
  ·exact k7_
  ·exact fun β=>rfl
  ·exact k14_
def sRepZ:Spec:=fun args h m=>match args with
 | [v1,.nat q2 v2]=>match srcV h 1 (.tup []) v1 with
  | some (c1,n1,f1,r1)=>bif keq q2 .i64 then some (c1∧(∀q,q < n1→isI .i64 (f1 q)=true)∧(n1=1)∧(v2≤65535),.sl m m [] 1 0 v2 none,r1,[(m,.own 3 (.arr v2 1 (i64S (List.replicate v2 ((ls iOf n1 f1).getD 0 0)))) false)])else none
  | _=>none
 | _=>none
theorem sRepZ_ok:zs_ Try.prog 119 sRepZ:=by
 refine⟨zp_ (by kernel_rfl),fun args h m c v rd wr hs hm hc w0 M β h' w R hrd hwr hst=>?_⟩
 unfold sRepZ at hs
 split at hs
 ·rename_i v1 q2 v2
  split at hs
  ·rename_i c1 n1 f1 r1 a1
   obtain⟨hb,hs⟩:=zq_ hs
   simp only[Option.some.injEq,Prod.mk.injEq]at hs
   obtain⟨rfl,rfl,rfl,rfl⟩:=hs
   have b2:=hb
   have w2:=keq_eq b2
   subst w2
   obtain⟨k1,g1,y1,y2⟩:=hc
   obtain⟨A1,p1,d1,e1,t1⟩:=yn_ R a1 k1 (fun i hi=>hrd i hi) (by omega)
   refine callRo (views:=[⟨1,(ls iOf n1 f1).length,i64S (ls iOf n1 f1),A1,p1⟩]) (repZ_lit (ls iOf n1 f1) v2 p1 ((zi_ ..).trans y1) y2) ?_ R hm hwr ?_ ?_ ?_
   ·intro x hx
    simp only[List.mem_cons,List.not_mem_nil,or_false]at hx
    subst hx
    ·exact viewI64 t1 e1 g1
   ·exact d17_
   ·exact k14_
   ·exact k14_
  ·cases hs
 ·cases hs
end Go.Proofs.Ytmljmabbopkpiaa.Vm
end
end
section
namespace Go.Proofs.Ytmljmabbopkpiaa.Vm
open Go.RowKit
def PickF (σ : Nat→Nat)(φ : Fr):Fr→Prop
 | []=>True
 | p::l=>(∃u,look φ p.1=some u∧∀β,u.den β =(p.2.ren σ).den β)∧PickF σ φ l
theorem pickF_spec {σ : Nat→Nat}{φ : Fr}:∀{φ2:Fr},PickF σ φ φ2→∀p∈φ2,∃u,look φ p.1=some u∧∀β,u.den β =(p.2.ren σ).den β
 | [],_,p,hp=>by cases hp
 | q::l,h,p,hp=>by
  rcases List.mem_cons.1 hp with rfl|hp
  ·exact h.1
  ·exact pickF_spec h.2 p hp
section
variable {w0:World} {M:Nat→Prop} {E:Env} {n0 N:Nat} {D:List Deferred} {φ φ2:Fr} {L L2:List HB}
theorem St.pick {a:Act}{w:World}(l:List Nat)(h:St w0 M E n0 N D φ L a w)(h00:l.getD 0 0=0)(hz:hp L2 0=.gone)(hid:idTo n0 l=true)(hpk:PickL (sg l) (hp L) L2 l)(hinj:injL L2 l []=true)(hs:yt_ (hp L2) L2)(hφ : PickF (sg l) φ φ2)(hf:StableF (hp L2) φ2)(hb:bornTo n0 L2=true):St w0 M E n0 N D φ2 L2 a w:=by
 obtain⟨⟨β,hE,R,F⟩,_,h3,h4⟩:=h
 refine⟨⟨fun i=>β (sg l i),fun i hi=>?_,R.pick h00 hz hpk hinj hs,fun t v hv=>?_⟩,fun i hi=>?_,h3,h4⟩
 ·exact d14_
 ·have hm:=look_mem hv
  obtain⟨u,h1,h2⟩:=pickF_spec hφ _ hm
  have hst:=stableF_spec hf _ hm
  refine⟨hst,?_⟩
  rw[(F t u h1).2,h2]
  exact den_ren (h:=hp L2) (fun _ _=>rfl) hst
 ·simp only[bornTo,List.all_eq_true]at hb
  exact hb i (List.mem_range.2 hi)
theorem At.nextPick {α : Type}{p:α→Prop}{φi:α→Fr}{Li:α→List HB}(l:List Nat)(y:α)(hy:p y)(h00:l.getD 0 0=0)(hz:hp (Li y) 0=.gone)(hid:idTo n0 l=true)(hpk:PickL (sg l) (hp L) (Li y) l)(hinj:injL (Li y) l []=true)(hs:yt_ (hp (Li y)) (Li y))(hφ : PickF (sg l) φ (φi y))(hf:StableF (hp (Li y)) (φi y))(hb:bornTo n0 (Li y)=true):At w0 M E n0 N D φ L (fun a w=>∃y,p y∧St w0 M E n0 N D (φi y) (Li y) a w):=
 fun a w hS=>⟨y,hy,hS.pick l h00 hz hid hpk hinj hs hφ hf hb⟩
theorem At.pick {K:Act→World→Prop}(l:List Nat)(h00:l.getD 0 0=0)(hz:hp L2 0=.gone)(hid:idTo n0 l=true)(hpk:PickL (sg l) (hp L) L2 l)(hinj:injL L2 l []=true)(hs:yt_ (hp L2) L2)(hφ : PickF (sg l) φ φ2)(hf:StableF (hp L2) φ2)(hb:bornTo n0 L2=true)(h:At w0 M E n0 N D φ2 L2 K):At w0 M E n0 N D φ L K:=
 fun a w hS=>h a w (hS.pick l h00 hz hid hpk hinj hs hφ hf hb)
end
end Go.Proofs.Ytmljmabbopkpiaa.Vm
end
section
namespace Go.Proofs.Ytmljmabbopkpiaa.Vm
open Go.RowKit
section
variable {P:Program} {w0 w1 w2:World} {M M1 M2:Nat→Prop} {E:Env} {n0 N n:Nat} {D D1 D2:List Deferred} {φ : Fr} {L:List HB} {Q:Exit→Act→World→Prop} {ro:Option Nat}
theorem WF.loopB {α : Type}(p:α→Prop)(φi:α→Fr)(Li:α→List HB)(μ : α→Nat){c:Code}(x0:α)(h0:p x0)
  (hφ : SubF φ (φi x0)) (hL:LessL L (Li x0)) (hz:hp (Li x0) 0=.gone) (hs:yt_ (hp (Li x0)) (Li x0)) (hf:StableF (hp (Li x0)) (φi x0)) (hb:bornTo n0 (Li x0)=true)
  (step:∀w1 M1 D1 x,Anc w0 M D w1 M1 D1→p x→WF ro n P c w1 M1 E n0 N D1 (φi x) (Li x) (Exit.then (fun a w=>∃w2 M2 D2 y,Anc w1 M1 D1 w2 M2 D2∧p y∧μ y < μ x∧St w2 M2 E n0 N D2 (φi y) (Li y) a w) Q)):WF ro n P (.loop c) w0 M E n0 N D φ L Q:=
 WF.sub hφ hL hz hs hf hb (WF.loop p φi Li μ x0 h0 step)
theorem At.nextB {α : Type}{p:α→Prop}{φi:α→Fr}{Li:α→List HB}{μ : α→Nat}{m:Nat}(A:Anc w1 M1 D1 w2 M2 D2)(l:List Nat)(y:α)(hy:p y∧μ y < m)(h00:l.getD 0 0=0)(hz:hp (Li y) 0=.gone)(hid:idTo n0 l=true)(hpk:PickL (sg l) (hp L) (Li y) l)(hinj:injL (Li y) l []=true)(hs:yt_ (hp (Li y)) (Li y))(hφ : PickF (sg l) φ (φi y))(hf:StableF (hp (Li y)) (φi y))(hb:bornTo n0 (Li y)=true) :
  At w2 M2 E n0 N D2 φ L (fun a w=>∃w2 M2 D2 y,Anc w1 M1 D1 w2 M2 D2∧p y∧μ y < m∧St w2 M2 E n0 N D2 (φi y) (Li y) a w):=
 fun a w hS=>⟨w2,M2,D2,y,A,hy.1,hy.2,hS.pick l h00 hz hid hpk hinj hs hφ hf hb⟩
end
end Go.Proofs.Ytmljmabbopkpiaa.Vm
end
section
namespace Go.Proofs.Ytmljmabbopkpiaa.Vm
open Go.RowKit
theorem arrCl {β : Env}{n k:Nat}{f g:Nat→SV}(h:∀q,q < n→(f q).cl β =(g q).cl β):(SV.arr n k f).cl β =(SV.arr n k g).cl β:=by
 have e:(List.range n).flatMap (fun i=>fit k (((f i).den β).cells.toList.map sane))=(List.range n).flatMap (fun i=>fit k (((g i).den β).cells.toList.map sane)):=by
  rw[List.flatMap_def,List.flatMap_def]
  exact congrArg List.flatten (List.map_congr_left fun q hq=>congrArg (fit k) (h q (List.mem_range.1 hq)))
 simp only[SV.cl,SV.den,e]
theorem At.empty {w0:World}{M:Nat→Prop}{E:Env}{n0 N:Nat}{D:List Deferred}{φ : Fr}{L:List HB}{K:Act→World→Prop}(ty k:Nat)(f:Nat→SV)(hf:∀(h:HM) (q:Nat),zb_ h (f q))
  (h:At w0 M E n0 N D φ (L++[.own ty (.arr 0 k f) false]) K):At w0 M E n0 N D φ L K:=fun a w hS=>by
 obtain⟨⟨β,hE,R,F⟩,hbn,hsz,hd⟩:=hS
 have hm:hp L L.length=.dead:=yp_ (Nat.le_refl _)
 have R1:=nothing R (e:=ty) (k:=k) (g:=f) hm (fun q=>hf _ q)
 have hag:∀i,(hp L i).born=true→β i=setE β L.length (none,0) i:=zw_ hm
 have hborn:∀i,(hp L i).born=true→(upd (hp L) L.length (.own ty (.arr 0 k f) false) i).born=true:=fun i hi=>by
  unfold Vm.upd;split
  ·rfl
  ·exact hi
 refine h a w ⟨⟨setE β L.length (none,0),fun i hi=>(hag i (hbn i hi)).symm.trans (hE i hi),by rw[hp_append1];exact R1,fun u v hu=>?_⟩,fun i hi=>by rw[hp_append1];exact hborn i (hbn i hi),hsz,hd⟩
 rw[hp_append1]
 obtain⟨k1,k2⟩:=F u v hu
 exact⟨k1.more hborn,by rw[k2];exact k1.den hag⟩
theorem WF.empty {P:Program}{w0:World}{M:Nat→Prop}{E:Env}{n0 N n:Nat}{D:List Deferred}{φ : Fr}{L:List HB}{c:Code}{ro:Option Nat}{Q:Exit→Act→World→Prop}(ty k:Nat)(f:Nat→SV)(hf:∀(h:HM) (q:Nat),zb_ h (f q))
  (h:WF ro n P c w0 M E n0 N D φ (L++[.own ty (.arr 0 k f) false]) Q):WF ro n P c w0 M E n0 N D φ L Q:=At.empty ty k f hf h
def nilOr (D:List Int)(b:Nat):SV:=SV.ite D.isEmpty (.sl 0 0 [] 0 0 0 (some 0)) (.sl b b [] 1 0 D.length none)
theorem nilOr_t {D:List Int}{b:Nat}(h:D.isEmpty=true):nilOr D b=.sl 0 0 [] 0 0 0 (some 0):=by unfold nilOr;rw[h];rfl
theorem nilOr_f {D:List Int}{b:Nat}(h:D.isEmpty=false):nilOr D b=.sl b b [] 1 0 D.length none:=by unfold nilOr;rw[h];rfl
theorem nilOr_st {D:List Int}{b:Nat}{hh:HM}(h0:(hh 0).born=true)(hb:(hh b).born=true):zb_ hh (nilOr D b):=by
 cases h:D.isEmpty
 ·rw[nilOr_f h];simp[zb_,hb]
 ·rw[nilOr_t h];simp[zb_,h0]
theorem less_nil {t b b':Nat}{ex:Bool}{σ : Nat→Nat}{D:List Int}(h:D.isEmpty=false)(hb:σ b=b'){n:Nat}(hn:D.length=n):Less (.own t (.sl b' b' [] 1 0 n none) ex) ((HB.own t (nilOr D b) ex).ren σ):=by
 rw[nilOr_f h,←hn]
 simp only[HB.ren,SV.ren,hb]
 exact .same _
theorem less_app {t:Nat}{σ : Nat→Nat}(D:List Int)(k:Int){g:Nat→SV}(hg:∀q,q < D.length+1→∀β,(g q).cl β = [.int .i64 ((D++[k]).getD q 0)]):Less (.own t (.arr (D.length+1) 1 g) false) ((HB.own t (.arr (D++[k]).length 1 (i64S (D++[k]))) false).ren σ):=by
 have e:(D++[k]).length=D.length+1:=by simp
 rw[e]
 refine .val (fun β=>arrCl fun q hq=>?_) (fun n1 k1 f1 e=>by injection e with e1 e2 e3;subst e1 e2;exact⟨_,rfl⟩) (fun n1 k1 f1 e=>by injection e with e1 e2 e3;subst e1 e2;exact⟨_,rfl⟩)
 rw[hg q hq β];rfl
end Go.Proofs.Ytmljmabbopkpiaa.Vm
end
