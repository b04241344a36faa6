import Derived.Test.YtmljmabbopkpiaaV1
import Derived.Test.YtmljmabbopkpiaaV8
import Derived.Test.YtmljmabbopkpiaaV10
import Derived.Test.YtmljmabbopkpiaaV11
import Derived.Test.YtmljmabbopkpiaaV12
import Derived.Test.YtmljmabbopkpiaaV13
set_option linter.unusedSimpArgs false
set_option linter.unusedVariables false
set_option maxRecDepth 100000
set_option maxHeartbeats 4000000
section
namespace Go.Proofs.Ytmljmabbopkpiaa.Vm
open Go.RowKit
def NilF (L:List HB)(φ : Fr):Fr→Prop
 | []=>True
 | p::l=>(∃u,look φ p.1=some u∧(∀β : Env,β 0=(none,0)→β L.length=(none,0)→u.den β = p.2.den β))∧NilF L φ l
theorem nilF_spec {L:List HB}{φ : Fr}:∀{φ2:Fr},NilF L φ φ2→∀p∈φ2,∃u,look φ p.1=some u∧(∀β : Env,β 0=(none,0)→β L.length=(none,0)→u.den β = p.2.den β)
 | [],_,p,hp=>by cases hp
 | q::l,h,p,hp=>by
  rcases List.mem_cons.1 hp with rfl|hp
  ·exact h.1
  ·exact nilF_spec h.2 p hp
theorem At.nilFr {w0:World}{M:Nat→Prop}{E:Env}{n0 N:Nat}{D:List Deferred}{φ φ2:Fr}{L L2:List HB}{K:Act→World→Prop}(ty k:Nat)(f:Nat→SV)(hf:∀(h:HM) (q:Nat),zb_ h (f q))
  (hL2:L2=L++[.own ty (.arr 0 k f) false]) (hφ : NilF L φ φ2) (hst:StableF (hp L2) φ2) (h:At w0 M E n0 N D φ2 L2 K):At w0 M E n0 N D φ L K:=fun a w hS=>by
 subst hL2
 obtain⟨⟨β,hE,R,F⟩,hbn,hsz,hd⟩:=hS
 have hm:hp L L.length=.dead:=yp_ (Nat.le_refl _)
 have R1:=nothing R (e:=ty) (k:=k) (g:=f) hm (fun q=>hf _ q)
 have hag:∀i,(hp L i).born=true→β i=setE β L.length (none,0) i:=zw_ hm
 have hborn:∀i,(hp L i).born=true→(upd (hp L) L.length (.own ty (.arr 0 k f) false) i).born=true:=fun i hi=>by
  unfold Vm.upd;split
  ·rfl
  ·exact hi
 refine h a w ⟨⟨setE β L.length (none,0),fun i hi=>(hag i (hbn i hi)).symm.trans (hE i hi),by rw[hp_append1];exact R1,fun u v hu=>?_⟩,fun i hi=>by rw[hp_append1];exact hborn i (hbn i hi),hsz,hd⟩
 have hmem:=look_mem hu
 obtain⟨x,hx,hden⟩:=nilF_spec hφ _ hmem
 obtain⟨k1,k2⟩:=F u x hx
 refine⟨stableF_spec hst _ hmem,?_⟩
 rw[k2,k1.den hag]
 exact hden _ R1.nil (zr_ _ _ _)
theorem WF.nilFr {P:Program}{w0:World}{M:Nat→Prop}{E:Env}{n0 N n:Nat}{D:List Deferred}{φ φ2:Fr}{L L2:List HB}{c:Code}{ro:Option Nat}{Q:Exit→Act→World→Prop}(ty k:Nat)(f:Nat→SV)(hf:∀(h:HM) (q:Nat),zb_ h (f q))
  (hL2:L2=L++[.own ty (.arr 0 k f) false]) (hφ : NilF L φ φ2) (hst:StableF (hp L2) φ2) (h:WF ro n P c w0 M E n0 N D φ2 L2 Q):WF ro n P c w0 M E n0 N D φ L Q:=At.nilFr ty k f hf hL2 hφ hst h
end Go.Proofs.Ytmljmabbopkpiaa.Vm
end
section
namespace Go.Proofs.Ytmljmabbopkpiaa.Vm
open Go.RowKit
attribute [local push_cast] eqB eqBL allB prS sndsS i64S nav_ins nav_ins0 nav_ins1 nav_ins2 nav_ins3 nav_ins4 nav_snd nav_snd0 nav_snd1 nav_snd2 yz_ zf_ yy_ yx_ isI_int isI_nat iOf
def sDist:Spec:=fun args h m=>match args with
 | [v1]=>match srcV h 5 (.tup []) v1 with
  | some (c1,n1,f1,r1)=>some (c1∧(∀q,q < n1→isIns (f1 q)=true)∧((∀x∈(ls zg_ n1 f1),x.ok))∧((z7_ (ls zg_ n1 f1)).2=0),.tup [.sl m m [] 1 0 (ls zg_ n1 f1).length none,.nat .i64 0],r1,[(m,.own 3 (.arr (ls zg_ n1 f1).length 1 (i64S (distS (ls zg_ n1 f1)))) false)])
  | _=>none
 | _=>none
theorem sDist_ok:zs_ Try.prog 91 sDist:=by
 refine⟨zp_ (by kernel_rfl),fun args h m c v rd wr hs hm hc w0 M β h' w R hrd hwr hst=>?_⟩
 unfold sDist at hs
 split at hs
 ·rename_i v1
  split at hs
  ·rename_i c1 n1 f1 r1 a1
   simp only[Option.some.injEq,Prod.mk.injEq]at hs
   obtain⟨rfl,rfl,rfl,rfl⟩:=hs
   obtain⟨k1,g1,y1,y2⟩:=hc
   obtain⟨A1,p1,d1,e1,t1⟩:=yn_ R a1 k1 (fun i hi=>hrd i hi) (by omega)
   refine callRo (views:=[⟨5,(ls zg_ n1 f1).length,prS (ls zg_ n1 f1),A1,p1⟩]) (dist_lit (ls zg_ n1 f1) p1 y1 y2) ?_ R hm hwr ?_ ?_ ?_
   ·exact d16_
   ·exact d17_
   ·exact k61_
   ·exact k61_
  ·cases hs
 ·cases hs
def rcD (D:List Int):Nat→SV:=fun q=>.bool (decide (0≤D.getD q 0))
theorem rcD_st (D:List Int)(h:HM)(q:Nat):zb_ h (rcD D q):=trivial
theorem nilR_cl {β : Env}{m:Nat}(h0:β 0=(none,0))(hm:β m=(none,0))(k:Nat):(SV.sl m m [] k 0 0 none).den β =(SV.sl 0 0 [] 0 0 0 (some 0)).den β:=by
 simp[SV.den,h0,hm]
theorem less_rc {t j:Nat}{σ : Nat→Nat}{z:SV}(D:List Int):Less (.own t (.arr (j+1) 1 fun q=>SV.ite (decide (q < j)) (.bool (decide (0≤D.getD q 0))) ([SV.bool (decide (0≤D.getD j 0))].getD (q - j) z)) false) ((HB.own t (.arr (j+1) 1 (rcD D)) false).ren σ):=by
 refine .val (fun β=>arrCl fun q hq=>?_) (fun n1 k1 f1 e=>by injection e with e1 e2 e3;subst e1 e2;exact⟨_,rfl⟩) (fun n1 k1 f1 e=>by injection e with e1 e2 e3;subst e1 e2;exact⟨_,rfl⟩)
 show _=[Value.bool (decide (0≤D.getD q 0))]
 rw[ite_eq]
 by_cases h:q < j
 ·rw[decide_eq_true h];rfl
 ·have e:q=j:=by omega
  subst e
  rw[decide_eq_false h,Nat.sub_self];rfl
def cRe:FuncId→Option Spec:=look2 [(91,sDist)]
theorem cRe_ok:∀f S,cRe f=some S→zs_ Try.prog f S:=yi_ ⟨sDist_ok,trivial⟩
theorem reach_lit (xs:List Ins)(p1:Nat)(hx:∀x∈xs,x.ok)(hc:(z7_ xs).2=0):LitOk Try.prog 48 [.sl 1 2 [] 5 0 xs.length (some p1)] [.gone,.gone,.ro (.arr xs.length 5 (prS xs))]
  (.tup [.sl 3 3 [] 1 0 xs.length none,.nat .i64 0]) [.gone,.gone,.gone,.own 4 (.arr xs.length 1 (rcD (distS xs))) false]:=by
 have hl6:=(ys_ hc).2.1
 refine litOkM (fn:=Try.f48) 3 30 0 rfl rfl rfl rfl rfl (by simp only[zd_,zb_,hp,i64S,prS,insS,sndsS,sndS,rcD];simp[HB.born]) rfl fun w0 M E hro=>?_
 obtain⟨D,hD⟩:∃D,distS xs=D:=⟨_,rfl⟩
 rw[hD]
 repeat' (first|refine Ctl.h ?_ |((with_reducible intro hif);first |(focus (cases hif;done)) |((try simp only[JH]at hif);try exact hy_)) |((with_reducible first|apply J22 cRe_ok za_|apply J23 fol cRe_ok za_|apply J24);(·rfl);(· (simp only[push_cast,↓JP,Nat.reduceAdd,Nat.reduceEqDiff,Nat.reduceLT,Nat.reduceMul,Nat.reduceLeDiff,reduceCtorEq,reduceIte,↓JK,cRe,sDist,z9_,zy_,lsPd,hD,inR,inN];rfl));(try kernel_rfl);(try (focus (first|exact True.intro |((repeat' (first|exact True.intro|assumption|exact fun q _=>rfl|apply And.intro|omega|intro _));done) |((try simp only[JS,implies_true,forall_const,z5_,yf_,kndOf,inR,inN]);(repeat' (first|assumption|exact True.intro|omega|apply And.intro));done)))))|fail)
 refine WF.nilFr (φ2:=[(6,.sl 4 4 [] 1 0 0 none),(17,.sl 3 3 [] 1 0 xs.length none),(18,.nat .i64 xs.length),(19,.nat .i64 0)]) 4 1 (rcD D) (fun h q=>rcD_st D h q) rfl ?_ ?_ ?_
 ·refine⟨⟨_,rfl,fun β h0 hx=>(nilR_cl h0 (show β 4=(none,0) from hx) 1).symm⟩,⟨_,rfl,fun β _ _=>rfl⟩,⟨_,rfl,fun β _ _=>rfl⟩,⟨_,rfl,fun β _ _=>rfl⟩,trivial⟩
 ·simp[StableF,zb_,hp,HB.born]
 simp only[List.cons_append,List.nil_append]
 refine WF.loopAt (fun (j:Nat)=>j≤xs.length) (fun (j:Nat)=>[(6,.sl 4 4 [] 1 0 j none),(17,.sl 3 3 [] 1 0 xs.length none),(18,.nat .i64 xs.length),(19,.nat .i64 j)]) (fun (j:Nat)=>[.gone,.gone,.ro (.arr xs.length 5 (prS xs)),.own 3 (.arr xs.length 1 (i64S D)) false,.own 4 (.arr j 1 (rcD D)) false]) (fun (j:Nat)=>xs.length - j) 0 (Nat.zero_le _) ?_ ?_ rfl ?_ ?_ rfl ?_
 ·exact k13_
 ·exact k5_
 ·exact k61_
 ·exact k61_
 intro j hj
 by_cases hjl:j < xs.length
 ·repeat' (first|refine Ctl.h ?_ |((with_reducible intro hif);first |(focus (cases hif;done)) |((try simp only[JH]at hif);try exact hy_)) |((with_reducible first|apply J22 cRe_ok za_|apply J23 fol cRe_ok za_|apply J24);(·rfl);(· (simp only[push_cast,↓JP,Nat.reduceAdd,Nat.reduceEqDiff,Nat.reduceLT,Nat.reduceMul,Nat.reduceLeDiff,reduceCtorEq,reduceIte,↓JK,hjl,rcD,inR,inN,Nat.zero_add,List.all_cons,List.all_nil];rfl));(try kernel_rfl);(try (focus (first|exact True.intro |((try simp only[JS,implies_true,forall_const,z5_,yf_,kndOf,inR,inN]);(repeat' (first|assumption|exact True.intro|omega|apply And.intro));done)))))|fail)
  refine At.nextPick [0,1,2,3,6] (j+1) ?_ rfl rfl rfl ?_ rfl ?_ ?_ ?_ rfl
  ·omega
  ·(repeat' (first|exact trivial|exact .inl rfl|exact .inr (.same _)|exact .inr .loose|exact .inr (.arr (by assumption))|apply And.intro |(exact .inr (less_rc D))))
  ·exact k61_
  ·exact k28_
  ·exact k61_
 ·obtain rfl:j=xs.length:=by omega
  repeat' (first|refine Ctl.h ?_ |((with_reducible intro hif);first |(focus (cases hif;done)) |((try simp only[JH]at hif);try exact hy_)) |((with_reducible first|apply J22 cRe_ok za_|apply J23 fol cRe_ok za_|apply J24);(·rfl);(· (simp only[push_cast,↓JP,Nat.reduceAdd,Nat.reduceEqDiff,Nat.reduceLT,Nat.reduceMul,Nat.reduceLeDiff,reduceCtorEq,reduceIte,↓JK,hjl];rfl));(try kernel_rfl);try exact k11_)|fail)
  apply At.endsPick [0,1,2,4] za_ (fn:=Try.f48) (rs:=[.tmp 2,.tmp 3]) Anc.refl hro (lb_ rfl) rfl
  ·exact k17_
  ·exact k18_
  ·rfl
  ·rfl
  ·rfl
  ·(repeat' (first|exact trivial|exact .inl rfl|exact .inr (.same _)|exact .inr .loose|exact .inr (.arr (by assumption))|apply And.intro |(exact .inr (.same _))))
  ·rfl
  ·exact k61_
  ·exact k7_
  ·exact fun β=>rfl
  ·exact k61_
def sReach:Spec:=fun args h m=>match args with
 | [v1]=>match srcV h 5 (.tup []) v1 with
  | some (c1,n1,f1,r1)=>some (c1∧(∀q,q < n1→isIns (f1 q)=true)∧((∀x∈(ls zg_ n1 f1),x.ok))∧((z7_ (ls zg_ n1 f1)).2=0),.tup [.sl m m [] 1 0 (ls zg_ n1 f1).length none,.nat .i64 0],r1,[(m,.own 4 (.arr (ls zg_ n1 f1).length 1 (rcD (distS (ls zg_ n1 f1)))) false)])
  | _=>none
 | _=>none
theorem sReach_ok:zs_ Try.prog 48 sReach:=by
 refine⟨zp_ (by kernel_rfl),fun args h m c v rd wr hs hm hc w0 M β h' w R hrd hwr hst=>?_⟩
 unfold sReach at hs
 split at hs
 ·rename_i v1
  split at hs
  ·rename_i c1 n1 f1 r1 a1
   simp only[Option.some.injEq,Prod.mk.injEq]at hs
   obtain⟨rfl,rfl,rfl,rfl⟩:=hs
   obtain⟨k1,g1,y1,y2⟩:=hc
   obtain⟨A1,p1,d1,e1,t1⟩:=yn_ R a1 k1 (fun i hi=>hrd i hi) (by omega)
   refine callRo (views:=[⟨5,(ls zg_ n1 f1).length,prS (ls zg_ n1 f1),A1,p1⟩]) (reach_lit (ls zg_ n1 f1) p1 y1 y2) ?_ R hm hwr ?_ ?_ ?_
   ·exact d16_
   ·exact d17_
   ·exact k61_
   ·exact k61_
  ·cases hs
 ·cases hs
end Go.Proofs.Ytmljmabbopkpiaa.Vm
end
section
namespace Go.Proofs.Ytmljmabbopkpiaa.Vm
open Go.RowKit
def kS (k:Kn):SV:=.agg [.bool k.is_,.int .i64 k.n]
def kaS (r:Nat→Kn):SV:=.arr 8 2 fun q=>kS (r q)
def ftS (f:Ft):SV:=.agg [.bool f.reached,kaS f.regs]
def ftsS (F:List Ft):Nat→SV:=fun q=>ftS (z6_ F q)
theorem kS_size (k:Kn):(kS k).size=2:=rfl
theorem kS_agg (k:Kn):(kS k).isAgg=true:=rfl
theorem kS_plain (k:Kn):(kS k).plain=true:=rfl
theorem kaS_size (k:Nat→Kn):(kaS k).size=16:=rfl
theorem kaS_agg (k:Nat→Kn):(kaS k).isAgg=true:=rfl
theorem kaS_plain (k:Nat→Kn):(kaS k).plain=true:=rfl
theorem ftS_size (k:Ft):(ftS k).size=17:=rfl
theorem ftS_agg (k:Ft):(ftS k).isAgg=true:=rfl
theorem ftS_plain (k:Ft):(ftS k).plain=true:=rfl
theorem nav_k (k:Kn):nav (kS k) []=some (True,kS k):=rfl
theorem nav_k0 (k:Kn)(pa:List Stp):nav (kS k) (.f 0 0::pa)=nav (.bool k.is_) pa:=rfl
theorem nav_k1 (k:Kn)(pa:List Stp):nav (kS k) (.f 1 1::pa)=nav (.int .i64 k.n) pa:=rfl
theorem nav_ka (r:Nat→Kn):nav (kaS r) []=some (True,kaS r):=rfl
theorem nav_kai (r:Nat→Kn)(m:Nat)(pa:List Stp):nav (kaS r) (.i m 2::pa)=(match nav (kS (r m)) pa with|some (c,u)=>some (m < 8∧c,u)|none=>none):=rfl
theorem nav_ft (f:Ft):nav (ftS f) []=some (True,ftS f):=rfl
theorem nav_ft0 (f:Ft)(pa:List Stp):nav (ftS f) (.f 0 0::pa)=nav (.bool f.reached) pa:=rfl
theorem nav_ft1 (f:Ft)(pa:List Stp):nav (ftS f) (.f 1 1::pa)=nav (kaS f.regs) pa:=rfl
theorem ftS_stable {h:HM}(f:Ft):zb_ h (ftS f):=by simp[ftS,kaS,kS,zb_,zd_]
theorem ite_kS (r:Nat→Kn)(m:Nat)(y:Kn):(fun j=>SV.ite (decide (j=m)) (kS y) (kS (r j)))=fun j=>kS (setK r m y j):=by
 funext j
 unfold setK
 rw[ite_eq]
 by_cases h:j=m
 ·simp[h]
 ·simp[h]
theorem setp_ka (r:Nat→Kn)(m o:Nat)(y:Kn):setp (kaS r) [.i m o] (kS y)=some (kaS (setK r m y)):=by
 show some (SV.arr 8 2 fun j=>SV.ite (decide (j=m)) (kS y) (kS (r j)))=_
 rw[ite_kS];rfl
theorem setp_ftk (f:Ft)(m o o':Nat)(y:Kn):setp (ftS f) [.f 1 o',.i m o] (kS y)=some (ftS ⟨f.reached,setK f.regs m y⟩):=by
 show some (SV.agg [.bool f.reached,SV.arr 8 2 fun j=>SV.ite (decide (j=m)) (kS y) (kS (f.regs j))])=_
 rw[ite_kS];rfl
theorem setp_ftr (f:Ft)(o:Nat)(b:Bool):setp (ftS f) [.f 0 o] (.bool b)=some (ftS ⟨b,f.regs⟩):=rfl
theorem setp_fti (f:Ft)(m o o' o2:Nat)(b:Bool):setp (ftS f) [.f 1 o',.i m o,.f 0 o2] (.bool b)=some (ftS ⟨f.reached,setK f.regs m ⟨b,(f.regs m).n⟩⟩):=by
 show some (SV.agg [.bool f.reached,SV.arr 8 2 fun j=>SV.ite (decide (j=m)) (kS ⟨b,(f.regs m).n⟩) (kS (f.regs j))])=_
 rw[ite_kS];rfl
theorem ftsS_set {F:List Ft}{t:Nat}{g:Ft}(ht:t < F.length)(q:Nat):SV.ite (decide (q=t)) (ftS g) (ftsS F q)=ftsS (F.set t g) q:=by
 unfold ftsS z6_
 rw[ite_eq]
 by_cases h:q=t
 ·subst h
  simp[List.getElem?_set_self ht]
 ·simp[h,List.getElem?_set_ne (fun e=>h e.symm)]
theorem kn_eq (x y:Kn):eqB (.struct [.bool,.int .i64]) (kS x) (kS y)=(x == y):=by
 show ((x.is_ == y.is_) && (decide (x.n=y.n) && true))=_
 rw[Bool.and_true,show decide (x.n=y.n)=(x.n == y.n) from rfl,kn_beq]
 rfl
theorem ft_eq (a b:Ft):eqB (.struct [.bool,.arr 8 2 (.struct [.bool,.int .i64])]) (ftS a) (ftS b)=ftB a b:=by
 have e:eqB (.struct [.bool,.arr 8 2 (.struct [.bool,.int .i64])]) (ftS a) (ftS b)=((a.reached == b.reached) && (allB 8 (fun q=>eqB (.struct [.bool,.int .i64]) (kS (a.regs q)) (kS (b.regs q))) && true)):=rfl
 rw[e]
 simp only[kn_eq,allB,Bool.true_and,Bool.and_true,ftB,Bool.and_assoc]
theorem zz_ (a:Ft):z5_ (.struct [.bool,.arr 8 2 (.struct [.bool,.int .i64])]) (ftS a)=True:=by
 simp[z5_,yf_,ftS,kaS,kS,kndOf]
theorem kn_shaped (a:Kn):z5_ (.struct [.bool,.int .i64]) (kS a)=True:=by
 simp[z5_,yf_,kS,kndOf]
theorem evm_ins (i:Ins)(a:Bool→SV→Option (Prop×SV))(b:SV→Option (Prop×SV))(c:Unit→Option (Prop×SV)):ev.match_1 (fun _=>Option (Prop×SV)) (some (insS i)) a b c=b (insS i):=rfl
theorem evm_snd (i:Snd)(a:Bool→SV→Option (Prop×SV))(b:SV→Option (Prop×SV))(c:Unit→Option (Prop×SV)):ev.match_1 (fun _=>Option (Prop×SV)) (some (sndS i)) a b c=b (sndS i):=rfl
theorem evm_k (i:Kn)(a:Bool→SV→Option (Prop×SV))(b:SV→Option (Prop×SV))(c:Unit→Option (Prop×SV)):ev.match_1 (fun _=>Option (Prop×SV)) (some (kS i)) a b c=b (kS i):=rfl
theorem evm_ka (i:Nat→Kn)(a:Bool→SV→Option (Prop×SV))(b:SV→Option (Prop×SV))(c:Unit→Option (Prop×SV)):ev.match_1 (fun _=>Option (Prop×SV)) (some (kaS i)) a b c=b (kaS i):=rfl
theorem evm_ft (i:Ft)(a:Bool→SV→Option (Prop×SV))(b:SV→Option (Prop×SV))(c:Unit→Option (Prop×SV)):ev.match_1 (fun _=>Option (Prop×SV)) (some (ftS i)) a b c=b (ftS i):=rfl
def knOf:SV→Kn
 | .agg [.bool b,x]=>⟨b,iOf x⟩
 | _=>K0
def isKn:SV→Bool
 | .agg [.bool b,x]=>isI .i64 x
 | _=>false
def kaOf:SV→Nat→Kn
 | .arr _ _ f=>fun q=>knOf (f q)
 | _=>fun _=>K0
def isKa:SV→Bool
 | .arr n k f=>Nat.beq n 8 && (Nat.beq k 2 && (isKn (f 0) && (isKn (f 1) && (isKn (f 2) && (isKn (f 3) && (isKn (f 4) && (isKn (f 5) && (isKn (f 6) && isKn (f 7)))))))))
 | _=>false
def ftOf:SV→Ft
 | .agg [.bool b,x]=>⟨b,kaOf x⟩
 | _=>F0
def isFt:SV→Bool
 | .agg [.bool b,x]=>isKa x
 | _=>false
theorem isKn_kS (k:Kn):isKn (kS k)=true:=rfl
theorem knOf_kS (k:Kn):knOf (kS k)=k:=rfl
theorem isKa_kaS (r:Nat→Kn):isKa (kaS r)=true:=rfl
theorem kaOf_kaS (r:Nat→Kn):kaOf (kaS r)=r:=rfl
theorem isFt_ftS (f:Ft):isFt (ftS f)=true:=rfl
theorem ftOf_ftS (f:Ft):ftOf (ftS f)=f:=rfl
theorem knOf_cl {β : Env}{v:SV}(h:isKn v=true):v.cl β = [.bool (knOf v).is_,.int .i64 (knOf v).n]:=by
 unfold isKn at h
 split at h
 ·rename_i b x
  have e:=yh_ (β:=β) h
  rw[cl_agg]
  have hx:x.cl β = [.int .i64 (iOf x)]:=by
   have h2:x.cl β =(x.den β).cells.toList.map sane:=rfl
   rw[h2,e];rfl
  rw[yb_,yb_,hx,clL_nil];rfl
 ·cases h
def kcsL (r:Nat→Kn):List Value:=[.bool (r 0).is_,.int .i64 (r 0).n,.bool (r 1).is_,.int .i64 (r 1).n,.bool (r 2).is_,.int .i64 (r 2).n,.bool (r 3).is_,.int .i64 (r 3).n,.bool (r 4).is_,.int .i64 (r 4).n,.bool (r 5).is_,.int .i64 (r 5).n,.bool (r 6).is_,.int .i64 (r 6).n,.bool (r 7).is_,.int .i64 (r 7).n]
theorem kaOf_cl {β : Env}{v:SV}(h:isKa v=true):v.cl β = kcsL (kaOf v):=by
 unfold isKa at h
 split at h
 ·rename_i n k f
  simp only[Bool.and_eq_true]at h
  obtain⟨h1,h2,g0,g1,g2,g3,g4,g5,g6,g7⟩:=h
  have h1:=Nat.eq_of_beq_eq_true h1
  have h2:=Nat.eq_of_beq_eq_true h2
  subst h1 h2
  rw[cl_arr]
  have e:List.range 8=[0,1,2,3,4,5,6,7]:=rfl
  rw[e]
  simp only[List.flatMap_cons,List.flatMap_nil,knOf_cl g0,knOf_cl g1,knOf_cl g2,knOf_cl g3,knOf_cl g4,knOf_cl g5,knOf_cl g6,knOf_cl g7]
  rfl
 ·cases h
theorem isKa_agg {v:SV}(h:isKa v=true):v.isAgg=true:=by
 unfold isKa at h
 split at h
 ·rfl
 ·cases h
def kaDen (r:Nat→Kn):Value:=.agg (kcsL r).toArray
def ftDen (f:Ft):Value:=.agg (.bool f.reached::kcsL f.regs).toArray
theorem kaOf_den {β : Env}{v:SV}(h:isKa v=true):v.den β = kaDen (kaOf v):=by
 rw[den_agg (isKa_agg h),kaOf_cl h];rfl
theorem ftOf_den {β : Env}{v:SV}(h:isFt v=true):v.den β = ftDen (ftOf v):=by
 unfold isFt at h
 split at h
 ·rename_i b x
  rw[den_agg (v:=.agg [.bool b,x]) rfl,cl_agg,yb_,yb_,clL_nil,kaOf_cl h,List.append_nil]
  rfl
 ·cases h
theorem kaS_den {β : Env}(r:Nat→Kn):(kaS r).den β = kaDen r:=kaOf_den (isKa_kaS r)
theorem ftS_den {β : Env}(f:Ft):(ftS f).den β = ftDen f:=ftOf_den (isFt_ftS f)
theorem less_ft {t:Nat}{ex c:Bool}{F:Nat→SV}{r:Nat→Kn}(h:∀q,q < 8→∀β,(F q).cl β =(kS (r q)).cl β):Less (.own t (.agg [.bool c,.arr 8 2 F]) ex) (.own t (ftS ⟨c,r⟩) ex):=by
 refine .val (fun β=>?_) (fun n k f e=>by cases e) (fun n k f e=>by cases e)
 show (SV.agg [.bool c,.arr 8 2 F]).cl β =(SV.agg [.bool c,kaS r]).cl β
 rw[cl_agg,cl_agg,yb_,yb_,clL_nil,yb_,yb_,clL_nil]
 unfold kaS
 rw[cl_arr,cl_arr,List.flatMap_def,List.flatMap_def]
 congr 3
 exact List.map_congr_left fun q hq=>by rw[h q (List.mem_range.1 hq) β]
theorem kn_eqZ (x:Kn)(l:List SV):eqB (.struct [.bool,.int .i64]) (kS x) (.agg l)=eqBL [.bool,.int .i64] [.bool x.is_,.int .i64 x.n] l:=rfl
theorem setp_ftz (f:Ft)(m o o':Nat)(l:List SV):setp (ftS f) [.f 1 o',.i m o] (.agg l)=some (.agg [.bool f.reached,.arr 8 2 fun j=>SV.ite (decide (j=m)) (.agg l) (kS (f.regs j))]):=rfl
set_option linter.defProp false
def JF:=And.intro @kS_size (And.intro @kS_agg (And.intro @kS_plain (And.intro @kaS_size (And.intro @kaS_agg (And.intro @kaS_plain (And.intro @ftS_size (And.intro @ftS_agg (And.intro @ftS_plain (And.intro @ft_eq (And.intro @zz_ (And.intro @kn_eq @kn_shaped)))))))))))
def sApply:Spec:=fun args h m=>match args with
 | [v1,v2,v3]=>bif isI .u8 v1 && isI .i64 v2 && isI .i64 v3 then some (True,.tup [.int .i64 (applyV (iOf v1) (iOf v2) (iOf v3)),.int .i64 (wrongE (iOf v1) (iOf v3))],[],[])else none
 | _=>none
theorem sApply_ok:zs_ Try.prog 29 sApply:=by
 refine⟨zp_ (by kernel_rfl),fun args h m c v rd wr hs hm hc w0 M β h' w R hrd hwr hst=>?_⟩
 unfold sApply at hs
 split at hs
 ·rename_i v1 v2 v3
  obtain⟨hb,hs⟩:=zq_ hs
  simp only[Option.some.injEq,Prod.mk.injEq]at hs
  obtain⟨rfl,rfl,rfl,rfl⟩:=hs
  simp only[Bool.and_eq_true]at hb
  obtain⟨⟨b1,b2⟩,b3⟩:=hb
  simp only[denL,aggDen,intDen,natDen,yr_,yh_ b1,yh_ b2,yh_ b3]
  exact(apply_c (iOf v1) (iOf v2) (iOf v3) w).mono fun e w' he=>post_read R u1_ rfl he.1 he.2
 ·cases hs
end Go.Proofs.Ytmljmabbopkpiaa.Vm
end
section
namespace Go.Proofs.Ytmljmabbopkpiaa.Vm
open Go.RowKit
attribute [local push_cast] eqB eqBL allB prS sndsS i64S nav_ins nav_ins0 nav_ins1 nav_ins2 nav_ins3 nav_ins4 nav_snd nav_snd0 nav_snd1 nav_snd2 yz_ zf_ yy_ yx_ isI_int isI_nat iOf nav_k nav_k0 nav_k1 nav_ka nav_kai nav_ft nav_ft0 nav_ft1 isKn_kS knOf_kS isKa_kaS kaOf_kaS isFt_ftS ftOf_ftS setp_ka setp_ftk setp_ftr setp_fti evm_ins evm_snd evm_k evm_ka evm_ft
def noCk:FuncId→Option Spec:=look2 []
theorem yc_:∀f S,noCk f=some S→zs_ Try.prog f S:=fun f S h=>by cases h
theorem cdiv_lit (i:Ins):LitOk Try.prog 103 [insS i] [.gone] (.bool (divB i.op)) [.gone]:=by
 refine litOkM (fn:=Try.f103) 1 16 0 rfl rfl rfl rfl rfl (by simp only[zd_,zb_,hp];simp[HB.born,insS,zb_,zd_]) rfl fun w0 M E hro=>?_
 by_cases h1:i.op=36
 ·have e:divB i.op=true:=by simp[divB,h1]
  rw[e]
  repeat' (first|refine Ctl.h ?_ |((with_reducible intro hif);first |(focus (cases hif;done)) |((try simp only[JH]at hif);try exact hy_)) |((with_reducible first|apply J22 yc_ za_|apply J23 fol yc_ za_|apply J24);(·rfl);(· (simp only[push_cast,↓JP,Nat.reduceAdd,Nat.reduceEqDiff,Nat.reduceLT,Nat.reduceMul,Nat.reduceLeDiff,reduceCtorEq,reduceIte,↓JK,↓JF,h1];rfl));(try kernel_rfl);try exact k11_)|fail)
  apply At.endsRet za_ (fn:=Try.f103) (rs:=[.tmp 2]) Anc.refl hro (lb_ rfl) rfl
  ·exact k62_
  ·exact k4_
  ·exact k5_
  ·rfl
  ·exact zl_
  ·exact k7_
  ·exact fun β=>rfl
  ·exact zl_
 ·by_cases h2:i.op=37
  ·have e:divB i.op=true:=by simp[divB,h2]
   rw[e]
   repeat' (first|refine Ctl.h ?_ |((with_reducible intro hif);first |(focus (cases hif;done)) |((try simp only[JH]at hif);try exact hy_)) |((with_reducible first|apply J22 yc_ za_|apply J23 fol yc_ za_|apply J24);(·rfl);(· (simp only[push_cast,↓JP,Nat.reduceAdd,Nat.reduceEqDiff,Nat.reduceLT,Nat.reduceMul,Nat.reduceLeDiff,reduceCtorEq,reduceIte,↓JK,↓JF,h2];rfl));(try kernel_rfl);try exact k11_)|fail)
   apply At.endsRet za_ (fn:=Try.f103) (rs:=[.tmp 2]) Anc.refl hro (lb_ rfl) rfl
   ·exact k62_
   ·exact k4_
   ·exact k5_
   ·rfl
   ·exact zl_
   ·exact k7_
   ·exact fun β=>rfl
   ·exact zl_
  ·by_cases h3:i.op=38
   ·have e:divB i.op=true:=by simp[divB,h3]
    rw[e]
    repeat' (first|refine Ctl.h ?_ |((with_reducible intro hif);first |(focus (cases hif;done)) |((try simp only[JH]at hif);try exact hy_)) |((with_reducible first|apply J22 yc_ za_|apply J23 fol yc_ za_|apply J24);(·rfl);(· (simp only[push_cast,↓JP,Nat.reduceAdd,Nat.reduceEqDiff,Nat.reduceLT,Nat.reduceMul,Nat.reduceLeDiff,reduceCtorEq,reduceIte,↓JK,↓JF,h3];rfl));(try kernel_rfl);try exact k11_)|fail)
    apply At.endsRet za_ (fn:=Try.f103) (rs:=[.tmp 2]) Anc.refl hro (lb_ rfl) rfl
    ·exact k62_
    ·exact k4_
    ·exact k5_
    ·rfl
    ·exact zl_
    ·exact k7_
    ·exact fun β=>rfl
    ·exact zl_
   ·have e:divB i.op=false:=by simp[divB,h1,h2,h3]
    rw[e]
    repeat' (first|refine Ctl.h ?_ |((with_reducible intro hif);first |(focus (cases hif;done)) |((try simp only[JH]at hif);try exact hy_)) |((with_reducible first|apply J22 yc_ za_|apply J23 fol yc_ za_|apply J24);(·rfl);(· (simp only[push_cast,↓JP,Nat.reduceAdd,Nat.reduceEqDiff,Nat.reduceLT,Nat.reduceMul,Nat.reduceLeDiff,reduceCtorEq,reduceIte,↓JK,↓JF,h1,h2,h3];rfl));(try kernel_rfl);try exact k11_)|fail)
    apply At.endsRet za_ (fn:=Try.f103) (rs:=[.tmp 2]) Anc.refl hro (lb_ rfl) rfl
    ·exact k62_
    ·exact k4_
    ·exact k5_
    ·rfl
    ·exact zl_
    ·exact k7_
    ·exact fun β=>rfl
    ·exact zl_
def sDiv:Spec:=fun args h m=>match args with
 | [v1]=>bif isIns v1 then some (True,.bool (divB (zg_ v1).op),[],[])else none
 | _=>none
theorem sDiv_ok:zs_ Try.prog 103 sDiv:=by
 refine⟨zp_ (by kernel_rfl),fun args h m c v rd wr hs hm hc w0 M β h' w R hrd hwr hst=>?_⟩
 unfold sDiv at hs
 split at hs
 ·rename_i v1
  obtain⟨hb,hs⟩:=zq_ hs
  simp only[Option.some.injEq,Prod.mk.injEq]at hs
  obtain⟨rfl,rfl,rfl,rfl⟩:=hs
  have b1:=hb
  refine callRo (views:=[]) (cdiv_lit (zg_ v1)) ?_ R hm hwr ?_ ?_ ?_
  ·intro x hx;cases hx
  ·intro β1 hv
   simp only[denL,aggDen,intDen,natDen,yr_,zi_,den_insOf b1,den_insS]
  ·exact zl_
  ·exact zl_
 ·cases hs
def cRes:FuncId→Option Spec:=look2 [(103,sDiv),(29,sApply)]
theorem yq_:∀f S,cRes f=some S→zs_ Try.prog f S:=yi_ ⟨sDiv_ok,sApply_ok,trivial⟩
theorem result_lit (i:Ins)(r:Nat→Kn)(hi:i.ok)(hb:i.b < 8)(hc:i.c < 8):LitOk Try.prog 126 [insS i,kaS r] [.gone] (.tup [kS (resK i r).1,.bool (resK i r).2]) [.gone]:=by
 refine litOkM (fn:=Try.f126) 1 71 0 rfl rfl rfl rfl rfl (by simp only[zd_,zb_,hp];simp[HB.born,insS,kaS,kS,zb_,zd_]) rfl fun w0 M E hro=>?_
 obtain⟨o0,o1,a0,a1,b0,b1,c0,c1,n0,n1⟩:=hi
 have hbn:i.b.toNat < 8:=by omega
 have hcn:i.c.toNat < 8:=by omega
 by_cases h3:i.op=3
 ·have e:resK i r=(⟨true,i.n⟩,true):=by unfold resK;rw[if_pos h3]
  rw[e]
  repeat' (first|refine Ctl.h ?_ |((with_reducible intro hif);first |(focus (cases hif;done)) |((try simp only[JH]at hif);try exact hy_)) |((with_reducible first|apply J22 yq_ za_|apply J23 fol yq_ za_|apply J24);(·rfl);(· (simp only[push_cast,↓JP,Nat.reduceAdd,Nat.reduceEqDiff,Nat.reduceLT,Nat.reduceMul,Nat.reduceLeDiff,reduceCtorEq,reduceIte,↓JK,↓JF,cRes,h3,inN,inR];rfl));(try kernel_rfl);try exact k16_)|fail)
  apply At.endsRet za_ (fn:=Try.f126) (rs:=[.cell 4 41,.tmp 5]) Anc.refl hro (lb_ rfl) rfl
  ·exact k62_
  ·exact k4_
  ·exact k5_
  ·rfl
  ·exact zl_
  ·exact k7_
  ·exact fun β=>rfl
  ·exact zl_
 by_cases h4:i.op=4
 ·have e:resK i r=(r i.b.toNat,true):=by unfold resK;rw[if_neg h3,if_pos h4]
  rw[e]
  repeat' (first|refine Ctl.h ?_ |((with_reducible intro hif);first |(focus (cases hif;done)) |((try simp only[JH]at hif);try exact hy_)) |((with_reducible first|apply J22 yq_ za_|apply J23 fol yq_ za_|apply J24);(·rfl);(· (simp only[push_cast,↓JP,Nat.reduceAdd,Nat.reduceEqDiff,Nat.reduceLT,Nat.reduceMul,Nat.reduceLeDiff,reduceCtorEq,reduceIte,↓JK,↓JF,cRes,h3,h4,inN,inR];rfl));(try kernel_rfl);try exact k16_)|fail)
  apply At.endsRet za_ (fn:=Try.f126) (rs:=[.cell 4 41,.tmp 5]) Anc.refl hro (lb_ rfl) rfl
  ·exact k62_
  ·exact k4_
  ·exact k5_
  ·rfl
  ·exact zl_
  ·exact k7_
  ·exact fun β=>rfl
  ·exact zl_
 by_cases h32:i.op≤32
 ·have e:resK i r=(K0,true):=by unfold resK;rw[if_neg h3,if_neg h4,if_pos h32]
  rw[e]
  repeat' (first|refine Ctl.h ?_ |((with_reducible intro hif);first |(focus (cases hif;done)) |((try simp only[JH]at hif);try exact hy_)) |((with_reducible first|apply J22 yq_ za_|apply J23 fol yq_ za_|apply J24);(·rfl);(· (simp only[push_cast,↓JP,Nat.reduceAdd,Nat.reduceEqDiff,Nat.reduceLT,Nat.reduceMul,Nat.reduceLeDiff,reduceCtorEq,reduceIte,↓JK,↓JF,cRes,h3,h4,h32,inN,inR];rfl));(try kernel_rfl);try exact k16_)|fail)
  apply At.endsRet za_ (fn:=Try.f126) (rs:=[.cell 4 41,.tmp 5]) Anc.refl hro (lb_ rfl) rfl
  ·exact k62_
  ·exact k4_
  ·exact k5_
  ·rfl
  ·exact zl_
  ·exact k7_
  ·exact fun β=>rfl
  ·exact zl_
 by_cases hd:divB i.op=true∧r i.c.toNat=⟨true,0⟩
 ·have e:resK i r=(K0,false):=by unfold resK;rw[if_neg h3,if_neg h4,if_neg h32,if_pos hd]
  rw[e]
  repeat' (first|refine Ctl.h ?_ |((with_reducible intro hif);first |(focus (cases hif;done)) |((try simp only[JH]at hif);try exact hy_)) |((with_reducible first|apply J22 yq_ za_|apply J23 fol yq_ za_|apply J24);(·rfl);(· (simp only[push_cast,↓JP,Nat.reduceAdd,Nat.reduceEqDiff,Nat.reduceLT,Nat.reduceMul,Nat.reduceLeDiff,reduceCtorEq,reduceIte,↓JK,↓JF,cRes,sDiv,h3,h4,h32,hd.1,hd.2,↓kn_eqZ,inN,inR];rfl));(try kernel_rfl);try exact k16_)|fail)
  apply At.endsRet za_ (fn:=Try.f126) (rs:=[.cell 4 41,.tmp 5]) Anc.refl hro (lb_ rfl) rfl
  ·exact k62_
  ·exact k4_
  ·exact k5_
  ·rfl
  ·exact zl_
  ·exact k7_
  ·exact fun β=>rfl
  ·exact zl_
 have hdz:divB i.op=true→(r i.c.toNat).is_=true→(r i.c.toNat).n≠0:=fun h1 h2 h3=>hd ⟨h1,by rw[←h2,←h3]⟩
 have q1:resK i r=if (r i.b.toNat).is_=false∨(r i.c.toNat).is_=false then(K0,true)else(⟨wrongE (i.op - 32) (r i.c.toNat).n == 0,applyV (i.op - 32) (r i.b.toNat).n (r i.c.toNat).n⟩,wrongE (i.op - 32) (r i.c.toNat).n == 0):=by
  unfold resK;rw[if_neg h3,if_neg h4,if_neg h32,if_neg hd]
 cases hdv:divB i.op<;>cases hb1:(r i.b.toNat).is_<;>cases hc1:(r i.c.toNat).is_
 ·-- false false false
  have e:resK i r=(K0,true):=by rw[q1,if_pos (by simp[hb1,hc1])]
  rw[e]
  repeat' (first|refine Ctl.h ?_ |((with_reducible intro hif);first |(focus (cases hif;done)) |((try simp only[JH]at hif);try exact hy_)) |((with_reducible first|apply J22 yq_ za_|apply J23 fol yq_ za_|apply J24);(·rfl);(· exact k64_);(try kernel_rfl);try exact k16_)|fail)
  apply At.endsRet za_ (fn:=Try.f126) (rs:=[.cell 4 41,.tmp 5]) Anc.refl hro (lb_ rfl) rfl
  ·exact k62_
  ·exact k4_
  ·exact k5_
  ·rfl
  ·exact zl_
  ·exact k7_
  ·exact fun β=>rfl
  ·exact zl_
 ·-- false false true
  have e:resK i r=(K0,true):=by rw[q1,if_pos (by simp[hb1,hc1])]
  rw[e]
  repeat' (first|refine Ctl.h ?_ |((with_reducible intro hif);first |(focus (cases hif;done)) |((try simp only[JH]at hif);try exact hy_)) |((with_reducible first|apply J22 yq_ za_|apply J23 fol yq_ za_|apply J24);(·rfl);(· exact k64_);(try kernel_rfl);try exact k16_)|fail)
  apply At.endsRet za_ (fn:=Try.f126) (rs:=[.cell 4 41,.tmp 5]) Anc.refl hro (lb_ rfl) rfl
  ·exact k62_
  ·exact k4_
  ·exact k5_
  ·rfl
  ·exact zl_
  ·exact k7_
  ·exact fun β=>rfl
  ·exact zl_
 ·-- false true false
  have e:resK i r=(K0,true):=by rw[q1,if_pos (by simp[hb1,hc1])]
  rw[e]
  repeat' (first|refine Ctl.h ?_ |((with_reducible intro hif);first |(focus (cases hif;done)) |((try simp only[JH]at hif);try exact hy_)) |((with_reducible first|apply J22 yq_ za_|apply J23 fol yq_ za_|apply J24);(·rfl);(· exact k64_);(try kernel_rfl);try exact k16_)|fail)
  apply At.endsRet za_ (fn:=Try.f126) (rs:=[.cell 4 41,.tmp 5]) Anc.refl hro (lb_ rfl) rfl
  ·exact k62_
  ·exact k4_
  ·exact k5_
  ·rfl
  ·exact zl_
  ·exact k7_
  ·exact fun β=>rfl
  ·exact zl_
 ·-- false true true
  have e:resK i r=(⟨decide (wrongE (i.op - 32) (r i.c.toNat).n=0),applyV (i.op - 32) (r i.b.toNat).n (r i.c.toNat).n⟩,decide (wrongE (i.op - 32) (r i.c.toNat).n=0)):=by rw[q1,if_neg (by simp[hb1,hc1])];rfl
  rw[e]
  repeat' (first|refine Ctl.h ?_ |((with_reducible intro hif);first |(focus (cases hif;done)) |((try simp only[JH]at hif);try exact hy_)) |((with_reducible first|apply J22 yq_ za_|apply J23 fol yq_ za_|apply J24);(·rfl);(· exact k64_);(try kernel_rfl);try exact k16_)|fail)
  apply At.endsRet za_ (fn:=Try.f126) (rs:=[.cell 4 41,.tmp 5]) Anc.refl hro (lb_ rfl) rfl
  ·exact k62_
  ·exact k4_
  ·exact k5_
  ·rfl
  ·exact zl_
  ·exact k7_
  ·exact fun β=>rfl
  ·exact zl_
 ·-- true false false
  have e:resK i r=(K0,true):=by rw[q1,if_pos (by simp[hb1,hc1])]
  rw[e]
  repeat' (first|refine Ctl.h ?_ |((with_reducible intro hif);first |(focus (cases hif;done)) |((try simp only[JH]at hif);try exact hy_)) |((with_reducible first|apply J22 yq_ za_|apply J23 fol yq_ za_|apply J24);(·rfl);(· exact k64_);(try kernel_rfl);try exact k16_)|fail)
  apply At.endsRet za_ (fn:=Try.f126) (rs:=[.cell 4 41,.tmp 5]) Anc.refl hro (lb_ rfl) rfl
  ·exact k62_
  ·exact k4_
  ·exact k5_
  ·rfl
  ·exact zl_
  ·exact k7_
  ·exact fun β=>rfl
  ·exact zl_
 ·-- true false true
  have e:resK i r=(K0,true):=by rw[q1,if_pos (by simp[hb1,hc1])]
  rw[e]
  have hn0:=hdz hdv hc1
  repeat' (first|refine Ctl.h ?_ |((with_reducible intro hif);first |(focus (cases hif;done)) |((try simp only[JH]at hif);try exact hy_)) |((with_reducible first|apply J22 yq_ za_|apply J23 fol yq_ za_|apply J24);(·rfl);(· exact k65_);(try kernel_rfl);try exact k16_)|fail)
  apply At.endsRet za_ (fn:=Try.f126) (rs:=[.cell 4 41,.tmp 5]) Anc.refl hro (lb_ rfl) rfl
  ·exact k62_
  ·exact k4_
  ·exact k5_
  ·rfl
  ·exact zl_
  ·exact k7_
  ·exact fun β=>rfl
  ·exact zl_
 ·-- true true false
  have e:resK i r=(K0,true):=by rw[q1,if_pos (by simp[hb1,hc1])]
  rw[e]
  repeat' (first|refine Ctl.h ?_ |((with_reducible intro hif);first |(focus (cases hif;done)) |((try simp only[JH]at hif);try exact hy_)) |((with_reducible first|apply J22 yq_ za_|apply J23 fol yq_ za_|apply J24);(·rfl);(· exact k64_);(try kernel_rfl);try exact k16_)|fail)
  apply At.endsRet za_ (fn:=Try.f126) (rs:=[.cell 4 41,.tmp 5]) Anc.refl hro (lb_ rfl) rfl
  ·exact k62_
  ·exact k4_
  ·exact k5_
  ·rfl
  ·exact zl_
  ·exact k7_
  ·exact fun β=>rfl
  ·exact zl_
 ·-- true true true
  have e:resK i r=(⟨decide (wrongE (i.op - 32) (r i.c.toNat).n=0),applyV (i.op - 32) (r i.b.toNat).n (r i.c.toNat).n⟩,decide (wrongE (i.op - 32) (r i.c.toNat).n=0)):=by rw[q1,if_neg (by simp[hb1,hc1])];rfl
  rw[e]
  have hn0:=hdz hdv hc1
  repeat' (first|refine Ctl.h ?_ |((with_reducible intro hif);first |(focus (cases hif;done)) |((try simp only[JH]at hif);try exact hy_)) |((with_reducible first|apply J22 yq_ za_|apply J23 fol yq_ za_|apply J24);(·rfl);(· exact k65_);(try kernel_rfl);try exact k16_)|fail)
  apply At.endsRet za_ (fn:=Try.f126) (rs:=[.cell 4 41,.tmp 5]) Anc.refl hro (lb_ rfl) rfl
  ·exact k62_
  ·exact k4_
  ·exact k5_
  ·rfl
  ·exact zl_
  ·exact k7_
  ·exact fun β=>rfl
  ·exact zl_
def ym_:Spec:=fun args h m=>match args with
 | [v1,v2]=>bif isIns v1 && isKa v2 then some (((zg_ v1).ok)∧((zg_ v1).b < 8)∧((zg_ v1).c < 8),.tup [kS (resK (zg_ v1) (kaOf v2)).1,.bool (resK (zg_ v1) (kaOf v2)).2],[],[])else none
 | _=>none
theorem sResult_ok:zs_ Try.prog 126 ym_:=by
 refine⟨zp_ (by kernel_rfl),fun args h m c v rd wr hs hm hc w0 M β h' w R hrd hwr hst=>?_⟩
 unfold ym_ at hs
 split at hs
 ·rename_i v1 v2
  obtain⟨hb,hs⟩:=zq_ hs
  simp only[Option.some.injEq,Prod.mk.injEq]at hs
  obtain⟨rfl,rfl,rfl,rfl⟩:=hs
  simp only[Bool.and_eq_true]at hb
  obtain⟨b1,b2⟩:=hb
  obtain⟨y1,y2,y3⟩:=hc
  refine callRo (views:=[]) (result_lit (zg_ v1) (kaOf v2) y1 y2 y3) ?_ R hm hwr ?_ ?_ ?_
  ·intro x hx;cases hx
  ·intro β1 hv
   simp only[denL,aggDen,intDen,natDen,yr_,zi_,den_insOf b1,kaOf_den b2,den_insS,kaS_den]
  ·exact zl_
  ·exact zl_
 ·cases hs
end Go.Proofs.Ytmljmabbopkpiaa.Vm
end
