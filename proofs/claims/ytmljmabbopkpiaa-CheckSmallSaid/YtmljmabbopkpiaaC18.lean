import Derived.Test.YtmljmabbopkpiaaC1
import Derived.Test.YtmljmabbopkpiaaC17
set_option linter.unusedSimpArgs false
set_option linter.unusedVariables false
set_option maxRecDepth 100000
set_option maxHeartbeats 4000000
section
namespace Go.Proofs.Ytmljmabbopkpiaa.Vm
open Go.RowKit
attribute [local push_cast] eqB eqBL allB
theorem WF.put {P:Program}{w0:World}{M:Nat→Prop}{E:Env}{n0 N n:Nat}{D:List Deferred}{φ : Fr}{L:List HB}{c:Code}{ro:Option Nat}{Q:Exit→Act→World→Prop}(i:Nat)(b:HB)(hl:Less (hp L i) b)(hs:b.stable (hp L))(hb:b.born=true)(hi:Nat.beq i 0=false)(h:WF ro n P c w0 M E n0 N D φ (setH L i b) Q):WF ro n P c w0 M E n0 N D φ L Q:=At.put (K:=c.wpIn (FR ro) n P Q) i b hl hs hb hi h
theorem less_arB {t:Nat}{σ : Nat→Nat}{b:Bool}{f:Nat→SV}(z:BitVec 64)(h:∀β q,q < 64→(f q).cl β = [.int .i64 (bI (z.getLsbD q))]):Less (.own t (.arr 64 1 f) b) ((HB.own t (.arr (bl z).length 1 (zw_ (bl z))) b).ren σ):=by
 have e:(HB.own t (.arr (bl z).length 1 (zw_ (bl z))) b).ren σ = .own t (.arr (bl z).length 1 (zw_ (bl z))) b:=rfl
 rw[e,z8_]
 refine .val (fun β=>arrCl fun q hq=>?_) (fun n1 k1 f1 e=>by injection e with e1 e2 e3;subst e1 e2;exact⟨_,rfl⟩) (fun n1 k1 f1 e=>by injection e with e1 e2 e3;subst e1 e2;exact⟨_,rfl⟩)
 rw[h β q hq]
 unfold zw_
 rw[ze_ hq];rfl
def upS (x:BitVec 64)(n i:Nat):Nat→SV:=fun q=>.int .i64 (if n≤q∧q < i then bI (x.getLsbD (q - n))else 0)
theorem upS_size (x:BitVec 64)(n i q:Nat):(upS x n i q).size=1:=rfl
theorem less_up0 {t:Nat}{b:Bool}(x:BitVec 64)(n:Nat):Less (.own t (.arr 64 1 fun _=>.nat .i64 0) b) (.own t (.arr 64 1 (upS x n n)) b):=
 .val (fun β=>arrCl fun q hq=>by unfold upS;rw[if_neg (by omega)];rfl) (fun n1 k1 f1 e=>by injection e with e1 e2 e3;subst e1 e2;exact⟨_,rfl⟩) (fun n1 k1 f1 e=>by injection e with e1 e2 e3;subst e1 e2;exact⟨_,rfl⟩)
theorem less_up1 {t:Nat}{σ : Nat→Nat}{b:Bool}(x:BitVec 64)(n i:Nat)(hni:n≤i){g:Nat→SV}(hg:g=fun q=>SV.ite (decide (q=i)) (.int .i64 (bI (x.getLsbD (i - n)))) (upS x n i q)):Less (.own t (.arr 64 1 g) b) ((HB.own t (.arr 64 1 (upS x n (i+1))) b).ren σ):=by
 have e:(HB.own t (.arr 64 1 (upS x n (i+1))) b).ren σ = .own t (.arr 64 1 (upS x n (i+1))) b:=rfl
 rw[e]
 subst hg
 refine .val (fun β=>arrCl fun q hq=>?_) (fun n1 k1 f1 e=>by injection e with e1 e2 e3;subst e1 e2;exact⟨_,rfl⟩) (fun n1 k1 f1 e=>by injection e with e1 e2 e3;subst e1 e2;exact⟨_,rfl⟩)
 rw[x1_]
 by_cases h:q=i
 ·subst h
  simp only[decide_true,cond_true,upS]
  rw[if_pos ⟨hni,by omega⟩]
 ·have h2:(n≤q∧q < i+1)↔(n≤q∧q < i):=by omega
  simp only[h,decide_false,cond_false,upS,h2]
theorem up_lit (x:BitVec 64)(n:Nat)(p1:Nat)(hn:n≤64):zz_ Try.prog 162 [.sl 1 2 [] 1 0 (bl x).length (some p1),.int .i64 (n:Int)] [.gone,.gone,.ro (.arr (bl x).length 1 (zw_ (bl x)))] (.sl 3 3 [] 1 0 (bl (x <<< n)).length none) [.gone,.gone,.gone,bO (bl (x <<< n))]:=by
 have l1:=z8_ x
 have hlZ:=z8_ (x <<< n)
 refine zf_ (fn:=Try.f162) 3 23 0 rfl rfl rfl rfl rfl u6_ rfl fun w0 M E hro=>?_
 repeat' (first|refine Ctl.h ?_ |((with_reducible intro hif);first |(focus (cases hif;done)) |((try simp only[JH]at hif);try exact hy_)) |((with_reducible first|apply J22 zl_ za_|apply J23 fol zl_ za_|apply J24);(·rfl);(· exact k29_);(try kernel_rfl);try exact k9_)|fail)
 refine WF.put 3 (.own 3 (.arr 64 1 fun _=>.nat .i64 0) false) .loose (fun q=>trivial) rfl rfl ?_
 simp only[setH]
 have hz:=less_up0 (t:=3) (b:=false) x n
 refine WF.loopAt (fun (i:Nat)=>n≤i∧i≤64) (fun (i:Nat)=>[(0,.sl 1 2 [] 1 0 (bl x).length (some p1)),(1,.int .i64 (n:Int)),(5,.sl 3 3 [] 1 0 64 none),(6,.int .i64 (i:Int))]) (fun (i:Nat)=>[.gone,.gone,.ro (.arr (bl x).length 1 (zw_ (bl x))),.own 3 (.arr 64 1 (upS x n i)) false]) (fun (i:Nat)=>64 - i) n ⟨Nat.le_refl _,hn⟩ ?_ ?_ rfl ?_ ?_ rfl ?_
 ·exact k8_
 ·exact k5_
 ·exact k51_
 ·exact k51_
 intro i ⟨hni,hi⟩
 by_cases hil:i < 64
 ·have hil2:(i:Int) < 64:=by omega
  have hit:((i:Int) - (n:Int)).toNat=i - n:=by omega
  have hx:=ze_ (x:=x) (i:=i - n) (by omega)
  repeat' (first|refine Ctl.h ?_ |((with_reducible intro hif);first |(focus (cases hif;done)) |((try simp only[JH]at hif);try exact hy_)) |((with_reducible first|apply J22 zl_ za_|apply J23 fol zl_ za_|apply J24);(·rfl);(· (simp only[push_cast,↓JP,Nat.reduceAdd,Nat.reduceEqDiff,Nat.reduceLT,Nat.reduceMul,Nat.reduceLeDiff,reduceCtorEq,reduceIte,hil2,hit,hx,zw_,Int.toNat_natCast,upS_size,inR,inN];rfl));(try kernel_rfl);try exact k30_)|fail)
  refine At.nextPick [0,1,2,3] (i+1) ?_ rfl rfl rfl ?_ rfl ?_ ?_ ?_ rfl
  ·exact⟨⟨by omega,by omega⟩,by omega⟩
  ·(repeat' (first|exact trivial|exact .inl rfl|exact .inr (.same _)|exact .inr .loose|exact .inr (.arr (by assumption))|apply And.intro |(exact .inr (less_up1 x n i hni rfl))))
  ·exact k51_
  ·exact k48_
  ·exact k51_
 ·obtain rfl:i=64:=by omega
  have hil2:¬((64:Nat):Int) < 64:=by omega
  repeat' (first|refine Ctl.h ?_ |((with_reducible intro hif);first |(focus (cases hif;done)) |((try simp only[JH]at hif);try exact hy_)) |((with_reducible first|apply J22 zl_ za_|apply J23 fol zl_ za_|apply J24);(·rfl);(· (simp only[push_cast,↓JP,Nat.reduceAdd,Nat.reduceEqDiff,Nat.reduceLT,Nat.reduceMul,Nat.reduceLeDiff,reduceCtorEq,reduceIte,hil2];rfl));(try kernel_rfl);try exact k9_)|fail)
  apply At.endsPick [0,1,2,3] za_ (fn:=Try.f162) (rs:=[.tmp 4]) Anc.refl hro (lb_ rfl) rfl
  ·exact k28_
  ·exact k39_
  ·rfl
  ·rfl
  ·rfl
  ·(repeat' (first|exact trivial|exact .inl rfl|exact .inr (.same _)|exact .inr .loose|exact .inr (.arr (by assumption))|apply And.intro |(refine .inr (less_arB _ fun β q hq=>?_);rw[BitVec.getLsbD_shiftLeft];by_cases h:n≤q;(have h2:¬q < n:=by omega);(simp[upS,h,h2,hq];rfl);(have h2:q < n:=by omega);(simp[upS,h,h2];rfl))))
  ·rfl
  ·exact k51_
  ·exact k7_
  ·(intro β;rw[hlZ];rfl)
  ·exact k51_
theorem up_ok (k:List Int)(n:Int)(p1:Nat)(h1:k=bl (vb k))(h0:0≤n)(hn:n≤64):zz_ Try.prog 162 [.sl 1 2 [] 1 0 k.length (some p1),.int .i64 n] [.gone,.gone,.ro (.arr k.length 1 (zw_ k))] (.sl 3 3 [] 1 0 (bl (vb k <<< n.toNat)).length none) [.gone,.gone,.gone,bO (bl (vb k <<< n.toNat))]:=by
 obtain⟨m,rfl⟩:∃m:Nat,n=(m:Int):=⟨n.toNat,by omega⟩
 have h:=up_lit (vb k) m p1 (by omega)
 rw[←h1]at h
 exact h
def sRUp:y4_:=fun args h m=>match args with
 | [v1,v2]=>match srcV h 1 (.tup []) v1 with
  | some (c1,n1,f1,r1)=>bif isI .i64 v2 then some (c1∧(∀q,q < n1→isI .i64 (f1 q)=true)∧((ls iOf n1 f1)=bl (vb (ls iOf n1 f1)))∧(0≤(iOf v2))∧((iOf v2)≤64),.sl m m [] 1 0 (bl (vb (ls iOf n1 f1) <<< (iOf v2).toNat)).length none,r1,[(m,bO (bl (vb (ls iOf n1 f1) <<< (iOf v2).toNat)))])else none
  | _=>none
 | _=>none
theorem sRUp_ok:zm_ Try.prog 162 sRUp:=by
 refine⟨zg_ (by kernel_rfl),fun args h m c v rd wr hs hm hc w0 M β h' w R hrd hwr hst=>?_⟩
 unfold sRUp at hs
 split at hs
 ·rename_i v1 v2
  split at hs
  ·rename_i c1 n1 f1 r1 a1
   obtain⟨hb,hs⟩:=zn_ hs
   simp only[Option.some.injEq,Prod.mk.injEq]at hs
   obtain⟨rfl,rfl,rfl,rfl⟩:=hs
   have b2:=hb
   obtain⟨k1,g1,y1,y2,y3⟩:=hc
   obtain⟨A1,p1,d1,e1,t1⟩:=zp_ R a1 k1 (fun i hi=>hrd i hi) (by omega)
   refine yb_ (views:=[⟨1,(ls iOf n1 f1).length,zw_ (ls iOf n1 f1),A1,p1⟩]) (up_ok (ls iOf n1 f1) (iOf v2) p1 y1 y2 y3) ?_ R hm hwr ?_ ?_ ?_
   ·exact d23_
   ·intro β1 hv
    simp only[Vd,zc_,and_true]at hv
    have z1:=hv
    simp only[denL,z7_,z6_,z5_,zt_,zc_,z1,d1,zo_ b2]
   ·exact k51_
   ·exact k51_
  ·cases hs
 ·cases hs
theorem truth_lit (b:Bool):zz_ Try.prog 164 [.bool b] [.gone] (.int .i64 (bI b)) [.gone]:=by
 cases b
 ·exact d24_
 ·exact d24_
def sRTruth:y4_:=fun args h m=>match args with
 | [.bool v1]=>some (True,.int .i64 (bI v1),[],[])
 | _=>none
theorem sRTruth_ok:zm_ Try.prog 164 sRTruth:=by
 refine⟨zg_ (by kernel_rfl),fun args h m c v rd wr hs hm hc w0 M β h' w R hrd hwr hst=>?_⟩
 unfold sRTruth at hs
 split at hs
 ·rename_i v1
  simp only[Option.some.injEq,Prod.mk.injEq]at hs
  obtain⟨rfl,rfl,rfl,rfl⟩:=hs
  refine yb_ (views:=[]) (truth_lit v1) ?_ R hm hwr ?_ ?_ ?_
  ·intro x hx;cases hx
  ·intro β1 hv
   simp only[denL,z7_,z6_,z5_,zt_,zc_]
  ·exact k51_
  ·exact k51_
 ·cases hs
def dnV (x:BitVec 64)(n:Nat)(t:Bool):BitVec 64:=(x >>> n) |||(if t then ~~~(BitVec.allOnes 64 >>> n)else 0#64)
theorem dnV_bit {x:BitVec 64}{n:Nat}{t:Bool}{i:Nat}(hi:i < 64):(dnV x n t).getLsbD i=if i+n < 64 then x.getLsbD (i+n)else t:=by
 unfold dnV
 rw[BitVec.getLsbD_or,BitVec.getLsbD_ushiftRight,Nat.add_comm n i]
 by_cases h:i+n < 64
 ·rw[if_pos h]
  cases t
  ·simp only[Bool.false_eq_true,if_false,BitVec.getLsbD_zero,Bool.or_false]
  ·exact k52_
 ·rw[if_neg h,BitVec.getLsbD_of_ge x _ (by omega)]
  cases t
  ·simp only[Bool.false_eq_true,if_false,BitVec.getLsbD_zero,Bool.or_false]
  ·exact k52_
theorem down_lit (x:BitVec 64)(n:Nat)(t:Bool)(p1:Nat)(hn:n≤64):zz_ Try.prog 163 [.sl 1 2 [] 1 0 (bl x).length (some p1),.int .i64 (n:Int),.int .i64 (bI t)] [.gone,.gone,.ro (.arr (bl x).length 1 (zw_ (bl x)))] (.sl 3 3 [] 1 0 (bl (dnV x n t)).length none) [.gone,.gone,.gone,bO (bl (dnV x n t))]:=by
 have hlZ:=z8_ (dnV x n t)
 have l1:=z8_ x
 refine zf_ (fn:=Try.f163) 3 31 0 rfl rfl rfl rfl rfl u6_ rfl fun w0 M E hro=>?_
 repeat' (first|refine Ctl.h ?_ |((with_reducible intro hif);first |(focus (cases hif;done)) |((try simp only[JH]at hif);try exact hy_)) |((with_reducible first|apply J22 zl_ za_|apply J23 fol zl_ za_|apply J24);(·rfl);(· exact k29_);(try kernel_rfl);try exact k9_)|fail)
 refine WF.nilFr (φ2:=[(0,.sl 1 2 [] 1 0 (bl x).length (some p1)),(1,.int .i64 (n:Int)),(2,.int .i64 (bI t)),(7,.sl 3 3 [] 1 0 0 none),(8,.nat .i64 0)]) 3 1 (zw_ []) (fun h q=>i64S_st [] h q) rfl ?_ ?_ ?_
 ·refine⟨u1_,u1_,u1_,⟨_,rfl,fun β h0 hx=>(nilB_cl h0 (show β 3=(none,0) from hx) 1).symm⟩,u1_,trivial⟩
 ·simp[xe_,zb_,hp,HB.born]
 simp only[List.cons_append,List.nil_append]
 have hz:Less (.own 3 (.arr 0 1 (zw_ [])) false) (.own 3 (.arr 0 1 (zw_ ((bl (dnV x n t)).take 0))) false):=.same _
 refine WF.loopAt (fun (j:Nat)=>j≤64) (fun (j:Nat)=>[(0,.sl 1 2 [] 1 0 (bl x).length (some p1)),(1,.int .i64 (n:Int)),(2,.int .i64 (bI t)),(7,.sl 3 3 [] 1 0 j none),(8,.nat .i64 j)]) (fun (j:Nat)=>[.gone,.gone,.ro (.arr (bl x).length 1 (zw_ (bl x))),.own 3 (.arr j 1 (zw_ ((bl (dnV x n t)).take j))) false]) (fun (j:Nat)=>64 - j) 0 (Nat.zero_le _) ?_ ?_ rfl ?_ ?_ rfl ?_
 ·exact k8_
 ·exact k5_
 ·exact k51_
 ·exact k51_
 intro j hj
 by_cases hjl:j < 64
 ·have hTl:((bl (dnV x n t)).take j).length=j:=by rw[List.length_take];omega
  have hU:=take_snB (l:=bl (dnV x n t)) (k:=j) (by omega)
  have hjt:((j:Int)+(n:Int)).toNat=j+n:=by omega
  by_cases hjn:j+n < 64
  ·have hji:(j:Int)+(n:Int) < 64:=by omega
   have hx:=ze_ (x:=x) hjn
   rw[ze_ hjl,dnV_bit hjl,if_pos hjn]at hU
   repeat' (first|refine Ctl.h ?_ |((with_reducible intro hif);first |(focus (cases hif;done)) |((try simp only[JH]at hif);try exact hy_)) |((with_reducible first|apply J22 zl_ za_|apply J23 fol zl_ za_|apply J24);(·rfl);(· (simp only[push_cast,↓JP,Nat.reduceAdd,Nat.reduceEqDiff,Nat.reduceLT,Nat.reduceMul,Nat.reduceLeDiff,reduceCtorEq,reduceIte,hjl,hji,hjt,hx,zw_,inR,inN,List.all_cons,List.all_nil];rfl));(try kernel_rfl);try exact k50_)|fail)
   refine At.nextPick [0,1,2,5] (j+1) ?_ rfl rfl rfl ?_ rfl ?_ ?_ ?_ rfl
   ·omega
   ·exact k37_
   ·exact k51_
   ·exact k48_
   ·exact k51_
  ·have hji:¬(j:Int)+(n:Int) < 64:=by omega
   rw[ze_ hjl,dnV_bit hjl,if_neg hjn]at hU
   repeat' (first|refine Ctl.h ?_ |((with_reducible intro hif);first |(focus (cases hif;done)) |((try simp only[JH]at hif);try exact hy_)) |((with_reducible first|apply J22 zl_ za_|apply J23 fol zl_ za_|apply J24);(·rfl);(· (simp only[push_cast,↓JP,Nat.reduceAdd,Nat.reduceEqDiff,Nat.reduceLT,Nat.reduceMul,Nat.reduceLeDiff,reduceCtorEq,reduceIte,hjl,hji,hjt,zw_,inR,inN,List.all_cons,List.all_nil];rfl));(try kernel_rfl);try exact k50_)|fail)
   refine At.nextPick [0,1,2,5] (j+1) ?_ rfl rfl rfl ?_ rfl ?_ ?_ ?_ rfl
   ·omega
   ·exact k37_
   ·exact k51_
   ·exact k48_
   ·exact k51_
 ·obtain rfl:j=64:=by omega
  have hTk:(bl (dnV x n t)).take 64=bl (dnV x n t):=List.take_of_length_le (by omega)
  repeat' (first|refine Ctl.h ?_ |((with_reducible intro hif);first |(focus (cases hif;done)) |((try simp only[JH]at hif);try exact hy_)) |((with_reducible first|apply J22 zl_ za_|apply J23 fol zl_ za_|apply J24);(·rfl);(· exact k32_);(try kernel_rfl);try exact k9_)|fail)
  apply At.endsPick [0,1,2,3] za_ (fn:=Try.f163) (rs:=[.tmp 6]) Anc.refl hro (lb_ rfl) rfl
  ·exact k28_
  ·exact k39_
  ·rfl
  ·rfl
  ·rfl
  ·exact k47_
  ·rfl
  ·exact k51_
  ·exact k7_
  ·(intro β;rw[hlZ];rfl)
  ·exact k51_
theorem down_ok (k:List Int)(n t:Int)(p1:Nat)(h1:k=bl (vb k))(h0:0≤n)(hn:n≤64)(ht:t=0∨t=1):zz_ Try.prog 163 [.sl 1 2 [] 1 0 k.length (some p1),.int .i64 n,.int .i64 t] [.gone,.gone,.ro (.arr k.length 1 (zw_ k))] (.sl 3 3 [] 1 0 (bl (dnV (vb k) n.toNat (decide (t=1)))).length none) [.gone,.gone,.gone,bO (bl (dnV (vb k) n.toNat (decide (t=1))))]:=by
 obtain⟨m,rfl⟩:∃m:Nat,n=(m:Int):=⟨n.toNat,by omega⟩
 have h:=down_lit (vb k) m (decide (t=1)) p1 (by omega)
 rw[←h1,show bI (decide (t=1))=t by rcases ht with rfl|rfl<;>rfl]at h
 exact h
def sRDown:y4_:=fun args h m=>match args with
 | [v1,v2,v3]=>match srcV h 1 (.tup []) v1 with
  | some (c1,n1,f1,r1)=>bif isI .i64 v2 && isI .i64 v3 then some (c1∧(∀q,q < n1→isI .i64 (f1 q)=true)∧((ls iOf n1 f1)=bl (vb (ls iOf n1 f1)))∧(0≤(iOf v2))∧((iOf v2)≤64)∧(((iOf v3)=0∨(iOf v3)=1)),.sl m m [] 1 0 (bl (dnV (vb (ls iOf n1 f1)) (iOf v2).toNat (decide ((iOf v3)=1)))).length none,r1,[(m,bO (bl (dnV (vb (ls iOf n1 f1)) (iOf v2).toNat (decide ((iOf v3)=1)))))])else none
  | _=>none
 | _=>none
theorem sRDown_ok:zm_ Try.prog 163 sRDown:=by
 refine⟨zg_ (by kernel_rfl),fun args h m c v rd wr hs hm hc w0 M β h' w R hrd hwr hst=>?_⟩
 unfold sRDown at hs
 split at hs
 ·rename_i v1 v2 v3
  split at hs
  ·rename_i c1 n1 f1 r1 a1
   obtain⟨hb,hs⟩:=zn_ hs
   simp only[Option.some.injEq,Prod.mk.injEq]at hs
   obtain⟨rfl,rfl,rfl,rfl⟩:=hs
   simp only[Bool.and_eq_true]at hb
   obtain⟨b2,b3⟩:=hb
   obtain⟨k1,g1,y1,y2,y3,y4⟩:=hc
   obtain⟨A1,p1,d1,e1,t1⟩:=zp_ R a1 k1 (fun i hi=>hrd i hi) (by omega)
   refine yb_ (views:=[⟨1,(ls iOf n1 f1).length,zw_ (ls iOf n1 f1),A1,p1⟩]) (down_ok (ls iOf n1 f1) (iOf v2) (iOf v3) p1 y1 y2 y3 y4) ?_ R hm hwr ?_ ?_ ?_
   ·exact d23_
   ·intro β1 hv
    simp only[Vd,zc_,and_true]at hv
    have z1:=hv
    simp only[denL,z7_,z6_,z5_,zt_,zc_,z1,d1,zo_ b2,zo_ b3]
   ·exact k51_
   ·exact k51_
  ·cases hs
 ·cases hs
def bwV (op:Int)(x y:BitVec 64):BitVec 64:=if op=8 then x ||| y else if op=9 then x ^^^ y else x &&& y
theorem bitw_lit (op:Int)(x y:BitVec 64)(p1 p2:Nat):zz_ Try.prog 161 [.int .u8 op,.sl 1 2 [] 1 0 (bl x).length (some p1),.sl 3 4 [] 1 0 (bl y).length (some p2)] [.gone,.gone,.ro (.arr (bl x).length 1 (zw_ (bl x))),.gone,.ro (.arr (bl y).length 1 (zw_ (bl y)))] (.sl 5 5 [] 1 0 (bl (bwV op x y)).length none) [.gone,.gone,.gone,.gone,.gone,bO (bl (bwV op x y))]:=by
 have hlZ:=z8_ (bwV op x y)
 have l1:=z8_ x
 have l2:=z8_ y
 refine zf_ (fn:=Try.f161) 5 53 0 rfl rfl rfl rfl rfl u6_ rfl fun w0 M E hro=>?_
 repeat' (first|refine Ctl.h ?_ |((with_reducible intro hif);first |(focus (cases hif;done)) |((try simp only[JH]at hif);try exact hy_)) |((with_reducible first|apply J22 zl_ za_|apply J23 fol zl_ za_|apply J24);(·rfl);(· exact k29_);(try kernel_rfl);try exact k9_)|fail)
 refine WF.nilFr (φ2:=[(0,.int .u8 op),(1,.sl 1 2 [] 1 0 (bl x).length (some p1)),(2,.sl 3 4 [] 1 0 (bl y).length (some p2)),(7,.sl 5 5 [] 1 0 0 none),(8,.nat .i64 0)]) 3 1 (zw_ []) (fun h q=>i64S_st [] h q) rfl ?_ ?_ ?_
 ·exact k46_
 ·simp[xe_,zb_,hp,HB.born]
 simp only[List.cons_append,List.nil_append]
 have hz:Less (.own 3 (.arr 0 1 (zw_ [])) false) (.own 3 (.arr 0 1 (zw_ ((bl (bwV op x y)).take 0))) false):=.same _
 refine WF.loopAt (fun (j:Nat)=>j≤64) (fun (j:Nat)=>[(0,.int .u8 op),(1,.sl 1 2 [] 1 0 (bl x).length (some p1)),(2,.sl 3 4 [] 1 0 (bl y).length (some p2)),(7,.sl 5 5 [] 1 0 j none),(8,.nat .i64 j)]) (fun (j:Nat)=>[.gone,.gone,.ro (.arr (bl x).length 1 (zw_ (bl x))),.gone,.ro (.arr (bl y).length 1 (zw_ (bl y))),.own 3 (.arr j 1 (zw_ ((bl (bwV op x y)).take j))) false]) (fun (j:Nat)=>64 - j) 0 (Nat.zero_le _) ?_ ?_ rfl ?_ ?_ rfl ?_
 ·exact k8_
 ·exact k5_
 ·exact k51_
 ·exact k51_
 intro j hj
 by_cases hjl:j < 64
 ·have hTl:((bl (bwV op x y)).take j).length=j:=by rw[List.length_take];omega
  have hU:=take_snB (l:=bl (bwV op x y)) (k:=j) (by omega)
  have hx:=ze_ (x:=x) hjl
  have hy:=ze_ (x:=y) hjl
  by_cases h8:op=8
  ·subst h8
   have e:(bwV 8 x y).getLsbD j=(x.getLsbD j || y.getLsbD j):=by simp[bwV]
   rw[ze_ hjl,e]at hU
   cases b1:x.getLsbD j<;>cases b2:y.getLsbD j
   all_goals
    rw[b1]at hx hU
    rw[b2]at hy hU
    simp only[bI,Bool.or_true,Bool.or_false,if_true,Bool.false_eq_true,if_false]at hx hy hU
    repeat' (first|refine Ctl.h ?_ |((with_reducible intro hif);first |(focus (cases hif;done)) |((try simp only[JH]at hif);try exact hy_)) |((with_reducible first|apply J22 zl_ za_|apply J23 fol zl_ za_|apply J24);(·rfl);(· exact k49_);(try kernel_rfl);try exact k50_)|fail)
    refine At.nextPick [0,1,2,3,4,7] (j+1) ?_ rfl rfl rfl ?_ rfl ?_ ?_ ?_ rfl
    ·omega
    ·exact k37_
    ·exact k51_
    ·exact k48_
    ·exact k51_
  by_cases h9:op=9
  ·subst h9
   have e:(bwV 9 x y).getLsbD j=(x.getLsbD j ^^ y.getLsbD j):=by simp[bwV]
   rw[ze_ hjl,e]at hU
   cases b1:x.getLsbD j<;>cases b2:y.getLsbD j
   all_goals
    rw[b1]at hx hU
    rw[b2]at hy hU
    simp only[bI,Bool.xor_true,Bool.xor_false,Bool.not_true,Bool.not_false,if_true,Bool.false_eq_true,if_false]at hx hy hU
    repeat' (first|refine Ctl.h ?_ |((with_reducible intro hif);first |(focus (cases hif;done)) |((try simp only[JH]at hif);try exact hy_)) |((with_reducible first|apply J22 zl_ za_|apply J23 fol zl_ za_|apply J24);(·rfl);(· (simp only[push_cast,↓JP,Nat.reduceAdd,Nat.reduceEqDiff,Nat.reduceLT,Nat.reduceMul,Nat.reduceLeDiff,reduceCtorEq,reduceIte,hjl,hx,hy,h8,zw_,inR,inN,List.all_cons,List.all_nil];rfl));(try kernel_rfl);try exact k50_)|fail)
    refine At.nextPick [0,1,2,3,4,7] (j+1) ?_ rfl rfl rfl ?_ rfl ?_ ?_ ?_ rfl
    ·omega
    ·exact k37_
    ·exact k51_
    ·exact k48_
    ·exact k51_
  ·have e:(bwV op x y).getLsbD j=(x.getLsbD j && y.getLsbD j):=by simp[bwV,h8,h9]
   rw[ze_ hjl,e]at hU
   cases b1:x.getLsbD j<;>cases b2:y.getLsbD j
   all_goals
    rw[b1]at hx hU
    rw[b2]at hy hU
    simp only[bI,Bool.and_true,Bool.and_false,if_true,Bool.false_eq_true,if_false]at hx hy hU
    repeat' (first|refine Ctl.h ?_ |((with_reducible intro hif);first |(focus (cases hif;done)) |((try simp only[JH]at hif);try exact hy_)) |((with_reducible first|apply J22 zl_ za_|apply J23 fol zl_ za_|apply J24);(·rfl);(· (simp only[push_cast,↓JP,Nat.reduceAdd,Nat.reduceEqDiff,Nat.reduceLT,Nat.reduceMul,Nat.reduceLeDiff,reduceCtorEq,reduceIte,hjl,hx,hy,h8,h9,zw_,inR,inN,List.all_cons,List.all_nil];rfl));(try kernel_rfl);try exact k50_)|fail)
    refine At.nextPick [0,1,2,3,4,7] (j+1) ?_ rfl rfl rfl ?_ rfl ?_ ?_ ?_ rfl
    ·omega
    ·exact k37_
    ·exact k51_
    ·exact k48_
    ·exact k51_
 ·obtain rfl:j=64:=by omega
  have hTk:(bl (bwV op x y)).take 64=bl (bwV op x y):=List.take_of_length_le (by omega)
  repeat' (first|refine Ctl.h ?_ |((with_reducible intro hif);first |(focus (cases hif;done)) |((try simp only[JH]at hif);try exact hy_)) |((with_reducible first|apply J22 zl_ za_|apply J23 fol zl_ za_|apply J24);(·rfl);(· exact k32_);(try kernel_rfl);try exact k9_)|fail)
  apply At.endsPick [0,1,2,3,4,5] za_ (fn:=Try.f161) (rs:=[.tmp 6]) Anc.refl hro (lb_ rfl) rfl
  ·exact k28_
  ·exact k39_
  ·rfl
  ·rfl
  ·rfl
  ·exact k47_
  ·rfl
  ·exact k51_
  ·exact k7_
  ·(intro β;rw[hlZ];rfl)
  ·exact k51_
theorem bitw_ok (op:Int)(k l:List Int)(p1 p2:Nat)(h1:k=bl (vb k))(h2:l=bl (vb l)):zz_ Try.prog 161 [.int .u8 op,.sl 1 2 [] 1 0 k.length (some p1),.sl 3 4 [] 1 0 l.length (some p2)] [.gone,.gone,.ro (.arr k.length 1 (zw_ k)),.gone,.ro (.arr l.length 1 (zw_ l))] (.sl 5 5 [] 1 0 (bl (bwV op (vb k) (vb l))).length none) [.gone,.gone,.gone,.gone,.gone,bO (bl (bwV op (vb k) (vb l)))]:=by
 have h:=bitw_lit op (vb k) (vb l) p1 p2
 rw[←h1,←h2]at h
 exact h
def sRBitw:y4_:=fun args h m=>match args with
 | [v1,v2,v3]=>match srcV h 1 (.tup []) v2,srcV h 1 (.tup []) v3 with
  | some (c2,n2,f2,r2),some (c3,n3,f3,r3)=>bif isI .u8 v1 then some (c2∧c3∧(∀q,q < n2→isI .i64 (f2 q)=true)∧(∀q,q < n3→isI .i64 (f3 q)=true)∧((ls iOf n2 f2)=bl (vb (ls iOf n2 f2)))∧((ls iOf n3 f3)=bl (vb (ls iOf n3 f3))),.sl m m [] 1 0 (bl (bwV (iOf v1) (vb (ls iOf n2 f2)) (vb (ls iOf n3 f3)))).length none,r2++r3,[(m,bO (bl (bwV (iOf v1) (vb (ls iOf n2 f2)) (vb (ls iOf n3 f3)))))])else none
  | _,_=>none
 | _=>none
theorem sRBitw_ok:zm_ Try.prog 161 sRBitw:=by
 refine⟨zg_ (by kernel_rfl),fun args h m c v rd wr hs hm hc w0 M β h' w R hrd hwr hst=>?_⟩
 unfold sRBitw at hs
 split at hs
 ·rename_i v1 v2 v3
  split at hs
  ·rename_i c2 n2 f2 r2 c3 n3 f3 r3 a2 a3
   obtain⟨hb,hs⟩:=zn_ hs
   simp only[Option.some.injEq,Prod.mk.injEq]at hs
   obtain⟨rfl,rfl,rfl,rfl⟩:=hs
   have b1:=hb
   obtain⟨k2,k3,g2,g3,y1,y2⟩:=hc
   obtain⟨A2,p2,d2,e2,t2⟩:=zp_ R a2 k2 (fun i hi=>hrd i (List.mem_append_left _ hi)) (by omega)
   obtain⟨A3,p3,d3,e3,t3⟩:=zp_ R a3 k3 (fun i hi=>hrd i (List.mem_append_right _ hi)) (by omega)
   refine yb_ (views:=[⟨1,(ls iOf n2 f2).length,zw_ (ls iOf n2 f2),A2,p2⟩,⟨1,(ls iOf n3 f3).length,zw_ (ls iOf n3 f3),A3,p3⟩]) (bitw_ok (iOf v1) (ls iOf n2 f2) (ls iOf n3 f3) p2 p3 y1 y2) ?_ R hm hwr ?_ ?_ ?_
   ·intro x hx
    simp only[List.mem_cons,List.not_mem_nil,or_false]at hx
    rcases hx with rfl|rfl
    ·exact viewI64 t2 e2 g2
    ·exact viewI64 t3 e3 g3
   ·intro β1 hv
    simp only[Vd,zc_,and_true]at hv
    obtain⟨z2,z3⟩:=hv
    simp only[denL,z7_,z6_,z5_,zt_,zc_,z2,z3,d2,d3,zo_ b1]
   ·exact k51_
   ·exact k51_
  ·cases hs
 ·cases hs
end Go.Proofs.Ytmljmabbopkpiaa.Vm
end
