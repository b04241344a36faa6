import Derived.Test.YtmljmabbopkpiaaC1
import Derived.Test.YtmljmabbopkpiaaC16
set_option linter.unusedSimpArgs false
set_option linter.unusedVariables false
set_option maxRecDepth 100000
set_option maxHeartbeats 4000000
section
namespace Go.Proofs.Ytmljmabbopkpiaa.Vm
open Go.RowKit
attribute [local push_cast] eqB eqBL allB
def sRBits:y4_:=fun args h m=>match args with
 | [v1]=>bif isI .i64 v1 then some ((-9223372036854775808≤(iOf v1))∧((iOf v1)≤9223372036854775807),.sl m m [] 1 0 (bl (BitVec.ofInt 64 (iOf v1))).length none,[],[(m,bO (bl (BitVec.ofInt 64 (iOf v1))))])else none
 | _=>none
theorem sRBits_ok:zm_ Try.prog 153 sRBits:=by
 refine⟨zg_ (by kernel_rfl),fun args h m c v rd wr hs hm hc w0 M β h' w R hrd hwr hst=>?_⟩
 unfold sRBits at hs
 split at hs
 ·rename_i v1
  obtain⟨hb,hs⟩:=zn_ hs
  simp only[Option.some.injEq,Prod.mk.injEq]at hs
  obtain⟨rfl,rfl,rfl,rfl⟩:=hs
  have b1:=hb
  obtain⟨y1,y2⟩:=hc
  refine yb_ (views:=[]) (bits_lit (iOf v1) y1 y2) ?_ R hm hwr ?_ ?_ ?_
  ·intro x hx;cases hx
  ·intro β1 hv
   simp only[denL,z7_,z6_,z5_,zt_,zc_,zo_ b1]
  ·exact yh_
  ·exact yh_
 ·cases hs
theorem sum_lit (x y:BitVec 64)(c:Bool)(p1 p2:Nat):zz_ Try.prog 155 [.sl 1 2 [] 1 0 (bl x).length (some p1),.sl 3 4 [] 1 0 (bl y).length (some p2),.int .i64 (bI c)] [.gone,.gone,.ro (.arr (bl x).length 1 (zw_ (bl x))),.gone,.ro (.arr (bl y).length 1 (zw_ (bl y)))] (.sl 5 5 [] 1 0 (bl (sumV x y c)).length none) [.gone,.gone,.gone,.gone,.gone,bO (bl (sumV x y c))]:=by
 have hlZ:=z8_ (sumV x y c)
 have l1:=z8_ x
 have l2:=z8_ y
 have hc0:∀β,(SV.int .i64 (bI c)).den β =(SV.int .i64 (bI (BitVec.carry 0 x y c))).den β:=fun β=>by rw[carry_zero1]
 refine zf_ (fn:=Try.f155) 5 33 0 rfl rfl rfl rfl rfl u5_ rfl fun w0 M E hro=>?_
 repeat' (first|refine Ctl.h ?_ |((with_reducible intro hif);first |(focus (cases hif;done)) |((try simp only[JH]at hif);try exact hy_)) |((with_reducible first|apply J22 zl_ za_|apply J23 fol zl_ za_|apply J24);(·rfl);(· exact k29_);(try kernel_rfl);try exact k9_)|fail)
 refine WF.nilFr (φ2:=[(0,.sl 1 2 [] 1 0 (bl x).length (some p1)),(1,.sl 3 4 [] 1 0 (bl y).length (some p2)),(2,.int .i64 (bI (BitVec.carry 0 x y c))),(7,.sl 5 5 [] 1 0 0 none),(8,.nat .i64 0)]) 3 1 (zw_ []) (fun h q=>i64S_st [] h q) rfl ?_ ?_ ?_
 ·exact k46_
 ·simp[xe_,zb_,hp,HB.born]
 simp only[List.cons_append,List.nil_append]
 have hz:Less (.own 3 (.arr 0 1 (zw_ [])) false) (.own 3 (.arr 0 1 (zw_ ((bl (sumV x y c)).take 0))) false):=.same _
 refine WF.loopAt (fun (j:Nat)=>j≤64) (fun (j:Nat)=>[(0,.sl 1 2 [] 1 0 (bl x).length (some p1)),(1,.sl 3 4 [] 1 0 (bl y).length (some p2)),(2,.int .i64 (bI (BitVec.carry j x y c))),(7,.sl 5 5 [] 1 0 j none),(8,.nat .i64 j)]) (fun (j:Nat)=>[.gone,.gone,.ro (.arr (bl x).length 1 (zw_ (bl x))),.gone,.ro (.arr (bl y).length 1 (zw_ (bl y))),.own 3 (.arr j 1 (zw_ ((bl (sumV x y c)).take j))) false]) (fun (j:Nat)=>64 - j) 0 (Nat.zero_le _) ?_ ?_ rfl ?_ ?_ rfl ?_
 ·exact k8_
 ·exact k5_
 ·exact yh_
 ·exact yh_
 intro j hj
 by_cases hjl:j < 64
 ·have hx:=ze_ (x:=x) hjl
  have hy:=ze_ (x:=y) hjl
  have hTl:((bl (sumV x y c)).take j).length=j:=by rw[List.length_take];omega
  have hU:=take_snB (l:=bl (sumV x y c)) (k:=j) (by omega)
  rw[ze_ hjl,sumV_bit hjl]at hU
  have b1:=z2_ (x.getLsbD j)
  have b2:=z2_ (y.getLsbD j)
  have b3:=z2_ (BitVec.carry j x y c)
  have hden:∀β,(SV.int .i64 ((bI (x.getLsbD j)+bI (y.getLsbD j)+bI (BitVec.carry j x y c)).tdiv 2)).den β =(SV.int .i64 (bI (BitVec.carry (j+1) x y c))).den β:=fun β=>by rw[carry_next]
  repeat' (first|refine Ctl.h ?_ |((with_reducible intro hif);first |(focus (cases hif;done)) |((try simp only[JH]at hif);try exact hy_)) |((with_reducible first|apply J22 zl_ za_|apply J23 fol zl_ za_|apply J24);(·rfl);(· exact k49_);(try kernel_rfl);try exact k45_)|fail)
  refine At.nextPick [0,1,2,3,4,7] (j+1) ?_ rfl rfl rfl ?_ rfl ?_ ?_ ?_ rfl
  ·omega
  ·exact k37_
  ·exact yh_
  ·exact k38_
  ·exact yh_
 ·obtain rfl:j=64:=by omega
  have hTk:(bl (sumV x y c)).take 64=bl (sumV x y c):=List.take_of_length_le (by omega)
  repeat' (first|refine Ctl.h ?_ |((with_reducible intro hif);first |(focus (cases hif;done)) |((try simp only[JH]at hif);try exact hy_)) |((with_reducible first|apply J22 zl_ za_|apply J23 fol zl_ za_|apply J24);(·rfl);(· exact k32_);(try kernel_rfl);try exact k9_)|fail)
  apply At.endsPick [0,1,2,3,4,5] za_ (fn:=Try.f155) (rs:=[.tmp 6]) Anc.refl hro (lb_ rfl) rfl
  ·exact k28_
  ·exact k39_
  ·rfl
  ·rfl
  ·rfl
  ·exact k47_
  ·rfl
  ·exact yh_
  ·exact k7_
  ·(intro β;rw[hlZ];rfl)
  ·exact yh_
theorem sum_ok (k l:List Int)(c:Int)(p1 p2:Nat)(h1:k=bl (vb k))(h2:l=bl (vb l))(hc:c=0∨c=1):zz_ Try.prog 155 [.sl 1 2 [] 1 0 k.length (some p1),.sl 3 4 [] 1 0 l.length (some p2),.int .i64 c] [.gone,.gone,.ro (.arr k.length 1 (zw_ k)),.gone,.ro (.arr l.length 1 (zw_ l))] (.sl 5 5 [] 1 0 (bl (sumV (vb k) (vb l) (decide (c=1)))).length none) [.gone,.gone,.gone,.gone,.gone,bO (bl (sumV (vb k) (vb l) (decide (c=1))))]:=by
 have h:=sum_lit (vb k) (vb l) (decide (c=1)) p1 p2
 rw[←h1,←h2,show bI (decide (c=1))=c by rcases hc with rfl|rfl<;>rfl]at h
 exact h
def sRSum:y4_:=fun args h m=>match args with
 | [v1,v2,v3]=>match srcV h 1 (.tup []) v1,srcV h 1 (.tup []) v2 with
  | some (c1,n1,f1,r1),some (c2,n2,f2,r2)=>bif isI .i64 v3 then some (c1∧c2∧(∀q,q < n1→isI .i64 (f1 q)=true)∧(∀q,q < n2→isI .i64 (f2 q)=true)∧((ls iOf n1 f1)=bl (vb (ls iOf n1 f1)))∧((ls iOf n2 f2)=bl (vb (ls iOf n2 f2)))∧(((iOf v3)=0∨(iOf v3)=1)),.sl m m [] 1 0 (bl (sumV (vb (ls iOf n1 f1)) (vb (ls iOf n2 f2)) (decide ((iOf v3)=1)))).length none,r1++r2,[(m,bO (bl (sumV (vb (ls iOf n1 f1)) (vb (ls iOf n2 f2)) (decide ((iOf v3)=1)))))])else none
  | _,_=>none
 | _=>none
theorem sRSum_ok:zm_ Try.prog 155 sRSum:=by
 refine⟨zg_ (by kernel_rfl),fun args h m c v rd wr hs hm hc w0 M β h' w R hrd hwr hst=>?_⟩
 unfold sRSum at hs
 split at hs
 ·rename_i v1 v2 v3
  split at hs
  ·rename_i c1 n1 f1 r1 c2 n2 f2 r2 a1 a2
   obtain⟨hb,hs⟩:=zn_ hs
   simp only[Option.some.injEq,Prod.mk.injEq]at hs
   obtain⟨rfl,rfl,rfl,rfl⟩:=hs
   have b3:=hb
   obtain⟨k1,k2,g1,g2,y1,y2,y3⟩:=hc
   obtain⟨A1,p1,d1,e1,t1⟩:=zp_ R a1 k1 (fun i hi=>hrd i (List.mem_append_left _ hi)) (by omega)
   obtain⟨A2,p2,d2,e2,t2⟩:=zp_ R a2 k2 (fun i hi=>hrd i (List.mem_append_right _ hi)) (by omega)
   refine yb_ (views:=[⟨1,(ls iOf n1 f1).length,zw_ (ls iOf n1 f1),A1,p1⟩,⟨1,(ls iOf n2 f2).length,zw_ (ls iOf n2 f2),A2,p2⟩]) (sum_ok (ls iOf n1 f1) (ls iOf n2 f2) (iOf v3) p1 p2 y1 y2 y3) ?_ R hm hwr ?_ ?_ ?_
   ·exact d22_
   ·intro β1 hv
    simp only[Vd,zc_,and_true]at hv
    obtain⟨z1,z2⟩:=hv
    simp only[denL,z7_,z6_,z5_,zt_,zc_,z1,z2,d1,d2,zo_ b3]
   ·exact yh_
   ·exact yh_
  ·cases hs
 ·cases hs
theorem not_lit (x:BitVec 64)(p1:Nat):zz_ Try.prog 156 [.sl 1 2 [] 1 0 (bl x).length (some p1)] [.gone,.gone,.ro (.arr (bl x).length 1 (zw_ (bl x)))] (.sl 3 3 [] 1 0 (bl (~~~x)).length none) [.gone,.gone,.gone,bO (bl (~~~x))]:=by
 have hlZ:=z8_ (~~~x)
 have l1:=z8_ x
 refine zf_ (fn:=Try.f156) 3 18 0 rfl rfl rfl rfl rfl u5_ rfl fun w0 M E hro=>?_
 repeat' (first|refine Ctl.h ?_ |((with_reducible intro hif);first |(focus (cases hif;done)) |((try simp only[JH]at hif);try exact hy_)) |((with_reducible first|apply J22 zl_ za_|apply J23 fol zl_ za_|apply J24);(·rfl);(· exact k29_);(try kernel_rfl);try exact k9_)|fail)
 refine WF.nilFr (φ2:=[(0,.sl 1 2 [] 1 0 (bl x).length (some p1)),(3,.sl 3 3 [] 1 0 0 none),(4,.nat .i64 0)]) 3 1 (zw_ []) (fun h q=>i64S_st [] h q) rfl ?_ ?_ ?_
 ·refine⟨u1_,⟨_,rfl,fun β h0 hx=>(nilB_cl h0 (show β 3=(none,0) from hx) 1).symm⟩,u1_,trivial⟩
 ·simp[xe_,zb_,hp,HB.born]
 simp only[List.cons_append,List.nil_append]
 have hz:Less (.own 3 (.arr 0 1 (zw_ [])) false) (.own 3 (.arr 0 1 (zw_ ((bl (~~~x)).take 0))) false):=.same _
 refine WF.loopAt (fun (j:Nat)=>j≤64) (fun (j:Nat)=>[(0,.sl 1 2 [] 1 0 (bl x).length (some p1)),(3,.sl 3 3 [] 1 0 j none),(4,.nat .i64 j)]) (fun (j:Nat)=>[.gone,.gone,.ro (.arr (bl x).length 1 (zw_ (bl x))),.own 3 (.arr j 1 (zw_ ((bl (~~~x)).take j))) false]) (fun (j:Nat)=>64 - j) 0 (Nat.zero_le _) ?_ ?_ rfl ?_ ?_ rfl ?_
 ·exact k8_
 ·exact k5_
 ·exact yh_
 ·exact yh_
 intro j hj
 by_cases hjl:j < 64
 ·have hx:=ze_ (x:=x) hjl
  have hTl:((bl (~~~x)).take j).length=j:=by rw[List.length_take];omega
  have hU:=take_snB (l:=bl (~~~x)) (k:=j) (by omega)
  have hb:bI ((~~~x).getLsbD j)=1 - bI (x.getLsbD j):=by rw[BitVec.getLsbD_not];simp only[hjl,decide_true,Bool.true_and];cases x.getLsbD j<;>rfl
  rw[ze_ hjl,hb]at hU
  have b1:=z2_ (x.getLsbD j)
  repeat' (first|refine Ctl.h ?_ |((with_reducible intro hif);first |(focus (cases hif;done)) |((try simp only[JH]at hif);try exact hy_)) |((with_reducible first|apply J22 zl_ za_|apply J23 fol zl_ za_|apply J24);(·rfl);(· (simp only[push_cast,↓JP,Nat.reduceAdd,Nat.reduceEqDiff,Nat.reduceLT,Nat.reduceMul,Nat.reduceLeDiff,reduceCtorEq,reduceIte,hjl,hx,zw_,inR,inN,List.all_cons,List.all_nil];rfl));(try kernel_rfl);try exact k50_)|fail)
  refine At.nextPick [0,1,2,5] (j+1) ?_ rfl rfl rfl ?_ rfl ?_ ?_ ?_ rfl
  ·omega
  ·exact k37_
  ·exact yh_
  ·exact k48_
  ·exact yh_
 ·obtain rfl:j=64:=by omega
  have hTk:(bl (~~~x)).take 64=bl (~~~x):=List.take_of_length_le (by omega)
  repeat' (first|refine Ctl.h ?_ |((with_reducible intro hif);first |(focus (cases hif;done)) |((try simp only[JH]at hif);try exact hy_)) |((with_reducible first|apply J22 zl_ za_|apply J23 fol zl_ za_|apply J24);(·rfl);(· exact k32_);(try kernel_rfl);try exact k9_)|fail)
  apply At.endsPick [0,1,2,3] za_ (fn:=Try.f156) (rs:=[.tmp 2]) Anc.refl hro (lb_ rfl) rfl
  ·exact k28_
  ·exact k39_
  ·rfl
  ·rfl
  ·rfl
  ·exact k47_
  ·rfl
  ·exact yh_
  ·exact k7_
  ·(intro β;rw[hlZ];rfl)
  ·exact yh_
theorem not_ok (k:List Int)(p1:Nat)(h1:k=bl (vb k)):zz_ Try.prog 156 [.sl 1 2 [] 1 0 k.length (some p1)] [.gone,.gone,.ro (.arr k.length 1 (zw_ k))] (.sl 3 3 [] 1 0 (bl (~~~(vb k))).length none) [.gone,.gone,.gone,bO (bl (~~~(vb k)))]:=by
 have h:=not_lit (vb k) p1
 rw[←h1]at h
 exact h
def sRNot:y4_:=fun args h m=>match args with
 | [v1]=>match srcV h 1 (.tup []) v1 with
  | some (c1,n1,f1,r1)=>some (c1∧(∀q,q < n1→isI .i64 (f1 q)=true)∧((ls iOf n1 f1)=bl (vb (ls iOf n1 f1))),.sl m m [] 1 0 (bl (~~~(vb (ls iOf n1 f1)))).length none,r1,[(m,bO (bl (~~~(vb (ls iOf n1 f1)))))])
  | _=>none
 | _=>none
theorem sRNot_ok:zm_ Try.prog 156 sRNot:=by
 refine⟨zg_ (by kernel_rfl),fun args h m c v rd wr hs hm hc w0 M β h' w R hrd hwr hst=>?_⟩
 unfold sRNot at hs
 split at hs
 ·rename_i v1
  split at hs
  ·rename_i c1 n1 f1 r1 a1
   simp only[Option.some.injEq,Prod.mk.injEq]at hs
   obtain⟨rfl,rfl,rfl,rfl⟩:=hs
   obtain⟨k1,g1,y1⟩:=hc
   obtain⟨A1,p1,d1,e1,t1⟩:=zp_ R a1 k1 (fun i hi=>hrd i hi) (by omega)
   refine yb_ (views:=[⟨1,(ls iOf n1 f1).length,zw_ (ls iOf n1 f1),A1,p1⟩]) (not_ok (ls iOf n1 f1) p1 y1) ?_ R hm hwr ?_ ?_ ?_
   ·exact d23_
   ·exact d21_
   ·exact yh_
   ·exact yh_
  ·cases hs
 ·cases hs
theorem mod_next (n j:Nat):n % 2 ^ (j+1)=n % 2 ^ j+(if n.testBit j then 2 ^ j else 0):=by
 rw[Nat.testBit_eq_decide_div_mod_eq,Nat.pow_succ,Nat.mod_mul]
 have h:=Nat.mod_two_eq_zero_or_one (n / 2 ^ j)
 rcases h with h|h
 ·simp[h]
 ·simp[h]
theorem word_lit (x:BitVec 64)(p1:Nat):zz_ Try.prog 154 [.sl 1 2 [] 1 0 (bl x).length (some p1)] [.gone,.gone,.ro (.arr (bl x).length 1 (zw_ (bl x)))] (.int .i64 x.toInt) [.gone]:=by
 have l1:=z8_ x
 have hlt:=x.isLt
 have hz0:x.toNat % 2 ^ 0=0:=Nat.mod_one _
 refine zf_ (fn:=Try.f154) 3 26 0 rfl rfl rfl rfl rfl u5_ rfl fun w0 M E hro=>?_
 repeat' (first|refine Ctl.h ?_ |((with_reducible intro hif);first |(focus (cases hif;done)) |((try simp only[JH]at hif);try exact hy_)) |((with_reducible first|apply J22 zl_ za_|apply J23 fol zl_ za_|apply J24);(·rfl);(· exact k29_);(try kernel_rfl);try exact k9_)|fail)
 refine WF.loopAt (fun (j:Nat)=>j≤63) (fun (j:Nat)=>[(0,.sl 1 2 [] 1 0 (bl x).length (some p1)),(3,.nat .i64 (x.toNat % 2 ^ j)),(4,.nat .i64 j)]) (fun (j:Nat)=>[.gone,.gone,.ro (.arr (bl x).length 1 (zw_ (bl x)))]) (fun (j:Nat)=>63 - j) 0 (Nat.zero_le _) ?_ ?_ rfl ?_ ?_ rfl ?_
 ·((repeat' (first|exact trivial|apply And.intro))<;>(first|rfl |(rw[hz0];rfl)))
 ·exact k5_
 ·exact yh_
 ·exact yh_
 intro j hj
 have hpl:2 ^ j≤2 ^ 63:=Nat.pow_le_pow_right (by decide) hj
 have hmd:x.toNat % 2 ^ j < 2 ^ j:=Nat.mod_lt _ (Nat.pow_pos (by decide))
 have hmn:=mod_next x.toNat j
 rw[BitVec.testBit_toNat]at hmn
 have h63:(2:Nat) ^ 63=9223372036854775808:=by decide
 by_cases hjl:j < 63
 ·have hpl2:2 ^ (j+1)≤2 ^ 63:=Nat.pow_le_pow_right (by decide) (by omega)
  have hp2:2 ^ (j+1)=2*2 ^ j:=by rw[Nat.pow_succ,Nat.mul_comm]
  have hx:=ze_ (x:=x) (show j < 64 by omega)
  cases hb:x.getLsbD j
  ·rw[hb]at hx hmn
   have hx0:(bl x).getD j 0=0:=hx
   have hm2:x.toNat % 2 ^ (j+1)=x.toNat % 2 ^ j:=by simpa using hmn
   repeat' (first|refine Ctl.h ?_ |((with_reducible intro hif);first |(focus (cases hif;done)) |((try simp only[JH]at hif);try exact hy_)) |((with_reducible first|apply J22 zl_ za_|apply J23 fol zl_ za_|apply J24);(·rfl);(· (simp only[push_cast,↓JP,Nat.reduceAdd,Nat.reduceEqDiff,Nat.reduceLT,Nat.reduceMul,Nat.reduceLeDiff,reduceCtorEq,reduceIte,hjl,hx0,zw_,inR,inN];rfl));(try kernel_rfl);try exact k30_)|fail)
   refine At.next (j+1) ?_ ?_ ?_ rfl ?_ ?_ rfl
   ·exact⟨by omega,by omega⟩
   ·((repeat' (first|exact trivial|apply And.intro))<;>(first|rfl |(rw[hm2];rfl)))
   ·exact k5_
   ·exact yh_
   ·exact yh_
  ·rw[hb]at hx hmn
   have hx1:(bl x).getD j 0=1:=hx
   have hm2:x.toNat % 2 ^ (j+1)=x.toNat % 2 ^ j+1*2 ^ j:=by simpa using hmn
   repeat' (first|refine Ctl.h ?_ |((with_reducible intro hif);first |(focus (cases hif;done)) |((try simp only[JH]at hif);try exact hy_)) |((with_reducible first|apply J22 zl_ za_|apply J23 fol zl_ za_|apply J24);(·rfl);(· (simp only[push_cast,↓JP,Nat.reduceAdd,Nat.reduceEqDiff,Nat.reduceLT,Nat.reduceMul,Nat.reduceLeDiff,reduceCtorEq,reduceIte,hjl,hx1,zw_,inR,inN,IntKind.bits];rfl));(try kernel_rfl);(try (focus (first|exact True.intro |((repeat' (first|exact True.intro|apply And.intro|omega|decide |(simp only[IntKind.bits];omega) |(simp only[inN];omega)));done) |((try simp only[JS,implies_true,forall_const,yc_,yf_,kndOf,inR,inN]);(repeat' (first|assumption|exact True.intro|omega|apply And.intro));done)))))|fail)
   refine At.next (j+1) ?_ ?_ ?_ rfl ?_ ?_ rfl
   ·exact⟨by omega,by omega⟩
   ·((repeat' (first|exact trivial|apply And.intro))<;>(first|rfl |(rw[hm2];rfl)))
   ·exact k5_
   ·exact yh_
   ·exact yh_
 ·obtain rfl:j=63:=by omega
  have hx:=ze_ (x:=x) (show 63 < 64 by decide)
  have hti:=BitVec.toInt_eq_toNat_cond x
  have h64:(2:Nat) ^ 64=18446744073709551616:=by decide
  have hm64:x.toNat % 2 ^ (63+1)=x.toNat:=Nat.mod_eq_of_lt hlt
  rw[hm64,h63]at hmn
  rw[h64]at hti hlt
  obtain⟨R,hR⟩:∃R,x.toNat % 9223372036854775808=R:=⟨_,rfl⟩
  rw[hR]at hmn
  rw[h63,hR]at hmd
  cases hb:x.getLsbD 63
  ·rw[hb]at hx hmn
   have hx0:(bl x).getD 63 0=0:=hx
   have hm3:x.toNat=R:=by simpa using hmn
   have e:x.toInt=(R:Int):=by rw[hti,if_pos (by omega),hm3]
   rw[e]
   repeat' (first|refine Ctl.h ?_ |((with_reducible intro hif);first |(focus (cases hif;done)) |((try simp only[JH]at hif);try exact hy_)) |((with_reducible first|apply J22 zl_ za_|apply J23 fol zl_ za_|apply J24);(·rfl);(· (simp only[push_cast,↓JP,Nat.reduceAdd,Nat.reduceEqDiff,Nat.reduceLT,Nat.reduceMul,Nat.reduceLeDiff,reduceCtorEq,reduceIte,hjl,hx0,zw_,inR,inN,h63,hR];rfl));(try kernel_rfl);try exact k30_)|fail)
   apply At.endsRet za_ (fn:=Try.f154) (rs:=[.tmp 2]) Anc.refl hro (lb_ rfl) rfl
   ·exact k28_
   ·exact k4_
   ·exact k5_
   ·rfl
   ·exact yh_
   ·exact k7_
   ·(intro β;first|rfl |(rw[h63,hR];rfl))
   ·exact yh_
  ·rw[hb]at hx hmn
   have hx1:(bl x).getD 63 0=1:=hx
   have hm3:x.toNat=R+9223372036854775808:=by simpa using hmn
   have e:x.toInt=(R:Int) - 9223372036854775807 - 1:=by rw[hti,if_neg (by omega),hm3];omega
   rw[e]
   repeat' (first|refine Ctl.h ?_ |((with_reducible intro hif);first |(focus (cases hif;done)) |((try simp only[JH]at hif);try exact hy_)) |((with_reducible first|apply J22 zl_ za_|apply J23 fol zl_ za_|apply J24);(·rfl);(· (simp only[push_cast,↓JP,Nat.reduceAdd,Nat.reduceEqDiff,Nat.reduceLT,Nat.reduceMul,Nat.reduceLeDiff,reduceCtorEq,reduceIte,hjl,hx1,zw_,inR,inN,h63,hR];rfl));(try kernel_rfl);try exact k30_)|fail)
   apply At.endsRet za_ (fn:=Try.f154) (rs:=[.tmp 2]) Anc.refl hro (lb_ rfl) rfl
   ·exact k28_
   ·exact k4_
   ·exact k5_
   ·rfl
   ·exact yh_
   ·exact k7_
   ·(intro β;first|rfl |(rw[h63,hR];rfl))
   ·exact yh_
theorem word_ok (k:List Int)(p1:Nat)(h1:k=bl (vb k)):zz_ Try.prog 154 [.sl 1 2 [] 1 0 k.length (some p1)] [.gone,.gone,.ro (.arr k.length 1 (zw_ k))] (.int .i64 (vb k).toInt) [.gone]:=by
 have h:=word_lit (vb k) p1
 rw[←h1]at h
 exact h
def sRWord:y4_:=fun args h m=>match args with
 | [v1]=>match srcV h 1 (.tup []) v1 with
  | some (c1,n1,f1,r1)=>some (c1∧(∀q,q < n1→isI .i64 (f1 q)=true)∧((ls iOf n1 f1)=bl (vb (ls iOf n1 f1))),.int .i64 (vb (ls iOf n1 f1)).toInt,r1,[])
  | _=>none
 | _=>none
theorem sRWord_ok:zm_ Try.prog 154 sRWord:=by
 refine⟨zg_ (by kernel_rfl),fun args h m c v rd wr hs hm hc w0 M β h' w R hrd hwr hst=>?_⟩
 unfold sRWord at hs
 split at hs
 ·rename_i v1
  split at hs
  ·rename_i c1 n1 f1 r1 a1
   simp only[Option.some.injEq,Prod.mk.injEq]at hs
   obtain⟨rfl,rfl,rfl,rfl⟩:=hs
   obtain⟨k1,g1,y1⟩:=hc
   obtain⟨A1,p1,d1,e1,t1⟩:=zp_ R a1 k1 (fun i hi=>hrd i hi) (by omega)
   refine yb_ (views:=[⟨1,(ls iOf n1 f1).length,zw_ (ls iOf n1 f1),A1,p1⟩]) (word_ok (ls iOf n1 f1) p1 y1) ?_ R hm hwr ?_ ?_ ?_
   ·exact d23_
   ·exact d21_
   ·exact yh_
   ·exact yh_
  ·cases hs
 ·cases hs
end Go.Proofs.Ytmljmabbopkpiaa.Vm
end
