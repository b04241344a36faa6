import Derived.Test.YtmljmabbopkpiaaC1
import Derived.Test.YtmljmabbopkpiaaC18
set_option linter.unusedSimpArgs false
set_option linter.unusedVariables false
set_option maxRecDepth 100000
set_option maxHeartbeats 4000000
section
namespace Go.Proofs.Ytmljmabbopkpiaa.Vm
open Go.RowKit
attribute [local push_cast] eqB eqBL allB
theorem low_bit (n j:Nat):n % 2 ^ (j+1)=n % 2 ^ j+(if n.testBit j then 2 ^ j else 0):=mod_next n j
theorem ult_at {x y:BitVec 64}{i:Nat}(hi:i < 64)(h:∀q,i < q→q < 64→x.getLsbD q=y.getLsbD q)(hx:x.getLsbD i=false)(hy:y.getLsbD i=true):x.toNat < y.toNat:=by
 have hh:x.toNat / 2 ^ (i+1)=y.toNat / 2 ^ (i+1):=by
  apply Nat.eq_of_testBit_eq
  intro q
  rw[Nat.testBit_div_two_pow,Nat.testBit_div_two_pow,BitVec.testBit_toNat,BitVec.testBit_toNat]
  by_cases hq:q+(i+1) < 64
  ·exact h _ (by omega) hq
  ·rw[BitVec.getLsbD_of_ge x _ (by omega),BitVec.getLsbD_of_ge y _ (by omega)]
 have ex:=Nat.div_add_mod x.toNat (2 ^ (i+1))
 have ey:=Nat.div_add_mod y.toNat (2 ^ (i+1))
 have lx:=low_bit x.toNat i
 have ly:=low_bit y.toNat i
 rw[BitVec.testBit_toNat,hx]at lx
 rw[BitVec.testBit_toNat,hy]at ly
 simp only[Bool.false_eq_true,if_false,if_true,Nat.add_zero]at lx ly
 have mx:x.toNat % 2 ^ i < 2 ^ i:=Nat.mod_lt _ (Nat.pow_pos (by decide))
 rw[hh]at ex
 omega
theorem rless_lit (x y:BitVec 64)(p1 p2:Nat):zz_ Try.prog 165 [.sl 1 2 [] 1 0 (bl x).length (some p1),.sl 3 4 [] 1 0 (bl y).length (some p2)] [.gone,.gone,.ro (.arr (bl x).length 1 (zw_ (bl x))),.gone,.ro (.arr (bl y).length 1 (zw_ (bl y)))] (.bool (decide (x.toNat < y.toNat))) [.gone]:=by
 have l1:=z8_ x
 have l2:=z8_ y
 refine zf_ (fn:=Try.f165) 5 28 0 rfl rfl rfl rfl rfl u5_ rfl fun w0 M E hro=>?_
 repeat' (first|refine Ctl.h ?_ |((with_reducible intro hif);first |(focus (cases hif;done)) |((try simp only[JH]at hif);try exact hy_)) |((with_reducible first|apply J22 zl_ za_|apply J23 fol zl_ za_|apply J24);(·rfl);(· exact k29_);(try kernel_rfl);try exact k9_)|fail)
 refine At.pick (L2:=[.gone,.gone,.ro (.arr (bl x).length 1 (zw_ (bl x))),.gone,.ro (.arr (bl y).length 1 (zw_ (bl y)))]) (φ2:=[(0,.sl 1 2 [] 1 0 (bl x).length (some p1)),(1,.sl 3 4 [] 1 0 (bl y).length (some p2)),(5,.int .i64 (63 - ((0:Nat):Int)))]) [0,1,2,3,4] rfl rfl rfl ?_ rfl ?_ ?_ ?_ rfl ?_
 ·exact k53_
 ·exact yh_
 ·exact k48_
 ·exact yh_
 refine WF.loopAt (fun (k:Nat)=>k≤64∧∀q,64 - k≤q→q < 64→x.getLsbD q=y.getLsbD q) (fun (k:Nat)=>[(0,.sl 1 2 [] 1 0 (bl x).length (some p1)),(1,.sl 3 4 [] 1 0 (bl y).length (some p2)),(5,.int .i64 (63 - (k:Int)))]) (fun (k:Nat)=>[.gone,.gone,.ro (.arr (bl x).length 1 (zw_ (bl x))),.gone,.ro (.arr (bl y).length 1 (zw_ (bl y)))]) (fun (k:Nat)=>64 - k) 0 ⟨Nat.zero_le _,fun q h1 h2=>absurd h2 (by omega)⟩ ?_ ?_ rfl ?_ ?_ rfl ?_
 ·exact k8_
 ·exact k5_
 ·exact yh_
 ·exact yh_
 rintro k ⟨hk,hq⟩
 by_cases hkl:k < 64
 ·have hk0:(0:Int)≤63 - (k:Int):=by omega
  have hkt:(63 - (k:Int)).toNat=63 - k:=by omega
  have hx:=ze_ (x:=x) (i:=63 - k) (by omega)
  have hy:=ze_ (x:=y) (i:=63 - k) (by omega)
  have hden:∀β,(SV.int .i64 (63 - (k:Int) - 1)).den β =(SV.int .i64 (63 - ((k+1:Nat):Int))).den β:=fun β=>by rw[show 63 - (k:Int) - 1=63 - ((k+1:Nat):Int) by omega]
  cases b1:x.getLsbD (63 - k)<;>cases b2:y.getLsbD (63 - k)
  ·rw[b1]at hx
   rw[b2]at hy
   simp only[bI,Bool.false_eq_true,if_false]at hx hy
   repeat' (first|refine Ctl.h ?_ |((with_reducible intro hif);first |(focus (cases hif;done)) |((try simp only[JH]at hif);try exact hy_)) |((with_reducible first|apply J22 zl_ za_|apply J23 fol zl_ za_|apply J24);(·rfl);(· exact k57_);(try kernel_rfl);try exact k30_)|fail)
   refine At.nextPick [0,1,2,3,4] (k+1) ?_ rfl rfl rfl ?_ rfl ?_ ?_ ?_ rfl
   ·exact k54_
   ·exact k53_
   ·exact yh_
   ·exact k38_
   ·exact yh_
  ·have hlt:=ult_at (x:=x) (y:=y) (show 63 - k < 64 by omega) (fun q h1 h2=>hq q (by omega) h2) b1 b2
   rw[decide_eq_true hlt]
   rw[b1]at hx
   rw[b2]at hy
   simp only[bI,Bool.false_eq_true,if_false,if_true]at hx hy
   repeat' (first|refine Ctl.h ?_ |((with_reducible intro hif);first |(focus (cases hif;done)) |((try simp only[JH]at hif);try exact hy_)) |((with_reducible first|apply J22 zl_ za_|apply J23 fol zl_ za_|apply J24);(·rfl);(· exact k57_);(try kernel_rfl);try exact k30_)|fail)
   apply At.endsRet za_ (fn:=Try.f165) (rs:=[.tmp 4]) Anc.refl hro (lb_ rfl) rfl
   ·exact k28_
   ·exact k4_
   ·exact k5_
   ·rfl
   ·exact yh_
   ·exact k7_
   ·exact fun β=>rfl
   ·exact yh_
  ·have hlt:=ult_at (x:=y) (y:=x) (show 63 - k < 64 by omega) (fun q h1 h2=>(hq q (by omega) h2).symm) b2 b1
   rw[decide_eq_false (show ¬x.toNat < y.toNat by omega)]
   rw[b1]at hx
   rw[b2]at hy
   simp only[bI,Bool.false_eq_true,if_false,if_true]at hx hy
   repeat' (first|refine Ctl.h ?_ |((with_reducible intro hif);first |(focus (cases hif;done)) |((try simp only[JH]at hif);try exact hy_)) |((with_reducible first|apply J22 zl_ za_|apply J23 fol zl_ za_|apply J24);(·rfl);(· exact k57_);(try kernel_rfl);try exact k30_)|fail)
   apply At.endsRet za_ (fn:=Try.f165) (rs:=[.tmp 4]) Anc.refl hro (lb_ rfl) rfl
   ·exact k28_
   ·exact k4_
   ·exact k5_
   ·rfl
   ·exact yh_
   ·exact k7_
   ·exact fun β=>rfl
   ·exact yh_
  ·rw[b1]at hx
   rw[b2]at hy
   simp only[bI,if_true]at hx hy
   repeat' (first|refine Ctl.h ?_ |((with_reducible intro hif);first |(focus (cases hif;done)) |((try simp only[JH]at hif);try exact hy_)) |((with_reducible first|apply J22 zl_ za_|apply J23 fol zl_ za_|apply J24);(·rfl);(· exact k57_);(try kernel_rfl);try exact k30_)|fail)
   refine At.nextPick [0,1,2,3,4] (k+1) ?_ rfl rfl rfl ?_ rfl ?_ ?_ ?_ rfl
   ·exact k54_
   ·exact k53_
   ·exact yh_
   ·exact k38_
   ·exact yh_
 ·obtain rfl:k=64:=by omega
  have hxy:x=y:=BitVec.eq_of_getLsbD_eq fun i hi=>hq i (by omega) hi
  have hk0:¬(0:Int)≤63 - ((64:Nat):Int):=by omega
  have e:decide (x.toNat < y.toNat)=false:=by rw[hxy];exact decide_eq_false (Nat.lt_irrefl _)
  rw[e]
  repeat' (first|refine Ctl.h ?_ |((with_reducible intro hif);first |(focus (cases hif;done)) |((try simp only[JH]at hif);try exact hy_)) |((with_reducible first|apply J22 zl_ za_|apply J23 fol zl_ za_|apply J24);(·rfl);(· exact k58_);(try kernel_rfl);try exact k9_)|fail)
  apply At.endsRet za_ (fn:=Try.f165) (rs:=[.tmp 4]) Anc.refl hro (lb_ rfl) rfl
  ·exact k28_
  ·exact k4_
  ·exact k5_
  ·rfl
  ·exact yh_
  ·exact k7_
  ·exact fun β=>rfl
  ·exact yh_
theorem rless_ok (k l:List Int)(p1 p2:Nat)(h1:k=bl (vb k))(h2:l=bl (vb l)):zz_ Try.prog 165 [.sl 1 2 [] 1 0 k.length (some p1),.sl 3 4 [] 1 0 l.length (some p2)] [.gone,.gone,.ro (.arr k.length 1 (zw_ k)),.gone,.ro (.arr l.length 1 (zw_ l))] (.bool (decide ((vb k).toNat < (vb l).toNat))) [.gone]:=by
 have h:=rless_lit (vb k) (vb l) p1 p2
 rw[←h1,←h2]at h
 exact h
def sRLess:y4_:=fun args h m=>match args with
 | [v1,v2]=>match srcV h 1 (.tup []) v1,srcV h 1 (.tup []) v2 with
  | some (c1,n1,f1,r1),some (c2,n2,f2,r2)=>some (c1∧c2∧(∀q,q < n1→isI .i64 (f1 q)=true)∧(∀q,q < n2→isI .i64 (f2 q)=true)∧((ls iOf n1 f1)=bl (vb (ls iOf n1 f1)))∧((ls iOf n2 f2)=bl (vb (ls iOf n2 f2))),.bool (decide ((vb (ls iOf n1 f1)).toNat < (vb (ls iOf n2 f2)).toNat)),r1++r2,[])
  | _,_=>none
 | _=>none
theorem sRLess_ok:zm_ Try.prog 165 sRLess:=by
 refine⟨zg_ (by kernel_rfl),fun args h m c v rd wr hs hm hc w0 M β h' w R hrd hwr hst=>?_⟩
 unfold sRLess at hs
 split at hs
 ·rename_i v1 v2
  split at hs
  ·rename_i c1 n1 f1 r1 c2 n2 f2 r2 a1 a2
   simp only[Option.some.injEq,Prod.mk.injEq]at hs
   obtain⟨rfl,rfl,rfl,rfl⟩:=hs
   obtain⟨k1,k2,g1,g2,y1,y2⟩:=hc
   obtain⟨A1,p1,d1,e1,t1⟩:=zp_ R a1 k1 (fun i hi=>hrd i (List.mem_append_left _ hi)) (by omega)
   obtain⟨A2,p2,d2,e2,t2⟩:=zp_ R a2 k2 (fun i hi=>hrd i (List.mem_append_right _ hi)) (by omega)
   refine yb_ (views:=[⟨1,(ls iOf n1 f1).length,zw_ (ls iOf n1 f1),A1,p1⟩,⟨1,(ls iOf n2 f2).length,zw_ (ls iOf n2 f2),A2,p2⟩]) (rless_ok (ls iOf n1 f1) (ls iOf n2 f2) p1 p2 y1 y2) ?_ R hm hwr ?_ ?_ ?_
   ·exact d22_
   ·exact d25_
   ·exact yh_
   ·exact yh_
  ·cases hs
 ·cases hs
theorem sumV_f (x y:BitVec 64):sumV x y false=x+y:=by simp[sumV]
theorem sumV_neg (x:BitVec 64):sumV (~~~x) 0#64 true = -x:=by
 have:BitVec.setWidth 64 (BitVec.ofBool true)=1#64:=by decide
 rw[sumV,this,BitVec.add_zero,BitVec.neg_eq_not_add]
theorem sumV_sub (x y:BitVec 64):sumV x (~~~y) true=x - y:=by
 have:BitVec.setWidth 64 (BitVec.ofBool true)=1#64:=by decide
 rw[sumV,this,BitVec.add_assoc,←BitVec.neg_eq_not_add,BitVec.sub_eq_add_neg]
def pV (x y:BitVec 64):Nat→BitVec 64
 | 0=>0#64
 | j+1=>pV x y j+(if y.getLsbD j then x <<< j else 0#64)
theorem pV_rec (x y:BitVec 64):∀s,pV x y (s+1)=x.mulRec y s
 | 0=>by simp[pV,BitVec.mulRec]
 | s+1=>by
  rw[BitVec.mulRec_succ_eq,←pV_rec x y s]
  rfl
theorem pV_mul (x y:BitVec 64):pV x y 64=x*y:=by
 rw[BitVec.mul_eq_mulRec,BitVec.mulRec_succ_eq x y 63,←pV_rec x y 63]
 simp
theorem ls_zB:ls iOf 64 (fun _=>SV.nat .i64 0)=bl 0#64:=by decide
theorem ls_i64B (l:List Int):ls iOf l.length (fun q=>zw_ l q)=l:=yu_ l
def cPrd:FuncId→Option y4_:=xz_ [(162,sRUp),(155,sRSum)]
theorem cPrd_ok:∀f S,cPrd f=some S→zm_ Try.prog f S:=z0_ ⟨sRUp_ok,sRSum_ok,trivial⟩
theorem prod_lit (x y:BitVec 64)(p1 p2:Nat):zz_ Try.prog 157 [.sl 1 2 [] 1 0 (bl x).length (some p1),.sl 3 4 [] 1 0 (bl y).length (some p2)] [.gone,.gone,.ro (.arr (bl x).length 1 (zw_ (bl x))),.gone,.ro (.arr (bl y).length 1 (zw_ (bl y)))] (.sl 5 5 [] 1 0 (bl (x*y)).length none) [.gone,.gone,.gone,.gone,.gone,bO (bl (x*y))]:=by
 have l1:=z8_ x
 have l2:=z8_ y
 refine zf_ (fn:=Try.f157) 5 23 0 rfl rfl rfl rfl rfl u5_ rfl fun w0 M E hro=>?_
 repeat' (first|refine Ctl.h ?_ |((with_reducible intro hif);first |(focus (cases hif;done)) |((try simp only[JH]at hif);try exact hy_)) |((with_reducible first|apply J22 cPrd_ok za_|apply J23 fol cPrd_ok za_|apply J24);(·rfl);(· exact k29_);(try kernel_rfl);try exact k9_)|fail)
 refine WF.put 5 (.own 3 (.arr 64 1 fun _=>.nat .i64 0) false) .loose (fun q=>trivial) rfl rfl ?_
 simp only[setH]
 have hz:Less (.own 3 (.arr 64 1 fun _=>.nat .i64 0) false) (bO (bl (pV x y 0))):=less_arB (σ:=id) 0#64 fun β q hq=>by simp[bI];rfl
 refine WF.loopAt (fun (j:Nat)=>j≤64) (fun (j:Nat)=>[(0,.sl 1 2 [] 1 0 (bl x).length (some p1)),(1,.sl 3 4 [] 1 0 (bl y).length (some p2)),(5,.sl 5 5 [] 1 0 (bl (pV x y j)).length none),(6,.nat .i64 j)]) (fun (j:Nat)=>[.gone,.gone,.ro (.arr (bl x).length 1 (zw_ (bl x))),.gone,.ro (.arr (bl y).length 1 (zw_ (bl y))),bO (bl (pV x y j))]) (fun (j:Nat)=>64 - j) 0 (Nat.zero_le _) ?_ ?_ rfl ?_ ?_ rfl ?_
 ·((repeat' (first|exact trivial|apply And.intro))<;>(first|rfl |(rw[z8_];rfl)))
 ·exact k5_
 ·exact yh_
 ·exact yh_
 intro j hj
 have l3:=z8_ (pV x y j)
 by_cases hjl:j < 64
 ·have hy:=ze_ (x:=y) hjl
  cases b2:y.getLsbD j
  ·rw[b2]at hy
   simp only[bI,Bool.false_eq_true,if_false]at hy
   have e:pV x y (j+1)=pV x y j:=by rw[pV,b2];simp
   repeat' (first|refine Ctl.h ?_ |((with_reducible intro hif);first |(focus (cases hif;done)) |((try simp only[JH]at hif);try exact hy_)) |((with_reducible first|apply J22 cPrd_ok za_|apply J23 fol cPrd_ok za_|apply J24);(·rfl);(· (simp only[push_cast,↓JP,Nat.reduceAdd,Nat.reduceEqDiff,Nat.reduceLT,Nat.reduceMul,Nat.reduceLeDiff,reduceCtorEq,reduceIte,cPrd,sRUp,sRSum,bO,hjl,hy,zw_,inR,inN];rfl));(try kernel_rfl);try exact k30_)|fail)
   refine At.nextPick [0,1,2,3,4,5] (j+1) ?_ rfl rfl rfl ?_ rfl ?_ ?_ ?_ rfl
   ·omega
   ·exact k55_
   ·exact yh_
   ·exact k56_
   ·exact yh_
  ·rw[b2]at hy
   simp only[bI,if_true]at hy
   have e:pV x y (j+1)=pV x y j+x <<< j:=by rw[pV,b2];simp
   have ed:decide ((0:Int)=1)=false:=rfl
   repeat' (first|refine Ctl.h ?_ |((with_reducible intro hif);first |(focus (cases hif;done)) |((try simp only[JH]at hif);try exact hy_)) |((with_reducible first|apply J22 cPrd_ok za_|apply J23 fol cPrd_ok za_|apply J24);(·rfl);(· (simp only[push_cast,↓JP,Nat.reduceAdd,Nat.reduceEqDiff,Nat.reduceLT,Nat.reduceMul,Nat.reduceLeDiff,reduceCtorEq,reduceIte,cPrd,sRUp,sRSum,bO,hjl,hy,yz_,yy_,iOf,yu_,yl_,ls_i64B,vb_bl,sumV_f,ed,Int.toNat_natCast,nat_zero_i,inR,inN];rfl));(try kernel_rfl);try exact k59_)|fail)
   refine At.nextPick [0,1,2,3,4,7] (j+1) ?_ rfl rfl rfl ?_ rfl ?_ ?_ ?_ rfl
   ·omega
   ·exact k55_
   ·exact yh_
   ·exact k56_
   ·exact yh_
 ·obtain rfl:j=64:=by omega
  repeat' (first|refine Ctl.h ?_ |((with_reducible intro hif);first |(focus (cases hif;done)) |((try simp only[JH]at hif);try exact hy_)) |((with_reducible first|apply J22 cPrd_ok za_|apply J23 fol cPrd_ok za_|apply J24);(·rfl);(· exact k32_);(try kernel_rfl);try exact k9_)|fail)
  apply At.endsPick [0,1,2,3,4,5] za_ (fn:=Try.f157) (rs:=[.tmp 4]) Anc.refl hro (lb_ rfl) rfl
  ·exact k28_
  ·exact k39_
  ·rfl
  ·rfl
  ·rfl
  ·(repeat' (first|exact trivial|exact .inl rfl|exact .inr (.same _)|exact .inr .loose|exact .inr (.arr (by assumption))|apply And.intro |(rw[←pV_mul];exact .inr (.same _))))
  ·rfl
  ·exact yh_
  ·exact k7_
  ·(intro β;rw[←pV_mul];rfl)
  ·exact yh_
theorem prod_ok (k l:List Int)(p1 p2:Nat)(h1:k=bl (vb k))(h2:l=bl (vb l)):zz_ Try.prog 157 [.sl 1 2 [] 1 0 k.length (some p1),.sl 3 4 [] 1 0 l.length (some p2)] [.gone,.gone,.ro (.arr k.length 1 (zw_ k)),.gone,.ro (.arr l.length 1 (zw_ l))] (.sl 5 5 [] 1 0 (bl (vb k*vb l)).length none) [.gone,.gone,.gone,.gone,.gone,bO (bl (vb k*vb l))]:=by
 have h:=prod_lit (vb k) (vb l) p1 p2
 rw[←h1,←h2]at h
 exact h
def sRProd:y4_:=fun args h m=>match args with
 | [v1,v2]=>match srcV h 1 (.tup []) v1,srcV h 1 (.tup []) v2 with
  | some (c1,n1,f1,r1),some (c2,n2,f2,r2)=>some (c1∧c2∧(∀q,q < n1→isI .i64 (f1 q)=true)∧(∀q,q < n2→isI .i64 (f2 q)=true)∧((ls iOf n1 f1)=bl (vb (ls iOf n1 f1)))∧((ls iOf n2 f2)=bl (vb (ls iOf n2 f2))),.sl m m [] 1 0 (bl (vb (ls iOf n1 f1)*vb (ls iOf n2 f2))).length none,r1++r2,[(m,bO (bl (vb (ls iOf n1 f1)*vb (ls iOf n2 f2))))])
  | _,_=>none
 | _=>none
theorem sRProd_ok:zm_ Try.prog 157 sRProd:=by
 refine⟨zg_ (by kernel_rfl),fun args h m c v rd wr hs hm hc w0 M β h' w R hrd hwr hst=>?_⟩
 unfold sRProd at hs
 split at hs
 ·rename_i v1 v2
  split at hs
  ·rename_i c1 n1 f1 r1 c2 n2 f2 r2 a1 a2
   simp only[Option.some.injEq,Prod.mk.injEq]at hs
   obtain⟨rfl,rfl,rfl,rfl⟩:=hs
   obtain⟨k1,k2,g1,g2,y1,y2⟩:=hc
   obtain⟨A1,p1,d1,e1,t1⟩:=zp_ R a1 k1 (fun i hi=>hrd i (List.mem_append_left _ hi)) (by omega)
   obtain⟨A2,p2,d2,e2,t2⟩:=zp_ R a2 k2 (fun i hi=>hrd i (List.mem_append_right _ hi)) (by omega)
   refine yb_ (views:=[⟨1,(ls iOf n1 f1).length,zw_ (ls iOf n1 f1),A1,p1⟩,⟨1,(ls iOf n2 f2).length,zw_ (ls iOf n2 f2),A2,p2⟩]) (prod_ok (ls iOf n1 f1) (ls iOf n2 f2) p1 p2 y1 y2) ?_ R hm hwr ?_ ?_ ?_
   ·exact d22_
   ·exact d25_
   ·exact yh_
   ·exact yh_
  ·cases hs
 ·cases hs
def amV (a:Int):BitVec 64:=if a < 0 then -(BitVec.ofInt 64 a)else BitVec.ofInt 64 a
def cAmt:FuncId→Option y4_:=xz_ [(153,sRBits),(156,sRNot),(155,sRSum),(154,sRWord)]
theorem cAmt_ok:∀f S,cAmt f=some S→zm_ Try.prog f S:=z0_ ⟨sRBits_ok,sRNot_ok,sRSum_ok,sRWord_ok,trivial⟩
theorem amt_lit (a:Int)(h0:-9223372036854775808≤a)(h1:a≤9223372036854775807):zz_ Try.prog 159 [.int .i64 a] [.gone] (.sl 1 1 [] 1 0 (bl (amV a)).length none) [.gone,bO (bl (amV a))]:=by
 have ed:decide ((1:Int)=1)=true:=rfl
 by_cases hn:a < 0
 ·have e:amV a = -(BitVec.ofInt 64 a):=if_pos hn
  rw[e]
  refine zf_ (fn:=Try.f159) 1 12 0 rfl rfl rfl rfl rfl u5_ rfl fun w0 M E hro=>?_
  repeat' (first|refine Ctl.h ?_ |((with_reducible intro hif);first |(focus (cases hif;done)) |((try simp only[JH]at hif);try exact hy_)) |((with_reducible first|apply J22 cAmt_ok za_|apply J23 fol cAmt_ok za_|apply J24);(·rfl);(· (simp only[push_cast,↓JP,Nat.reduceAdd,Nat.reduceEqDiff,Nat.reduceLT,Nat.reduceMul,Nat.reduceLeDiff,reduceCtorEq,reduceIte,cAmt,sRBits,sRNot,sRSum,bO,hn,yz_,yy_,iOf,yu_,yl_,ls_i64B,ls_zB,vb_bl,sumV_neg,ed,nat_one_i,inR,inN];rfl));(try kernel_rfl);try exact k59_)|fail)
  apply At.endsPick [0,4] za_ (fn:=Try.f159) (rs:=[.tmp 2]) Anc.refl hro (lb_ rfl) rfl
  ·exact k28_
  ·exact k39_
  ·rfl
  ·rfl
  ·rfl
  ·exact k53_
  ·rfl
  ·exact yh_
  ·exact k7_
  ·exact fun β=>rfl
  ·exact yh_
 ·have e:amV a=BitVec.ofInt 64 a:=if_neg hn
  rw[e]
  refine zf_ (fn:=Try.f159) 1 12 0 rfl rfl rfl rfl rfl u5_ rfl fun w0 M E hro=>?_
  repeat' (first|refine Ctl.h ?_ |((with_reducible intro hif);first |(focus (cases hif;done)) |((try simp only[JH]at hif);try exact hy_)) |((with_reducible first|apply J22 cAmt_ok za_|apply J23 fol cAmt_ok za_|apply J24);(·rfl);(· (simp only[push_cast,↓JP,Nat.reduceAdd,Nat.reduceEqDiff,Nat.reduceLT,Nat.reduceMul,Nat.reduceLeDiff,reduceCtorEq,reduceIte,cAmt,sRBits,sRNot,sRSum,bO,hn,yz_,yy_,iOf,yu_,yl_,ls_i64B,vb_bl,inR,inN];rfl));(try kernel_rfl);try exact k59_)|fail)
  apply At.endsPick [0,1] za_ (fn:=Try.f159) (rs:=[.tmp 2]) Anc.refl hro (lb_ rfl) rfl
  ·exact k28_
  ·exact k39_
  ·rfl
  ·rfl
  ·rfl
  ·exact k53_
  ·rfl
  ·exact yh_
  ·exact k7_
  ·exact fun β=>rfl
  ·exact yh_
def sRAmt:y4_:=fun args h m=>match args with
 | [v1]=>bif isI .i64 v1 then some ((-9223372036854775808≤(iOf v1))∧((iOf v1)≤9223372036854775807),.sl m m [] 1 0 (bl (amV (iOf v1))).length none,[],[(m,bO (bl (amV (iOf v1))))])else none
 | _=>none
theorem sRAmt_ok:zm_ Try.prog 159 sRAmt:=by
 refine⟨zg_ (by kernel_rfl),fun args h m c v rd wr hs hm hc w0 M β h' w R hrd hwr hst=>?_⟩
 unfold sRAmt at hs
 split at hs
 ·rename_i v1
  obtain⟨hb,hs⟩:=zn_ hs
  simp only[Option.some.injEq,Prod.mk.injEq]at hs
  obtain⟨rfl,rfl,rfl,rfl⟩:=hs
  have b1:=hb
  obtain⟨y1,y2⟩:=hc
  refine yb_ (views:=[]) (amt_lit (iOf v1) y1 y2) ?_ R hm hwr ?_ ?_ ?_
  ·intro x hx;cases hx
  ·intro β1 hv
   simp only[denL,z7_,z6_,z5_,zt_,zc_,zo_ b1]
  ·exact yh_
  ·exact yh_
 ·cases hs
theorem neg_lit (x:BitVec 64)(b:Bool)(p1:Nat):zz_ Try.prog 160 [.sl 1 2 [] 1 0 (bl x).length (some p1),.bool b] [.gone,.gone,.ro (.arr (bl x).length 1 (zw_ (bl x)))] (.int .i64 (if b then -x else x).toInt) [.gone]:=by
 have ed:decide ((1:Int)=1)=true:=rfl
 cases b
 ·rw[if_neg (by decide)]
  refine zf_ (fn:=Try.f160) 3 13 0 rfl rfl rfl rfl rfl u5_ rfl fun w0 M E hro=>?_
  repeat' (first|refine Ctl.h ?_ |((with_reducible intro hif);first |(focus (cases hif;done)) |((try simp only[JH]at hif);try exact hy_)) |((with_reducible first|apply J22 cAmt_ok za_|apply J23 fol cAmt_ok za_|apply J24);(·rfl);(· (simp only[push_cast,↓JP,Nat.reduceAdd,Nat.reduceEqDiff,Nat.reduceLT,Nat.reduceMul,Nat.reduceLeDiff,reduceCtorEq,reduceIte,cAmt,sRBits,sRNot,sRSum,sRWord,bO,yz_,yy_,iOf,yu_,yl_,ls_i64B,vb_bl,inR,inN];rfl));(try kernel_rfl);try exact k59_)|fail)
  apply At.endsRet za_ (fn:=Try.f160) (rs:=[.tmp 4]) Anc.refl hro (lb_ rfl) rfl
  ·exact k28_
  ·exact k4_
  ·exact k5_
  ·rfl
  ·exact yh_
  ·exact k7_
  ·exact fun β=>rfl
  ·exact yh_
 ·rw[if_pos rfl]
  refine zf_ (fn:=Try.f160) 3 13 0 rfl rfl rfl rfl rfl u5_ rfl fun w0 M E hro=>?_
  repeat' (first|refine Ctl.h ?_ |((with_reducible intro hif);first |(focus (cases hif;done)) |((try simp only[JH]at hif);try exact hy_)) |((with_reducible first|apply J22 cAmt_ok za_|apply J23 fol cAmt_ok za_|apply J24);(·rfl);(· (simp only[push_cast,↓JP,Nat.reduceAdd,Nat.reduceEqDiff,Nat.reduceLT,Nat.reduceMul,Nat.reduceLeDiff,reduceCtorEq,reduceIte,cAmt,sRBits,sRNot,sRSum,sRWord,bO,yz_,yy_,iOf,yu_,yl_,ls_i64B,ls_zB,vb_bl,sumV_neg,ed,nat_one_i,inR,inN];rfl));(try kernel_rfl);try exact k59_)|fail)
  apply At.endsRet za_ (fn:=Try.f160) (rs:=[.tmp 4]) Anc.refl hro (lb_ rfl) rfl
  ·exact k28_
  ·exact k4_
  ·exact k5_
  ·rfl
  ·exact yh_
  ·exact k7_
  ·exact fun β=>rfl
  ·exact yh_
theorem neg_ok (k:List Int)(b:Bool)(p1:Nat)(h1:k=bl (vb k)):zz_ Try.prog 160 [.sl 1 2 [] 1 0 k.length (some p1),.bool b] [.gone,.gone,.ro (.arr k.length 1 (zw_ k))] (.int .i64 (if b then -(vb k)else vb k).toInt) [.gone]:=by
 have h:=neg_lit (vb k) b p1
 rw[←h1]at h
 exact h
def sRNeg:y4_:=fun args h m=>match args with
 | [v1,.bool v2]=>match srcV h 1 (.tup []) v1 with
  | some (c1,n1,f1,r1)=>some (c1∧(∀q,q < n1→isI .i64 (f1 q)=true)∧((ls iOf n1 f1)=bl (vb (ls iOf n1 f1))),.int .i64 (if v2 then -(vb (ls iOf n1 f1))else vb (ls iOf n1 f1)).toInt,r1,[])
  | _=>none
 | _=>none
theorem sRNeg_ok:zm_ Try.prog 160 sRNeg:=by
 refine⟨zg_ (by kernel_rfl),fun args h m c v rd wr hs hm hc w0 M β h' w R hrd hwr hst=>?_⟩
 unfold sRNeg at hs
 split at hs
 ·rename_i v1 v2
  split at hs
  ·rename_i c1 n1 f1 r1 a1
   simp only[Option.some.injEq,Prod.mk.injEq]at hs
   obtain⟨rfl,rfl,rfl,rfl⟩:=hs
   obtain⟨k1,g1,y1⟩:=hc
   obtain⟨A1,p1,d1,e1,t1⟩:=zp_ R a1 k1 (fun i hi=>hrd i hi) (by omega)
   refine yb_ (views:=[⟨1,(ls iOf n1 f1).length,zw_ (ls iOf n1 f1),A1,p1⟩]) (neg_ok (ls iOf n1 f1) v2 p1 y1) ?_ R hm hwr ?_ ?_ ?_
   ·exact d23_
   ·exact d21_
   ·exact yh_
   ·exact yh_
  ·cases hs
 ·cases hs
end Go.Proofs.Ytmljmabbopkpiaa.Vm
end
section
namespace Go.Proofs.Ytmljmabbopkpiaa.Vm
open Go.RowKit
theorem div_step (A B i:Nat)(hB:0 < B):(A / 2 ^ i) % B=(if B≤2*((A / 2 ^ (i+1)) % B)+(A / 2 ^ i) % 2 then 2*((A / 2 ^ (i+1)) % B)+(A / 2 ^ i) % 2 - B else 2*((A / 2 ^ (i+1)) % B)+(A / 2 ^ i) % 2) ∧
  (A / B).testBit i=decide (B≤2*((A / 2 ^ (i+1)) % B)+(A / 2 ^ i) % 2):=by
 have e1:A / 2 ^ (i+1)=A / 2 ^ i / 2:=by rw[Nat.pow_succ,Nat.div_div_eq_div_mul]
 have e2:A / B / 2 ^ i=A / 2 ^ i / B:=by rw[Nat.div_div_eq_div_mul,Nat.div_div_eq_div_mul,Nat.mul_comm]
 obtain⟨M,hM⟩:∃M,A / 2 ^ i=M:=⟨_,rfl⟩
 rw[Nat.testBit_eq_decide_div_mod_eq,e2,e1,hM]
 obtain⟨N,hN⟩:∃N,M / 2=N:=⟨_,rfl⟩
 rw[hN]
 have hMN:=Nat.div_add_mod M 2
 rw[hN]at hMN
 obtain⟨c,hc⟩:∃c,M % 2=c:=⟨_,rfl⟩
 have hc2:c < 2:=by rw[←hc];exact Nat.mod_lt _ (by decide)
 rw[hc]at hMN ⊢
 have hNq:=Nat.div_add_mod N B
 have hr:=Nat.mod_lt N hB
 obtain⟨q,hq⟩:∃q,N / B=q:=⟨_,rfl⟩
 obtain⟨r,hr'⟩:∃r,N % B=r:=⟨_,rfl⟩
 rw[hq,hr']at hNq
 rw[hr']at hr ⊢
 have hMe:M=B*(2*q)+(2*r+c):=by
  rw[←hMN,←hNq,Nat.mul_add,Nat.mul_left_comm];omega
 by_cases h:B≤2*r+c
 ·have hMe2:M=(2*r+c - B)+B*(2*q+1):=by rw[hMe,Nat.mul_add];omega
  rw[if_pos h,hMe2,Nat.add_mul_mod_self_left,Nat.mod_eq_of_lt (by omega),Nat.add_mul_div_left _ _ hB,Nat.div_eq_of_lt (by omega)]
  exact⟨rfl,by rw[decide_eq_true h];exact decide_eq_true (by omega)⟩
 ·have hMe2:M=(2*r+c)+B*(2*q):=by rw[hMe];omega
  rw[if_neg h,hMe2,Nat.add_mul_mod_self_left,Nat.mod_eq_of_lt (by omega),Nat.add_mul_div_left _ _ hB,Nat.div_eq_of_lt (by omega)]
  exact⟨rfl,by rw[decide_eq_false h];exact decide_eq_false (by omega)⟩
theorem dbl_bit (r c q:Nat)(hc:c < 2)(hq:q < 64):(BitVec.ofNat 64 (2*r+c)).getLsbD q=if q=0 then decide (c=1)else(BitVec.ofNat 64 r <<< 1).getLsbD q:=by
 rw[BitVec.getLsbD_shiftLeft,BitVec.getLsbD_ofNat]
 by_cases h:q=0
 ·subst h
  rw[if_pos rfl]
  have:(2*r+c).testBit 0=decide (c=1):=by
   rw[Nat.testBit_zero]
   simp only[decide_eq_decide]
   omega
  simp[this]
 ·rw[if_neg h]
  obtain⟨p,rfl⟩:∃p,q=p+1:=⟨q - 1,by omega⟩
  rw[Nat.testBit_succ,show (2*r+c) / 2=r by omega]
  have h1:¬p+1 < 1:=by omega
  have h2:p < 64:=by omega
  simp only[hq,h1,decide_true,decide_false,Bool.not_false,Bool.true_and,Nat.add_sub_cancel,BitVec.getLsbD_ofNat,h2]
theorem top_bit {r:Nat}(hr:r < 2 ^ 64):(BitVec.ofNat 64 r).getLsbD 63=decide (2 ^ 63≤r):=by
 rw[BitVec.getLsbD_ofNat,Nat.testBit_eq_decide_div_mod_eq]
 have h63:(2:Nat) ^ 63=9223372036854775808:=by decide
 have h64:(2:Nat) ^ 64=18446744073709551616:=by decide
 rw[h64]at hr
 rw[h63]
 simp only[show (63 < 64)=True from eq_true (by decide),decide_true,Bool.true_and,decide_eq_decide]
 omega
theorem div_test {r c:Nat}{b:BitVec 64}(hr:r < b.toNat)(hc:c < 2):(decide (2 ^ 63≤r) || !decide ((BitVec.ofNat 64 (2*r+c)).toNat < b.toNat))=decide (b.toNat≤2*r+c):=by
 have hb:=b.isLt
 have h63:(2:Nat) ^ 63=9223372036854775808:=by decide
 have h64:(2:Nat) ^ 64=18446744073709551616:=by decide
 rw[BitVec.toNat_ofNat,h64,h63]
 rw[h64]at hb
 by_cases h:9223372036854775808≤r
 ·rw[decide_eq_true h,decide_eq_true (show b.toNat≤2*r+c by omega)];rfl
 ·rw[decide_eq_false h,Nat.mod_eq_of_lt (by omega)]
  by_cases h2:2*r+c < b.toNat
  ·rw[decide_eq_true h2,decide_eq_false (by omega)];rfl
  ·rw[decide_eq_false h2,decide_eq_true (by omega)];rfl
theorem div_sub {r c:Nat}{b:BitVec 64}(hr:r < b.toNat)(hc:c < 2)(h:b.toNat≤2*r+c):BitVec.ofNat 64 (2*r+c) - b=BitVec.ofNat 64 (2*r+c - b.toNat):=by
 apply BitVec.eq_of_toNat_eq
 have hb:=b.isLt
 have h64:(2:Nat) ^ 64=18446744073709551616:=by decide
 rw[BitVec.toNat_sub,BitVec.toNat_ofNat,BitVec.toNat_ofNat,h64]
 rw[h64]at hb
 omega
end Go.Proofs.Ytmljmabbopkpiaa.Vm
end
