import Derived.Test.YtmljmabbopkpiaaC1
import Derived.Test.YtmljmabbopkpiaaC11
import Derived.Test.YtmljmabbopkpiaaC31
set_option linter.unusedSimpArgs false
set_option linter.unusedVariables false
set_option maxRecDepth 100000
set_option maxHeartbeats 4000000
section
namespace Go.Proofs.Ytmljmabbopkpiaa.Vm
open Go.RowKit
attribute [local push_cast] eqB eqBL allB
theorem eqZ_lit (xs ys:List Int)(p1 p2:Nat)(hx:xs.length≤281474976710656):zz_ Try.prog 53 [.sl 1 2 [] 1 0 xs.length (some p1),.sl 3 4 [] 1 0 ys.length (some p2)] [.gone,.gone,.ro (.arr xs.length 1 (zw_ xs)),.gone,.ro (.arr ys.length 1 (zw_ ys))] (.bool (eqL xs ys)) [.gone]:=by
 refine zf_ (fn:=Try.f53) 5 26 0 rfl rfl rfl rfl rfl u3_ rfl fun w0 M E hro=>?_
 repeat' (first|refine Ctl.h ?_ |((with_reducible intro hif);first |(focus (cases hif;done)) |((try simp only[JH]at hif);try exact hy_)) |((with_reducible first|apply J22 zl_ za_|apply J23 fol zl_ za_|apply J24);(·rfl);(· exact k29_);(try kernel_rfl);try exact k9_)|fail)
 ·have hne:xs≠ys:=fun e=>hif (by rw[e])
  apply At.endsRet za_ (fn:=Try.f53) (rs:=[.tmp 4]) Anc.refl hro (lb_ rfl) rfl
  ·exact k28_
  ·exact k4_
  ·exact k5_
  ·rfl
  ·exact k27_
  ·exact k7_
  ·rw[eqL_false hne];exact fun β=>rfl
  ·exact k27_
 ·refine WF.loopAt (fun j=>j≤xs.length∧∀q,q < j→xs.getD q 0=ys.getD q 0) (fun j=>[(0,.sl 1 2 [] 1 0 xs.length (some p1)),(1,.sl 3 4 [] 1 0 ys.length (some p2)),(12,.nat .i64 xs.length),(13,.nat .i64 j)]) (fun j=>[.gone,.gone,.ro (.arr xs.length 1 (zw_ xs)),.gone,.ro (.arr ys.length 1 (zw_ ys))]) (fun j=>xs.length - j) 0 ⟨Nat.zero_le _,fun q hq=>absurd hq (Nat.not_lt_zero q)⟩ ?_ ?_ rfl ?_ ?_ rfl ?_
  ·exact k8_
  ·exact k5_
  ·exact k27_
  ·exact k27_
  have hlen:=hif
  rintro j ⟨hj,heq⟩
  repeat' (first|refine Ctl.h ?_ |((with_reducible intro hif);first |(focus (cases hif;done)) |((try simp only[JH]at hif);try exact hy_)) |((with_reducible first|apply J22 zl_ za_|apply J23 fol zl_ za_|apply J24);(·rfl);(· (simp only[push_cast,↓JP,Nat.reduceAdd,Nat.reduceEqDiff,Nat.reduceLT,Nat.reduceMul,Nat.reduceLeDiff,reduceCtorEq,reduceIte,zw_,zw_,inN];rfl));(try kernel_rfl);try exact k85_)|fail)
  ·have hne:xs≠ys:=by rintro rfl;simp at hif
   apply At.endsRet za_ (fn:=Try.f53) (rs:=[.tmp 4]) Anc.refl hro (lb_ rfl) rfl
   ·exact k28_
   ·exact k4_
   ·exact k5_
   ·rfl
   ·exact k27_
   ·exact k7_
   ·rw[eqL_false hne];exact fun β=>rfl
   ·exact k27_
  ·have hq:xs.getD j 0=ys.getD j 0:=hif
   refine At.next (j+1) ?_ ?_ ?_ rfl ?_ ?_ rfl
   ·exact k142_
   ·exact k8_
   ·exact k5_
   ·exact k27_
   ·exact k27_
  ·have hjn:j=xs.length:=by omega
   subst hjn
   have he:xs=ys:=ext_getD 0 hlen heq
   apply At.endsRet za_ (fn:=Try.f53) (rs:=[.tmp 4]) Anc.refl hro (lb_ rfl) rfl
   ·exact k28_
   ·exact k4_
   ·exact k5_
   ·rfl
   ·exact k27_
   ·exact k7_
   ·rw[eqL_true he];exact fun β=>rfl
   ·exact k27_
def sEqZ:y4_:=fun args h m=>match args with
 | [v1,v2]=>match srcV h 1 (.tup []) v1,srcV h 1 (.tup []) v2 with
  | some (c1,n1,f1,r1),some (c2,n2,f2,r2)=>some (c1∧c2∧(∀q,q < n1→isI .i64 (f1 q)=true)∧(∀q,q < n2→isI .i64 (f2 q)=true)∧((ls iOf n1 f1).length≤281474976710656),.bool (eqL (ls iOf n1 f1) (ls iOf n2 f2)),r1++r2,[])
  | _,_=>none
 | _=>none
theorem sEqZ_ok:zm_ Try.prog 53 sEqZ:=by
 refine⟨zg_ (by kernel_rfl),fun args h m c v rd wr hs hm hc w0 M β h' w R hrd hwr hst=>?_⟩
 unfold sEqZ at hs
 split at hs
 ·rename_i v1 v2
  split at hs
  ·rename_i c1 n1 f1 r1 c2 n2 f2 r2 a1 a2
   simp only[Option.some.injEq,Prod.mk.injEq]at hs
   obtain⟨rfl,rfl,rfl,rfl⟩:=hs
   obtain⟨k1,k2,g1,g2,y1⟩:=hc
   obtain⟨A1,p1,d1,e1,t1⟩:=zp_ R a1 k1 (fun i hi=>hrd i (List.mem_append_left _ hi)) (by omega)
   obtain⟨A2,p2,d2,e2,t2⟩:=zp_ R a2 k2 (fun i hi=>hrd i (List.mem_append_right _ hi)) (by omega)
   refine yb_ (views:=[⟨1,(ls iOf n1 f1).length,zw_ (ls iOf n1 f1),A1,p1⟩,⟨1,(ls iOf n2 f2).length,zw_ (ls iOf n2 f2),A2,p2⟩]) (eqZ_lit (ls iOf n1 f1) (ls iOf n2 f2) p1 p2 y1) ?_ R hm hwr ?_ ?_ ?_
   ·exact d22_
   ·exact d25_
   ·exact k27_
   ·exact k27_
  ·cases hs
 ·cases hs
theorem eqIns_lit (xs ys:List Ins)(p1 p2:Nat)(hx:xs.length≤281474976710656):zz_ Try.prog 71 [.sl 1 2 [] 5 0 xs.length (some p1),.sl 3 4 [] 5 0 ys.length (some p2)] [.gone,.gone,.ro (.arr xs.length 5 (prS xs)),.gone,.ro (.arr ys.length 5 (prS ys))] (.bool (eqL xs ys)) [.gone]:=by
 refine zf_ (fn:=Try.f71) 5 26 0 rfl rfl rfl rfl rfl u3_ rfl fun w0 M E hro=>?_
 repeat' (first|refine Ctl.h ?_ |((with_reducible intro hif);first |(focus (cases hif;done)) |((try simp only[JH]at hif);try exact hy_)) |((with_reducible first|apply J22 zl_ za_|apply J23 fol zl_ za_|apply J24);(·rfl);(· exact k29_);(try kernel_rfl);try exact k9_)|fail)
 ·have hne:xs≠ys:=fun e=>hif (by rw[e])
  apply At.endsRet za_ (fn:=Try.f71) (rs:=[.tmp 4]) Anc.refl hro (lb_ rfl) rfl
  ·exact k28_
  ·exact k4_
  ·exact k5_
  ·rfl
  ·exact k27_
  ·exact k7_
  ·rw[eqL_false hne];exact fun β=>rfl
  ·exact k27_
 ·refine WF.loopAt (fun j=>j≤xs.length∧∀q,q < j→xs.getD q ⟨0,0,0,0,0⟩=ys.getD q ⟨0,0,0,0,0⟩) (fun j=>[(0,.sl 1 2 [] 5 0 xs.length (some p1)),(1,.sl 3 4 [] 5 0 ys.length (some p2)),(12,.nat .i64 xs.length),(13,.nat .i64 j)]) (fun j=>[.gone,.gone,.ro (.arr xs.length 5 (prS xs)),.gone,.ro (.arr ys.length 5 (prS ys))]) (fun j=>xs.length - j) 0 ⟨Nat.zero_le _,fun q hq=>absurd hq (Nat.not_lt_zero q)⟩ ?_ ?_ rfl ?_ ?_ rfl ?_
  ·exact k8_
  ·exact k5_
  ·exact k27_
  ·exact k27_
  have hlen:=hif
  rintro j ⟨hj,heq⟩
  repeat' (first|refine Ctl.h ?_ |((with_reducible intro hif);first |(focus (cases hif;done)) |((try simp only[JH]at hif);try exact hy_)) |((with_reducible first|apply J22 zl_ za_|apply J23 fol zl_ za_|apply J24);(·rfl);(· (simp only[push_cast,↓JP,Nat.reduceAdd,Nat.reduceEqDiff,Nat.reduceLT,Nat.reduceMul,Nat.reduceLeDiff,reduceCtorEq,reduceIte,prS,insS,inN];rfl));(try kernel_rfl);try exact k85_)|fail)
  ·have hne:xs≠ys:=by rintro rfl;simp at hif
   apply At.endsRet za_ (fn:=Try.f71) (rs:=[.tmp 4]) Anc.refl hro (lb_ rfl) rfl
   ·exact k28_
   ·exact k4_
   ·exact k5_
   ·rfl
   ·exact k27_
   ·exact k7_
   ·rw[eqL_false hne];exact fun β=>rfl
   ·exact k27_
  ·have hq:xs.getD j ⟨0,0,0,0,0⟩=ys.getD j ⟨0,0,0,0,0⟩:=ins_ext (of_decide_eq_true hif.1) (of_decide_eq_true hif.2.1) (of_decide_eq_true hif.2.2.1) (of_decide_eq_true hif.2.2.2.1) (of_decide_eq_true hif.2.2.2.2)
   refine At.next (j+1) ?_ ?_ ?_ rfl ?_ ?_ rfl
   ·exact k142_
   ·exact k8_
   ·exact k5_
   ·exact k27_
   ·exact k27_
  ·have hjn:j=xs.length:=by omega
   subst hjn
   have he:xs=ys:=ext_getD ⟨0,0,0,0,0⟩ hlen heq
   apply At.endsRet za_ (fn:=Try.f71) (rs:=[.tmp 4]) Anc.refl hro (lb_ rfl) rfl
   ·exact k28_
   ·exact k4_
   ·exact k5_
   ·rfl
   ·exact k27_
   ·exact k7_
   ·rw[eqL_true he];exact fun β=>rfl
   ·exact k27_
def sEqIns:y4_:=fun args h m=>match args with
 | [v1,v2]=>match srcV h 5 (.tup []) v1,srcV h 5 (.tup []) v2 with
  | some (c1,n1,f1,r1),some (c2,n2,f2,r2)=>some (c1∧c2∧(∀q,q < n1→xt_ (f1 q)=true)∧(∀q,q < n2→xt_ (f2 q)=true)∧((ls zd_ n1 f1).length≤281474976710656),.bool (eqL (ls zd_ n1 f1) (ls zd_ n2 f2)),r1++r2,[])
  | _,_=>none
 | _=>none
theorem sEqIns_ok:zm_ Try.prog 71 sEqIns:=by
 refine⟨zg_ (by kernel_rfl),fun args h m c v rd wr hs hm hc w0 M β h' w R hrd hwr hst=>?_⟩
 unfold sEqIns at hs
 split at hs
 ·rename_i v1 v2
  split at hs
  ·rename_i c1 n1 f1 r1 c2 n2 f2 r2 a1 a2
   simp only[Option.some.injEq,Prod.mk.injEq]at hs
   obtain⟨rfl,rfl,rfl,rfl⟩:=hs
   obtain⟨k1,k2,g1,g2,y1⟩:=hc
   obtain⟨A1,p1,d1,e1,t1⟩:=zp_ R a1 k1 (fun i hi=>hrd i (List.mem_append_left _ hi)) (by omega)
   obtain⟨A2,p2,d2,e2,t2⟩:=zp_ R a2 k2 (fun i hi=>hrd i (List.mem_append_right _ hi)) (by omega)
   refine yb_ (views:=[⟨5,(ls zd_ n1 f1).length,prS (ls zd_ n1 f1),A1,p1⟩,⟨5,(ls zd_ n2 f2).length,prS (ls zd_ n2 f2),A2,p2⟩]) (eqIns_lit (ls zd_ n1 f1) (ls zd_ n2 f2) p1 p2 y1) ?_ R hm hwr ?_ ?_ ?_
   ·intro x hx
    simp only[List.mem_cons,List.not_mem_nil,or_false]at hx
    rcases hx with rfl|rfl
    ·exact y2_ t1 e1 g1
    ·exact y2_ t2 e2 g2
   ·exact d25_
   ·exact k27_
   ·exact k27_
  ·cases hs
 ·cases hs
end Go.Proofs.Ytmljmabbopkpiaa.Vm
end
section
namespace Go.Proofs.Ytmljmabbopkpiaa.Vm
open Go.RowKit
def P1:List Ins:=[⟨3,3,0,0,5⟩,⟨5,4,3,0,0⟩,⟨1,0,0,0,0⟩]
def P2:List Ins:=[⟨10,3,0,0,2⟩,⟨5,0,3,0,0⟩,⟨1,0,0,0,0⟩]
def P3:List Ins:=[⟨3,1,0,0,0⟩,⟨36,2,0,1,0⟩,⟨5,0,0,0,0⟩,⟨1,0,0,0,0⟩]
def P4:List Ins:=[⟨3,0,0,0,3⟩,⟨8,0,1,0,2⟩,⟨1,0,0,0,0⟩]
def P5:List Ins:=[⟨3,3,0,0,1⟩,⟨33,3,3,3,0⟩,⟨10,0,0,0,1⟩,⟨1,0,0,0,0⟩]
theorem p1_eq:([⟨3,3,0,0,5⟩,⟨5,4,3,0,0⟩,⟨1,0,0,0,0⟩]:List Ins)=P1:=rfl
theorem p2_eq:([⟨10,3,0,0,2⟩,⟨5,0,3,0,0⟩,⟨1,0,0,0,0⟩]:List Ins)=P2:=rfl
theorem p3_eq:([⟨3,1,0,0,0⟩,⟨36,2,0,1,0⟩,⟨5,0,0,0,0⟩,⟨1,0,0,0,0⟩]:List Ins)=P3:=rfl
theorem p4_eq:([⟨3,0,0,0,3⟩,⟨8,0,1,0,2⟩,⟨1,0,0,0,0⟩]:List Ins)=P4:=rfl
theorem p5_eq:([⟨3,3,0,0,1⟩,⟨33,3,3,3,0⟩,⟨10,0,0,0,1⟩,⟨1,0,0,0,0⟩]:List Ins)=P5:=rfl
theorem p1_len:P1.length=3:=rfl
theorem p2_len:P2.length=3:=rfl
theorem p3_len:P3.length=4:=rfl
theorem p4_len:P4.length=3:=rfl
theorem p5_len:P5.length=4:=rfl
def okB (i:Ins):Bool:=decide (0≤i.op) && (decide (i.op≤255) && (decide (0≤i.a) && (decide (i.a≤255) && (decide (0≤i.b) && (decide (i.b≤255) && (decide (0≤i.c) && (decide (i.c≤255) && (decide (-9223372036854775808≤i.n) && decide (i.n≤9223372036854775807)))))))))
theorem okB_ok {p:List Ins}(h:p.all okB=true):∀x∈p,x.ok:=fun x hx=>by
 have:=List.all_eq_true.1 h x hx
 simp only[okB,Bool.and_eq_true,decide_eq_true_eq]at this
 obtain⟨h0,h1,h2,h3,h4,h5,h6,h7,h8,h9⟩:=this
 exact⟨h0,h1,h2,h3,h4,h5,h6,h7,h8,h9⟩
theorem p1_ok:∀x∈P1,x.ok:=okB_ok rfl
theorem p2_ok:∀x∈P2,x.ok:=okB_ok rfl
theorem p3_ok:∀x∈P3,x.ok:=okB_ok rfl
theorem p4_ok:∀x∈P4,x.ok:=okB_ok rfl
theorem p5_ok:∀x∈P5,x.ok:=okB_ok rfl
theorem p1_chk:(zu_ P1).2=0:=by kernel_rfl
theorem p2_chk:(zu_ P2).2=0:=by kernel_rfl
theorem p3_chk:(zu_ P3).2=0:=by kernel_rfl
theorem p4_chk:(zu_ P4).2=0:=by kernel_rfl
theorem p5_chk:(zu_ P5).2=0:=by kernel_rfl
theorem a1:chkR P1 (zr_ P1) 5 0 1=(1,172):=by kernel_rfl
theorem a2:chkR P1 (zr_ P1) 6 0 1=(-1,0):=by kernel_rfl
theorem a3:zq_ P1 (zr_ P1) 3=(6,0):=by kernel_rfl
theorem a4:yw_ P2 (zr_ P2) 0 0 1 3=[]:=by kernel_rfl
theorem a5:yw_ P3 (zr_ P3) 0 0 1 3=[1]:=by kernel_rfl
theorem a5':yw_ P3 (zr_ P3) 0 0 1 4=[1]:=by kernel_rfl
theorem a6:whyR P3 0 0 1 1=(131,0):=by kernel_rfl
theorem a7:ftB (zs_ (zr_ P3) 2) F0=true:=by kernel_rfl
theorem a8:chkR P4 (zr_ P4) 0 2 4=(1,173):=by kernel_rfl
theorem a9:chkR P4 (zr_ P4) 0 3 4=(1,174):=by kernel_rfl
theorem a10:(zs_ (zr_ P5) 1).reached=true:=by kernel_rfl
theorem a11:((zs_ (zr_ P5) 1).regs 3).is_=false:=by kernel_rfl
theorem a12:(zs_ (zr_ P5) 1).regs 4=⟨true,0⟩:=by kernel_rfl
end Go.Proofs.Ytmljmabbopkpiaa.Vm
end
