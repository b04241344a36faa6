import Derived.Test.YtmljmabbopkpiaaC1
import Derived.Test.YtmljmabbopkpiaaC8
import Derived.Test.YtmljmabbopkpiaaC9
import Derived.Test.YtmljmabbopkpiaaC11
set_option linter.unusedSimpArgs false
set_option linter.unusedVariables false
set_option maxRecDepth 100000
set_option maxHeartbeats 4000000
section
namespace Go.Proofs.Ytmljmabbopkpiaa.Vm
open Go.RowKit
attribute [local push_cast] eqB eqBL allB
def sGoes:y4_:=fun args h m=>match args with
 | [v1]=>bif xt_ v1 then some (((zd_ v1).ok),.bool (goesB (zd_ v1)),[],[])else none
 | _=>none
theorem sGoes_ok:zm_ Try.prog 99 sGoes:=by
 refine⟨zg_ (by kernel_rfl),fun args h m c v rd wr hs hm hc w0 M β h' w R hrd hwr hst=>?_⟩
 unfold sGoes at hs
 split at hs
 ·rename_i v1
  obtain⟨hb,hs⟩:=zn_ hs
  simp only[Option.some.injEq,Prod.mk.injEq]at hs
  obtain⟨rfl,rfl,rfl,rfl⟩:=hs
  have b1:=hb
  have y1:=hc
  simp only[denL,z7_,z6_,z5_,zt_,den_insOf b1]
  exact(goes_c (zd_ v1) y1 w).mono fun e w' he=>post_read R u2_ rfl he.1 he.2
 ·cases hs
def xc_:y4_:=fun args h m=>match args with
 | [v1]=>bif xt_ v1 then some (((zd_ v1).ok),.tup [.int .i64 (targV (zd_ v1)),.bool (xj_ (zd_ v1))],[],[])else none
 | _=>none
theorem sTarget_ok:zm_ Try.prog 98 xc_:=by
 refine⟨zg_ (by kernel_rfl),fun args h m c v rd wr hs hm hc w0 M β h' w R hrd hwr hst=>?_⟩
 unfold xc_ at hs
 split at hs
 ·rename_i v1
  obtain⟨hb,hs⟩:=zn_ hs
  simp only[Option.some.injEq,Prod.mk.injEq]at hs
  obtain⟨rfl,rfl,rfl,rfl⟩:=hs
  have b1:=hb
  have y1:=hc
  simp only[denL,z7_,z6_,z5_,zt_,den_insOf b1]
  exact(target_c (zd_ v1) y1 w).mono fun e w' he=>post_read R u2_ rfl he.1 he.2
 ·cases hs
end Go.Proofs.Ytmljmabbopkpiaa.Vm
end
section
namespace Go.Proofs.Ytmljmabbopkpiaa.Vm
open Go.RowKit
def sApply:y4_:=fun args h m=>match args with
 | [v1,v2,v3]=>bif isI .u8 v1 && isI .i64 v2 && isI .i64 v3 then some (True,.tup [.int .i64 (ye_ (iOf v1) (iOf v2) (iOf v3)),.int .i64 (z9_ (iOf v1) (iOf v3))],[],[])else none
 | _=>none
theorem sApply_ok:zm_ Try.prog 29 sApply:=by
 refine⟨zg_ (by kernel_rfl),fun args h m c v rd wr hs hm hc w0 M β h' w R hrd hwr hst=>?_⟩
 unfold sApply at hs
 split at hs
 ·rename_i v1 v2 v3
  obtain⟨hb,hs⟩:=zn_ hs
  simp only[Option.some.injEq,Prod.mk.injEq]at hs
  obtain⟨rfl,rfl,rfl,rfl⟩:=hs
  simp only[Bool.and_eq_true]at hb
  obtain⟨⟨b1,b2⟩,b3⟩:=hb
  simp only[denL,z7_,z6_,z5_,zt_,zo_ b1,zo_ b2,zo_ b3]
  exact(apply_c (iOf v1) (iOf v2) (iOf v3) w).mono fun e w' he=>post_read R u2_ rfl he.1 he.2
 ·cases hs
end Go.Proofs.Ytmljmabbopkpiaa.Vm
end
section
open Go.Proofs.Ytmljmabbopkpiaa.Vm Go.RowKit
attribute [local push_cast] eqB eqBL allB prS sndsS zw_ nav_ins xs_ xr_ xq_ xp_ xo_ nav_snd xn_ xm_ xl_ yo_ yi_ yv_ yq_ yz_ yy_ iOf nav_k nav_k0 nav_k1 nav_ka nav_kai nav_ft nav_ft0 nav_ft1 isKn_kS knOf_kS isKa_kaS kaOf_kaS isFt_ftS ftOf_ftS setp_ka setp_ftk setp_ftr setp_fti evm_ins evm_snd evm_k evm_ka evm_ft
section
namespace Go.Proofs.Ytmljmabbopkpiaa.Vm
open Go.RowKit
def noCk:FuncId→Option y4_:=xz_ []
theorem y3_:∀f S,noCk f=some S→zm_ Try.prog f S:=fun f S h=>by cases h
theorem cdiv_lit (i:Ins):zz_ Try.prog 103 [insS i] [.gone] (.bool (divB i.op)) [.gone]:=by
 refine zf_ (fn:=Try.f103) 1 16 0 rfl rfl rfl rfl rfl (by simp only[zh_,zb_,hp];simp[HB.born,insS,zb_,zh_]) rfl fun w0 M E hro=>?_
 by_cases h1:i.op=36
 ·have e:divB i.op=true:=by simp[divB,h1]
  rw[e]
  repeat' (first|refine Ctl.h ?_ |((with_reducible intro hif);first |(focus (cases hif;done)) |((try simp only[JH]at hif);try exact hy_)) |((with_reducible first|apply J22 y3_ za_|apply J23 fol y3_ za_|apply J24);(·rfl);(· (simp only[push_cast,↓JP,Nat.reduceAdd,Nat.reduceEqDiff,Nat.reduceLT,Nat.reduceMul,Nat.reduceLeDiff,reduceCtorEq,reduceIte,↓JK,↓JF,h1];rfl));(try kernel_rfl);try exact k9_)|fail)
  apply At.endsRet za_ (fn:=Try.f103) (rs:=[.tmp 2]) Anc.refl hro (lb_ rfl) rfl
  ·exact k3_
  ·exact k4_
  ·exact k5_
  ·rfl
  ·exact k6_
  ·exact k7_
  ·exact fun β=>rfl
  ·exact k6_
 ·by_cases h2:i.op=37
  ·have e:divB i.op=true:=by simp[divB,h2]
   rw[e]
   repeat' (first|refine Ctl.h ?_ |((with_reducible intro hif);first |(focus (cases hif;done)) |((try simp only[JH]at hif);try exact hy_)) |((with_reducible first|apply J22 y3_ za_|apply J23 fol y3_ za_|apply J24);(·rfl);(· (simp only[push_cast,↓JP,Nat.reduceAdd,Nat.reduceEqDiff,Nat.reduceLT,Nat.reduceMul,Nat.reduceLeDiff,reduceCtorEq,reduceIte,↓JK,↓JF,h2];rfl));(try kernel_rfl);try exact k9_)|fail)
   apply At.endsRet za_ (fn:=Try.f103) (rs:=[.tmp 2]) Anc.refl hro (lb_ rfl) rfl
   ·exact k3_
   ·exact k4_
   ·exact k5_
   ·rfl
   ·exact k6_
   ·exact k7_
   ·exact fun β=>rfl
   ·exact k6_
  ·by_cases h3:i.op=38
   ·have e:divB i.op=true:=by simp[divB,h3]
    rw[e]
    repeat' (first|refine Ctl.h ?_ |((with_reducible intro hif);first |(focus (cases hif;done)) |((try simp only[JH]at hif);try exact hy_)) |((with_reducible first|apply J22 y3_ za_|apply J23 fol y3_ za_|apply J24);(·rfl);(· (simp only[push_cast,↓JP,Nat.reduceAdd,Nat.reduceEqDiff,Nat.reduceLT,Nat.reduceMul,Nat.reduceLeDiff,reduceCtorEq,reduceIte,↓JK,↓JF,h3];rfl));(try kernel_rfl);try exact k9_)|fail)
    apply At.endsRet za_ (fn:=Try.f103) (rs:=[.tmp 2]) Anc.refl hro (lb_ rfl) rfl
    ·exact k3_
    ·exact k4_
    ·exact k5_
    ·rfl
    ·exact k6_
    ·exact k7_
    ·exact fun β=>rfl
    ·exact k6_
   ·have e:divB i.op=false:=by simp[divB,h1,h2,h3]
    rw[e]
    repeat' (first|refine Ctl.h ?_ |((with_reducible intro hif);first |(focus (cases hif;done)) |((try simp only[JH]at hif);try exact hy_)) |((with_reducible first|apply J22 y3_ za_|apply J23 fol y3_ za_|apply J24);(·rfl);(· (simp only[push_cast,↓JP,Nat.reduceAdd,Nat.reduceEqDiff,Nat.reduceLT,Nat.reduceMul,Nat.reduceLeDiff,reduceCtorEq,reduceIte,↓JK,↓JF,h1,h2,h3];rfl));(try kernel_rfl);try exact k9_)|fail)
    apply At.endsRet za_ (fn:=Try.f103) (rs:=[.tmp 2]) Anc.refl hro (lb_ rfl) rfl
    ·exact k3_
    ·exact k4_
    ·exact k5_
    ·rfl
    ·exact k6_
    ·exact k7_
    ·exact fun β=>rfl
    ·exact k6_
def sDiv:y4_:=fun args h m=>match args with
 | [v1]=>bif xt_ v1 then some (True,.bool (divB (zd_ v1).op),[],[])else none
 | _=>none
theorem sDiv_ok:zm_ Try.prog 103 sDiv:=by
 refine⟨zg_ (by kernel_rfl),fun args h m c v rd wr hs hm hc w0 M β h' w R hrd hwr hst=>?_⟩
 unfold sDiv at hs
 split at hs
 ·rename_i v1
  obtain⟨hb,hs⟩:=zn_ hs
  simp only[Option.some.injEq,Prod.mk.injEq]at hs
  obtain⟨rfl,rfl,rfl,rfl⟩:=hs
  have b1:=hb
  refine yb_ (views:=[]) (cdiv_lit (zd_ v1)) ?_ R hm hwr ?_ ?_ ?_
  ·intro x hx;cases hx
  ·exact d18_
  ·exact k6_
  ·exact k6_
 ·cases hs
def cRes:FuncId→Option y4_:=xz_ [(103,sDiv),(29,sApply)]
theorem xv_:∀f S,cRes f=some S→zm_ Try.prog f S:=z0_ ⟨sDiv_ok,sApply_ok,trivial⟩
theorem result_lit (i:Ins)(r:Nat→Kn)(hi:i.ok)(hb:i.b < 8)(hc:i.c < 8):zz_ Try.prog 126 [insS i,kaS r] [.gone] (.tup [kS (resK i r).1,.bool (resK i r).2]) [.gone]:=by
 refine zf_ (fn:=Try.f126) 1 71 0 rfl rfl rfl rfl rfl (by simp only[zh_,zb_,hp];simp[HB.born,insS,kaS,kS,zb_,zh_]) rfl fun w0 M E hro=>?_
 obtain⟨o0,o1,a0,a1,b0,b1,c0,c1,n0,n1⟩:=hi
 have hbn:i.b.toNat < 8:=by omega
 have hcn:i.c.toNat < 8:=by omega
 by_cases h3:i.op=3
 ·have e:resK i r=(⟨true,i.n⟩,true):=by unfold resK;rw[if_pos h3]
  rw[e]
  repeat' (first|refine Ctl.h ?_ |((with_reducible intro hif);first |(focus (cases hif;done)) |((try simp only[JH]at hif);try exact hy_)) |((with_reducible first|apply J22 xv_ za_|apply J23 fol xv_ za_|apply J24);(·rfl);(· (simp only[push_cast,↓JP,Nat.reduceAdd,Nat.reduceEqDiff,Nat.reduceLT,Nat.reduceMul,Nat.reduceLeDiff,reduceCtorEq,reduceIte,↓JK,↓JF,cRes,h3,inN,inR];rfl));(try kernel_rfl);try exact xx_)|fail)
  apply At.endsRet za_ (fn:=Try.f126) (rs:=[.cell 4 41,.tmp 5]) Anc.refl hro (lb_ rfl) rfl
  ·exact k3_
  ·exact k4_
  ·exact k5_
  ·rfl
  ·exact k6_
  ·exact k7_
  ·exact fun β=>rfl
  ·exact k6_
 by_cases h4:i.op=4
 ·have e:resK i r=(r i.b.toNat,true):=by unfold resK;rw[if_neg h3,if_pos h4]
  rw[e]
  repeat' (first|refine Ctl.h ?_ |((with_reducible intro hif);first |(focus (cases hif;done)) |((try simp only[JH]at hif);try exact hy_)) |((with_reducible first|apply J22 xv_ za_|apply J23 fol xv_ za_|apply J24);(·rfl);(· (simp only[push_cast,↓JP,Nat.reduceAdd,Nat.reduceEqDiff,Nat.reduceLT,Nat.reduceMul,Nat.reduceLeDiff,reduceCtorEq,reduceIte,↓JK,↓JF,cRes,h3,h4,inN,inR];rfl));(try kernel_rfl);try exact xx_)|fail)
  apply At.endsRet za_ (fn:=Try.f126) (rs:=[.cell 4 41,.tmp 5]) Anc.refl hro (lb_ rfl) rfl
  ·exact k3_
  ·exact k4_
  ·exact k5_
  ·rfl
  ·exact k6_
  ·exact k7_
  ·exact fun β=>rfl
  ·exact k6_
 by_cases h32:i.op≤32
 ·have e:resK i r=(K0,true):=by unfold resK;rw[if_neg h3,if_neg h4,if_pos h32]
  rw[e]
  repeat' (first|refine Ctl.h ?_ |((with_reducible intro hif);first |(focus (cases hif;done)) |((try simp only[JH]at hif);try exact hy_)) |((with_reducible first|apply J22 xv_ za_|apply J23 fol xv_ za_|apply J24);(·rfl);(· (simp only[push_cast,↓JP,Nat.reduceAdd,Nat.reduceEqDiff,Nat.reduceLT,Nat.reduceMul,Nat.reduceLeDiff,reduceCtorEq,reduceIte,↓JK,↓JF,cRes,h3,h4,h32,inN,inR];rfl));(try kernel_rfl);try exact xx_)|fail)
  apply At.endsRet za_ (fn:=Try.f126) (rs:=[.cell 4 41,.tmp 5]) Anc.refl hro (lb_ rfl) rfl
  ·exact k3_
  ·exact k4_
  ·exact k5_
  ·rfl
  ·exact k6_
  ·exact k7_
  ·exact fun β=>rfl
  ·exact k6_
 by_cases hd:divB i.op=true∧r i.c.toNat=⟨true,0⟩
 ·have e:resK i r=(K0,false):=by unfold resK;rw[if_neg h3,if_neg h4,if_neg h32,if_pos hd]
  rw[e]
  repeat' (first|refine Ctl.h ?_ |((with_reducible intro hif);first |(focus (cases hif;done)) |((try simp only[JH]at hif);try exact hy_)) |((with_reducible first|apply J22 xv_ za_|apply J23 fol xv_ za_|apply J24);(·rfl);(· (simp only[push_cast,↓JP,Nat.reduceAdd,Nat.reduceEqDiff,Nat.reduceLT,Nat.reduceMul,Nat.reduceLeDiff,reduceCtorEq,reduceIte,↓JK,↓JF,cRes,sDiv,h3,h4,h32,hd.1,hd.2,↓kn_eqZ,inN,inR];rfl));(try kernel_rfl);try exact xx_)|fail)
  apply At.endsRet za_ (fn:=Try.f126) (rs:=[.cell 4 41,.tmp 5]) Anc.refl hro (lb_ rfl) rfl
  ·exact k3_
  ·exact k4_
  ·exact k5_
  ·rfl
  ·exact k6_
  ·exact k7_
  ·exact fun β=>rfl
  ·exact k6_
 have hdz:divB i.op=true→(r i.c.toNat).is_=true→(r i.c.toNat).n≠0:=fun h1 h2 h3=>hd ⟨h1,by rw[←h2,←h3]⟩
 have q1:resK i r=if (r i.b.toNat).is_=false∨(r i.c.toNat).is_=false then(K0,true)else(⟨z9_ (i.op - 32) (r i.c.toNat).n == 0,ye_ (i.op - 32) (r i.b.toNat).n (r i.c.toNat).n⟩,z9_ (i.op - 32) (r i.c.toNat).n == 0):=by
  unfold resK;rw[if_neg h3,if_neg h4,if_neg h32,if_neg hd]
 cases hdv:divB i.op<;>cases hb1:(r i.b.toNat).is_<;>cases hc1:(r i.c.toNat).is_
 ·-- false false false
  have e:resK i r=(K0,true):=by rw[q1,if_pos (by simp[hb1,hc1])]
  rw[e]
  repeat' (first|refine Ctl.h ?_ |((with_reducible intro hif);first |(focus (cases hif;done)) |((try simp only[JH]at hif);try exact hy_)) |((with_reducible first|apply J22 xv_ za_|apply J23 fol xv_ za_|apply J24);(·rfl);(· exact k11_);(try kernel_rfl);try exact xx_)|fail)
  apply At.endsRet za_ (fn:=Try.f126) (rs:=[.cell 4 41,.tmp 5]) Anc.refl hro (lb_ rfl) rfl
  ·exact k3_
  ·exact k4_
  ·exact k5_
  ·rfl
  ·exact k6_
  ·exact k7_
  ·exact fun β=>rfl
  ·exact k6_
 ·-- false false true
  have e:resK i r=(K0,true):=by rw[q1,if_pos (by simp[hb1,hc1])]
  rw[e]
  repeat' (first|refine Ctl.h ?_ |((with_reducible intro hif);first |(focus (cases hif;done)) |((try simp only[JH]at hif);try exact hy_)) |((with_reducible first|apply J22 xv_ za_|apply J23 fol xv_ za_|apply J24);(·rfl);(· exact k11_);(try kernel_rfl);try exact xx_)|fail)
  apply At.endsRet za_ (fn:=Try.f126) (rs:=[.cell 4 41,.tmp 5]) Anc.refl hro (lb_ rfl) rfl
  ·exact k3_
  ·exact k4_
  ·exact k5_
  ·rfl
  ·exact k6_
  ·exact k7_
  ·exact fun β=>rfl
  ·exact k6_
 ·-- false true false
  have e:resK i r=(K0,true):=by rw[q1,if_pos (by simp[hb1,hc1])]
  rw[e]
  repeat' (first|refine Ctl.h ?_ |((with_reducible intro hif);first |(focus (cases hif;done)) |((try simp only[JH]at hif);try exact hy_)) |((with_reducible first|apply J22 xv_ za_|apply J23 fol xv_ za_|apply J24);(·rfl);(· exact k11_);(try kernel_rfl);try exact xx_)|fail)
  apply At.endsRet za_ (fn:=Try.f126) (rs:=[.cell 4 41,.tmp 5]) Anc.refl hro (lb_ rfl) rfl
  ·exact k3_
  ·exact k4_
  ·exact k5_
  ·rfl
  ·exact k6_
  ·exact k7_
  ·exact fun β=>rfl
  ·exact k6_
 ·-- false true true
  have e:resK i r=(⟨decide (z9_ (i.op - 32) (r i.c.toNat).n=0),ye_ (i.op - 32) (r i.b.toNat).n (r i.c.toNat).n⟩,decide (z9_ (i.op - 32) (r i.c.toNat).n=0)):=by rw[q1,if_neg (by simp[hb1,hc1])];rfl
  rw[e]
  repeat' (first|refine Ctl.h ?_ |((with_reducible intro hif);first |(focus (cases hif;done)) |((try simp only[JH]at hif);try exact hy_)) |((with_reducible first|apply J22 xv_ za_|apply J23 fol xv_ za_|apply J24);(·rfl);(· exact k11_);(try kernel_rfl);try exact xx_)|fail)
  apply At.endsRet za_ (fn:=Try.f126) (rs:=[.cell 4 41,.tmp 5]) Anc.refl hro (lb_ rfl) rfl
  ·exact k3_
  ·exact k4_
  ·exact k5_
  ·rfl
  ·exact k6_
  ·exact k7_
  ·exact fun β=>rfl
  ·exact k6_
 ·-- true false false
  have e:resK i r=(K0,true):=by rw[q1,if_pos (by simp[hb1,hc1])]
  rw[e]
  repeat' (first|refine Ctl.h ?_ |((with_reducible intro hif);first |(focus (cases hif;done)) |((try simp only[JH]at hif);try exact hy_)) |((with_reducible first|apply J22 xv_ za_|apply J23 fol xv_ za_|apply J24);(·rfl);(· exact k11_);(try kernel_rfl);try exact xx_)|fail)
  apply At.endsRet za_ (fn:=Try.f126) (rs:=[.cell 4 41,.tmp 5]) Anc.refl hro (lb_ rfl) rfl
  ·exact k3_
  ·exact k4_
  ·exact k5_
  ·rfl
  ·exact k6_
  ·exact k7_
  ·exact fun β=>rfl
  ·exact k6_
 ·-- true false true
  have e:resK i r=(K0,true):=by rw[q1,if_pos (by simp[hb1,hc1])]
  rw[e]
  have hn0:=hdz hdv hc1
  repeat' (first|refine Ctl.h ?_ |((with_reducible intro hif);first |(focus (cases hif;done)) |((try simp only[JH]at hif);try exact hy_)) |((with_reducible first|apply J22 xv_ za_|apply J23 fol xv_ za_|apply J24);(·rfl);(· exact k12_);(try kernel_rfl);try exact xx_)|fail)
  apply At.endsRet za_ (fn:=Try.f126) (rs:=[.cell 4 41,.tmp 5]) Anc.refl hro (lb_ rfl) rfl
  ·exact k3_
  ·exact k4_
  ·exact k5_
  ·rfl
  ·exact k6_
  ·exact k7_
  ·exact fun β=>rfl
  ·exact k6_
 ·-- true true false
  have e:resK i r=(K0,true):=by rw[q1,if_pos (by simp[hb1,hc1])]
  rw[e]
  repeat' (first|refine Ctl.h ?_ |((with_reducible intro hif);first |(focus (cases hif;done)) |((try simp only[JH]at hif);try exact hy_)) |((with_reducible first|apply J22 xv_ za_|apply J23 fol xv_ za_|apply J24);(·rfl);(· exact k11_);(try kernel_rfl);try exact xx_)|fail)
  apply At.endsRet za_ (fn:=Try.f126) (rs:=[.cell 4 41,.tmp 5]) Anc.refl hro (lb_ rfl) rfl
  ·exact k3_
  ·exact k4_
  ·exact k5_
  ·rfl
  ·exact k6_
  ·exact k7_
  ·exact fun β=>rfl
  ·exact k6_
 ·-- true true true
  have e:resK i r=(⟨decide (z9_ (i.op - 32) (r i.c.toNat).n=0),ye_ (i.op - 32) (r i.b.toNat).n (r i.c.toNat).n⟩,decide (z9_ (i.op - 32) (r i.c.toNat).n=0)):=by rw[q1,if_neg (by simp[hb1,hc1])];rfl
  rw[e]
  have hn0:=hdz hdv hc1
  repeat' (first|refine Ctl.h ?_ |((with_reducible intro hif);first |(focus (cases hif;done)) |((try simp only[JH]at hif);try exact hy_)) |((with_reducible first|apply J22 xv_ za_|apply J23 fol xv_ za_|apply J24);(·rfl);(· exact k12_);(try kernel_rfl);try exact xx_)|fail)
  apply At.endsRet za_ (fn:=Try.f126) (rs:=[.cell 4 41,.tmp 5]) Anc.refl hro (lb_ rfl) rfl
  ·exact k3_
  ·exact k4_
  ·exact k5_
  ·rfl
  ·exact k6_
  ·exact k7_
  ·exact fun β=>rfl
  ·exact k6_
def xh_:y4_:=fun args h m=>match args with
 | [v1,v2]=>bif xt_ v1 && isKa v2 then some (((zd_ v1).ok)∧((zd_ v1).b < 8)∧((zd_ v1).c < 8),.tup [kS (resK (zd_ v1) (kaOf v2)).1,.bool (resK (zd_ v1) (kaOf v2)).2],[],[])else none
 | _=>none
theorem sResult_ok:zm_ Try.prog 126 xh_:=by
 refine⟨zg_ (by kernel_rfl),fun args h m c v rd wr hs hm hc w0 M β h' w R hrd hwr hst=>?_⟩
 unfold xh_ at hs
 split at hs
 ·rename_i v1 v2
  obtain⟨hb,hs⟩:=zn_ hs
  simp only[Option.some.injEq,Prod.mk.injEq]at hs
  obtain⟨rfl,rfl,rfl,rfl⟩:=hs
  simp only[Bool.and_eq_true]at hb
  obtain⟨b1,b2⟩:=hb
  obtain⟨y1,y2,y3⟩:=hc
  refine yb_ (views:=[]) (result_lit (zd_ v1) (kaOf v2) y1 y2 y3) ?_ R hm hwr ?_ ?_ ?_
  ·intro x hx;cases hx
  ·intro β1 hv
   simp only[denL,z7_,z6_,z5_,zt_,zc_,den_insOf b1,kaOf_den b2,den_insS,kaS_den]
  ·exact k6_
  ·exact k6_
 ·cases hs
def meetTo (a b:Nat→Kn)(j:Nat):Nat→Kn:=fun k=>if k < j then meetK (a k) (b k)else a k
theorem meetTo_self (a b:Nat→Kn)(j:Nat):meetTo a b j j=a j:=by unfold meetTo;rw[if_neg (Nat.lt_irrefl j)]
theorem meet_lit (a b:Ft):zz_ Try.prog 101 [ftS a,ftS b] [.gone] (ftS ⟨a.reached,meetR a.regs b.regs⟩) [.gone]:=by
 refine zf_ (fn:=Try.f101) 1 24 0 rfl rfl rfl rfl rfl (by simp only[zh_,zb_,hp];simp[HB.born,ftS,kaS,kS,zb_,zh_]) rfl fun w0 M E hro=>?_
 repeat' (first|refine Ctl.h ?_ |((with_reducible intro hif);first |(focus (cases hif;done)) |((try simp only[JH]at hif);try exact hy_)) |((with_reducible first|apply J22 y3_ za_|apply J23 fol y3_ za_|apply J24);(·rfl);(· exact k13_);(try kernel_rfl);try exact k9_)|fail)
 have e0:∀q,(meetTo a.regs b.regs 0) q=a.regs q:=fun q=>by unfold meetTo;rw[if_neg (Nat.not_lt_zero q)]
 have l0:∀ex,Less (.own 44 (ftS a) ex) (.own 44 (ftS ⟨a.reached,meetTo a.regs b.regs 0⟩) ex):=fun ex=>less_ft (F:=fun q=>kS (a.regs q)) fun q _ β=>by rw[e0]
 have l0':=l0 true
 refine WF.loopAt (fun j=>j≤8) (fun j=>[(2,.ptr 1 []),(3,.ptr 2 []),(4,.ptr 3 []),(6,.nat .i64 j)]) (fun j=>[.gone,.own 44 (ftS ⟨a.reached,meetTo a.regs b.regs j⟩) true,.own 44 (ftS b) true,.own 44 (.agg [.bool false,.arr 8 2 fun _=>.agg [.bool false,.nat .i64 0]]) true]) (fun j=>8 - j) 0 (Nat.zero_le _) ?_ ?_ rfl ?_ ?_ rfl ?_
 ·exact k8_
 ·exact k5_
 ·exact k6_
 ·exact k6_
 intro j hj
 repeat' (first|refine Ctl.h ?_ |((with_reducible intro hif);first |(focus (cases hif;done)) |((try simp only[JH]at hif);try exact hy_)) |((with_reducible first|apply J22 y3_ za_|apply J23 fol y3_ za_|apply J24);(·rfl);(· (simp only[push_cast,↓JP,Nat.reduceAdd,Nat.reduceEqDiff,Nat.reduceLT,Nat.reduceMul,Nat.reduceLeDiff,reduceCtorEq,reduceIte,↓JK,↓JF,meetTo_self,↓kn_eqZ,inN,inR,xk_];rfl));(try kernel_rfl);try exact xx_)|fail)
 ·have hne:a.regs j≠b.regs j:=by simpa using hif
  have lj:Less (.own 44 (.agg [.bool a.reached,.arr 8 2 fun j_1=>SV.ite (decide (j_1=j)) (.agg [.bool false,.nat .i64 0]) (kS (meetTo a.regs b.regs j j_1))]) true) (.own 44 (ftS ⟨a.reached,meetTo a.regs b.regs (j+1)⟩) true):=less_ft fun q hq β=>by
   rw[x1_]
   by_cases h:q=j
   ·subst h
    simp only[decide_true,cond_true]
    unfold meetTo meetK
    rw[if_pos (by omega),if_neg hne]
    rfl
   ·simp only[h,decide_false,cond_false]
    unfold meetTo
    by_cases h2:q < j
    ·rw[if_pos h2,if_pos (by omega)]
    ·rw[if_neg h2,if_neg (by omega)]
  refine At.next (j+1) ?_ ?_ ?_ rfl ?_ ?_ rfl
  ·omega
  ·exact k8_
  ·exact k5_
  ·exact k6_
  ·exact k6_
 ·have he:a.regs j=b.regs j:=by simpa using hif
  have lj:Less (.own 44 (ftS ⟨a.reached,meetTo a.regs b.regs j⟩) true) (.own 44 (ftS ⟨a.reached,meetTo a.regs b.regs (j+1)⟩) true):=less_ft (F:=fun q=>kS (meetTo a.regs b.regs j q)) fun q hq β=>by
   congr 2
   unfold meetTo
   by_cases h2:q < j
   ·rw[if_pos h2,if_pos (by omega)]
   ·rw[if_neg h2]
    by_cases h:q=j
    ·subst h
     rw[if_pos (by omega)]
     unfold meetK
     rw[if_pos he]
    ·rw[if_neg (by omega)]
  refine At.next (j+1) ?_ ?_ ?_ rfl ?_ ?_ rfl
  ·omega
  ·exact k8_
  ·exact k5_
  ·exact k6_
  ·exact k6_
 ·have h8:j=8:=by omega
  subst h8
  apply At.endsRet za_ (fn:=Try.f101) (rs:=[.cell 4 44]) Anc.refl hro (lb_ rfl) rfl
  ·exact k3_
  ·exact k4_
  ·exact k5_
  ·rfl
  ·exact k6_
  ·exact k7_
  ·intro β;show (ftS _).den β =(ftS _).den β;rw[ftS_den,ftS_den];rfl
  ·exact k6_
def sMeet:y4_:=fun args h m=>match args with
 | [v1,v2]=>bif isFt v1 && isFt v2 then some (True,ftS ⟨(ftOf v1).reached,meetR (ftOf v1).regs (ftOf v2).regs⟩,[],[])else none
 | _=>none
theorem sMeet_ok:zm_ Try.prog 101 sMeet:=by
 refine⟨zg_ (by kernel_rfl),fun args h m c v rd wr hs hm hc w0 M β h' w R hrd hwr hst=>?_⟩
 unfold sMeet at hs
 split at hs
 ·rename_i v1 v2
  obtain⟨hb,hs⟩:=zn_ hs
  simp only[Option.some.injEq,Prod.mk.injEq]at hs
  obtain⟨rfl,rfl,rfl,rfl⟩:=hs
  simp only[Bool.and_eq_true]at hb
  obtain⟨b1,b2⟩:=hb
  refine yb_ (views:=[]) (meet_lit (ftOf v1) (ftOf v2)) ?_ R hm hwr ?_ ?_ ?_
  ·intro x hx;cases hx
  ·intro β1 hv
   simp only[denL,z7_,z6_,z5_,zt_,zc_,ftOf_den b1,ftOf_den b2,ftS_den]
  ·exact k6_
  ·exact k6_
 ·cases hs
end Go.Proofs.Ytmljmabbopkpiaa.Vm
end
end
