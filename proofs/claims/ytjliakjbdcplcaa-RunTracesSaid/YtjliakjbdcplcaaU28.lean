import Derived.Test.YtjliakjbdcplcaaU1
import Derived.Test.YtjliakjbdcplcaaU11
import Derived.Test.YtjliakjbdcplcaaU13
import Derived.Test.YtjliakjbdcplcaaU18
import Derived.Test.YtjliakjbdcplcaaU27
set_option linter.unusedSimpArgs false
set_option linter.unusedVariables false
set_option maxRecDepth 100000
set_option maxHeartbeats 4000000
section
open Go.Proofs.Ytjliakjbdcplcaa.Vm Go.RowKit
attribute [local push_cast] eqB eqBL allB prS zt_ i64S xo_ y3_ y2_ y1_ y0_ yz_ xn_ yy_ yx_ yw_ zy_ zv_ zw_ zu_ y5_ y4_ iOf nav_k nav_k0 nav_k1 nav_ka nav_kai nav_ft nav_ft0 nav_ft1 isKn_kS knOf_kS isKa_kaS kaOf_kaS isFt_ftS ftOf_ftS setp_ka setp_ftk setp_ftr setp_fti evm_ins evm_snd evm_k evm_ka evm_ft
section
namespace Go.Proofs.Ytjliakjbdcplcaa.Vm
open Go.RowKit
def noCk:FuncId→Option yr_:=xb_ []
theorem yt_:∀f S,noCk f=some S→zh_ Try.prog f S:=fun f S h=>by cases h
theorem cdiv_lit (i:Ins):yc_ Try.prog 115 [insS i] [.gone] (.bool (divB i.op)) [.gone]:=by
 refine zm_ (fn:=Try.f115) 1 16 0 rfl rfl rfl rfl rfl (by simp only[zd_,Stable,hp];simp[HB.born,insS,Stable,zd_]) rfl fun w0 M E hro=>?_
 by_cases h1:i.op=36
 ·have e:divB i.op=true:=by simp[divB,h1]
  rw[e]
  repeat' (first|refine Ctl.h ?_ |((with_reducible intro hif);first |(focus (cases hif;done)) |((try simp only[JH]at hif);try exact hy_)) |((with_reducible first|apply J22 yt_ za_|apply J23 fol yt_ za_|apply J24);(·rfl);(· (simp only[push_cast,↓JP,Nat.reduceAdd,Nat.reduceEqDiff,Nat.reduceLT,Nat.reduceMul,Nat.reduceLeDiff,reduceCtorEq,reduceIte,↓JK,↓JF,h1];rfl));(try kernel_rfl);try exact z9_)|fail)
  apply At.endsRet za_ (fn:=Try.f115) (rs:=[.tmp 2]) Anc.refl hro (lb_ rfl) rfl
  ·exact k96_
  ·exact k6_
  ·exact k7_
  ·rfl
  ·exact zz_
  ·exact k9_
  ·exact fun β=>rfl
  ·exact zz_
 ·by_cases h2:i.op=37
  ·have e:divB i.op=true:=by simp[divB,h2]
   rw[e]
   repeat' (first|refine Ctl.h ?_ |((with_reducible intro hif);first |(focus (cases hif;done)) |((try simp only[JH]at hif);try exact hy_)) |((with_reducible first|apply J22 yt_ za_|apply J23 fol yt_ za_|apply J24);(·rfl);(· (simp only[push_cast,↓JP,Nat.reduceAdd,Nat.reduceEqDiff,Nat.reduceLT,Nat.reduceMul,Nat.reduceLeDiff,reduceCtorEq,reduceIte,↓JK,↓JF,h2];rfl));(try kernel_rfl);try exact z9_)|fail)
   apply At.endsRet za_ (fn:=Try.f115) (rs:=[.tmp 2]) Anc.refl hro (lb_ rfl) rfl
   ·exact k96_
   ·exact k6_
   ·exact k7_
   ·rfl
   ·exact zz_
   ·exact k9_
   ·exact fun β=>rfl
   ·exact zz_
  ·by_cases h3:i.op=38
   ·have e:divB i.op=true:=by simp[divB,h3]
    rw[e]
    repeat' (first|refine Ctl.h ?_ |((with_reducible intro hif);first |(focus (cases hif;done)) |((try simp only[JH]at hif);try exact hy_)) |((with_reducible first|apply J22 yt_ za_|apply J23 fol yt_ za_|apply J24);(·rfl);(· (simp only[push_cast,↓JP,Nat.reduceAdd,Nat.reduceEqDiff,Nat.reduceLT,Nat.reduceMul,Nat.reduceLeDiff,reduceCtorEq,reduceIte,↓JK,↓JF,h3];rfl));(try kernel_rfl);try exact z9_)|fail)
    apply At.endsRet za_ (fn:=Try.f115) (rs:=[.tmp 2]) Anc.refl hro (lb_ rfl) rfl
    ·exact k96_
    ·exact k6_
    ·exact k7_
    ·rfl
    ·exact zz_
    ·exact k9_
    ·exact fun β=>rfl
    ·exact zz_
   ·have e:divB i.op=false:=by simp[divB,h1,h2,h3]
    rw[e]
    repeat' (first|refine Ctl.h ?_ |((with_reducible intro hif);first |(focus (cases hif;done)) |((try simp only[JH]at hif);try exact hy_)) |((with_reducible first|apply J22 yt_ za_|apply J23 fol yt_ za_|apply J24);(·rfl);(· (simp only[push_cast,↓JP,Nat.reduceAdd,Nat.reduceEqDiff,Nat.reduceLT,Nat.reduceMul,Nat.reduceLeDiff,reduceCtorEq,reduceIte,↓JK,↓JF,h1,h2,h3];rfl));(try kernel_rfl);try exact z9_)|fail)
    apply At.endsRet za_ (fn:=Try.f115) (rs:=[.tmp 2]) Anc.refl hro (lb_ rfl) rfl
    ·exact k96_
    ·exact k6_
    ·exact k7_
    ·rfl
    ·exact zz_
    ·exact k9_
    ·exact fun β=>rfl
    ·exact zz_
def sDiv:yr_:=fun args h m=>match args with
 | [v1]=>bif isIns v1 then some (True,.bool (divB (zg_ v1).op),[],[])else none
 | _=>none
theorem sDiv_ok:zh_ Try.prog 115 sDiv:=by
 refine⟨zf_ (by kernel_rfl),fun args h m c v rd wr hs hm hc w0 M β h' w R hrd hwr hst=>?_⟩
 unfold sDiv at hs
 split at hs
 ·rename_i v1
  obtain⟨hb,hs⟩:=zj_ hs
  simp only[Option.some.injEq,Prod.mk.injEq]at hs
  obtain⟨rfl,rfl,rfl,rfl⟩:=hs
  have b1:=hb
  refine y9_ (views:=[]) (cdiv_lit (zg_ v1)) ?_ R hm hwr ?_ ?_ ?_
  ·intro x hx;cases hx
  ·intro β1 hv
   simp only[denL,yp_,yo_,yn_,z6_,zb_,den_insOf b1,den_insS]
  ·exact zz_
  ·exact zz_
 ·cases hs
def cRes:FuncId→Option yr_:=xb_ [(115,sDiv),(117,sApply)]
theorem xi_:∀f S,cRes f=some S→zh_ Try.prog f S:=zn_ ⟨sDiv_ok,sApply_ok,trivial⟩
theorem result_lit (i:Ins)(r:Nat→Kn)(hi:i.ok)(hb:i.b < 8)(hc:i.c < 8):yc_ Try.prog 114 [insS i,kaS r] [.gone] (.tup [kS (resK i r).1,.bool (resK i r).2]) [.gone]:=by
 refine zm_ (fn:=Try.f114) 1 71 0 rfl rfl rfl rfl rfl (by simp only[zd_,Stable,hp];simp[HB.born,insS,kaS,kS,Stable,zd_]) rfl fun w0 M E hro=>?_
 obtain⟨o0,o1,a0,a1,b0,b1,c0,c1,n0,n1⟩:=hi
 have hbn:i.b.toNat < 8:=by omega
 have hcn:i.c.toNat < 8:=by omega
 by_cases h3:i.op=3
 ·have e:resK i r=(⟨true,i.n⟩,true):=by unfold resK;rw[if_pos h3]
  rw[e]
  repeat' (first|refine Ctl.h ?_ |((with_reducible intro hif);first |(focus (cases hif;done)) |((try simp only[JH]at hif);try exact hy_)) |((with_reducible first|apply J22 xi_ za_|apply J23 fol xi_ za_|apply J24);(·rfl);(· (simp only[push_cast,↓JP,Nat.reduceAdd,Nat.reduceEqDiff,Nat.reduceLT,Nat.reduceMul,Nat.reduceLeDiff,reduceCtorEq,reduceIte,↓JK,↓JF,cRes,h3,inN,inR];rfl));(try kernel_rfl);try exact k98_)|fail)
  apply At.endsRet za_ (fn:=Try.f114) (rs:=[.cell 4 110,.tmp 5]) Anc.refl hro (lb_ rfl) rfl
  ·exact k96_
  ·exact k6_
  ·exact k7_
  ·rfl
  ·exact zz_
  ·exact k9_
  ·exact fun β=>rfl
  ·exact zz_
 by_cases h4:i.op=4
 ·have e:resK i r=(r i.b.toNat,true):=by unfold resK;rw[if_neg h3,if_pos h4]
  rw[e]
  repeat' (first|refine Ctl.h ?_ |((with_reducible intro hif);first |(focus (cases hif;done)) |((try simp only[JH]at hif);try exact hy_)) |((with_reducible first|apply J22 xi_ za_|apply J23 fol xi_ za_|apply J24);(·rfl);(· (simp only[push_cast,↓JP,Nat.reduceAdd,Nat.reduceEqDiff,Nat.reduceLT,Nat.reduceMul,Nat.reduceLeDiff,reduceCtorEq,reduceIte,↓JK,↓JF,cRes,h3,h4,inN,inR];rfl));(try kernel_rfl);try exact k98_)|fail)
  apply At.endsRet za_ (fn:=Try.f114) (rs:=[.cell 4 110,.tmp 5]) Anc.refl hro (lb_ rfl) rfl
  ·exact k96_
  ·exact k6_
  ·exact k7_
  ·rfl
  ·exact zz_
  ·exact k9_
  ·exact fun β=>rfl
  ·exact zz_
 by_cases h32:i.op≤32
 ·have e:resK i r=(K0,true):=by unfold resK;rw[if_neg h3,if_neg h4,if_pos h32]
  rw[e]
  repeat' (first|refine Ctl.h ?_ |((with_reducible intro hif);first |(focus (cases hif;done)) |((try simp only[JH]at hif);try exact hy_)) |((with_reducible first|apply J22 xi_ za_|apply J23 fol xi_ za_|apply J24);(·rfl);(· (simp only[push_cast,↓JP,Nat.reduceAdd,Nat.reduceEqDiff,Nat.reduceLT,Nat.reduceMul,Nat.reduceLeDiff,reduceCtorEq,reduceIte,↓JK,↓JF,cRes,h3,h4,h32,inN,inR];rfl));(try kernel_rfl);try exact k98_)|fail)
  apply At.endsRet za_ (fn:=Try.f114) (rs:=[.cell 4 110,.tmp 5]) Anc.refl hro (lb_ rfl) rfl
  ·exact k96_
  ·exact k6_
  ·exact k7_
  ·rfl
  ·exact zz_
  ·exact k9_
  ·exact fun β=>rfl
  ·exact zz_
 by_cases hd:divB i.op=true∧r i.c.toNat=⟨true,0⟩
 ·have e:resK i r=(K0,false):=by unfold resK;rw[if_neg h3,if_neg h4,if_neg h32,if_pos hd]
  rw[e]
  repeat' (first|refine Ctl.h ?_ |((with_reducible intro hif);first |(focus (cases hif;done)) |((try simp only[JH]at hif);try exact hy_)) |((with_reducible first|apply J22 xi_ za_|apply J23 fol xi_ za_|apply J24);(·rfl);(· (simp only[push_cast,↓JP,Nat.reduceAdd,Nat.reduceEqDiff,Nat.reduceLT,Nat.reduceMul,Nat.reduceLeDiff,reduceCtorEq,reduceIte,↓JK,↓JF,cRes,sDiv,h3,h4,h32,hd.1,hd.2,↓kn_eqZ,inN,inR];rfl));(try kernel_rfl);try exact k98_)|fail)
  apply At.endsRet za_ (fn:=Try.f114) (rs:=[.cell 4 110,.tmp 5]) Anc.refl hro (lb_ rfl) rfl
  ·exact k96_
  ·exact k6_
  ·exact k7_
  ·rfl
  ·exact zz_
  ·exact k9_
  ·exact fun β=>rfl
  ·exact zz_
 have hdz:divB i.op=true→(r i.c.toNat).is_=true→(r i.c.toNat).n≠0:=fun h1 h2 h3=>hd ⟨h1,by rw[←h2,←h3]⟩
 have q1:resK i r=if (r i.b.toNat).is_=false∨(r i.c.toNat).is_=false then(K0,true)else(⟨xg_ (i.op - 32) (r i.c.toNat).n == 0,applyV (i.op - 32) (r i.b.toNat).n (r i.c.toNat).n⟩,xg_ (i.op - 32) (r i.c.toNat).n == 0):=by
  unfold resK;rw[if_neg h3,if_neg h4,if_neg h32,if_neg hd]
 cases hdv:divB i.op<;>cases hb1:(r i.b.toNat).is_<;>cases hc1:(r i.c.toNat).is_
 ·-- false false false
  have e:resK i r=(K0,true):=by rw[q1,if_pos (by simp[hb1,hc1])]
  rw[e]
  repeat' (first|refine Ctl.h ?_ |((with_reducible intro hif);first |(focus (cases hif;done)) |((try simp only[JH]at hif);try exact hy_)) |((with_reducible first|apply J22 xi_ za_|apply J23 fol xi_ za_|apply J24);(·rfl);(· exact k99_);(try kernel_rfl);try exact k98_)|fail)
  apply At.endsRet za_ (fn:=Try.f114) (rs:=[.cell 4 110,.tmp 5]) Anc.refl hro (lb_ rfl) rfl
  ·exact k96_
  ·exact k6_
  ·exact k7_
  ·rfl
  ·exact zz_
  ·exact k9_
  ·exact fun β=>rfl
  ·exact zz_
 ·-- false false true
  have e:resK i r=(K0,true):=by rw[q1,if_pos (by simp[hb1,hc1])]
  rw[e]
  repeat' (first|refine Ctl.h ?_ |((with_reducible intro hif);first |(focus (cases hif;done)) |((try simp only[JH]at hif);try exact hy_)) |((with_reducible first|apply J22 xi_ za_|apply J23 fol xi_ za_|apply J24);(·rfl);(· exact k99_);(try kernel_rfl);try exact k98_)|fail)
  apply At.endsRet za_ (fn:=Try.f114) (rs:=[.cell 4 110,.tmp 5]) Anc.refl hro (lb_ rfl) rfl
  ·exact k96_
  ·exact k6_
  ·exact k7_
  ·rfl
  ·exact zz_
  ·exact k9_
  ·exact fun β=>rfl
  ·exact zz_
 ·-- false true false
  have e:resK i r=(K0,true):=by rw[q1,if_pos (by simp[hb1,hc1])]
  rw[e]
  repeat' (first|refine Ctl.h ?_ |((with_reducible intro hif);first |(focus (cases hif;done)) |((try simp only[JH]at hif);try exact hy_)) |((with_reducible first|apply J22 xi_ za_|apply J23 fol xi_ za_|apply J24);(·rfl);(· exact k99_);(try kernel_rfl);try exact k98_)|fail)
  apply At.endsRet za_ (fn:=Try.f114) (rs:=[.cell 4 110,.tmp 5]) Anc.refl hro (lb_ rfl) rfl
  ·exact k96_
  ·exact k6_
  ·exact k7_
  ·rfl
  ·exact zz_
  ·exact k9_
  ·exact fun β=>rfl
  ·exact zz_
 ·-- false true true
  have e:resK i r=(⟨decide (xg_ (i.op - 32) (r i.c.toNat).n=0),applyV (i.op - 32) (r i.b.toNat).n (r i.c.toNat).n⟩,decide (xg_ (i.op - 32) (r i.c.toNat).n=0)):=by rw[q1,if_neg (by simp[hb1,hc1])];rfl
  rw[e]
  repeat' (first|refine Ctl.h ?_ |((with_reducible intro hif);first |(focus (cases hif;done)) |((try simp only[JH]at hif);try exact hy_)) |((with_reducible first|apply J22 xi_ za_|apply J23 fol xi_ za_|apply J24);(·rfl);(· exact k99_);(try kernel_rfl);try exact k98_)|fail)
  apply At.endsRet za_ (fn:=Try.f114) (rs:=[.cell 4 110,.tmp 5]) Anc.refl hro (lb_ rfl) rfl
  ·exact k96_
  ·exact k6_
  ·exact k7_
  ·rfl
  ·exact zz_
  ·exact k9_
  ·exact fun β=>rfl
  ·exact zz_
 ·-- true false false
  have e:resK i r=(K0,true):=by rw[q1,if_pos (by simp[hb1,hc1])]
  rw[e]
  repeat' (first|refine Ctl.h ?_ |((with_reducible intro hif);first |(focus (cases hif;done)) |((try simp only[JH]at hif);try exact hy_)) |((with_reducible first|apply J22 xi_ za_|apply J23 fol xi_ za_|apply J24);(·rfl);(· exact k99_);(try kernel_rfl);try exact k98_)|fail)
  apply At.endsRet za_ (fn:=Try.f114) (rs:=[.cell 4 110,.tmp 5]) Anc.refl hro (lb_ rfl) rfl
  ·exact k96_
  ·exact k6_
  ·exact k7_
  ·rfl
  ·exact zz_
  ·exact k9_
  ·exact fun β=>rfl
  ·exact zz_
 ·-- true false true
  have e:resK i r=(K0,true):=by rw[q1,if_pos (by simp[hb1,hc1])]
  rw[e]
  have hn0:=hdz hdv hc1
  repeat' (first|refine Ctl.h ?_ |((with_reducible intro hif);first |(focus (cases hif;done)) |((try simp only[JH]at hif);try exact hy_)) |((with_reducible first|apply J22 xi_ za_|apply J23 fol xi_ za_|apply J24);(·rfl);(· exact k100_);(try kernel_rfl);try exact k98_)|fail)
  apply At.endsRet za_ (fn:=Try.f114) (rs:=[.cell 4 110,.tmp 5]) Anc.refl hro (lb_ rfl) rfl
  ·exact k96_
  ·exact k6_
  ·exact k7_
  ·rfl
  ·exact zz_
  ·exact k9_
  ·exact fun β=>rfl
  ·exact zz_
 ·-- true true false
  have e:resK i r=(K0,true):=by rw[q1,if_pos (by simp[hb1,hc1])]
  rw[e]
  repeat' (first|refine Ctl.h ?_ |((with_reducible intro hif);first |(focus (cases hif;done)) |((try simp only[JH]at hif);try exact hy_)) |((with_reducible first|apply J22 xi_ za_|apply J23 fol xi_ za_|apply J24);(·rfl);(· exact k99_);(try kernel_rfl);try exact k98_)|fail)
  apply At.endsRet za_ (fn:=Try.f114) (rs:=[.cell 4 110,.tmp 5]) Anc.refl hro (lb_ rfl) rfl
  ·exact k96_
  ·exact k6_
  ·exact k7_
  ·rfl
  ·exact zz_
  ·exact k9_
  ·exact fun β=>rfl
  ·exact zz_
 ·-- true true true
  have e:resK i r=(⟨decide (xg_ (i.op - 32) (r i.c.toNat).n=0),applyV (i.op - 32) (r i.b.toNat).n (r i.c.toNat).n⟩,decide (xg_ (i.op - 32) (r i.c.toNat).n=0)):=by rw[q1,if_neg (by simp[hb1,hc1])];rfl
  rw[e]
  have hn0:=hdz hdv hc1
  repeat' (first|refine Ctl.h ?_ |((with_reducible intro hif);first |(focus (cases hif;done)) |((try simp only[JH]at hif);try exact hy_)) |((with_reducible first|apply J22 xi_ za_|apply J23 fol xi_ za_|apply J24);(·rfl);(· exact k100_);(try kernel_rfl);try exact k98_)|fail)
  apply At.endsRet za_ (fn:=Try.f114) (rs:=[.cell 4 110,.tmp 5]) Anc.refl hro (lb_ rfl) rfl
  ·exact k96_
  ·exact k6_
  ·exact k7_
  ·rfl
  ·exact zz_
  ·exact k9_
  ·exact fun β=>rfl
  ·exact zz_
def xf_:yr_:=fun args h m=>match args with
 | [v1,v2]=>bif isIns v1 && isKa v2 then some (((zg_ v1).ok)∧((zg_ v1).b < 8)∧((zg_ v1).c < 8),.tup [kS (resK (zg_ v1) (kaOf v2)).1,.bool (resK (zg_ v1) (kaOf v2)).2],[],[])else none
 | _=>none
theorem sResult_ok:zh_ Try.prog 114 xf_:=by
 refine⟨zf_ (by kernel_rfl),fun args h m c v rd wr hs hm hc w0 M β h' w R hrd hwr hst=>?_⟩
 unfold xf_ at hs
 split at hs
 ·rename_i v1 v2
  obtain⟨hb,hs⟩:=zj_ hs
  simp only[Option.some.injEq,Prod.mk.injEq]at hs
  obtain⟨rfl,rfl,rfl,rfl⟩:=hs
  simp only[Bool.and_eq_true]at hb
  obtain⟨b1,b2⟩:=hb
  obtain⟨y1,y2,y3⟩:=hc
  refine y9_ (views:=[]) (result_lit (zg_ v1) (kaOf v2) y1 y2 y3) ?_ R hm hwr ?_ ?_ ?_
  ·intro x hx;cases hx
  ·intro β1 hv
   simp only[denL,yp_,yo_,yn_,z6_,zb_,den_insOf b1,kaOf_den b2,den_insS,kaS_den]
  ·exact zz_
  ·exact zz_
 ·cases hs
def meetTo (a b:Nat→Kn)(j:Nat):Nat→Kn:=fun k=>if k < j then meetK (a k) (b k)else a k
theorem meetTo_self (a b:Nat→Kn)(j:Nat):meetTo a b j j=a j:=by unfold meetTo;rw[if_neg (Nat.lt_irrefl j)]
theorem meet_lit (a b:Ft):yc_ Try.prog 96 [ftS a,ftS b] [.gone] (ftS ⟨a.reached,meetR a.regs b.regs⟩) [.gone]:=by
 refine zm_ (fn:=Try.f96) 1 24 0 rfl rfl rfl rfl rfl (by simp only[zd_,Stable,hp];simp[HB.born,ftS,kaS,kS,Stable,zd_]) rfl fun w0 M E hro=>?_
 repeat' (first|refine Ctl.h ?_ |((with_reducible intro hif);first |(focus (cases hif;done)) |((try simp only[JH]at hif);try exact hy_)) |((with_reducible first|apply J22 yt_ za_|apply J23 fol yt_ za_|apply J24);(·rfl);(· exact k101_);(try kernel_rfl);try exact z9_)|fail)
 have e0:∀q,(meetTo a.regs b.regs 0) q=a.regs q:=fun q=>by unfold meetTo;rw[if_neg (Nat.not_lt_zero q)]
 have l0:∀ex,Less (.own 113 (ftS a) ex) (.own 113 (ftS ⟨a.reached,meetTo a.regs b.regs 0⟩) ex):=fun ex=>less_ft (F:=fun q=>kS (a.regs q)) fun q _ β=>by rw[e0]
 have l0':=l0 true
 refine WF.loopAt (fun j=>j≤8) (fun j=>[(2,.ptr 1 []),(3,.ptr 2 []),(4,.ptr 3 []),(6,.nat .i64 j)]) (fun j=>[.gone,.own 113 (ftS ⟨a.reached,meetTo a.regs b.regs j⟩) true,.own 113 (ftS b) true,.own 113 (.agg [.bool false,.arr 8 2 fun _=>.agg [.bool false,.nat .i64 0]]) true]) (fun j=>8 - j) 0 (Nat.zero_le _) ?_ ?_ rfl ?_ ?_ rfl ?_
 ·exact k28_
 ·exact k7_
 ·exact zz_
 ·exact zz_
 intro j hj
 repeat' (first|refine Ctl.h ?_ |((with_reducible intro hif);first |(focus (cases hif;done)) |((try simp only[JH]at hif);try exact hy_)) |((with_reducible first|apply J22 yt_ za_|apply J23 fol yt_ za_|apply J24);(·rfl);(· (simp only[push_cast,↓JP,Nat.reduceAdd,Nat.reduceEqDiff,Nat.reduceLT,Nat.reduceMul,Nat.reduceLeDiff,reduceCtorEq,reduceIte,↓JK,↓JF,meetTo_self,↓kn_eqZ,inN,inR,setp_ftz];rfl));(try kernel_rfl);try exact k98_)|fail)
 ·have hne:a.regs j≠b.regs j:=by simpa using hif
  have lj:Less (.own 113 (.agg [.bool a.reached,.arr 8 2 fun j_1=>SV.ite (decide (j_1=j)) (.agg [.bool false,.nat .i64 0]) (kS (meetTo a.regs b.regs j j_1))]) true) (.own 113 (ftS ⟨a.reached,meetTo a.regs b.regs (j+1)⟩) true):=less_ft fun q hq β=>by
   rw[ite_eq]
   by_cases h:q=j
   ·subst h
    simp only[decide_true,cond_true]
    unfold meetTo meetK
    rw[if_pos (by omega),if_neg hne]
    rfl
   ·simp only[h,decide_false,cond_false]
    unfold meetTo
    by_cases h2:q < j
    ·rw[if_pos h2,if_pos (by omega)]
    ·rw[if_neg h2,if_neg (by omega)]
  refine At.next (j+1) ?_ ?_ ?_ rfl ?_ ?_ rfl
  ·omega
  ·exact k28_
  ·exact k7_
  ·exact zz_
  ·exact zz_
 ·have he:a.regs j=b.regs j:=by simpa using hif
  have lj:Less (.own 113 (ftS ⟨a.reached,meetTo a.regs b.regs j⟩) true) (.own 113 (ftS ⟨a.reached,meetTo a.regs b.regs (j+1)⟩) true):=less_ft (F:=fun q=>kS (meetTo a.regs b.regs j q)) fun q hq β=>by
   congr 2
   unfold meetTo
   by_cases h2:q < j
   ·rw[if_pos h2,if_pos (by omega)]
   ·rw[if_neg h2]
    by_cases h:q=j
    ·subst h
     rw[if_pos (by omega)]
     unfold meetK
     rw[if_pos he]
    ·rw[if_neg (by omega)]
  refine At.next (j+1) ?_ ?_ ?_ rfl ?_ ?_ rfl
  ·omega
  ·exact k28_
  ·exact k7_
  ·exact zz_
  ·exact zz_
 ·have h8:j=8:=by omega
  subst h8
  apply At.endsRet za_ (fn:=Try.f96) (rs:=[.cell 4 113]) Anc.refl hro (lb_ rfl) rfl
  ·exact k96_
  ·exact k6_
  ·exact k7_
  ·rfl
  ·exact zz_
  ·exact k9_
  ·intro β;show (ftS _).den β =(ftS _).den β;rw[ftS_den,ftS_den];rfl
  ·exact zz_
def sMeet:yr_:=fun args h m=>match args with
 | [v1,v2]=>bif isFt v1 && isFt v2 then some (True,ftS ⟨(ftOf v1).reached,meetR (ftOf v1).regs (ftOf v2).regs⟩,[],[])else none
 | _=>none
theorem sMeet_ok:zh_ Try.prog 96 sMeet:=by
 refine⟨zf_ (by kernel_rfl),fun args h m c v rd wr hs hm hc w0 M β h' w R hrd hwr hst=>?_⟩
 unfold sMeet at hs
 split at hs
 ·rename_i v1 v2
  obtain⟨hb,hs⟩:=zj_ hs
  simp only[Option.some.injEq,Prod.mk.injEq]at hs
  obtain⟨rfl,rfl,rfl,rfl⟩:=hs
  simp only[Bool.and_eq_true]at hb
  obtain⟨b1,b2⟩:=hb
  refine y9_ (views:=[]) (meet_lit (ftOf v1) (ftOf v2)) ?_ R hm hwr ?_ ?_ ?_
  ·intro x hx;cases hx
  ·intro β1 hv
   simp only[denL,yp_,yo_,yn_,z6_,zb_,ftOf_den b1,ftOf_den b2,ftS_den]
  ·exact zz_
  ·exact zz_
 ·cases hs
theorem ftS_ren (ρ : Nat→Nat)(f:Ft):(ftS f).ren ρ = ftS f:=by simp only[ftS,kaS,kS,SV.ren,renL]
theorem hands_lit (n p k:Nat)(f:Ft):yc_ Try.prog 95 [.sl 1 2 [] 5 0 n (some p),.nat .i64 k,ftS f] [.gone,.gone,.gone] (.fn 113 [.ptr 3 [],.ptr 4 [],.ptr 5 []]) [.gone,.gone,.gone,.own 35 (.sl 1 2 [] 5 0 n (some p)) true,.own 3 (.nat .i64 k) true,.own 113 (ftS f) true]:=by
 refine zm_ (fn:=Try.f95) 3 8 0 rfl rfl rfl rfl rfl (by simp only[zd_,Stable,hp];simp[HB.born,ftS,kaS,kS,Stable,zd_]) rfl fun w0 M E hro=>?_
 repeat' (first|refine Ctl.h ?_ |((with_reducible intro hif);first |(focus (cases hif;done)) |((try simp only[JH]at hif);try exact hy_)) |((with_reducible first|apply J22 yt_ za_|apply J23 fol yt_ za_|apply J24);(·rfl);(· exact k101_);(try kernel_rfl);try exact z9_)|fail)
 apply At.endsRet za_ (fn:=Try.f95) (rs:=[.tmp 6]) Anc.refl hro (lb_ rfl) rfl
 ·exact k96_
 ·exact k6_
 ·exact k7_
 ·rfl
 ·exact zz_
 ·exact k9_
 ·exact fun β=>rfl
 ·exact zz_
def sHands:yr_:=fun args h m=>match args with
 | [.sl z i [] 5 0 n (some p),.nat .i64 k,u]=>bif (h z).born && (h i).born && isFt u then some (True,.fn 113 [.ptr m [],.ptr (m+1) [],.ptr (m+2) []],[z,i],[(m,.own 35 (.sl z i [] 5 0 n (some p)) true),(m+1,.own 3 (.nat .i64 k) true),(m+2,.own 113 (ftS (ftOf u)) true)])else none
 | _=>none
theorem sHands_ok:zh_ Try.prog 95 sHands:=by
 refine⟨zf_ (by kernel_rfl),fun args h m c v rd wr hs hm hc w0 M β h' w R hrd hwr hst=>?_⟩
 unfold sHands at hs
 split at hs
 ·rename_i z i n p k u
  obtain⟨hb,hs2⟩:=zj_ hs
  clear hs
  simp only[Bool.and_eq_true]at hb
  obtain⟨⟨hz,hi⟩,hu⟩:=hb
  simp only[Option.some.injEq,Prod.mk.injEq]at hs2
  obtain⟨rfl,rfl,rfl,rfl⟩:=hs2
  have ei:h' i=h i:=hrd i (by simp)
  have ez:h' z=h z:=hrd z (by simp)
  have C:=callG (L1:=[.gone,.gone,.gone,.own 35 (.sl 1 2 [] 5 0 n (some p)) true,.own 3 (.nat .i64 k) true,.own 113 (ftS (ftOf u)) true]) (h:=h) (m:=m) [0,z,i] (hands_lit n p k (ftOf u)) R rfl (by simp) rfl rfl rfl
   ⟨.gone (by rw[R.nil0];rfl),.gone (by rw[ez];exact hz),.gone (by rw[ei];exact hi),trivial⟩ hm (by simpa [newB,y6_,HB.ren,ftS_ren]using hwr) (by simp)
   (by simp[yk_,HB.stable]) (by simp[zd_,Stable,hp,HB.born,ftS_stable]) (by simp[NewL,HB.stable,Stable,HB.isRo,hG,hp,HB.born,ftS_stable]) (by simp[Stable,zd_,hG,hp,HB.born])
  have e0:denL β (renL (y6_ [0,z,i] m) [SV.sl 1 2 [] 5 0 n (some p),.nat .i64 k,ftS (ftOf u)])=denL β [.sl z i [] 5 0 n (some p),.nat .i64 k,u]:=by
   simp[renL,SV.ren,y6_,ftS_ren,denL,ftOf_den hu,ftS_den]
  rw[e0]at C
  refine C.mono fun e w' he=>?_
  simpa [newB,y6_,HB.ren,SV.ren,renL,ftS_ren]using he
 ·cases hs
end Go.Proofs.Ytjliakjbdcplcaa.Vm
end
end
section
namespace Go.Proofs.Ytjliakjbdcplcaa
structure Emits (n k:Nat) (x:Ins) (f:Ft) (z:Bool×Bool×Ft):Prop where
 hands:yl_ x k f=emitL x k z.1 z.2.1 z.2.2
 goes:z.1=true→k+1 < n
 targ:z.2.1=true→0≤y7_ x∧y7_ x < n
 reached:z.2.2.reached=f.reached
end Go.Proofs.Ytjliakjbdcplcaa
end
section
namespace Go.Proofs.Ytjliakjbdcplcaa.Vm
open Go.RowKit
section
variable {P:Program} {w0 w1 w2:World} {M M1 M2:Nat→Prop} {E:Env} {n0 N n:Nat} {D D1 D2:List Deferred} {φ : Fr} {L:List HB} {Q:Exit→Act→World→Prop} {ro:Option Nat}
theorem WF.loopB {α : Type}(p:α→Prop)(φi:α→Fr)(Li:α→List HB)(μ : α→Nat){c:Code}(x0:α)(h0:p x0)
  (hφ : SubF φ (φi x0)) (hL:LessL L (Li x0)) (hz:hp (Li x0) 0=.gone) (hs:yk_ (hp (Li x0)) (Li x0)) (hf:StableF (hp (Li x0)) (φi x0)) (hb:bornTo n0 (Li x0)=true)
  (step:∀w1 M1 D1 x,Anc w0 M D w1 M1 D1→p x→WF ro n P c w1 M1 E n0 N D1 (φi x) (Li x) (Exit.then (fun a w=>∃w2 M2 D2 y,Anc w1 M1 D1 w2 M2 D2∧p y∧μ y < μ x∧St w2 M2 E n0 N D2 (φi y) (Li y) a w) Q)):WF ro n P (.loop c) w0 M E n0 N D φ L Q:=
 WF.sub hφ hL hz hs hf hb (WF.loop p φi Li μ x0 h0 step)
theorem At.nextB {α : Type}{p:α→Prop}{φi:α→Fr}{Li:α→List HB}{μ : α→Nat}{m:Nat}(A:Anc w1 M1 D1 w2 M2 D2)(l:List Nat)(y:α)(hy:p y∧μ y < m)(h00:l.getD 0 0=0)(hz:hp (Li y) 0=.gone)(hid:idTo n0 l=true)(hpk:PickL (sg l) (hp L) (Li y) l)(hinj:injL (Li y) l []=true)(hs:yk_ (hp (Li y)) (Li y))(hφ : PickF (sg l) φ (φi y))(hf:StableF (hp (Li y)) (φi y))(hb:bornTo n0 (Li y)=true) :
  At w2 M2 E n0 N D2 φ L (fun a w=>∃w2 M2 D2 y,Anc w1 M1 D1 w2 M2 D2∧p y∧μ y < m∧St w2 M2 E n0 N D2 (φi y) (Li y) a w):=
 fun a w hS=>⟨w2,M2,D2,y,A,hy.1,hy.2,hS.pick l h00 hz hid hpk hinj hs hφ hf hb⟩
end
end Go.Proofs.Ytjliakjbdcplcaa.Vm
end
