import Derived.Test.YtmljmabbopkpiaaV1
import Derived.Test.YtmljmabbopkpiaaV15
set_option linter.unusedSimpArgs false
set_option linter.unusedVariables false
set_option maxRecDepth 100000
set_option maxHeartbeats 4000000
section
namespace Go.Proofs.Ytmljmabbopkpiaa.Vm
open Go.RowKit
attribute [local push_cast] eqB eqBL allB prS sndsS i64S nav_ins nav_ins0 nav_ins1 nav_ins2 nav_ins3 nav_ins4 nav_snd nav_snd0 nav_snd1 nav_snd2 yz_ zf_ yy_ yx_ isI_int isI_nat iOf nav_k nav_k0 nav_k1 nav_ka nav_kai nav_ft nav_ft0 nav_ft1 isKn_kS knOf_kS isKa_kaS kaOf_kaS isFt_ftS ftOf_ftS setp_ka setp_ftk setp_ftr setp_fti evm_ins evm_snd evm_k evm_ka evm_ft
def limB (c p l:Int):Bool:=decide (0≤c) && (decide (c≤1024) && (decide (0≤p) && (decide (p≤16) && (decide (1≤l) && decide (l≤1048576)))))
theorem right_lit17 (c p l:Int):LitOk Try.prog 102 [.agg [.int .i64 c,.int .i64 p,.int .i64 l]] [.gone] (.bool (limB c p l)) [.gone]:=by
 refine litOkM (fn:=Try.f102) 1 31 0 rfl rfl rfl rfl rfl u2_ rfl fun w0 M E hro=>?_
 by_cases h0:0≤c
 ·by_cases h1:c≤1024
  ·by_cases h2:0≤p
   ·by_cases h3:p≤16
    ·by_cases h4:1≤l
     ·by_cases h5:l≤1048576
      ·have e:limB c p l=true:=by simp[limB,h0,h1,h2,h3,h4,h5]
       rw[e]
       repeat' (first|refine Ctl.h ?_ |((with_reducible intro hif);first |(focus (cases hif;done)) |((try simp only[JH]at hif);try exact hy_)) |((with_reducible first|apply J22 yc_ za_|apply J23 fol yc_ za_|apply J24);(·rfl);(· exact k83_);(try kernel_rfl);try exact k16_)|fail)
       apply At.endsRet za_ (fn:=Try.f102) (rs:=[.tmp 2]) Anc.refl hro (lb_ rfl) rfl
       ·exact k62_
       ·exact k4_
       ·exact k5_
       ·rfl
       ·exact zl_
       ·exact k7_
       ·exact fun β=>rfl
       ·exact zl_
      ·have e:limB c p l=false:=by simp[limB,h0,h1,h2,h3,h4,h5]
       rw[e]
       repeat' (first|refine Ctl.h ?_ |((with_reducible intro hif);first |(focus (cases hif;done)) |((try simp only[JH]at hif);try exact hy_)) |((with_reducible first|apply J22 yc_ za_|apply J23 fol yc_ za_|apply J24);(·rfl);(· exact k83_);(try kernel_rfl);try exact k16_)|fail)
       apply At.endsRet za_ (fn:=Try.f102) (rs:=[.tmp 2]) Anc.refl hro (lb_ rfl) rfl
       ·exact k62_
       ·exact k4_
       ·exact k5_
       ·rfl
       ·exact zl_
       ·exact k7_
       ·exact fun β=>rfl
       ·exact zl_
     ·have e:limB c p l=false:=by simp[limB,h0,h1,h2,h3,h4]
      rw[e]
      repeat' (first|refine Ctl.h ?_ |((with_reducible intro hif);first |(focus (cases hif;done)) |((try simp only[JH]at hif);try exact hy_)) |((with_reducible first|apply J22 yc_ za_|apply J23 fol yc_ za_|apply J24);(·rfl);(· (simp only[push_cast,↓JP,Nat.reduceAdd,Nat.reduceEqDiff,Nat.reduceLT,Nat.reduceMul,Nat.reduceLeDiff,reduceCtorEq,reduceIte,↓JK,↓JF,inN,inR,h0,h1,h2,h3,h4];rfl));(try kernel_rfl);try exact k16_)|fail)
      apply At.endsRet za_ (fn:=Try.f102) (rs:=[.tmp 2]) Anc.refl hro (lb_ rfl) rfl
      ·exact k62_
      ·exact k4_
      ·exact k5_
      ·rfl
      ·exact zl_
      ·exact k7_
      ·exact fun β=>rfl
      ·exact zl_
    ·have e:limB c p l=false:=by simp[limB,h0,h1,h2,h3]
     rw[e]
     repeat' (first|refine Ctl.h ?_ |((with_reducible intro hif);first |(focus (cases hif;done)) |((try simp only[JH]at hif);try exact hy_)) |((with_reducible first|apply J22 yc_ za_|apply J23 fol yc_ za_|apply J24);(·rfl);(· (simp only[push_cast,↓JP,Nat.reduceAdd,Nat.reduceEqDiff,Nat.reduceLT,Nat.reduceMul,Nat.reduceLeDiff,reduceCtorEq,reduceIte,↓JK,↓JF,inN,inR,h0,h1,h2,h3];rfl));(try kernel_rfl);try exact k16_)|fail)
     apply At.endsRet za_ (fn:=Try.f102) (rs:=[.tmp 2]) Anc.refl hro (lb_ rfl) rfl
     ·exact k62_
     ·exact k4_
     ·exact k5_
     ·rfl
     ·exact zl_
     ·exact k7_
     ·exact fun β=>rfl
     ·exact zl_
   ·have e:limB c p l=false:=by simp[limB,h0,h1,h2]
    rw[e]
    repeat' (first|refine Ctl.h ?_ |((with_reducible intro hif);first |(focus (cases hif;done)) |((try simp only[JH]at hif);try exact hy_)) |((with_reducible first|apply J22 yc_ za_|apply J23 fol yc_ za_|apply J24);(·rfl);(· (simp only[push_cast,↓JP,Nat.reduceAdd,Nat.reduceEqDiff,Nat.reduceLT,Nat.reduceMul,Nat.reduceLeDiff,reduceCtorEq,reduceIte,↓JK,↓JF,inN,inR,h0,h1,h2];rfl));(try kernel_rfl);try exact k16_)|fail)
    apply At.endsRet za_ (fn:=Try.f102) (rs:=[.tmp 2]) Anc.refl hro (lb_ rfl) rfl
    ·exact k62_
    ·exact k4_
    ·exact k5_
    ·rfl
    ·exact zl_
    ·exact k7_
    ·exact fun β=>rfl
    ·exact zl_
  ·have e:limB c p l=false:=by simp[limB,h0,h1]
   rw[e]
   repeat' (first|refine Ctl.h ?_ |((with_reducible intro hif);first |(focus (cases hif;done)) |((try simp only[JH]at hif);try exact hy_)) |((with_reducible first|apply J22 yc_ za_|apply J23 fol yc_ za_|apply J24);(·rfl);(· (simp only[push_cast,↓JP,Nat.reduceAdd,Nat.reduceEqDiff,Nat.reduceLT,Nat.reduceMul,Nat.reduceLeDiff,reduceCtorEq,reduceIte,↓JK,↓JF,inN,inR,h0,h1];rfl));(try kernel_rfl);try exact k16_)|fail)
   apply At.endsRet za_ (fn:=Try.f102) (rs:=[.tmp 2]) Anc.refl hro (lb_ rfl) rfl
   ·exact k62_
   ·exact k4_
   ·exact k5_
   ·rfl
   ·exact zl_
   ·exact k7_
   ·exact fun β=>rfl
   ·exact zl_
 ·have e:limB c p l=false:=by simp[limB,h0]
  rw[e]
  repeat' (first|refine Ctl.h ?_ |((with_reducible intro hif);first |(focus (cases hif;done)) |((try simp only[JH]at hif);try exact hy_)) |((with_reducible first|apply J22 yc_ za_|apply J23 fol yc_ za_|apply J24);(·rfl);(· (simp only[push_cast,↓JP,Nat.reduceAdd,Nat.reduceEqDiff,Nat.reduceLT,Nat.reduceMul,Nat.reduceLeDiff,reduceCtorEq,reduceIte,↓JK,↓JF,inN,inR,h0];rfl));(try kernel_rfl);try exact k16_)|fail)
  apply At.endsRet za_ (fn:=Try.f102) (rs:=[.tmp 2]) Anc.refl hro (lb_ rfl) rfl
  ·exact k62_
  ·exact k4_
  ·exact k5_
  ·rfl
  ·exact zl_
  ·exact k7_
  ·exact fun β=>rfl
  ·exact zl_
def sRight17:Spec:=fun args h m=>match args with
 | [.agg [v1,v2,v3]]=>bif isI .i64 v1 && isI .i64 v2 && isI .i64 v3 then some (True,.bool (limB (iOf v1) (iOf v2) (iOf v3)),[],[])else none
 | _=>none
theorem sRight17_ok:zs_ Try.prog 102 sRight17:=by
 refine⟨zp_ (by kernel_rfl),fun args h m c v rd wr hs hm hc w0 M β h' w R hrd hwr hst=>?_⟩
 unfold sRight17 at hs
 split at hs
 ·rename_i v1 v2 v3
  obtain⟨hb,hs⟩:=zq_ hs
  simp only[Option.some.injEq,Prod.mk.injEq]at hs
  obtain⟨rfl,rfl,rfl,rfl⟩:=hs
  simp only[Bool.and_eq_true]at hb
  obtain⟨⟨b1,b2⟩,b3⟩:=hb
  refine callRo (views:=[]) (right_lit17 (iOf v1) (iOf v2) (iOf v3)) ?_ R hm hwr ?_ ?_ ?_
  ·intro x hx;cases hx
  ·intro β1 hv
   simp only[denL,aggDen,intDen,natDen,yr_,zi_,yh_ b1,yh_ b2,yh_ b3]
  ·exact zl_
  ·exact zl_
 ·cases hs
def cFits:FuncId→Option Spec:=look2 [(55,sCheck),(102,sRight17)]
theorem cFits_ok:∀f S,cFits f=some S→zs_ Try.prog f S:=yi_ ⟨sCheck_ok,sRight17_ok,trivial⟩
def fitE (xs:List Ins)(c p l:Int):Int:=if (z7_ xs).2=0 then(if limB c p l=true then 0 else 171)else 170
theorem fits_lit (xs:List Ins)(p1:Nat)(c p l:Int)(hx:∀x∈xs,x.ok)(hl:xs.length≤281474976710656):LitOk Try.prog 57 [.agg [.int .i64 c,.int .i64 p,.int .i64 l],.sl 1 2 [] 5 0 xs.length (some p1)] [.gone,.gone,.ro (.arr xs.length 5 (prS xs))] (.int .i64 (fitE xs c p l)) [.gone]:=by
 refine litOkM (fn:=Try.f57) 3 17 0 rfl rfl rfl rfl rfl u2_ rfl fun w0 M E hro=>?_
 by_cases h1:(z7_ xs).2=0
 ·cases h2:limB c p l
  ·have e:fitE xs c p l=171:=by simp[fitE,h1,h2]
   rw[e]
   repeat' (first|refine Ctl.h ?_ |((with_reducible intro hif);first |(focus (cases hif;done)) |((try simp only[JH]at hif);try exact hy_)) |((with_reducible first|apply J22 cFits_ok za_|apply J23 fol cFits_ok za_|apply J24);(·rfl);(· exact k84_);(try kernel_rfl);try exact k8_)|fail)
   apply At.endsRet za_ (fn:=Try.f57) (rs:=[.tmp 4]) Anc.refl hro (lb_ rfl) rfl
   ·exact k62_
   ·exact k4_
   ·exact k5_
   ·rfl
   ·exact zl_
   ·exact k7_
   ·exact fun β=>rfl
   ·exact zl_
  ·have e:fitE xs c p l=0:=by simp[fitE,h1,h2]
   rw[e]
   repeat' (first|refine Ctl.h ?_ |((with_reducible intro hif);first |(focus (cases hif;done)) |((try simp only[JH]at hif);try exact hy_)) |((with_reducible first|apply J22 cFits_ok za_|apply J23 fol cFits_ok za_|apply J24);(·rfl);(· exact k84_);(try kernel_rfl);try exact k8_)|fail)
   apply At.endsRet za_ (fn:=Try.f57) (rs:=[.tmp 4]) Anc.refl hro (lb_ rfl) rfl
   ·exact k62_
   ·exact k4_
   ·exact k5_
   ·rfl
   ·exact zl_
   ·exact k7_
   ·exact fun β=>rfl
   ·exact zl_
 ·have e:fitE xs c p l=170:=by simp[fitE,h1]
  rw[e]
  repeat' (first|refine Ctl.h ?_ |((with_reducible intro hif);first |(focus (cases hif;done)) |((try simp only[JH]at hif);try exact hy_)) |((with_reducible first|apply J22 cFits_ok za_|apply J23 fol cFits_ok za_|apply J24);(·rfl);(· (simp only[push_cast,↓JP,Nat.reduceAdd,Nat.reduceEqDiff,Nat.reduceLT,Nat.reduceMul,Nat.reduceLeDiff,reduceCtorEq,reduceIte,↓JK,↓JF,cFits,sCheck,sRight17,z9_,zy_,ls_prS2,h1];rfl));(try kernel_rfl);try exact k8_)|fail)
  apply At.endsRet za_ (fn:=Try.f57) (rs:=[.tmp 4]) Anc.refl hro (lb_ rfl) rfl
  ·exact k62_
  ·exact k4_
  ·exact k5_
  ·rfl
  ·exact zl_
  ·exact k7_
  ·exact fun β=>rfl
  ·exact zl_
def sFits:Spec:=fun args h m=>match args with
 | [.agg [v1,v2,v3],v4]=>match srcV h 5 (.tup []) v4 with
  | some (c4,n4,f4,r4)=>bif isI .i64 v1 && isI .i64 v2 && isI .i64 v3 then some (c4∧(∀q,q < n4→isIns (f4 q)=true)∧((∀x∈(ls zg_ n4 f4),x.ok))∧(n4≤281474976710656),.int .i64 (fitE (ls zg_ n4 f4) (iOf v1) (iOf v2) (iOf v3)),r4,[])else none
  | _=>none
 | _=>none
theorem sFits_ok:zs_ Try.prog 57 sFits:=by
 refine⟨zp_ (by kernel_rfl),fun args h m c v rd wr hs hm hc w0 M β h' w R hrd hwr hst=>?_⟩
 unfold sFits at hs
 split at hs
 ·rename_i v1 v2 v3 v4
  split at hs
  ·rename_i c4 n4 f4 r4 a4
   obtain⟨hb,hs⟩:=zq_ hs
   simp only[Option.some.injEq,Prod.mk.injEq]at hs
   obtain⟨rfl,rfl,rfl,rfl⟩:=hs
   simp only[Bool.and_eq_true]at hb
   obtain⟨⟨b1,b2⟩,b3⟩:=hb
   obtain⟨k4,g4,y1,y2⟩:=hc
   obtain⟨A4,p4,d4,e4,t4⟩:=yn_ R a4 k4 (fun i hi=>hrd i hi) (by omega)
   refine callRo (views:=[⟨5,(ls zg_ n4 f4).length,prS (ls zg_ n4 f4),A4,p4⟩]) (fits_lit (ls zg_ n4 f4) p4 (iOf v1) (iOf v2) (iOf v3) y1 (by rw[zi_];exact y2)) ?_ R hm hwr ?_ ?_ ?_
   ·intro x hx
    simp only[List.mem_cons,List.not_mem_nil,or_false]at hx
    subst hx
    ·exact viewIns t4 e4 g4
   ·intro β1 hv
    simp only[Vd,zi_,and_true]at hv
    have z4:=hv
    simp only[denL,aggDen,intDen,natDen,yr_,zi_,z4,d4,yh_ b1,yh_ b2,yh_ b3]
   ·exact zl_
   ·exact zl_
  ·cases hs
 ·cases hs
def whyE (lc lp ll:Int)(i:Ins)(f:Ft):Int:=
 if f.reached=false then 0 else if i.op=2 then 176
 else if i.op=5∨i.op=6 then(if lc=0∨((f.regs i.b.toNat).is_=true∧((f.regs i.b.toNat).n < 0∨lc≤(f.regs i.b.toNat).n))then 172 else 0)
 else if i.op=8∧lp≤i.n then 173
 else if i.op=8∧(f.regs i.a.toNat).is_=true∧(f.regs i.a.toNat).n < ll then 174
 else if i.op=7∧(f.regs i.b.toNat).is_=true∧(f.regs i.b.toNat).n < 1 then 175
 else if divB i.op=true∧(f.regs i.c.toNat).is_=true∧(f.regs i.c.toNat).n=0 then 131 else 0
def cWhy:FuncId→Option Spec:=look2 [(103,sDiv)]
theorem zt_:∀f S,cWhy f=some S→zs_ Try.prog f S:=yi_ ⟨sDiv_ok,trivial⟩
theorem why_lit (lc lp ll:Int)(i:Ins)(f:Ft)(hi:i.ok)(ha:i.a < 8)(hb:i.b < 8)(hc:i.c < 8):LitOk Try.prog 58 [.agg [.int .i64 lc,.int .i64 lp,.int .i64 ll],insS i,ftS f] [.gone] (.int .i64 (whyE lc lp ll i f)) [.gone]:=by
 refine litOkM (fn:=Try.f58) 1 107 0 rfl rfl rfl rfl rfl (by simp only[zd_,zb_,hp];simp[HB.born,insS,ftS,kaS,kS,zb_,zd_]) rfl fun w0 M E hro=>?_
 obtain⟨o0,o1,a0,a1,b0,b1,c0,c1,n0,n1⟩:=hi
 have han:i.a.toNat < 8:=by omega
 have hbn:i.b.toNat < 8:=by omega
 have hcn:i.c.toNat < 8:=by omega
 cases hre:f.reached
 ·have e:whyE lc lp ll i f=0:=by unfold whyE;simp[hre]
  rw[e]
  repeat' (first|refine Ctl.h ?_ |((with_reducible intro hif);first |(focus (cases hif;done)) |((try simp only[JH]at hif);try exact hy_)) |((with_reducible first|apply J22 zt_ za_|apply J23 fol zt_ za_|apply J24);(·rfl);(· (simp only[push_cast,↓JP,Nat.reduceAdd,Nat.reduceEqDiff,Nat.reduceLT,Nat.reduceMul,Nat.reduceLeDiff,reduceCtorEq,reduceIte,↓JK,↓JF,cWhy,sDiv,↓kn_eqZ,inN,inR,hre];rfl));(try kernel_rfl);try exact k16_)|fail)
  apply At.endsRet za_ (fn:=Try.f58) (rs:=[.tmp 6]) Anc.refl hro (lb_ rfl) rfl
  ·exact k62_
  ·exact k4_
  ·exact k5_
  ·rfl
  ·exact zl_
  ·exact k7_
  ·exact fun β=>rfl
  ·exact zl_
 ·by_cases h2:i.op=2
  ·have e:whyE lc lp ll i f=176:=by unfold whyE;simp[hre,h2]
   rw[e]
   repeat' (first|refine Ctl.h ?_ |((with_reducible intro hif);first |(focus (cases hif;done)) |((try simp only[JH]at hif);try exact hy_)) |((with_reducible first|apply J22 zt_ za_|apply J23 fol zt_ za_|apply J24);(·rfl);(· (simp only[push_cast,↓JP,Nat.reduceAdd,Nat.reduceEqDiff,Nat.reduceLT,Nat.reduceMul,Nat.reduceLeDiff,reduceCtorEq,reduceIte,↓JK,↓JF,cWhy,sDiv,↓kn_eqZ,inN,inR,hre,h2];rfl));(try kernel_rfl);try exact k16_)|fail)
   apply At.endsRet za_ (fn:=Try.f58) (rs:=[.tmp 6]) Anc.refl hro (lb_ rfl) rfl
   ·exact k62_
   ·exact k4_
   ·exact k5_
   ·rfl
   ·exact zl_
   ·exact k7_
   ·exact fun β=>rfl
   ·exact zl_
  ·by_cases h5:i.op=5
   ·by_cases q1:lc=0
    ·have e:whyE lc lp ll i f=172:=by unfold whyE;simp[hre,h5,q1]
     rw[e]
     repeat' (first|refine Ctl.h ?_ |((with_reducible intro hif);first |(focus (cases hif;done)) |((try simp only[JH]at hif);try exact hy_)) |((with_reducible first|apply J22 zt_ za_|apply J23 fol zt_ za_|apply J24);(·rfl);(· (simp only[push_cast,↓JP,Nat.reduceAdd,Nat.reduceEqDiff,Nat.reduceLT,Nat.reduceMul,Nat.reduceLeDiff,reduceCtorEq,reduceIte,↓JK,↓JF,cWhy,sDiv,↓kn_eqZ,inN,inR,hre,h5,q1];rfl));(try kernel_rfl);try exact k16_)|fail)
     apply At.endsRet za_ (fn:=Try.f58) (rs:=[.tmp 6]) Anc.refl hro (lb_ rfl) rfl
     ·exact k62_
     ·exact k4_
     ·exact k5_
     ·rfl
     ·exact zl_
     ·exact k7_
     ·exact fun β=>rfl
     ·exact zl_
    ·cases q2:(f.regs i.b.toNat).is_
     ·have e:whyE lc lp ll i f=0:=by unfold whyE;simp[hre,h5,q1,q2]
      rw[e]
      repeat' (first|refine Ctl.h ?_ |((with_reducible intro hif);first |(focus (cases hif;done)) |((try simp only[JH]at hif);try exact hy_)) |((with_reducible first|apply J22 zt_ za_|apply J23 fol zt_ za_|apply J24);(·rfl);(· (simp only[push_cast,↓JP,Nat.reduceAdd,Nat.reduceEqDiff,Nat.reduceLT,Nat.reduceMul,Nat.reduceLeDiff,reduceCtorEq,reduceIte,↓JK,↓JF,cWhy,sDiv,↓kn_eqZ,inN,inR,hre,h5,q1,q2];rfl));(try kernel_rfl);try exact k16_)|fail)
      apply At.endsRet za_ (fn:=Try.f58) (rs:=[.tmp 6]) Anc.refl hro (lb_ rfl) rfl
      ·exact k62_
      ·exact k4_
      ·exact k5_
      ·rfl
      ·exact zl_
      ·exact k7_
      ·exact fun β=>rfl
      ·exact zl_
     ·by_cases q3:(f.regs i.b.toNat).n < 0
      ·have e:whyE lc lp ll i f=172:=by unfold whyE;simp[hre,h5,q1,q2,q3]
       rw[e]
       repeat' (first|refine Ctl.h ?_ |((with_reducible intro hif);first |(focus (cases hif;done)) |((try simp only[JH]at hif);try exact hy_)) |((with_reducible first|apply J22 zt_ za_|apply J23 fol zt_ za_|apply J24);(·rfl);(· (simp only[push_cast,↓JP,Nat.reduceAdd,Nat.reduceEqDiff,Nat.reduceLT,Nat.reduceMul,Nat.reduceLeDiff,reduceCtorEq,reduceIte,↓JK,↓JF,cWhy,sDiv,↓kn_eqZ,inN,inR,hre,h5,q1,q2,q3];rfl));(try kernel_rfl);try exact k16_)|fail)
       apply At.endsRet za_ (fn:=Try.f58) (rs:=[.tmp 6]) Anc.refl hro (lb_ rfl) rfl
       ·exact k62_
       ·exact k4_
       ·exact k5_
       ·rfl
       ·exact zl_
       ·exact k7_
       ·exact fun β=>rfl
       ·exact zl_
      ·by_cases q4:lc≤(f.regs i.b.toNat).n
       ·have e:whyE lc lp ll i f=172:=by unfold whyE;simp[hre,h5,q1,q2,q3,q4]
        rw[e]
        repeat' (first|refine Ctl.h ?_ |((with_reducible intro hif);first |(focus (cases hif;done)) |((try simp only[JH]at hif);try exact hy_)) |((with_reducible first|apply J22 zt_ za_|apply J23 fol zt_ za_|apply J24);(·rfl);(· exact k85_);(try kernel_rfl);try exact k16_)|fail)
        apply At.endsRet za_ (fn:=Try.f58) (rs:=[.tmp 6]) Anc.refl hro (lb_ rfl) rfl
        ·exact k62_
        ·exact k4_
        ·exact k5_
        ·rfl
        ·exact zl_
        ·exact k7_
        ·exact fun β=>rfl
        ·exact zl_
       ·have e:whyE lc lp ll i f=0:=by unfold whyE;simp[hre,h5,q1,q2,q3,q4]
        rw[e]
        repeat' (first|refine Ctl.h ?_ |((with_reducible intro hif);first |(focus (cases hif;done)) |((try simp only[JH]at hif);try exact hy_)) |((with_reducible first|apply J22 zt_ za_|apply J23 fol zt_ za_|apply J24);(·rfl);(· exact k85_);(try kernel_rfl);try exact k16_)|fail)
        apply At.endsRet za_ (fn:=Try.f58) (rs:=[.tmp 6]) Anc.refl hro (lb_ rfl) rfl
        ·exact k62_
        ·exact k4_
        ·exact k5_
        ·rfl
        ·exact zl_
        ·exact k7_
        ·exact fun β=>rfl
        ·exact zl_
   ·by_cases h6:i.op=6
    ·by_cases q1:lc=0
     ·have e:whyE lc lp ll i f=172:=by unfold whyE;simp[hre,h6,q1]
      rw[e]
      repeat' (first|refine Ctl.h ?_ |((with_reducible intro hif);first |(focus (cases hif;done)) |((try simp only[JH]at hif);try exact hy_)) |((with_reducible first|apply J22 zt_ za_|apply J23 fol zt_ za_|apply J24);(·rfl);(· (simp only[push_cast,↓JP,Nat.reduceAdd,Nat.reduceEqDiff,Nat.reduceLT,Nat.reduceMul,Nat.reduceLeDiff,reduceCtorEq,reduceIte,↓JK,↓JF,cWhy,sDiv,↓kn_eqZ,inN,inR,hre,h6,q1];rfl));(try kernel_rfl);try exact k16_)|fail)
      apply At.endsRet za_ (fn:=Try.f58) (rs:=[.tmp 6]) Anc.refl hro (lb_ rfl) rfl
      ·exact k62_
      ·exact k4_
      ·exact k5_
      ·rfl
      ·exact zl_
      ·exact k7_
      ·exact fun β=>rfl
      ·exact zl_
     ·cases q2:(f.regs i.b.toNat).is_
      ·have e:whyE lc lp ll i f=0:=by unfold whyE;simp[hre,h6,q1,q2]
       rw[e]
       repeat' (first|refine Ctl.h ?_ |((with_reducible intro hif);first |(focus (cases hif;done)) |((try simp only[JH]at hif);try exact hy_)) |((with_reducible first|apply J22 zt_ za_|apply J23 fol zt_ za_|apply J24);(·rfl);(· (simp only[push_cast,↓JP,Nat.reduceAdd,Nat.reduceEqDiff,Nat.reduceLT,Nat.reduceMul,Nat.reduceLeDiff,reduceCtorEq,reduceIte,↓JK,↓JF,cWhy,sDiv,↓kn_eqZ,inN,inR,hre,h6,q1,q2];rfl));(try kernel_rfl);try exact k16_)|fail)
       apply At.endsRet za_ (fn:=Try.f58) (rs:=[.tmp 6]) Anc.refl hro (lb_ rfl) rfl
       ·exact k62_
       ·exact k4_
       ·exact k5_
       ·rfl
       ·exact zl_
       ·exact k7_
       ·exact fun β=>rfl
       ·exact zl_
      ·by_cases q3:(f.regs i.b.toNat).n < 0
       ·have e:whyE lc lp ll i f=172:=by unfold whyE;simp[hre,h6,q1,q2,q3]
        rw[e]
        repeat' (first|refine Ctl.h ?_ |((with_reducible intro hif);first |(focus (cases hif;done)) |((try simp only[JH]at hif);try exact hy_)) |((with_reducible first|apply J22 zt_ za_|apply J23 fol zt_ za_|apply J24);(·rfl);(· (simp only[push_cast,↓JP,Nat.reduceAdd,Nat.reduceEqDiff,Nat.reduceLT,Nat.reduceMul,Nat.reduceLeDiff,reduceCtorEq,reduceIte,↓JK,↓JF,cWhy,sDiv,↓kn_eqZ,inN,inR,hre,h6,q1,q2,q3];rfl));(try kernel_rfl);try exact k16_)|fail)
        apply At.endsRet za_ (fn:=Try.f58) (rs:=[.tmp 6]) Anc.refl hro (lb_ rfl) rfl
        ·exact k62_
        ·exact k4_
        ·exact k5_
        ·rfl
        ·exact zl_
        ·exact k7_
        ·exact fun β=>rfl
        ·exact zl_
       ·by_cases q4:lc≤(f.regs i.b.toNat).n
        ·have e:whyE lc lp ll i f=172:=by unfold whyE;simp[hre,h6,q1,q2,q3,q4]
         rw[e]
         repeat' (first|refine Ctl.h ?_ |((with_reducible intro hif);first |(focus (cases hif;done)) |((try simp only[JH]at hif);try exact hy_)) |((with_reducible first|apply J22 zt_ za_|apply J23 fol zt_ za_|apply J24);(·rfl);(· exact k86_);(try kernel_rfl);try exact k16_)|fail)
         apply At.endsRet za_ (fn:=Try.f58) (rs:=[.tmp 6]) Anc.refl hro (lb_ rfl) rfl
         ·exact k62_
         ·exact k4_
         ·exact k5_
         ·rfl
         ·exact zl_
         ·exact k7_
         ·exact fun β=>rfl
         ·exact zl_
        ·have e:whyE lc lp ll i f=0:=by unfold whyE;simp[hre,h6,q1,q2,q3,q4]
         rw[e]
         repeat' (first|refine Ctl.h ?_ |((with_reducible intro hif);first |(focus (cases hif;done)) |((try simp only[JH]at hif);try exact hy_)) |((with_reducible first|apply J22 zt_ za_|apply J23 fol zt_ za_|apply J24);(·rfl);(· exact k86_);(try kernel_rfl);try exact k16_)|fail)
         apply At.endsRet za_ (fn:=Try.f58) (rs:=[.tmp 6]) Anc.refl hro (lb_ rfl) rfl
         ·exact k62_
         ·exact k4_
         ·exact k5_
         ·rfl
         ·exact zl_
         ·exact k7_
         ·exact fun β=>rfl
         ·exact zl_
    ·by_cases h8:i.op=8
     ·have hd:divB i.op=false:=by rw[h8];rfl
      by_cases q1:lp≤i.n
      ·have e:whyE lc lp ll i f=173:=by unfold whyE;simp[hre,h8,hd,q1,divB]
       rw[e]
       repeat' (first|refine Ctl.h ?_ |((with_reducible intro hif);first |(focus (cases hif;done)) |((try simp only[JH]at hif);try exact hy_)) |((with_reducible first|apply J22 zt_ za_|apply J23 fol zt_ za_|apply J24);(·rfl);(· (simp only[push_cast,↓JP,Nat.reduceAdd,Nat.reduceEqDiff,Nat.reduceLT,Nat.reduceMul,Nat.reduceLeDiff,reduceCtorEq,reduceIte,↓JK,↓JF,cWhy,sDiv,↓kn_eqZ,inN,inR,hre,h8,hd,q1];rfl));(try kernel_rfl);try exact k16_)|fail)
       apply At.endsRet za_ (fn:=Try.f58) (rs:=[.tmp 6]) Anc.refl hro (lb_ rfl) rfl
       ·exact k62_
       ·exact k4_
       ·exact k5_
       ·rfl
       ·exact zl_
       ·exact k7_
       ·exact fun β=>rfl
       ·exact zl_
      ·cases q2:(f.regs i.a.toNat).is_
       ·have e:whyE lc lp ll i f=0:=by unfold whyE;simp[hre,h8,hd,q1,q2,divB]
        rw[e]
        repeat' (first|refine Ctl.h ?_ |((with_reducible intro hif);first |(focus (cases hif;done)) |((try simp only[JH]at hif);try exact hy_)) |((with_reducible first|apply J22 zt_ za_|apply J23 fol zt_ za_|apply J24);(·rfl);(· (simp only[push_cast,↓JP,Nat.reduceAdd,Nat.reduceEqDiff,Nat.reduceLT,Nat.reduceMul,Nat.reduceLeDiff,reduceCtorEq,reduceIte,↓JK,↓JF,cWhy,sDiv,↓kn_eqZ,inN,inR,hre,h8,hd,q1,q2];rfl));(try kernel_rfl);try exact k16_)|fail)
        apply At.endsRet za_ (fn:=Try.f58) (rs:=[.tmp 6]) Anc.refl hro (lb_ rfl) rfl
        ·exact k62_
        ·exact k4_
        ·exact k5_
        ·rfl
        ·exact zl_
        ·exact k7_
        ·exact fun β=>rfl
        ·exact zl_
       ·by_cases q3:(f.regs i.a.toNat).n < ll
        ·have e:whyE lc lp ll i f=174:=by unfold whyE;simp[hre,h8,hd,q1,q2,q3,divB]
         rw[e]
         repeat' (first|refine Ctl.h ?_ |((with_reducible intro hif);first |(focus (cases hif;done)) |((try simp only[JH]at hif);try exact hy_)) |((with_reducible first|apply J22 zt_ za_|apply J23 fol zt_ za_|apply J24);(·rfl);(· exact k87_);(try kernel_rfl);try exact k16_)|fail)
         apply At.endsRet za_ (fn:=Try.f58) (rs:=[.tmp 6]) Anc.refl hro (lb_ rfl) rfl
         ·exact k62_
         ·exact k4_
         ·exact k5_
         ·rfl
         ·exact zl_
         ·exact k7_
         ·exact fun β=>rfl
         ·exact zl_
        ·have e:whyE lc lp ll i f=0:=by unfold whyE;simp[hre,h8,hd,q1,q2,q3,divB]
         rw[e]
         repeat' (first|refine Ctl.h ?_ |((with_reducible intro hif);first |(focus (cases hif;done)) |((try simp only[JH]at hif);try exact hy_)) |((with_reducible first|apply J22 zt_ za_|apply J23 fol zt_ za_|apply J24);(·rfl);(· exact k87_);(try kernel_rfl);try exact k16_)|fail)
         apply At.endsRet za_ (fn:=Try.f58) (rs:=[.tmp 6]) Anc.refl hro (lb_ rfl) rfl
         ·exact k62_
         ·exact k4_
         ·exact k5_
         ·rfl
         ·exact zl_
         ·exact k7_
         ·exact fun β=>rfl
         ·exact zl_
     ·by_cases h7:i.op=7
      ·have hd:divB i.op=false:=by rw[h7];rfl
       cases q2:(f.regs i.b.toNat).is_
       ·have e:whyE lc lp ll i f=0:=by unfold whyE;simp[hre,h7,hd,q2,divB]
        rw[e]
        repeat' (first|refine Ctl.h ?_ |((with_reducible intro hif);first |(focus (cases hif;done)) |((try simp only[JH]at hif);try exact hy_)) |((with_reducible first|apply J22 zt_ za_|apply J23 fol zt_ za_|apply J24);(·rfl);(· (simp only[push_cast,↓JP,Nat.reduceAdd,Nat.reduceEqDiff,Nat.reduceLT,Nat.reduceMul,Nat.reduceLeDiff,reduceCtorEq,reduceIte,↓JK,↓JF,cWhy,sDiv,↓kn_eqZ,inN,inR,hre,h7,hd,q2];rfl));(try kernel_rfl);try exact k16_)|fail)
        apply At.endsRet za_ (fn:=Try.f58) (rs:=[.tmp 6]) Anc.refl hro (lb_ rfl) rfl
        ·exact k62_
        ·exact k4_
        ·exact k5_
        ·rfl
        ·exact zl_
        ·exact k7_
        ·exact fun β=>rfl
        ·exact zl_
       ·by_cases q3:(f.regs i.b.toNat).n < 1
        ·have e:whyE lc lp ll i f=175:=by unfold whyE;simp[hre,h7,hd,q2,q3,divB]
         rw[e]
         repeat' (first|refine Ctl.h ?_ |((with_reducible intro hif);first |(focus (cases hif;done)) |((try simp only[JH]at hif);try exact hy_)) |((with_reducible first|apply J22 zt_ za_|apply J23 fol zt_ za_|apply J24);(·rfl);(· exact k88_);(try kernel_rfl);try exact k16_)|fail)
         apply At.endsRet za_ (fn:=Try.f58) (rs:=[.tmp 6]) Anc.refl hro (lb_ rfl) rfl
         ·exact k62_
         ·exact k4_
         ·exact k5_
         ·rfl
         ·exact zl_
         ·exact k7_
         ·exact fun β=>rfl
         ·exact zl_
        ·have e:whyE lc lp ll i f=0:=by unfold whyE;simp[hre,h7,hd,q2,q3,divB]
         rw[e]
         repeat' (first|refine Ctl.h ?_ |((with_reducible intro hif);first |(focus (cases hif;done)) |((try simp only[JH]at hif);try exact hy_)) |((with_reducible first|apply J22 zt_ za_|apply J23 fol zt_ za_|apply J24);(·rfl);(· exact k88_);(try kernel_rfl);try exact k16_)|fail)
         apply At.endsRet za_ (fn:=Try.f58) (rs:=[.tmp 6]) Anc.refl hro (lb_ rfl) rfl
         ·exact k62_
         ·exact k4_
         ·exact k5_
         ·rfl
         ·exact zl_
         ·exact k7_
         ·exact fun β=>rfl
         ·exact zl_
      ·cases hd:divB i.op
       ·have e:whyE lc lp ll i f=0:=by unfold whyE;simp[hre,h2,h5,h6,h8,h7,hd]
        rw[e]
        repeat' (first|refine Ctl.h ?_ |((with_reducible intro hif);first |(focus (cases hif;done)) |((try simp only[JH]at hif);try exact hy_)) |((with_reducible first|apply J22 zt_ za_|apply J23 fol zt_ za_|apply J24);(·rfl);(· (simp only[push_cast,↓JP,Nat.reduceAdd,Nat.reduceEqDiff,Nat.reduceLT,Nat.reduceMul,Nat.reduceLeDiff,reduceCtorEq,reduceIte,↓JK,↓JF,cWhy,sDiv,↓kn_eqZ,inN,inR,hre,h2,h5,h6,h8,h7,hd];rfl));(try kernel_rfl);try exact k16_)|fail)
        apply At.endsRet za_ (fn:=Try.f58) (rs:=[.tmp 6]) Anc.refl hro (lb_ rfl) rfl
        ·exact k62_
        ·exact k4_
        ·exact k5_
        ·rfl
        ·exact zl_
        ·exact k7_
        ·exact fun β=>rfl
        ·exact zl_
       ·cases q1:(f.regs i.c.toNat).is_
        ·have e:whyE lc lp ll i f=0:=by unfold whyE;simp[hre,h2,h5,h6,h8,h7,hd,q1]
         rw[e]
         repeat' (first|refine Ctl.h ?_ |((with_reducible intro hif);first |(focus (cases hif;done)) |((try simp only[JH]at hif);try exact hy_)) |((with_reducible first|apply J22 zt_ za_|apply J23 fol zt_ za_|apply J24);(·rfl);(· (simp only[push_cast,↓JP,Nat.reduceAdd,Nat.reduceEqDiff,Nat.reduceLT,Nat.reduceMul,Nat.reduceLeDiff,reduceCtorEq,reduceIte,↓JK,↓JF,cWhy,sDiv,↓kn_eqZ,inN,inR,hre,h2,h5,h6,h8,h7,hd,q1];rfl));(try kernel_rfl);try exact k16_)|fail)
         apply At.endsRet za_ (fn:=Try.f58) (rs:=[.tmp 6]) Anc.refl hro (lb_ rfl) rfl
         ·exact k62_
         ·exact k4_
         ·exact k5_
         ·rfl
         ·exact zl_
         ·exact k7_
         ·exact fun β=>rfl
         ·exact zl_
        ·by_cases q2:(f.regs i.c.toNat).n=0
         ·have e:whyE lc lp ll i f=131:=by unfold whyE;simp[hre,h2,h5,h6,h8,h7,hd,q1,q2]
          rw[e]
          repeat' (first|refine Ctl.h ?_ |((with_reducible intro hif);first |(focus (cases hif;done)) |((try simp only[JH]at hif);try exact hy_)) |((with_reducible first|apply J22 zt_ za_|apply J23 fol zt_ za_|apply J24);(·rfl);(· exact k89_);(try kernel_rfl);try exact k16_)|fail)
          apply At.endsRet za_ (fn:=Try.f58) (rs:=[.tmp 6]) Anc.refl hro (lb_ rfl) rfl
          ·exact k62_
          ·exact k4_
          ·exact k5_
          ·rfl
          ·exact zl_
          ·exact k7_
          ·exact fun β=>rfl
          ·exact zl_
         ·have e:whyE lc lp ll i f=0:=by unfold whyE;simp[hre,h2,h5,h6,h8,h7,hd,q1,q2]
          rw[e]
          repeat' (first|refine Ctl.h ?_ |((with_reducible intro hif);first |(focus (cases hif;done)) |((try simp only[JH]at hif);try exact hy_)) |((with_reducible first|apply J22 zt_ za_|apply J23 fol zt_ za_|apply J24);(·rfl);(· exact k89_);(try kernel_rfl);try exact k16_)|fail)
          apply At.endsRet za_ (fn:=Try.f58) (rs:=[.tmp 6]) Anc.refl hro (lb_ rfl) rfl
          ·exact k62_
          ·exact k4_
          ·exact k5_
          ·rfl
          ·exact zl_
          ·exact k7_
          ·exact fun β=>rfl
          ·exact zl_
def sWhyL:Spec:=fun args h m=>match args with
 | [.agg [v1,v2,v3],v4,v5]=>bif isI .i64 v1 && isI .i64 v2 && isI .i64 v3 && isIns v4 && isFt v5 then some (((zg_ v4).ok)∧((zg_ v4).a < 8)∧((zg_ v4).b < 8)∧((zg_ v4).c < 8),.int .i64 (whyE (iOf v1) (iOf v2) (iOf v3) (zg_ v4) (ftOf v5)),[],[])else none
 | _=>none
theorem sWhyL_ok:zs_ Try.prog 58 sWhyL:=by
 refine⟨zp_ (by kernel_rfl),fun args h m c v rd wr hs hm hc w0 M β h' w R hrd hwr hst=>?_⟩
 unfold sWhyL at hs
 split at hs
 ·rename_i v1 v2 v3 v4 v5
  obtain⟨hb,hs⟩:=zq_ hs
  simp only[Option.some.injEq,Prod.mk.injEq]at hs
  obtain⟨rfl,rfl,rfl,rfl⟩:=hs
  simp only[Bool.and_eq_true]at hb
  obtain⟨⟨⟨⟨b1,b2⟩,b3⟩,b4⟩,b5⟩:=hb
  obtain⟨y1,y2,y3,y4⟩:=hc
  refine callRo (views:=[]) (why_lit (iOf v1) (iOf v2) (iOf v3) (zg_ v4) (ftOf v5) y1 y2 y3 y4) ?_ R hm hwr ?_ ?_ ?_
  ·intro x hx;cases hx
  ·intro β1 hv
   simp only[denL,aggDen,intDen,natDen,yr_,zi_,yh_ b1,yh_ b2,yh_ b3,den_insOf b4,ftOf_den b5,den_insS,ftS_den]
  ·exact zl_
  ·exact zl_
 ·cases hs
end Go.Proofs.Ytmljmabbopkpiaa.Vm
end
