import Derived.Test.YtmljmabbopkpiaaC1
import Derived.Test.YtmljmabbopkpiaaC12
set_option linter.unusedSimpArgs false
set_option linter.unusedVariables false
set_option maxRecDepth 100000
set_option maxHeartbeats 4000000
section
namespace Go.Proofs.Ytmljmabbopkpiaa.Vm
open Go.RowKit
attribute [local push_cast] eqB eqBL allB prS sndsS zw_ nav_ins xs_ xr_ xq_ xp_ xo_ nav_snd xn_ xm_ xl_ yo_ yi_ yv_ yq_ yz_ yy_ iOf nav_k nav_k0 nav_k1 nav_ka nav_kai nav_ft nav_ft0 nav_ft1 isKn_kS knOf_kS isKa_kaS kaOf_kaS isFt_ftS ftOf_ftS setp_ka setp_ftk setp_ftr setp_fti evm_ins evm_snd evm_k evm_ka evm_ft
def limB (c p l:Int):Bool:=decide (0≤c) && (decide (c≤1024) && (decide (0≤p) && (decide (p≤16) && (decide (1≤l) && decide (l≤1048576)))))
theorem right_lit17 (c p l:Int):zz_ Try.prog 102 [.agg [.int .i64 c,.int .i64 p,.int .i64 l]] [.gone] (.bool (limB c p l)) [.gone]:=by
 refine zf_ (fn:=Try.f102) 1 31 0 rfl rfl rfl rfl rfl u3_ rfl fun w0 M E hro=>?_
 by_cases h0:0≤c
 ·by_cases h1:c≤1024
  ·by_cases h2:0≤p
   ·by_cases h3:p≤16
    ·by_cases h4:1≤l
     ·by_cases h5:l≤1048576
      ·have e:limB c p l=true:=by simp[limB,h0,h1,h2,h3,h4,h5]
       rw[e]
       repeat' (first|refine Ctl.h ?_ |((with_reducible intro hif);first |(focus (cases hif;done)) |((try simp only[JH]at hif);try exact hy_)) |((with_reducible first|apply J22 y3_ za_|apply J23 fol y3_ za_|apply J24);(·rfl);(· exact k14_);(try kernel_rfl);try exact xx_)|fail)
       apply At.endsRet za_ (fn:=Try.f102) (rs:=[.tmp 2]) Anc.refl hro (lb_ rfl) rfl
       ·exact k3_
       ·exact k4_
       ·exact k5_
       ·rfl
       ·exact k6_
       ·exact k7_
       ·exact fun β=>rfl
       ·exact k6_
      ·have e:limB c p l=false:=by simp[limB,h0,h1,h2,h3,h4,h5]
       rw[e]
       repeat' (first|refine Ctl.h ?_ |((with_reducible intro hif);first |(focus (cases hif;done)) |((try simp only[JH]at hif);try exact hy_)) |((with_reducible first|apply J22 y3_ za_|apply J23 fol y3_ za_|apply J24);(·rfl);(· exact k14_);(try kernel_rfl);try exact xx_)|fail)
       apply At.endsRet za_ (fn:=Try.f102) (rs:=[.tmp 2]) Anc.refl hro (lb_ rfl) rfl
       ·exact k3_
       ·exact k4_
       ·exact k5_
       ·rfl
       ·exact k6_
       ·exact k7_
       ·exact fun β=>rfl
       ·exact k6_
     ·have e:limB c p l=false:=by simp[limB,h0,h1,h2,h3,h4]
      rw[e]
      repeat' (first|refine Ctl.h ?_ |((with_reducible intro hif);first |(focus (cases hif;done)) |((try simp only[JH]at hif);try exact hy_)) |((with_reducible first|apply J22 y3_ za_|apply J23 fol y3_ za_|apply J24);(·rfl);(· exact k15_);(try kernel_rfl);try exact xx_)|fail)
      apply At.endsRet za_ (fn:=Try.f102) (rs:=[.tmp 2]) Anc.refl hro (lb_ rfl) rfl
      ·exact k3_
      ·exact k4_
      ·exact k5_
      ·rfl
      ·exact k6_
      ·exact k7_
      ·exact fun β=>rfl
      ·exact k6_
    ·have e:limB c p l=false:=by simp[limB,h0,h1,h2,h3]
     rw[e]
     repeat' (first|refine Ctl.h ?_ |((with_reducible intro hif);first |(focus (cases hif;done)) |((try simp only[JH]at hif);try exact hy_)) |((with_reducible first|apply J22 y3_ za_|apply J23 fol y3_ za_|apply J24);(·rfl);(· exact k16_);(try kernel_rfl);try exact xx_)|fail)
     apply At.endsRet za_ (fn:=Try.f102) (rs:=[.tmp 2]) Anc.refl hro (lb_ rfl) rfl
     ·exact k3_
     ·exact k4_
     ·exact k5_
     ·rfl
     ·exact k6_
     ·exact k7_
     ·exact fun β=>rfl
     ·exact k6_
   ·have e:limB c p l=false:=by simp[limB,h0,h1,h2]
    rw[e]
    repeat' (first|refine Ctl.h ?_ |((with_reducible intro hif);first |(focus (cases hif;done)) |((try simp only[JH]at hif);try exact hy_)) |((with_reducible first|apply J22 y3_ za_|apply J23 fol y3_ za_|apply J24);(·rfl);(· exact k17_);(try kernel_rfl);try exact xx_)|fail)
    apply At.endsRet za_ (fn:=Try.f102) (rs:=[.tmp 2]) Anc.refl hro (lb_ rfl) rfl
    ·exact k3_
    ·exact k4_
    ·exact k5_
    ·rfl
    ·exact k6_
    ·exact k7_
    ·exact fun β=>rfl
    ·exact k6_
  ·have e:limB c p l=false:=by simp[limB,h0,h1]
   rw[e]
   repeat' (first|refine Ctl.h ?_ |((with_reducible intro hif);first |(focus (cases hif;done)) |((try simp only[JH]at hif);try exact hy_)) |((with_reducible first|apply J22 y3_ za_|apply J23 fol y3_ za_|apply J24);(·rfl);(· exact k18_);(try kernel_rfl);try exact xx_)|fail)
   apply At.endsRet za_ (fn:=Try.f102) (rs:=[.tmp 2]) Anc.refl hro (lb_ rfl) rfl
   ·exact k3_
   ·exact k4_
   ·exact k5_
   ·rfl
   ·exact k6_
   ·exact k7_
   ·exact fun β=>rfl
   ·exact k6_
 ·have e:limB c p l=false:=by simp[limB,h0]
  rw[e]
  repeat' (first|refine Ctl.h ?_ |((with_reducible intro hif);first |(focus (cases hif;done)) |((try simp only[JH]at hif);try exact hy_)) |((with_reducible first|apply J22 y3_ za_|apply J23 fol y3_ za_|apply J24);(·rfl);(· exact k19_);(try kernel_rfl);try exact xx_)|fail)
  apply At.endsRet za_ (fn:=Try.f102) (rs:=[.tmp 2]) Anc.refl hro (lb_ rfl) rfl
  ·exact k3_
  ·exact k4_
  ·exact k5_
  ·rfl
  ·exact k6_
  ·exact k7_
  ·exact fun β=>rfl
  ·exact k6_
def sRight17:y4_:=fun args h m=>match args with
 | [.agg [v1,v2,v3]]=>bif isI .i64 v1 && isI .i64 v2 && isI .i64 v3 then some (True,.bool (limB (iOf v1) (iOf v2) (iOf v3)),[],[])else none
 | _=>none
theorem sRight17_ok:zm_ Try.prog 102 sRight17:=by
 refine⟨zg_ (by kernel_rfl),fun args h m c v rd wr hs hm hc w0 M β h' w R hrd hwr hst=>?_⟩
 unfold sRight17 at hs
 split at hs
 ·rename_i v1 v2 v3
  obtain⟨hb,hs⟩:=zn_ hs
  simp only[Option.some.injEq,Prod.mk.injEq]at hs
  obtain⟨rfl,rfl,rfl,rfl⟩:=hs
  simp only[Bool.and_eq_true]at hb
  obtain⟨⟨b1,b2⟩,b3⟩:=hb
  refine yb_ (views:=[]) (right_lit17 (iOf v1) (iOf v2) (iOf v3)) ?_ R hm hwr ?_ ?_ ?_
  ·intro x hx;cases hx
  ·exact d19_
  ·exact k6_
  ·exact k6_
 ·cases hs
def cFits:FuncId→Option y4_:=xz_ [(55,sCheck),(102,sRight17)]
theorem cFits_ok:∀f S,cFits f=some S→zm_ Try.prog f S:=z0_ ⟨sCheck_ok,sRight17_ok,trivial⟩
def fitE (xs:List Ins)(c p l:Int):Int:=if (zu_ xs).2=0 then(if limB c p l=true then 0 else 171)else 170
theorem fits_lit (xs:List Ins)(p1:Nat)(c p l:Int)(hx:∀x∈xs,x.ok)(hl:xs.length≤281474976710656):zz_ Try.prog 57 [.agg [.int .i64 c,.int .i64 p,.int .i64 l],.sl 1 2 [] 5 0 xs.length (some p1)] [.gone,.gone,.ro (.arr xs.length 5 (prS xs))] (.int .i64 (fitE xs c p l)) [.gone]:=by
 refine zf_ (fn:=Try.f57) 3 17 0 rfl rfl rfl rfl rfl u3_ rfl fun w0 M E hro=>?_
 by_cases h1:(zu_ xs).2=0
 ·cases h2:limB c p l
  ·have e:fitE xs c p l=171:=by simp[fitE,h1,h2]
   rw[e]
   repeat' (first|refine Ctl.h ?_ |((with_reducible intro hif);first |(focus (cases hif;done)) |((try simp only[JH]at hif);try exact hy_)) |((with_reducible first|apply J22 cFits_ok za_|apply J23 fol cFits_ok za_|apply J24);(·rfl);(· exact k21_);(try kernel_rfl);try exact k20_)|fail)
   apply At.endsRet za_ (fn:=Try.f57) (rs:=[.tmp 4]) Anc.refl hro (lb_ rfl) rfl
   ·exact k3_
   ·exact k4_
   ·exact k5_
   ·rfl
   ·exact k6_
   ·exact k7_
   ·exact fun β=>rfl
   ·exact k6_
  ·have e:fitE xs c p l=0:=by simp[fitE,h1,h2]
   rw[e]
   repeat' (first|refine Ctl.h ?_ |((with_reducible intro hif);first |(focus (cases hif;done)) |((try simp only[JH]at hif);try exact hy_)) |((with_reducible first|apply J22 cFits_ok za_|apply J23 fol cFits_ok za_|apply J24);(·rfl);(· exact k21_);(try kernel_rfl);try exact k20_)|fail)
   apply At.endsRet za_ (fn:=Try.f57) (rs:=[.tmp 4]) Anc.refl hro (lb_ rfl) rfl
   ·exact k3_
   ·exact k4_
   ·exact k5_
   ·rfl
   ·exact k6_
   ·exact k7_
   ·exact fun β=>rfl
   ·exact k6_
 ·have e:fitE xs c p l=170:=by simp[fitE,h1]
  rw[e]
  repeat' (first|refine Ctl.h ?_ |((with_reducible intro hif);first |(focus (cases hif;done)) |((try simp only[JH]at hif);try exact hy_)) |((with_reducible first|apply J22 cFits_ok za_|apply J23 fol cFits_ok za_|apply J24);(·rfl);(· (simp only[push_cast,↓JP,Nat.reduceAdd,Nat.reduceEqDiff,Nat.reduceLT,Nat.reduceMul,Nat.reduceLeDiff,reduceCtorEq,reduceIte,↓JK,↓JF,cFits,sCheck,sRight17,y9_,yt_,ys_,h1];rfl));(try kernel_rfl);try exact k20_)|fail)
  apply At.endsRet za_ (fn:=Try.f57) (rs:=[.tmp 4]) Anc.refl hro (lb_ rfl) rfl
  ·exact k3_
  ·exact k4_
  ·exact k5_
  ·rfl
  ·exact k6_
  ·exact k7_
  ·exact fun β=>rfl
  ·exact k6_
def sFits:y4_:=fun args h m=>match args with
 | [.agg [v1,v2,v3],v4]=>match srcV h 5 (.tup []) v4 with
  | some (c4,n4,f4,r4)=>bif isI .i64 v1 && isI .i64 v2 && isI .i64 v3 then some (c4∧(∀q,q < n4→xt_ (f4 q)=true)∧((∀x∈(ls zd_ n4 f4),x.ok))∧(n4≤281474976710656),.int .i64 (fitE (ls zd_ n4 f4) (iOf v1) (iOf v2) (iOf v3)),r4,[])else none
  | _=>none
 | _=>none
theorem sFits_ok:zm_ Try.prog 57 sFits:=by
 refine⟨zg_ (by kernel_rfl),fun args h m c v rd wr hs hm hc w0 M β h' w R hrd hwr hst=>?_⟩
 unfold sFits at hs
 split at hs
 ·rename_i v1 v2 v3 v4
  split at hs
  ·rename_i c4 n4 f4 r4 a4
   obtain⟨hb,hs⟩:=zn_ hs
   simp only[Option.some.injEq,Prod.mk.injEq]at hs
   obtain⟨rfl,rfl,rfl,rfl⟩:=hs
   simp only[Bool.and_eq_true]at hb
   obtain⟨⟨b1,b2⟩,b3⟩:=hb
   obtain⟨k4,g4,y1,y2⟩:=hc
   obtain⟨A4,p4,d4,e4,t4⟩:=zp_ R a4 k4 (fun i hi=>hrd i hi) (by omega)
   refine yb_ (views:=[⟨5,(ls zd_ n4 f4).length,prS (ls zd_ n4 f4),A4,p4⟩]) (fits_lit (ls zd_ n4 f4) p4 (iOf v1) (iOf v2) (iOf v3) y1 (by rw[zc_];exact y2)) ?_ R hm hwr ?_ ?_ ?_
   ·intro x hx
    simp only[List.mem_cons,List.not_mem_nil,or_false]at hx
    subst hx
    ·exact y2_ t4 e4 g4
   ·intro β1 hv
    simp only[Vd,zc_,and_true]at hv
    have z4:=hv
    simp only[denL,z7_,z6_,z5_,zt_,zc_,z4,d4,zo_ b1,zo_ b2,zo_ b3]
   ·exact k6_
   ·exact k6_
  ·cases hs
 ·cases hs
def y5_ (lc lp ll:Int)(i:Ins)(f:Ft):Int:=
 if f.reached=false then 0 else if i.op=2 then 176
 else if i.op=5∨i.op=6 then(if lc=0∨((f.regs i.b.toNat).is_=true∧((f.regs i.b.toNat).n < 0∨lc≤(f.regs i.b.toNat).n))then 172 else 0)
 else if i.op=8∧lp≤i.n then 173
 else if i.op=8∧(f.regs i.a.toNat).is_=true∧(f.regs i.a.toNat).n < ll then 174
 else if i.op=7∧(f.regs i.b.toNat).is_=true∧(f.regs i.b.toNat).n < 1 then 175
 else if divB i.op=true∧(f.regs i.c.toNat).is_=true∧(f.regs i.c.toNat).n=0 then 131 else 0
def cWhy:FuncId→Option y4_:=xz_ [(103,sDiv)]
theorem ya_:∀f S,cWhy f=some S→zm_ Try.prog f S:=z0_ ⟨sDiv_ok,trivial⟩
theorem why_lit (lc lp ll:Int)(i:Ins)(f:Ft)(hi:i.ok)(ha:i.a < 8)(hb:i.b < 8)(hc:i.c < 8):zz_ Try.prog 58 [.agg [.int .i64 lc,.int .i64 lp,.int .i64 ll],insS i,ftS f] [.gone] (.int .i64 (y5_ lc lp ll i f)) [.gone]:=by
 refine zf_ (fn:=Try.f58) 1 107 0 rfl rfl rfl rfl rfl (by simp only[zh_,zb_,hp];simp[HB.born,insS,ftS,kaS,kS,zb_,zh_]) rfl fun w0 M E hro=>?_
 obtain⟨o0,o1,a0,a1,b0,b1,c0,c1,n0,n1⟩:=hi
 have han:i.a.toNat < 8:=by omega
 have hbn:i.b.toNat < 8:=by omega
 have hcn:i.c.toNat < 8:=by omega
 cases hre:f.reached
 ·have e:y5_ lc lp ll i f=0:=by unfold y5_;simp[hre]
  rw[e]
  repeat' (first|refine Ctl.h ?_ |((with_reducible intro hif);first |(focus (cases hif;done)) |((try simp only[JH]at hif);try exact hy_)) |((with_reducible first|apply J22 ya_ za_|apply J23 fol ya_ za_|apply J24);(·rfl);(· (simp only[push_cast,↓JP,Nat.reduceAdd,Nat.reduceEqDiff,Nat.reduceLT,Nat.reduceMul,Nat.reduceLeDiff,reduceCtorEq,reduceIte,↓JK,↓JF,cWhy,sDiv,↓kn_eqZ,inN,inR,hre];rfl));(try kernel_rfl);try exact xx_)|fail)
  apply At.endsRet za_ (fn:=Try.f58) (rs:=[.tmp 6]) Anc.refl hro (lb_ rfl) rfl
  ·exact k3_
  ·exact k4_
  ·exact k5_
  ·rfl
  ·exact k6_
  ·exact k7_
  ·exact fun β=>rfl
  ·exact k6_
 ·by_cases h2:i.op=2
  ·have e:y5_ lc lp ll i f=176:=by unfold y5_;simp[hre,h2]
   rw[e]
   repeat' (first|refine Ctl.h ?_ |((with_reducible intro hif);first |(focus (cases hif;done)) |((try simp only[JH]at hif);try exact hy_)) |((with_reducible first|apply J22 ya_ za_|apply J23 fol ya_ za_|apply J24);(·rfl);(· (simp only[push_cast,↓JP,Nat.reduceAdd,Nat.reduceEqDiff,Nat.reduceLT,Nat.reduceMul,Nat.reduceLeDiff,reduceCtorEq,reduceIte,↓JK,↓JF,cWhy,sDiv,↓kn_eqZ,inN,inR,hre,h2];rfl));(try kernel_rfl);try exact xx_)|fail)
   apply At.endsRet za_ (fn:=Try.f58) (rs:=[.tmp 6]) Anc.refl hro (lb_ rfl) rfl
   ·exact k3_
   ·exact k4_
   ·exact k5_
   ·rfl
   ·exact k6_
   ·exact k7_
   ·exact fun β=>rfl
   ·exact k6_
  ·by_cases h5:i.op=5
   ·by_cases q1:lc=0
    ·have e:y5_ lc lp ll i f=172:=by unfold y5_;simp[hre,h5,q1]
     rw[e]
     repeat' (first|refine Ctl.h ?_ |((with_reducible intro hif);first |(focus (cases hif;done)) |((try simp only[JH]at hif);try exact hy_)) |((with_reducible first|apply J22 ya_ za_|apply J23 fol ya_ za_|apply J24);(·rfl);(· (simp only[push_cast,↓JP,Nat.reduceAdd,Nat.reduceEqDiff,Nat.reduceLT,Nat.reduceMul,Nat.reduceLeDiff,reduceCtorEq,reduceIte,↓JK,↓JF,cWhy,sDiv,↓kn_eqZ,inN,inR,hre,h5,q1];rfl));(try kernel_rfl);try exact xx_)|fail)
     apply At.endsRet za_ (fn:=Try.f58) (rs:=[.tmp 6]) Anc.refl hro (lb_ rfl) rfl
     ·exact k3_
     ·exact k4_
     ·exact k5_
     ·rfl
     ·exact k6_
     ·exact k7_
     ·exact fun β=>rfl
     ·exact k6_
    ·cases q2:(f.regs i.b.toNat).is_
     ·have e:y5_ lc lp ll i f=0:=by unfold y5_;simp[hre,h5,q1,q2]
      rw[e]
      repeat' (first|refine Ctl.h ?_ |((with_reducible intro hif);first |(focus (cases hif;done)) |((try simp only[JH]at hif);try exact hy_)) |((with_reducible first|apply J22 ya_ za_|apply J23 fol ya_ za_|apply J24);(·rfl);(· (simp only[push_cast,↓JP,Nat.reduceAdd,Nat.reduceEqDiff,Nat.reduceLT,Nat.reduceMul,Nat.reduceLeDiff,reduceCtorEq,reduceIte,↓JK,↓JF,cWhy,sDiv,↓kn_eqZ,inN,inR,hre,h5,q1,q2];rfl));(try kernel_rfl);try exact xx_)|fail)
      apply At.endsRet za_ (fn:=Try.f58) (rs:=[.tmp 6]) Anc.refl hro (lb_ rfl) rfl
      ·exact k3_
      ·exact k4_
      ·exact k5_
      ·rfl
      ·exact k6_
      ·exact k7_
      ·exact fun β=>rfl
      ·exact k6_
     ·by_cases q3:(f.regs i.b.toNat).n < 0
      ·have e:y5_ lc lp ll i f=172:=by unfold y5_;simp[hre,h5,q1,q2,q3]
       rw[e]
       repeat' (first|refine Ctl.h ?_ |((with_reducible intro hif);first |(focus (cases hif;done)) |((try simp only[JH]at hif);try exact hy_)) |((with_reducible first|apply J22 ya_ za_|apply J23 fol ya_ za_|apply J24);(·rfl);(· (simp only[push_cast,↓JP,Nat.reduceAdd,Nat.reduceEqDiff,Nat.reduceLT,Nat.reduceMul,Nat.reduceLeDiff,reduceCtorEq,reduceIte,↓JK,↓JF,cWhy,sDiv,↓kn_eqZ,inN,inR,hre,h5,q1,q2,q3];rfl));(try kernel_rfl);try exact xx_)|fail)
       apply At.endsRet za_ (fn:=Try.f58) (rs:=[.tmp 6]) Anc.refl hro (lb_ rfl) rfl
       ·exact k3_
       ·exact k4_
       ·exact k5_
       ·rfl
       ·exact k6_
       ·exact k7_
       ·exact fun β=>rfl
       ·exact k6_
      ·by_cases q4:lc≤(f.regs i.b.toNat).n
       ·have e:y5_ lc lp ll i f=172:=by unfold y5_;simp[hre,h5,q1,q2,q3,q4]
        rw[e]
        repeat' (first|refine Ctl.h ?_ |((with_reducible intro hif);first |(focus (cases hif;done)) |((try simp only[JH]at hif);try exact hy_)) |((with_reducible first|apply J22 ya_ za_|apply J23 fol ya_ za_|apply J24);(·rfl);(· exact k22_);(try kernel_rfl);try exact xx_)|fail)
        apply At.endsRet za_ (fn:=Try.f58) (rs:=[.tmp 6]) Anc.refl hro (lb_ rfl) rfl
        ·exact k3_
        ·exact k4_
        ·exact k5_
        ·rfl
        ·exact k6_
        ·exact k7_
        ·exact fun β=>rfl
        ·exact k6_
       ·have e:y5_ lc lp ll i f=0:=by unfold y5_;simp[hre,h5,q1,q2,q3,q4]
        rw[e]
        repeat' (first|refine Ctl.h ?_ |((with_reducible intro hif);first |(focus (cases hif;done)) |((try simp only[JH]at hif);try exact hy_)) |((with_reducible first|apply J22 ya_ za_|apply J23 fol ya_ za_|apply J24);(·rfl);(· exact k22_);(try kernel_rfl);try exact xx_)|fail)
        apply At.endsRet za_ (fn:=Try.f58) (rs:=[.tmp 6]) Anc.refl hro (lb_ rfl) rfl
        ·exact k3_
        ·exact k4_
        ·exact k5_
        ·rfl
        ·exact k6_
        ·exact k7_
        ·exact fun β=>rfl
        ·exact k6_
   ·by_cases h6:i.op=6
    ·by_cases q1:lc=0
     ·have e:y5_ lc lp ll i f=172:=by unfold y5_;simp[hre,h6,q1]
      rw[e]
      repeat' (first|refine Ctl.h ?_ |((with_reducible intro hif);first |(focus (cases hif;done)) |((try simp only[JH]at hif);try exact hy_)) |((with_reducible first|apply J22 ya_ za_|apply J23 fol ya_ za_|apply J24);(·rfl);(· (simp only[push_cast,↓JP,Nat.reduceAdd,Nat.reduceEqDiff,Nat.reduceLT,Nat.reduceMul,Nat.reduceLeDiff,reduceCtorEq,reduceIte,↓JK,↓JF,cWhy,sDiv,↓kn_eqZ,inN,inR,hre,h6,q1];rfl));(try kernel_rfl);try exact xx_)|fail)
      apply At.endsRet za_ (fn:=Try.f58) (rs:=[.tmp 6]) Anc.refl hro (lb_ rfl) rfl
      ·exact k3_
      ·exact k4_
      ·exact k5_
      ·rfl
      ·exact k6_
      ·exact k7_
      ·exact fun β=>rfl
      ·exact k6_
     ·cases q2:(f.regs i.b.toNat).is_
      ·have e:y5_ lc lp ll i f=0:=by unfold y5_;simp[hre,h6,q1,q2]
       rw[e]
       repeat' (first|refine Ctl.h ?_ |((with_reducible intro hif);first |(focus (cases hif;done)) |((try simp only[JH]at hif);try exact hy_)) |((with_reducible first|apply J22 ya_ za_|apply J23 fol ya_ za_|apply J24);(·rfl);(· (simp only[push_cast,↓JP,Nat.reduceAdd,Nat.reduceEqDiff,Nat.reduceLT,Nat.reduceMul,Nat.reduceLeDiff,reduceCtorEq,reduceIte,↓JK,↓JF,cWhy,sDiv,↓kn_eqZ,inN,inR,hre,h6,q1,q2];rfl));(try kernel_rfl);try exact xx_)|fail)
       apply At.endsRet za_ (fn:=Try.f58) (rs:=[.tmp 6]) Anc.refl hro (lb_ rfl) rfl
       ·exact k3_
       ·exact k4_
       ·exact k5_
       ·rfl
       ·exact k6_
       ·exact k7_
       ·exact fun β=>rfl
       ·exact k6_
      ·by_cases q3:(f.regs i.b.toNat).n < 0
       ·have e:y5_ lc lp ll i f=172:=by unfold y5_;simp[hre,h6,q1,q2,q3]
        rw[e]
        repeat' (first|refine Ctl.h ?_ |((with_reducible intro hif);first |(focus (cases hif;done)) |((try simp only[JH]at hif);try exact hy_)) |((with_reducible first|apply J22 ya_ za_|apply J23 fol ya_ za_|apply J24);(·rfl);(· (simp only[push_cast,↓JP,Nat.reduceAdd,Nat.reduceEqDiff,Nat.reduceLT,Nat.reduceMul,Nat.reduceLeDiff,reduceCtorEq,reduceIte,↓JK,↓JF,cWhy,sDiv,↓kn_eqZ,inN,inR,hre,h6,q1,q2,q3];rfl));(try kernel_rfl);try exact xx_)|fail)
        apply At.endsRet za_ (fn:=Try.f58) (rs:=[.tmp 6]) Anc.refl hro (lb_ rfl) rfl
        ·exact k3_
        ·exact k4_
        ·exact k5_
        ·rfl
        ·exact k6_
        ·exact k7_
        ·exact fun β=>rfl
        ·exact k6_
       ·by_cases q4:lc≤(f.regs i.b.toNat).n
        ·have e:y5_ lc lp ll i f=172:=by unfold y5_;simp[hre,h6,q1,q2,q3,q4]
         rw[e]
         repeat' (first|refine Ctl.h ?_ |((with_reducible intro hif);first |(focus (cases hif;done)) |((try simp only[JH]at hif);try exact hy_)) |((with_reducible first|apply J22 ya_ za_|apply J23 fol ya_ za_|apply J24);(·rfl);(· exact k23_);(try kernel_rfl);try exact xx_)|fail)
         apply At.endsRet za_ (fn:=Try.f58) (rs:=[.tmp 6]) Anc.refl hro (lb_ rfl) rfl
         ·exact k3_
         ·exact k4_
         ·exact k5_
         ·rfl
         ·exact k6_
         ·exact k7_
         ·exact fun β=>rfl
         ·exact k6_
        ·have e:y5_ lc lp ll i f=0:=by unfold y5_;simp[hre,h6,q1,q2,q3,q4]
         rw[e]
         repeat' (first|refine Ctl.h ?_ |((with_reducible intro hif);first |(focus (cases hif;done)) |((try simp only[JH]at hif);try exact hy_)) |((with_reducible first|apply J22 ya_ za_|apply J23 fol ya_ za_|apply J24);(·rfl);(· exact k23_);(try kernel_rfl);try exact xx_)|fail)
         apply At.endsRet za_ (fn:=Try.f58) (rs:=[.tmp 6]) Anc.refl hro (lb_ rfl) rfl
         ·exact k3_
         ·exact k4_
         ·exact k5_
         ·rfl
         ·exact k6_
         ·exact k7_
         ·exact fun β=>rfl
         ·exact k6_
    ·by_cases h8:i.op=8
     ·have hd:divB i.op=false:=by rw[h8];rfl
      by_cases q1:lp≤i.n
      ·have e:y5_ lc lp ll i f=173:=by unfold y5_;simp[hre,h8,hd,q1,divB]
       rw[e]
       repeat' (first|refine Ctl.h ?_ |((with_reducible intro hif);first |(focus (cases hif;done)) |((try simp only[JH]at hif);try exact hy_)) |((with_reducible first|apply J22 ya_ za_|apply J23 fol ya_ za_|apply J24);(·rfl);(· (simp only[push_cast,↓JP,Nat.reduceAdd,Nat.reduceEqDiff,Nat.reduceLT,Nat.reduceMul,Nat.reduceLeDiff,reduceCtorEq,reduceIte,↓JK,↓JF,cWhy,sDiv,↓kn_eqZ,inN,inR,hre,h8,hd,q1];rfl));(try kernel_rfl);try exact xx_)|fail)
       apply At.endsRet za_ (fn:=Try.f58) (rs:=[.tmp 6]) Anc.refl hro (lb_ rfl) rfl
       ·exact k3_
       ·exact k4_
       ·exact k5_
       ·rfl
       ·exact k6_
       ·exact k7_
       ·exact fun β=>rfl
       ·exact k6_
      ·cases q2:(f.regs i.a.toNat).is_
       ·have e:y5_ lc lp ll i f=0:=by unfold y5_;simp[hre,h8,hd,q1,q2,divB]
        rw[e]
        repeat' (first|refine Ctl.h ?_ |((with_reducible intro hif);first |(focus (cases hif;done)) |((try simp only[JH]at hif);try exact hy_)) |((with_reducible first|apply J22 ya_ za_|apply J23 fol ya_ za_|apply J24);(·rfl);(· (simp only[push_cast,↓JP,Nat.reduceAdd,Nat.reduceEqDiff,Nat.reduceLT,Nat.reduceMul,Nat.reduceLeDiff,reduceCtorEq,reduceIte,↓JK,↓JF,cWhy,sDiv,↓kn_eqZ,inN,inR,hre,h8,hd,q1,q2];rfl));(try kernel_rfl);try exact xx_)|fail)
        apply At.endsRet za_ (fn:=Try.f58) (rs:=[.tmp 6]) Anc.refl hro (lb_ rfl) rfl
        ·exact k3_
        ·exact k4_
        ·exact k5_
        ·rfl
        ·exact k6_
        ·exact k7_
        ·exact fun β=>rfl
        ·exact k6_
       ·by_cases q3:(f.regs i.a.toNat).n < ll
        ·have e:y5_ lc lp ll i f=174:=by unfold y5_;simp[hre,h8,hd,q1,q2,q3,divB]
         rw[e]
         repeat' (first|refine Ctl.h ?_ |((with_reducible intro hif);first |(focus (cases hif;done)) |((try simp only[JH]at hif);try exact hy_)) |((with_reducible first|apply J22 ya_ za_|apply J23 fol ya_ za_|apply J24);(·rfl);(· exact k24_);(try kernel_rfl);try exact xx_)|fail)
         apply At.endsRet za_ (fn:=Try.f58) (rs:=[.tmp 6]) Anc.refl hro (lb_ rfl) rfl
         ·exact k3_
         ·exact k4_
         ·exact k5_
         ·rfl
         ·exact k6_
         ·exact k7_
         ·exact fun β=>rfl
         ·exact k6_
        ·have e:y5_ lc lp ll i f=0:=by unfold y5_;simp[hre,h8,hd,q1,q2,q3,divB]
         rw[e]
         repeat' (first|refine Ctl.h ?_ |((with_reducible intro hif);first |(focus (cases hif;done)) |((try simp only[JH]at hif);try exact hy_)) |((with_reducible first|apply J22 ya_ za_|apply J23 fol ya_ za_|apply J24);(·rfl);(· exact k24_);(try kernel_rfl);try exact xx_)|fail)
         apply At.endsRet za_ (fn:=Try.f58) (rs:=[.tmp 6]) Anc.refl hro (lb_ rfl) rfl
         ·exact k3_
         ·exact k4_
         ·exact k5_
         ·rfl
         ·exact k6_
         ·exact k7_
         ·exact fun β=>rfl
         ·exact k6_
     ·by_cases h7:i.op=7
      ·have hd:divB i.op=false:=by rw[h7];rfl
       cases q2:(f.regs i.b.toNat).is_
       ·have e:y5_ lc lp ll i f=0:=by unfold y5_;simp[hre,h7,hd,q2,divB]
        rw[e]
        repeat' (first|refine Ctl.h ?_ |((with_reducible intro hif);first |(focus (cases hif;done)) |((try simp only[JH]at hif);try exact hy_)) |((with_reducible first|apply J22 ya_ za_|apply J23 fol ya_ za_|apply J24);(·rfl);(· (simp only[push_cast,↓JP,Nat.reduceAdd,Nat.reduceEqDiff,Nat.reduceLT,Nat.reduceMul,Nat.reduceLeDiff,reduceCtorEq,reduceIte,↓JK,↓JF,cWhy,sDiv,↓kn_eqZ,inN,inR,hre,h7,hd,q2];rfl));(try kernel_rfl);try exact xx_)|fail)
        apply At.endsRet za_ (fn:=Try.f58) (rs:=[.tmp 6]) Anc.refl hro (lb_ rfl) rfl
        ·exact k3_
        ·exact k4_
        ·exact k5_
        ·rfl
        ·exact k6_
        ·exact k7_
        ·exact fun β=>rfl
        ·exact k6_
       ·by_cases q3:(f.regs i.b.toNat).n < 1
        ·have e:y5_ lc lp ll i f=175:=by unfold y5_;simp[hre,h7,hd,q2,q3,divB]
         rw[e]
         repeat' (first|refine Ctl.h ?_ |((with_reducible intro hif);first |(focus (cases hif;done)) |((try simp only[JH]at hif);try exact hy_)) |((with_reducible first|apply J22 ya_ za_|apply J23 fol ya_ za_|apply J24);(·rfl);(· exact k25_);(try kernel_rfl);try exact xx_)|fail)
         apply At.endsRet za_ (fn:=Try.f58) (rs:=[.tmp 6]) Anc.refl hro (lb_ rfl) rfl
         ·exact k3_
         ·exact k4_
         ·exact k5_
         ·rfl
         ·exact k6_
         ·exact k7_
         ·exact fun β=>rfl
         ·exact k6_
        ·have e:y5_ lc lp ll i f=0:=by unfold y5_;simp[hre,h7,hd,q2,q3,divB]
         rw[e]
         repeat' (first|refine Ctl.h ?_ |((with_reducible intro hif);first |(focus (cases hif;done)) |((try simp only[JH]at hif);try exact hy_)) |((with_reducible first|apply J22 ya_ za_|apply J23 fol ya_ za_|apply J24);(·rfl);(· exact k25_);(try kernel_rfl);try exact xx_)|fail)
         apply At.endsRet za_ (fn:=Try.f58) (rs:=[.tmp 6]) Anc.refl hro (lb_ rfl) rfl
         ·exact k3_
         ·exact k4_
         ·exact k5_
         ·rfl
         ·exact k6_
         ·exact k7_
         ·exact fun β=>rfl
         ·exact k6_
      ·cases hd:divB i.op
       ·have e:y5_ lc lp ll i f=0:=by unfold y5_;simp[hre,h2,h5,h6,h8,h7,hd]
        rw[e]
        repeat' (first|refine Ctl.h ?_ |((with_reducible intro hif);first |(focus (cases hif;done)) |((try simp only[JH]at hif);try exact hy_)) |((with_reducible first|apply J22 ya_ za_|apply J23 fol ya_ za_|apply J24);(·rfl);(· (simp only[push_cast,↓JP,Nat.reduceAdd,Nat.reduceEqDiff,Nat.reduceLT,Nat.reduceMul,Nat.reduceLeDiff,reduceCtorEq,reduceIte,↓JK,↓JF,cWhy,sDiv,↓kn_eqZ,inN,inR,hre,h2,h5,h6,h8,h7,hd];rfl));(try kernel_rfl);try exact xx_)|fail)
        apply At.endsRet za_ (fn:=Try.f58) (rs:=[.tmp 6]) Anc.refl hro (lb_ rfl) rfl
        ·exact k3_
        ·exact k4_
        ·exact k5_
        ·rfl
        ·exact k6_
        ·exact k7_
        ·exact fun β=>rfl
        ·exact k6_
       ·cases q1:(f.regs i.c.toNat).is_
        ·have e:y5_ lc lp ll i f=0:=by unfold y5_;simp[hre,h2,h5,h6,h8,h7,hd,q1]
         rw[e]
         repeat' (first|refine Ctl.h ?_ |((with_reducible intro hif);first |(focus (cases hif;done)) |((try simp only[JH]at hif);try exact hy_)) |((with_reducible first|apply J22 ya_ za_|apply J23 fol ya_ za_|apply J24);(·rfl);(· (simp only[push_cast,↓JP,Nat.reduceAdd,Nat.reduceEqDiff,Nat.reduceLT,Nat.reduceMul,Nat.reduceLeDiff,reduceCtorEq,reduceIte,↓JK,↓JF,cWhy,sDiv,↓kn_eqZ,inN,inR,hre,h2,h5,h6,h8,h7,hd,q1];rfl));(try kernel_rfl);try exact xx_)|fail)
         apply At.endsRet za_ (fn:=Try.f58) (rs:=[.tmp 6]) Anc.refl hro (lb_ rfl) rfl
         ·exact k3_
         ·exact k4_
         ·exact k5_
         ·rfl
         ·exact k6_
         ·exact k7_
         ·exact fun β=>rfl
         ·exact k6_
        ·by_cases q2:(f.regs i.c.toNat).n=0
         ·have e:y5_ lc lp ll i f=131:=by unfold y5_;simp[hre,h2,h5,h6,h8,h7,hd,q1,q2]
          rw[e]
          repeat' (first|refine Ctl.h ?_ |((with_reducible intro hif);first |(focus (cases hif;done)) |((try simp only[JH]at hif);try exact hy_)) |((with_reducible first|apply J22 ya_ za_|apply J23 fol ya_ za_|apply J24);(·rfl);(· exact k26_);(try kernel_rfl);try exact xx_)|fail)
          apply At.endsRet za_ (fn:=Try.f58) (rs:=[.tmp 6]) Anc.refl hro (lb_ rfl) rfl
          ·exact k3_
          ·exact k4_
          ·exact k5_
          ·rfl
          ·exact k6_
          ·exact k7_
          ·exact fun β=>rfl
          ·exact k6_
         ·have e:y5_ lc lp ll i f=0:=by unfold y5_;simp[hre,h2,h5,h6,h8,h7,hd,q1,q2]
          rw[e]
          repeat' (first|refine Ctl.h ?_ |((with_reducible intro hif);first |(focus (cases hif;done)) |((try simp only[JH]at hif);try exact hy_)) |((with_reducible first|apply J22 ya_ za_|apply J23 fol ya_ za_|apply J24);(·rfl);(· exact k26_);(try kernel_rfl);try exact xx_)|fail)
          apply At.endsRet za_ (fn:=Try.f58) (rs:=[.tmp 6]) Anc.refl hro (lb_ rfl) rfl
          ·exact k3_
          ·exact k4_
          ·exact k5_
          ·rfl
          ·exact k6_
          ·exact k7_
          ·exact fun β=>rfl
          ·exact k6_
def sWhyL:y4_:=fun args h m=>match args with
 | [.agg [v1,v2,v3],v4,v5]=>bif isI .i64 v1 && isI .i64 v2 && isI .i64 v3 && xt_ v4 && isFt v5 then some (((zd_ v4).ok)∧((zd_ v4).a < 8)∧((zd_ v4).b < 8)∧((zd_ v4).c < 8),.int .i64 (y5_ (iOf v1) (iOf v2) (iOf v3) (zd_ v4) (ftOf v5)),[],[])else none
 | _=>none
theorem sWhyL_ok:zm_ Try.prog 58 sWhyL:=by
 refine⟨zg_ (by kernel_rfl),fun args h m c v rd wr hs hm hc w0 M β h' w R hrd hwr hst=>?_⟩
 unfold sWhyL at hs
 split at hs
 ·rename_i v1 v2 v3 v4 v5
  obtain⟨hb,hs⟩:=zn_ hs
  simp only[Option.some.injEq,Prod.mk.injEq]at hs
  obtain⟨rfl,rfl,rfl,rfl⟩:=hs
  simp only[Bool.and_eq_true]at hb
  obtain⟨⟨⟨⟨b1,b2⟩,b3⟩,b4⟩,b5⟩:=hb
  obtain⟨y1,y2,y3,y4⟩:=hc
  refine yb_ (views:=[]) (why_lit (iOf v1) (iOf v2) (iOf v3) (zd_ v4) (ftOf v5) y1 y2 y3 y4) ?_ R hm hwr ?_ ?_ ?_
  ·intro x hx;cases hx
  ·intro β1 hv
   simp only[denL,z7_,z6_,z5_,zt_,zc_,zo_ b1,zo_ b2,zo_ b3,den_insOf b4,ftOf_den b5,den_insS,ftS_den]
  ·exact k6_
  ·exact k6_
 ·cases hs
end Go.Proofs.Ytmljmabbopkpiaa.Vm
end
