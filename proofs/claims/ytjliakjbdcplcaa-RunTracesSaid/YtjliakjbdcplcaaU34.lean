import Derived.Test.YtjliakjbdcplcaaU1
import Derived.Test.YtjliakjbdcplcaaU12
import Derived.Test.YtjliakjbdcplcaaU27
set_option linter.unusedSimpArgs false
set_option linter.unusedVariables false
set_option maxRecDepth 100000
set_option maxHeartbeats 4000000
section
namespace Go.Proofs.Ytjliakjbdcplcaa.Vm
open Go.RowKit
attribute [local push_cast] eqB eqBL allB prS zt_ i64S xo_ y3_ y2_ y1_ y0_ yz_ xn_ yy_ yx_ yw_ zy_ zv_ zw_ zu_ y5_ y4_ iOf
def yg_ (x:Ins)(i:Int):List Int:=(if xj_ x=true∧y7_ x≤i then [y7_ x] else [])++(if goesB x=true then [i+1] else [])++(if xj_ x=true∧i < y7_ x∧(i+1 < y7_ x∨goesB x=false)then [y7_ x] else [])
def cEd:FuncId→Option yr_:=xb_ [(94,sGoes),(93,z8_)]
theorem zl_:∀f S,cEd f=some S→zh_ Try.prog f S:=zn_ ⟨sGoes_ok,sTarget_ok,trivial⟩
theorem appSeq_lit (xs:List Ins)(i:Int)(hi:0≤i)(hn:i.toNat < xs.length)(hl:xs.length≤1000000)(cap:Nat)(x:Ins)(hok:x.ok)(hX:xs.getD i.toNat ⟨0,0,0,0,0⟩=x):yc_ Try.prog 100 [.sl 0 0 [] 0 0 0 (some 0),.fn 101 [.ptr 3 [],.ptr 4 []]]
  [.gone,.gone,.ro (.arr xs.length 5 (prS xs)),.ro (.sl 1 2 [] 5 0 xs.length (some cap)),.ro (.int .i64 i)]
  (.sl 5 5 [] 1 0 (yg_ x i).length none) [.gone,.gone,.gone,.gone,.gone,.own 3 (.arr (yg_ x i).length 1 (i64S (yg_ x i))) false]:=by
 refine zm_ (fn:=Try.f100) 5 13 0 rfl rfl rfl rfl rfl u10_ rfl fun w0 M E hro=>?_
 repeat' (first|refine Ctl.h ?_ |((with_reducible intro hif);first |(focus (cases hif;done)) |((try simp only[JH]at hif);try exact hy_)) |((with_reducible first|apply J22 zl_ za_|apply J23 fol zl_ za_|apply J24);(·rfl);(· exact k136_);(try kernel_rfl);try exact z9_)|fail)
 with_reducible apply WF.range (fn':=Try.f101) 59
 ·exact k42_
 ·exact yq_
 ·rfl
 ·rfl
 ·rfl
 ·rfl
 ·rfl
 ·rfl
 ·rfl
 intro E1 rec tmps after hE1 hrec hcf haft
 repeat' (first|refine Ctl.h ?_ |((with_reducible intro hif);first |(focus (cases hif;done)) |((try simp only[JH]at hif);try exact hy_)) |((with_reducible first|apply J22 zl_ za_|apply J23 fol zl_ za_|apply J24);(·rfl);(· (simp only[push_cast,↓JP,Nat.reduceAdd,Nat.reduceEqDiff,Nat.reduceLT,Nat.reduceMul,Nat.reduceLeDiff,reduceCtorEq,reduceIte,↓JK,cEd,sGoes,z8_,iOf,hX];rfl));(try kernel_rfl);try exact z9_)|fail)
 by_cases hT:xj_ x=true
 ·by_cases hle:y7_ x≤i
  ·have hgt:¬(i < y7_ x):=by omega
   by_cases hG:goesB x=true
   ·have hE:yg_ x i=[y7_ x,i+1]:=by unfold yg_;simp[hT,hG,hle,hgt]
    rw[hE]at haft
    repeat' (first|refine Ctl.h ?_ |((with_reducible intro hif);first |(focus (cases hif;done)) |((try simp only[JH]at hif);try exact hy_)) |((with_reducible first|apply J22 zl_ za_|apply J23 fol zl_ za_|apply J24);(·rfl);(· exact k137_);(try kernel_rfl);try exact z9_)|fail)
    with_reducible apply WF.split 9 2
    ·rfl
    with_reducible apply At.run zl_ za_
    ·rfl
    ·rfl
    ·rfl
    ·exact k127_
    ·exact yq_
    with_reducible apply At.yield (gr:=_)
    ·rfl
    ·rfl
    ·rfl
    ·rfl
    ·rfl
    ·rfl
    ·exact k127_
    ·exact k128_
    ·exact k127_
    ·exact yq_
    ·exact k127_
    ·exact yq_
    ·exact k128_
    ·exact hrec
    ·exact hcf
    ·rfl
    ·rfl
    ·rfl
    intro lb E2 next hE2 hnext
    repeat' (first|refine Ctl.h ?_ |((with_reducible intro hif);first |(focus (cases hif;done)) |((try simp only[JH]at hif);try exact hy_)) |((with_reducible first|apply J22 zl_ za_|apply J23 fol zl_ za_|apply J24);(·rfl);(· exact k137_);(try kernel_rfl);try exact z9_)|fail)
    with_reducible apply At.begins hrec
    ·rfl
    with_reducible refine At.code ?_
    repeat' (first|refine Ctl.h ?_ |((with_reducible intro hif);first |(focus (cases hif;done)) |((try simp only[JH]at hif);try exact hy_)) |((with_reducible first|apply J22 zl_ za_|apply J23 fol zl_ za_|apply J24);(·rfl);(· exact k138_);(try kernel_rfl);try exact k98_)|fail)
    with_reducible apply At.roundNormal
    ·exact k128_
    apply hnext
    with_reducible apply At.runEnd zl_ za_
    ·rfl
    ·rfl
    ·rfl
    ·exact k127_
    ·exact yq_
    repeat' (first|refine Ctl.h ?_ |((with_reducible intro hif);first |(focus (cases hif;done)) |((try simp only[JH]at hif);try exact hy_)) |((with_reducible first|apply J22 zl_ za_|apply J23 fol zl_ za_|apply J24);(·rfl);(· exact k137_);(try kernel_rfl);try exact z9_)|fail)
    with_reducible apply WF.split 5 2
    ·rfl
    with_reducible apply At.run zl_ za_
    ·rfl
    ·rfl
    ·rfl
    ·exact k127_
    ·exact yq_
    with_reducible apply At.yield (gr:=_)
    ·rfl
    ·rfl
    ·rfl
    ·rfl
    ·rfl
    ·rfl
    ·exact k127_
    ·exact k128_
    ·exact k127_
    ·exact yq_
    ·exact k127_
    ·exact yq_
    ·exact k128_
    ·exact hrec
    ·exact hcf
    ·rfl
    ·rfl
    ·rfl
    intro lb E2 next hE2 hnext
    repeat' (first|refine Ctl.h ?_ |((with_reducible intro hif);first |(focus (cases hif;done)) |((try simp only[JH]at hif);try exact hy_)) |((with_reducible first|apply J22 zl_ za_|apply J23 fol zl_ za_|apply J24);(·rfl);(· exact k137_);(try kernel_rfl);try exact z9_)|fail)
    with_reducible apply At.begins hrec
    ·rfl
    with_reducible refine At.code ?_
    repeat' (first|refine Ctl.h ?_ |((with_reducible intro hif);first |(focus (cases hif;done)) |((try simp only[JH]at hif);try exact hy_)) |((with_reducible first|apply J22 zl_ za_|apply J23 fol zl_ za_|apply J24);(·rfl);(· exact k138_);(try kernel_rfl);try exact k98_)|fail)
    with_reducible apply At.roundNormal
    ·exact k128_
    apply hnext
    with_reducible apply At.runEnd zl_ za_
    ·rfl
    ·rfl
    ·rfl
    ·exact k127_
    ·exact yq_
    repeat' (first|refine Ctl.h ?_ |((with_reducible intro hif);first |(focus (cases hif;done)) |((try simp only[JH]at hif);try exact hy_)) |((with_reducible first|apply J22 zl_ za_|apply J23 fol zl_ za_|apply J24);(·rfl);(· exact k137_);(try kernel_rfl);try exact z9_)|fail)
    with_reducible apply At.itNormal .ready
    ·rfl
    ·rfl
    ·intro h;cases h
    apply haft
    intro w1 M1 D1 hA
    dsimp only
    repeat' (first|refine Ctl.h ?_ |((with_reducible intro hif);first |(focus (cases hif;done)) |((try simp only[JH]at hif);try exact hy_)) |((with_reducible first|apply J22 zl_ za_|apply J23 fol zl_ za_|apply J24);(·rfl);(· exact k136_);(try kernel_rfl);try exact z9_)|fail)
    apply At.endsPick [0,1,2,3,4,11] za_ (fn:=Try.f100) (rs:=[.tmp 4]) hA hro (lb_ rfl) rfl
    ·exact k5_
    ·exact yq_
    ·rfl
    ·rfl
    ·rfl
    ·exact k129_
    ·rfl
    ·exact k77_
    ·exact k9_
    ·exact fun β=>rfl
    ·exact k77_
   simp only[Bool.not_eq_true]at hG
   ·have hE:yg_ x i=[y7_ x]:=by unfold yg_;simp[hT,hG,hle,hgt]
    rw[hE]at haft
    repeat' (first|refine Ctl.h ?_ |((with_reducible intro hif);first |(focus (cases hif;done)) |((try simp only[JH]at hif);try exact hy_)) |((with_reducible first|apply J22 zl_ za_|apply J23 fol zl_ za_|apply J24);(·rfl);(· exact k137_);(try kernel_rfl);try exact z9_)|fail)
    with_reducible apply WF.split 9 2
    ·rfl
    with_reducible apply At.run zl_ za_
    ·rfl
    ·rfl
    ·rfl
    ·exact k127_
    ·exact yq_
    with_reducible apply At.yield (gr:=_)
    ·rfl
    ·rfl
    ·rfl
    ·rfl
    ·rfl
    ·rfl
    ·exact k127_
    ·exact k128_
    ·exact k127_
    ·exact yq_
    ·exact k127_
    ·exact yq_
    ·exact k128_
    ·exact hrec
    ·exact hcf
    ·rfl
    ·rfl
    ·rfl
    intro lb E2 next hE2 hnext
    repeat' (first|refine Ctl.h ?_ |((with_reducible intro hif);first |(focus (cases hif;done)) |((try simp only[JH]at hif);try exact hy_)) |((with_reducible first|apply J22 zl_ za_|apply J23 fol zl_ za_|apply J24);(·rfl);(· exact k137_);(try kernel_rfl);try exact z9_)|fail)
    with_reducible apply At.begins hrec
    ·rfl
    with_reducible refine At.code ?_
    repeat' (first|refine Ctl.h ?_ |((with_reducible intro hif);first |(focus (cases hif;done)) |((try simp only[JH]at hif);try exact hy_)) |((with_reducible first|apply J22 zl_ za_|apply J23 fol zl_ za_|apply J24);(·rfl);(· exact k138_);(try kernel_rfl);try exact k98_)|fail)
    with_reducible apply At.roundNormal
    ·exact k128_
    apply hnext
    with_reducible apply At.runEnd zl_ za_
    ·rfl
    ·rfl
    ·rfl
    ·exact k127_
    ·exact yq_
    repeat' (first|refine Ctl.h ?_ |((with_reducible intro hif);first |(focus (cases hif;done)) |((try simp only[JH]at hif);try exact hy_)) |((with_reducible first|apply J22 zl_ za_|apply J23 fol zl_ za_|apply J24);(·rfl);(· exact k137_);(try kernel_rfl);try exact z9_)|fail)
    with_reducible apply At.itNormal .ready
    ·rfl
    ·rfl
    ·intro h;cases h
    apply haft
    intro w1 M1 D1 hA
    dsimp only
    repeat' (first|refine Ctl.h ?_ |((with_reducible intro hif);first |(focus (cases hif;done)) |((try simp only[JH]at hif);try exact hy_)) |((with_reducible first|apply J22 zl_ za_|apply J23 fol zl_ za_|apply J24);(·rfl);(· exact k136_);(try kernel_rfl);try exact z9_)|fail)
    apply At.endsPick [0,1,2,3,4,9] za_ (fn:=Try.f100) (rs:=[.tmp 4]) hA hro (lb_ rfl) rfl
    ·exact k5_
    ·exact yq_
    ·rfl
    ·rfl
    ·rfl
    ·exact k130_
    ·rfl
    ·exact k77_
    ·exact k9_
    ·exact fun β=>rfl
    ·exact k77_
  ·have hgt:i < y7_ x:=by omega
   by_cases hG:goesB x=true
   ·by_cases hg:i+1 < y7_ x
    ·have hE:yg_ x i=[i+1,y7_ x]:=by unfold yg_;simp[hT,hG,hle,hgt,hg]
     rw[hE]at haft
     repeat' (first|refine Ctl.h ?_ |((with_reducible intro hif);first |(focus (cases hif;done)) |((try simp only[JH]at hif);try exact hy_)) |((with_reducible first|apply J22 zl_ za_|apply J23 fol zl_ za_|apply J24);(·rfl);(· exact k139_);(try kernel_rfl);try exact z9_)|fail)
     with_reducible apply WF.split 5 2
     ·rfl
     with_reducible apply At.run zl_ za_
     ·rfl
     ·rfl
     ·rfl
     ·exact k131_
     ·exact yq_
     with_reducible apply At.yield (gr:=_)
     ·rfl
     ·rfl
     ·rfl
     ·rfl
     ·rfl
     ·rfl
     ·exact k131_
     ·exact k132_
     ·exact k131_
     ·exact yq_
     ·exact k131_
     ·exact yq_
     ·exact k132_
     ·exact hrec
     ·exact hcf
     ·rfl
     ·rfl
     ·rfl
     intro lb E2 next hE2 hnext
     repeat' (first|refine Ctl.h ?_ |((with_reducible intro hif);first |(focus (cases hif;done)) |((try simp only[JH]at hif);try exact hy_)) |((with_reducible first|apply J22 zl_ za_|apply J23 fol zl_ za_|apply J24);(·rfl);(· exact k139_);(try kernel_rfl);try exact z9_)|fail)
     with_reducible apply At.begins hrec
     ·rfl
     with_reducible refine At.code ?_
     repeat' (first|refine Ctl.h ?_ |((with_reducible intro hif);first |(focus (cases hif;done)) |((try simp only[JH]at hif);try exact hy_)) |((with_reducible first|apply J22 zl_ za_|apply J23 fol zl_ za_|apply J24);(·rfl);(· exact k140_);(try kernel_rfl);try exact k98_)|fail)
     with_reducible apply At.roundNormal
     ·exact k132_
     apply hnext
     with_reducible apply At.runEnd zl_ za_
     ·rfl
     ·rfl
     ·rfl
     ·exact k131_
     ·exact yq_
     repeat' (first|refine Ctl.h ?_ |((with_reducible intro hif);first |(focus (cases hif;done)) |((try simp only[JH]at hif);try exact hy_)) |((with_reducible first|apply J22 zl_ za_|apply J23 fol zl_ za_|apply J24);(·rfl);(· exact k139_);(try kernel_rfl);try exact z9_)|fail)
     with_reducible apply WF.split 2 0
     ·rfl
     with_reducible apply At.run zl_ za_
     ·rfl
     ·rfl
     ·rfl
     ·exact k131_
     ·exact yq_
     with_reducible apply At.yield (gr:=_)
     ·rfl
     ·rfl
     ·rfl
     ·rfl
     ·rfl
     ·rfl
     ·exact k131_
     ·exact k132_
     ·exact k131_
     ·exact yq_
     ·exact k131_
     ·exact yq_
     ·exact k132_
     ·exact hrec
     ·exact hcf
     ·rfl
     ·rfl
     ·rfl
     intro lb E2 next hE2 hnext
     repeat' (first|refine Ctl.h ?_ |((with_reducible intro hif);first |(focus (cases hif;done)) |((try simp only[JH]at hif);try exact hy_)) |((with_reducible first|apply J22 zl_ za_|apply J23 fol zl_ za_|apply J24);(·rfl);(· exact k139_);(try kernel_rfl);try exact z9_)|fail)
     with_reducible apply At.begins hrec
     ·rfl
     with_reducible refine At.code ?_
     repeat' (first|refine Ctl.h ?_ |((with_reducible intro hif);first |(focus (cases hif;done)) |((try simp only[JH]at hif);try exact hy_)) |((with_reducible first|apply J22 zl_ za_|apply J23 fol zl_ za_|apply J24);(·rfl);(· exact k140_);(try kernel_rfl);try exact k98_)|fail)
     with_reducible apply At.roundNormal
     ·exact k132_
     apply hnext
     with_reducible apply At.runEnd zl_ za_
     ·rfl
     ·rfl
     ·rfl
     ·exact k131_
     ·exact yq_
     repeat' (first|refine Ctl.h ?_ |((with_reducible intro hif);first |(focus (cases hif;done)) |((try simp only[JH]at hif);try exact hy_)) |((with_reducible first|apply J22 zl_ za_|apply J23 fol zl_ za_|apply J24);(·rfl);(· exact k139_);(try kernel_rfl);try exact z9_)|fail)
     with_reducible apply At.itNormal .ready
     ·rfl
     ·rfl
     ·intro h;cases h
     apply haft
     intro w1 M1 D1 hA
     dsimp only
     repeat' (first|refine Ctl.h ?_ |((with_reducible intro hif);first |(focus (cases hif;done)) |((try simp only[JH]at hif);try exact hy_)) |((with_reducible first|apply J22 zl_ za_|apply J23 fol zl_ za_|apply J24);(·rfl);(· exact k136_);(try kernel_rfl);try exact z9_)|fail)
     apply At.endsPick [0,1,2,3,4,11] za_ (fn:=Try.f100) (rs:=[.tmp 4]) hA hro (lb_ rfl) rfl
     ·exact k5_
     ·exact yq_
     ·rfl
     ·rfl
     ·rfl
     ·exact k129_
     ·rfl
     ·exact k77_
     ·exact k9_
     ·exact fun β=>rfl
     ·exact k77_
    ·have hE:yg_ x i=[i+1]:=by unfold yg_;simp[hT,hG,hle,hgt,hg]
     rw[hE]at haft
     repeat' (first|refine Ctl.h ?_ |((with_reducible intro hif);first |(focus (cases hif;done)) |((try simp only[JH]at hif);try exact hy_)) |((with_reducible first|apply J22 zl_ za_|apply J23 fol zl_ za_|apply J24);(·rfl);(· exact k139_);(try kernel_rfl);try exact z9_)|fail)
     with_reducible apply WF.split 5 2
     ·rfl
     with_reducible apply At.run zl_ za_
     ·rfl
     ·rfl
     ·rfl
     ·exact k131_
     ·exact yq_
     with_reducible apply At.yield (gr:=_)
     ·rfl
     ·rfl
     ·rfl
     ·rfl
     ·rfl
     ·rfl
     ·exact k131_
     ·exact k132_
     ·exact k131_
     ·exact yq_
     ·exact k131_
     ·exact yq_
     ·exact k132_
     ·exact hrec
     ·exact hcf
     ·rfl
     ·rfl
     ·rfl
     intro lb E2 next hE2 hnext
     repeat' (first|refine Ctl.h ?_ |((with_reducible intro hif);first |(focus (cases hif;done)) |((try simp only[JH]at hif);try exact hy_)) |((with_reducible first|apply J22 zl_ za_|apply J23 fol zl_ za_|apply J24);(·rfl);(· exact k139_);(try kernel_rfl);try exact z9_)|fail)
     with_reducible apply At.begins hrec
     ·rfl
     with_reducible refine At.code ?_
     repeat' (first|refine Ctl.h ?_ |((with_reducible intro hif);first |(focus (cases hif;done)) |((try simp only[JH]at hif);try exact hy_)) |((with_reducible first|apply J22 zl_ za_|apply J23 fol zl_ za_|apply J24);(·rfl);(· exact k140_);(try kernel_rfl);try exact k98_)|fail)
     with_reducible apply At.roundNormal
     ·exact k132_
     apply hnext
     with_reducible apply At.runEnd zl_ za_
     ·rfl
     ·rfl
     ·rfl
     ·exact k131_
     ·exact yq_
     repeat' (first|refine Ctl.h ?_ |((with_reducible intro hif);first |(focus (cases hif;done)) |((try simp only[JH]at hif);try exact hy_)) |((with_reducible first|apply J22 zl_ za_|apply J23 fol zl_ za_|apply J24);(·rfl);(· exact k139_);(try kernel_rfl);try exact z9_)|fail)
     with_reducible apply At.itNormal .ready
     ·rfl
     ·rfl
     ·intro h;cases h
     apply haft
     intro w1 M1 D1 hA
     dsimp only
     repeat' (first|refine Ctl.h ?_ |((with_reducible intro hif);first |(focus (cases hif;done)) |((try simp only[JH]at hif);try exact hy_)) |((with_reducible first|apply J22 zl_ za_|apply J23 fol zl_ za_|apply J24);(·rfl);(· exact k136_);(try kernel_rfl);try exact z9_)|fail)
     apply At.endsPick [0,1,2,3,4,9] za_ (fn:=Try.f100) (rs:=[.tmp 4]) hA hro (lb_ rfl) rfl
     ·exact k5_
     ·exact yq_
     ·rfl
     ·rfl
     ·rfl
     ·exact k130_
     ·rfl
     ·exact k77_
     ·exact k9_
     ·exact fun β=>rfl
     ·exact k77_
   simp only[Bool.not_eq_true]at hG
   ·have hE:yg_ x i=[y7_ x]:=by unfold yg_;simp[hT,hG,hle,hgt]
    rw[hE]at haft
    repeat' (first|refine Ctl.h ?_ |((with_reducible intro hif);first |(focus (cases hif;done)) |((try simp only[JH]at hif);try exact hy_)) |((with_reducible first|apply J22 zl_ za_|apply J23 fol zl_ za_|apply J24);(·rfl);(· exact k137_);(try kernel_rfl);try exact z9_)|fail)
    with_reducible apply WF.split 2 0
    ·rfl
    with_reducible apply At.run zl_ za_
    ·rfl
    ·rfl
    ·rfl
    ·exact k127_
    ·exact yq_
    with_reducible apply At.yield (gr:=_)
    ·rfl
    ·rfl
    ·rfl
    ·rfl
    ·rfl
    ·rfl
    ·exact k127_
    ·exact k128_
    ·exact k127_
    ·exact yq_
    ·exact k127_
    ·exact yq_
    ·exact k128_
    ·exact hrec
    ·exact hcf
    ·rfl
    ·rfl
    ·rfl
    intro lb E2 next hE2 hnext
    repeat' (first|refine Ctl.h ?_ |((with_reducible intro hif);first |(focus (cases hif;done)) |((try simp only[JH]at hif);try exact hy_)) |((with_reducible first|apply J22 zl_ za_|apply J23 fol zl_ za_|apply J24);(·rfl);(· exact k137_);(try kernel_rfl);try exact z9_)|fail)
    with_reducible apply At.begins hrec
    ·rfl
    with_reducible refine At.code ?_
    repeat' (first|refine Ctl.h ?_ |((with_reducible intro hif);first |(focus (cases hif;done)) |((try simp only[JH]at hif);try exact hy_)) |((with_reducible first|apply J22 zl_ za_|apply J23 fol zl_ za_|apply J24);(·rfl);(· exact k138_);(try kernel_rfl);try exact k98_)|fail)
    with_reducible apply At.roundNormal
    ·exact k128_
    apply hnext
    with_reducible apply At.runEnd zl_ za_
    ·rfl
    ·rfl
    ·rfl
    ·exact k127_
    ·exact yq_
    repeat' (first|refine Ctl.h ?_ |((with_reducible intro hif);first |(focus (cases hif;done)) |((try simp only[JH]at hif);try exact hy_)) |((with_reducible first|apply J22 zl_ za_|apply J23 fol zl_ za_|apply J24);(·rfl);(· exact k137_);(try kernel_rfl);try exact z9_)|fail)
    with_reducible apply At.itNormal .ready
    ·rfl
    ·rfl
    ·intro h;cases h
    apply haft
    intro w1 M1 D1 hA
    dsimp only
    repeat' (first|refine Ctl.h ?_ |((with_reducible intro hif);first |(focus (cases hif;done)) |((try simp only[JH]at hif);try exact hy_)) |((with_reducible first|apply J22 zl_ za_|apply J23 fol zl_ za_|apply J24);(·rfl);(· exact k136_);(try kernel_rfl);try exact z9_)|fail)
    apply At.endsPick [0,1,2,3,4,9] za_ (fn:=Try.f100) (rs:=[.tmp 4]) hA hro (lb_ rfl) rfl
    ·exact k5_
    ·exact yq_
    ·rfl
    ·rfl
    ·rfl
    ·exact k130_
    ·rfl
    ·exact k77_
    ·exact k9_
    ·exact fun β=>rfl
    ·exact k77_
 ·simp only[Bool.not_eq_true]at hT
  by_cases hG:goesB x=true
  ·have hE:yg_ x i=[i+1]:=by unfold yg_;simp[hT,hG,hT]
   rw[hE]at haft
   repeat' (first|refine Ctl.h ?_ |((with_reducible intro hif);first |(focus (cases hif;done)) |((try simp only[JH]at hif);try exact hy_)) |((with_reducible first|apply J22 zl_ za_|apply J23 fol zl_ za_|apply J24);(·rfl);(· exact k141_);(try kernel_rfl);try exact z9_)|fail)
   with_reducible apply WF.split 5 2
   ·rfl
   with_reducible apply At.run zl_ za_
   ·rfl
   ·rfl
   ·rfl
   ·exact k133_
   ·exact yq_
   with_reducible apply At.yield (gr:=_)
   ·rfl
   ·rfl
   ·rfl
   ·rfl
   ·rfl
   ·rfl
   ·exact k133_
   ·exact k134_
   ·exact k133_
   ·exact yq_
   ·exact k133_
   ·exact yq_
   ·exact k134_
   ·exact hrec
   ·exact hcf
   ·rfl
   ·rfl
   ·rfl
   intro lb E2 next hE2 hnext
   repeat' (first|refine Ctl.h ?_ |((with_reducible intro hif);first |(focus (cases hif;done)) |((try simp only[JH]at hif);try exact hy_)) |((with_reducible first|apply J22 zl_ za_|apply J23 fol zl_ za_|apply J24);(·rfl);(· exact k141_);(try kernel_rfl);try exact z9_)|fail)
   with_reducible apply At.begins hrec
   ·rfl
   with_reducible refine At.code ?_
   repeat' (first|refine Ctl.h ?_ |((with_reducible intro hif);first |(focus (cases hif;done)) |((try simp only[JH]at hif);try exact hy_)) |((with_reducible first|apply J22 zl_ za_|apply J23 fol zl_ za_|apply J24);(·rfl);(· (simp only[push_cast,↓JP,Nat.reduceAdd,Nat.reduceEqDiff,Nat.reduceLT,Nat.reduceMul,Nat.reduceLeDiff,reduceCtorEq,reduceIte,↓JK,cEd,sGoes,z8_,iOf,hX,hT,hG,Int.reduceNeg,hT,inN,inR];rfl));(try kernel_rfl);try exact k98_)|fail)
   with_reducible apply At.roundNormal
   ·exact k134_
   apply hnext
   with_reducible apply At.runEnd zl_ za_
   ·rfl
   ·rfl
   ·rfl
   ·exact k133_
   ·exact yq_
   repeat' (first|refine Ctl.h ?_ |((with_reducible intro hif);first |(focus (cases hif;done)) |((try simp only[JH]at hif);try exact hy_)) |((with_reducible first|apply J22 zl_ za_|apply J23 fol zl_ za_|apply J24);(·rfl);(· exact k141_);(try kernel_rfl);try exact z9_)|fail)
   with_reducible apply At.itNormal .ready
   ·rfl
   ·rfl
   ·intro h;cases h
   apply haft
   intro w1 M1 D1 hA
   dsimp only
   repeat' (first|refine Ctl.h ?_ |((with_reducible intro hif);first |(focus (cases hif;done)) |((try simp only[JH]at hif);try exact hy_)) |((with_reducible first|apply J22 zl_ za_|apply J23 fol zl_ za_|apply J24);(·rfl);(· exact k136_);(try kernel_rfl);try exact z9_)|fail)
   apply At.endsPick [0,1,2,3,4,9] za_ (fn:=Try.f100) (rs:=[.tmp 4]) hA hro (lb_ rfl) rfl
   ·exact k5_
   ·exact yq_
   ·rfl
   ·rfl
   ·rfl
   ·exact k130_
   ·rfl
   ·exact k77_
   ·exact k9_
   ·exact fun β=>rfl
   ·exact k77_
  simp only[Bool.not_eq_true]at hG
  ·have hE:yg_ x i=[]:=by unfold yg_;simp[hT,hG,hT]
   rw[hE]at haft
   repeat' (first|refine Ctl.h ?_ |((with_reducible intro hif);first |(focus (cases hif;done)) |((try simp only[JH]at hif);try exact hy_)) |((with_reducible first|apply J22 zl_ za_|apply J23 fol zl_ za_|apply J24);(·rfl);(· exact k141_);(try kernel_rfl);try exact z9_)|fail)
   with_reducible apply At.itNormal .ready
   ·rfl
   ·rfl
   ·intro h;cases h
   apply haft
   intro w1 M1 D1 hA
   dsimp only
   repeat' (first|refine Ctl.h ?_ |((with_reducible intro hif);first |(focus (cases hif;done)) |((try simp only[JH]at hif);try exact hy_)) |((with_reducible first|apply J22 zl_ za_|apply J23 fol zl_ za_|apply J24);(·rfl);(· exact k136_);(try kernel_rfl);try exact z9_)|fail)
   refine At.nil 4 3 1 (i64S []) rfl (fun h q=>i64S_stable q) ?_
   apply At.endsPick [0,1,2,3,4,8] za_ (fn:=Try.f100) (rs:=[.tmp 4]) hA hro (lb_ rfl) rfl
   ·exact k5_
   ·exact yq_
   ·rfl
   ·rfl
   ·rfl
   ·exact k135_
   ·rfl
   ·exact k77_
   ·exact k9_
   ·exact fun β=>rfl
   ·exact k77_
end Go.Proofs.Ytjliakjbdcplcaa.Vm
end
