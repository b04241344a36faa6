import Derived.Test.YtjliakjbdcplcaaGreatQ1
import Derived.Test.YtjliakjbdcplcaaGreatQ7
set_option linter.unusedSimpArgs false
set_option linter.unusedVariables false
set_option maxRecDepth 100000
set_option maxHeartbeats 4000000
section
namespace Go.Proofs.YtjliakjbdcplcaaGreat.Vm
open Go.RowKit
attribute [local push_cast] prS zo_ zp_ xt_ y8_ y7_ y6_ y5_ y4_ xs_ y3_ y2_ y1_ zn_ z2_ z4_ z1_ zu_ zt_ iOf
theorem cf1r:cntB (xh_ 1) 114 (xh_ 1).size=3:=by decide
theorem cf1n:cntB (xh_ 1) 110 (xh_ 1).size=0:=by decide
theorem cf1p:cntB (xh_ 1) 112 (xh_ 1).size=0:=by decide
theorem cf1t:cntB (xh_ 1) 116 (xh_ 1).size=0:=by decide
theorem cf2r:cntB (xh_ 2) 114 (xh_ 2).size=0:=by decide
theorem cf2n:cntB (xh_ 2) 110 (xh_ 2).size=0:=by decide
theorem cf2p:cntB (xh_ 2) 112 (xh_ 2).size=0:=by decide
theorem cf2t:cntB (xh_ 2) 116 (xh_ 2).size=0:=by decide
theorem cf3r:cntB (xh_ 3) 114 (xh_ 3).size=1:=by decide
theorem cf3n:cntB (xh_ 3) 110 (xh_ 3).size=1:=by decide
theorem cf4r:cntB (xh_ 4) 114 (xh_ 4).size=2:=by decide
theorem cf4n:cntB (xh_ 4) 110 (xh_ 4).size=0:=by decide
theorem cf4p:cntB (xh_ 4) 112 (xh_ 4).size=0:=by decide
theorem cf4t:cntB (xh_ 4) 116 (xh_ 4).size=0:=by decide
theorem cf5r:cntB (xh_ 5) 114 (xh_ 5).size=2:=by decide
theorem cf5n:cntB (xh_ 5) 110 (xh_ 5).size=0:=by decide
theorem cf5p:cntB (xh_ 5) 112 (xh_ 5).size=1:=by decide
theorem cf5t:cntB (xh_ 5) 116 (xh_ 5).size=0:=by decide
theorem cf6r:cntB (xh_ 6) 114 (xh_ 6).size=0:=by decide
theorem cf6n:cntB (xh_ 6) 110 (xh_ 6).size=0:=by decide
theorem cf6p:cntB (xh_ 6) 112 (xh_ 6).size=0:=by decide
theorem cf6t:cntB (xh_ 6) 116 (xh_ 6).size=1:=by decide
theorem cf7r:cntB (xh_ 7) 114 (xh_ 7).size=1:=by decide
theorem cf7n:cntB (xh_ 7) 110 (xh_ 7).size=0:=by decide
theorem cf7p:cntB (xh_ 7) 112 (xh_ 7).size=0:=by decide
theorem cf7t:cntB (xh_ 7) 116 (xh_ 7).size=1:=by decide
theorem formS_size (k:Nat):(xh_ k).size≤1000000:=by
 unfold xh_;split<;>decide
def cROne:FuncId→Option yn_:=y9_ [(140,sRForm),(141,sRCnt)]
theorem cROne_ok:∀f S,cROne f=some S→zi_ Tryz.prog f S:=zr_ ⟨sRForm_ok,sRCnt_ok,trivial⟩
theorem rone_lit (i:Ins)(hi:i.ok):zs_ Tryz.prog 116 [yu_ i] [.gone] (.int .i64 (oneE i)) [.gone]:=by
 obtain⟨op,a,b,c,n⟩:=i
 have o0:=hi.op0
 have o1:=hi.op1
 have a0:=hi.a0
 have a1:=hi.a1
 have b0:=hi.b0
 have b1:=hi.b1
 have c0:=hi.c0
 have c1:=hi.c1
 have hfs:=formS_size
 dsimp only at o0 o1 a0 a1 b0 b1 c0 c1
 show zs_ Tryz.prog 116 [.agg [.int .u8 op,.int .u8 a,.int .u8 b,.int .u8 c,.int .i64 n]] [.gone] (.int .i64 (if x1_ op=0 then 140 else oneK (x1_ op) a b c n)) [.gone]
 rcases formC_cases op with ⟨h1,h2,hk⟩|⟨h1,hk⟩|⟨h1,hk⟩|⟨h1,h2,hk⟩|⟨h1,hk⟩|⟨h1,hk⟩|⟨h1,hk⟩|⟨h1,h2,hk⟩
 all_goals
  rw[hk]
  refine zf_ (fn:=Tryz.f116) 1 75 0 rfl rfl rfl rfl rfl u3_ rfl fun w0 M E hro=>?_
  repeat' (first|refine Ctl.h ?_ |((with_reducible intro hif);first |(focus (cases hif;done)) |((try simp only[JH]at hif);try exact hy_)) |((with_reducible first|apply J22 cROne_ok za_|apply J23 fol cROne_ok za_|apply J24);(·rfl);(· (simp only[push_cast,↓JP,Nat.reduceAdd,Nat.reduceEqDiff,Nat.reduceLT,Nat.reduceMul,Nat.reduceLeDiff,reduceCtorEq,reduceIte,↓JK,cROne,sRForm,sRCnt,hk,cf1r,cf1n,cf1p,cf1t,cf2r,cf2n,cf2p,cf2t,cf3r,cf3n,cf4r,cf4n,cf4p,cf4t,cf5r,cf5n,cf5p,cf5t,cf6r,cf6n,cf6p,cf6t,cf7r,cf7n,cf7p,cf7t,zu_,zt_,iOf];rfl));(try kernel_rfl);(try (focus (first|exact True.intro |((try simp only[JS,implies_true,forall_const,yc_,z7_,x4_]);(first|first|omega|exact hfs _ |(repeat' (first|assumption|exact True.intro|omega|apply And.intro)));done)))))|fail)
 all_goals
  apply At.endsRet za_ (fn:=Tryz.f116) (rs:=[.tmp 2]) Anc.refl hro (lb_ rfl) rfl
  ·exact yl_
  ·exact k6_
  ·exact k7_
  ·rfl
  ·exact k8_
  ·exact k9_
  ·(intro β;first|rfl |(refine congrArg (fun x=>Value.int .i64 x) (Eq.symm ?_);first|exact oneK_pos (by simp only[wa_];simp at *;omega)|exact xf_ (by simp only[wa_];simp at *;omega)))
  ·exact k8_
def sROne:yn_:=fun args h m=>match args with
 | [v1]=>bif isIns v1 then some (((zm_ v1).ok),.int .i64 (oneE (zm_ v1)),[],[])else none
 | _=>none
theorem sROne_ok:zi_ Tryz.prog 116 sROne:=by
 refine⟨zg_ (by kernel_rfl),fun args h m c v rd wr hs hm hc w0 M β h' w R hrd hwr hst=>?_⟩
 unfold sROne at hs
 split at hs
 ·rename_i v1
  obtain⟨hb,hs⟩:=zl_ hs
  simp only[Option.some.injEq,Prod.mk.injEq]at hs
  obtain⟨rfl,rfl,rfl,rfl⟩:=hs
  have b1:=hb
  have y1:=hc
  refine yh_ (views:=[]) (rone_lit (zm_ v1) y1) ?_ R hm hwr ?_ ?_ ?_
  ·intro x hx;cases hx
  ·exact d27_
  ·exact k8_
  ·exact k8_
 ·cases hs
end Go.Proofs.YtjliakjbdcplcaaGreat.Vm
end
