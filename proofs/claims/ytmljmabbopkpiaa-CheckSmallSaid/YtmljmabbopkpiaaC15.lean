import Derived.Test.YtmljmabbopkpiaaC1
import Derived.Test.YtmljmabbopkpiaaC9
import Derived.Test.YtmljmabbopkpiaaC14
set_option linter.unusedSimpArgs false
set_option linter.unusedVariables false
set_option maxRecDepth 100000
set_option maxHeartbeats 4000000
section
namespace Go.Proofs.Ytmljmabbopkpiaa.Vm
open Go.RowKit
attribute [local push_cast] eqB eqBL allB prS sndsS zw_ nav_ins xs_ xr_ xq_ xp_ xo_ nav_snd xn_ xm_ xl_ yo_ yi_ yv_ yq_ yz_ yy_ iOf
theorem cf1r:cntB (y6_ 1) 114 (y6_ 1).size=3:=by decide
theorem cf1n:cntB (y6_ 1) 110 (y6_ 1).size=0:=by decide
theorem cf1p:cntB (y6_ 1) 112 (y6_ 1).size=0:=by decide
theorem cf1t:cntB (y6_ 1) 116 (y6_ 1).size=0:=by decide
theorem cf2r:cntB (y6_ 2) 114 (y6_ 2).size=0:=by decide
theorem cf2n:cntB (y6_ 2) 110 (y6_ 2).size=0:=by decide
theorem cf2p:cntB (y6_ 2) 112 (y6_ 2).size=0:=by decide
theorem cf2t:cntB (y6_ 2) 116 (y6_ 2).size=0:=by decide
theorem cf3r:cntB (y6_ 3) 114 (y6_ 3).size=1:=by decide
theorem cf3n:cntB (y6_ 3) 110 (y6_ 3).size=1:=by decide
theorem cf4r:cntB (y6_ 4) 114 (y6_ 4).size=2:=by decide
theorem cf4n:cntB (y6_ 4) 110 (y6_ 4).size=0:=by decide
theorem cf4p:cntB (y6_ 4) 112 (y6_ 4).size=0:=by decide
theorem cf4t:cntB (y6_ 4) 116 (y6_ 4).size=0:=by decide
theorem cf5r:cntB (y6_ 5) 114 (y6_ 5).size=2:=by decide
theorem cf5n:cntB (y6_ 5) 110 (y6_ 5).size=0:=by decide
theorem cf5p:cntB (y6_ 5) 112 (y6_ 5).size=1:=by decide
theorem cf5t:cntB (y6_ 5) 116 (y6_ 5).size=0:=by decide
theorem cf6r:cntB (y6_ 6) 114 (y6_ 6).size=0:=by decide
theorem cf6n:cntB (y6_ 6) 110 (y6_ 6).size=0:=by decide
theorem cf6p:cntB (y6_ 6) 112 (y6_ 6).size=0:=by decide
theorem cf6t:cntB (y6_ 6) 116 (y6_ 6).size=1:=by decide
theorem cf7r:cntB (y6_ 7) 114 (y6_ 7).size=1:=by decide
theorem cf7n:cntB (y6_ 7) 110 (y6_ 7).size=0:=by decide
theorem cf7p:cntB (y6_ 7) 112 (y6_ 7).size=0:=by decide
theorem cf7t:cntB (y6_ 7) 116 (y6_ 7).size=1:=by decide
theorem formS_size (k:Nat):(y6_ k).size≤1000000:=by
 unfold y6_;split<;>decide
def cROne:FuncId→Option y4_:=xz_ [(172,sRForm),(173,sRCnt)]
theorem cROne_ok:∀f S,cROne f=some S→zm_ Try.prog f S:=z0_ ⟨sRForm_ok,sRCnt_ok,trivial⟩
theorem rone_lit (i:Ins)(hi:i.ok):zz_ Try.prog 144 [insS i] [.gone] (.int .i64 (oneE i)) [.gone]:=by
 obtain⟨op,a,b,c,n⟩:=i
 have o0:=hi.op0
 have o1:=hi.op1
 have a0:=hi.a0
 have a1:=hi.a1
 have b0:=hi.b0
 have b1:=hi.b1
 have c0:=hi.c0
 have c1:=hi.c1
 have hfs:=formS_size
 dsimp only at o0 o1 a0 a1 b0 b1 c0 c1
 show zz_ Try.prog 144 [.agg [.int .u8 op,.int .u8 a,.int .u8 b,.int .u8 c,.int .i64 n]] [.gone] (.int .i64 (if formC op=0 then 140 else oneK (formC op) a b c n)) [.gone]
 rcases formC_cases op with ⟨h1,h2,hk⟩|⟨h1,hk⟩|⟨h1,hk⟩|⟨h1,h2,hk⟩|⟨h1,hk⟩|⟨h1,hk⟩|⟨h1,hk⟩|⟨h1,h2,hk⟩
 all_goals
  rw[hk]
  refine zf_ (fn:=Try.f144) 1 75 0 rfl rfl rfl rfl rfl u4_ rfl fun w0 M E hro=>?_
  repeat' (first|refine Ctl.h ?_ |((with_reducible intro hif);first |(focus (cases hif;done)) |((try simp only[JH]at hif);try exact hy_)) |((with_reducible first|apply J22 cROne_ok za_|apply J23 fol cROne_ok za_|apply J24);(·rfl);(· (simp only[push_cast,↓JP,Nat.reduceAdd,Nat.reduceEqDiff,Nat.reduceLT,Nat.reduceMul,Nat.reduceLeDiff,reduceCtorEq,reduceIte,↓JK,cROne,sRForm,sRCnt,hk,cf1r,cf1n,cf1p,cf1t,cf2r,cf2n,cf2p,cf2t,cf3r,cf3n,cf4r,cf4n,cf4p,cf4t,cf5r,cf5n,cf5p,cf5t,cf6r,cf6n,cf6p,cf6t,cf7r,cf7n,cf7p,cf7t,yz_,yy_,iOf];rfl));(try kernel_rfl);(try (focus (first|exact True.intro |((try simp only[JS,implies_true,forall_const,yc_,yf_,kndOf]);(first|first|omega|exact hfs _ |(repeat' (first|assumption|exact True.intro|omega|apply And.intro)));done)))))|fail)
 all_goals
  apply At.endsRet za_ (fn:=Try.f144) (rs:=[.tmp 2]) Anc.refl hro (lb_ rfl) rfl
  ·exact k33_
  ·exact k4_
  ·exact k5_
  ·rfl
  ·exact k27_
  ·exact k7_
  ·(intro β;first|rfl |(refine congrArg (fun x=>Value.int .i64 x) (Eq.symm ?_);first|exact oneK_pos (by simp only[x0_];simp at *;omega)|exact y1_ (by simp only[x0_];simp at *;omega)))
  ·exact k27_
def sROne:y4_:=fun args h m=>match args with
 | [v1]=>bif xt_ v1 then some (((zd_ v1).ok),.int .i64 (oneE (zd_ v1)),[],[])else none
 | _=>none
theorem sROne_ok:zm_ Try.prog 144 sROne:=by
 refine⟨zg_ (by kernel_rfl),fun args h m c v rd wr hs hm hc w0 M β h' w R hrd hwr hst=>?_⟩
 unfold sROne at hs
 split at hs
 ·rename_i v1
  obtain⟨hb,hs⟩:=zn_ hs
  simp only[Option.some.injEq,Prod.mk.injEq]at hs
  obtain⟨rfl,rfl,rfl,rfl⟩:=hs
  have b1:=hb
  have y1:=hc
  refine yb_ (views:=[]) (rone_lit (zd_ v1) y1) ?_ R hm hwr ?_ ?_ ?_
  ·intro x hx;cases hx
  ·exact d18_
  ·exact k27_
  ·exact k27_
 ·cases hs
end Go.Proofs.Ytmljmabbopkpiaa.Vm
end
