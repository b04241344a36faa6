import Derived.Test.YtmljmabbopkpiaaC1
import Derived.Test.YtmljmabbopkpiaaC11
set_option linter.unusedSimpArgs false
set_option linter.unusedVariables false
set_option maxRecDepth 100000
set_option maxHeartbeats 4000000
section
namespace Go.Proofs.Ytmljmabbopkpiaa.Vm
open Go.RowKit
attribute [local push_cast] eqB eqBL allB
theorem strDen {β : Env}{s:ByteArray}:(SV.str s).den β = .string s:=rfl
def cntB (s:ByteArray)(c:Int):Nat→Nat
 | 0=>0
 | j+1=>cntB s c j+if bat s j=c then 1 else 0
theorem cntB_le (s:ByteArray)(c:Int):∀j,cntB s c j≤j
 | 0=>Nat.le_refl 0
 | j+1=>by
  have:=cntB_le s c j
  unfold cntB
  split<;>omega
theorem cnt_lit (s:ByteArray)(c:Int)(hs:s.size≤1000000):zz_ Try.prog 173 [.str s,.int .u8 c] [.gone] (.nat .i64 (cntB s c s.size)) [.gone]:=by
 refine zf_ (fn:=Try.f173) 1 21 0 rfl rfl rfl rfl rfl u4_ rfl fun w0 M E hro=>?_
 repeat' (first|refine Ctl.h ?_ |((with_reducible intro hif);first |(focus (cases hif;done)) |((try simp only[JH]at hif);try exact hy_)) |((with_reducible first|apply J22 zl_ za_|apply J23 fol zl_ za_|apply J24);(·rfl);(· exact k29_);(try kernel_rfl);try exact k9_)|fail)
 refine WF.loopAt (fun (j:Nat)=>j≤s.size) (fun (j:Nat)=>[(0,.str s),(1,.int .u8 c),(5,.nat .i64 (cntB s c j)),(6,.nat .i64 j)]) (fun (j:Nat)=>[.gone]) (fun (j:Nat)=>s.size - j) 0 (Nat.zero_le _) ?_ ?_ rfl ?_ ?_ rfl ?_
 ·exact k8_
 ·exact k5_
 ·exact k27_
 ·exact k27_
 intro j hj
 have hcj:=cntB_le s c j
 by_cases hjl:j < s.size
 ·by_cases hc:bat s j=c
  ·have e:cntB s c (j+1)=cntB s c j+1:=by rw[cntB,if_pos hc]
   repeat' (first|refine Ctl.h ?_ |((with_reducible intro hif);first |(focus (cases hif;done)) |((try simp only[JH]at hif);try exact hy_)) |((with_reducible first|apply J22 zl_ za_|apply J23 fol zl_ za_|apply J24);(·rfl);(· exact k31_);(try kernel_rfl);try exact k30_)|fail)
   refine At.next (j+1) ?_ ?_ ?_ rfl ?_ ?_ rfl
   ·exact⟨hjl,by omega⟩
   ·((repeat' (first|exact trivial|apply And.intro))<;>(first|rfl |(rw[e];rfl)))
   ·exact k5_
   ·exact k27_
   ·exact k27_
  ·have e:cntB s c (j+1)=cntB s c j:=by rw[cntB,if_neg hc];rfl
   repeat' (first|refine Ctl.h ?_ |((with_reducible intro hif);first |(focus (cases hif;done)) |((try simp only[JH]at hif);try exact hy_)) |((with_reducible first|apply J22 zl_ za_|apply J23 fol zl_ za_|apply J24);(·rfl);(· exact k31_);(try kernel_rfl);try exact k30_)|fail)
   refine At.next (j+1) ?_ ?_ ?_ rfl ?_ ?_ rfl
   ·exact⟨hjl,by omega⟩
   ·((repeat' (first|exact trivial|apply And.intro))<;>(first|rfl |(rw[e];rfl)))
   ·exact k5_
   ·exact k27_
   ·exact k27_
 ·obtain rfl:j=s.size:=by omega
  repeat' (first|refine Ctl.h ?_ |((with_reducible intro hif);first |(focus (cases hif;done)) |((try simp only[JH]at hif);try exact hy_)) |((with_reducible first|apply J22 zl_ za_|apply J23 fol zl_ za_|apply J24);(·rfl);(· exact k32_);(try kernel_rfl);try exact k9_)|fail)
  apply At.endsRet za_ (fn:=Try.f173) (rs:=[.tmp 4]) Anc.refl hro (lb_ rfl) rfl
  ·exact k28_
  ·exact k4_
  ·exact k5_
  ·rfl
  ·exact k27_
  ·exact k7_
  ·exact fun β=>rfl
  ·exact k27_
def sRCnt:y4_:=fun args h m=>match args with
 | [.str v1,v2]=>bif isI .u8 v2 then some ((v1.size≤1000000),.nat .i64 (cntB v1 (iOf v2) v1.size),[],[])else none
 | _=>none
theorem sRCnt_ok:zm_ Try.prog 173 sRCnt:=by
 refine⟨zg_ (by kernel_rfl),fun args h m c v rd wr hs hm hc w0 M β h' w R hrd hwr hst=>?_⟩
 unfold sRCnt at hs
 split at hs
 ·rename_i v1 v2
  obtain⟨hb,hs⟩:=zn_ hs
  simp only[Option.some.injEq,Prod.mk.injEq]at hs
  obtain⟨rfl,rfl,rfl,rfl⟩:=hs
  have b2:=hb
  have y1:=hc
  refine yb_ (views:=[]) (cnt_lit v1 (iOf v2) y1) ?_ R hm hwr ?_ ?_ ?_
  ·intro x hx;cases hx
  ·intro β1 hv
   simp only[denL,z7_,z6_,z5_,zt_,zc_,strDen,zo_ b2]
  ·exact k27_
  ·exact k27_
 ·cases hs
theorem formC_cases (op:Int):(32 < op∧op≤49∧formC op=1)∨((op=1∨op=2)∧formC op=2)∨(op=3∧formC op=3)∨(4≤op∧op≤7∧formC op=4)∨(op=8∧formC op=5)∨(op=9∧formC op=6)∨((op=10∨op=11)∧formC op=7)∨(¬(32 < op∧op≤49)∧¬(1≤op∧op≤11)∧formC op=0):=by
 unfold formC
 repeat' split
 all_goals omega
theorem rform_lit (op:Int)(h0:0≤op∧op≤255):zz_ Try.prog 172 [.int .u8 op] [.gone] (.tup [.str (y6_ (formC op)),.bool (decide (formC op≠0))]) [.gone]:=by
 rcases formC_cases op with ⟨h1,h2,hk⟩|⟨h1,hk⟩|⟨h1,hk⟩|⟨h1,h2,hk⟩|⟨h1,hk⟩|⟨h1,hk⟩|⟨h1,hk⟩|⟨h1,h2,hk⟩
 all_goals
  rw[hk]
  refine zf_ (fn:=Try.f172) 1 28 0 rfl rfl rfl rfl rfl u4_ rfl fun w0 M E hro=>?_
  repeat' (first|refine Ctl.h ?_ |((with_reducible intro hif);first |(focus (cases hif;done)) |((try simp only[JH]at hif);try exact hy_)) |((with_reducible first|apply J22 zl_ za_|apply J23 fol zl_ za_|apply J24);(·rfl);(· exact k29_);(try kernel_rfl);try exact k9_)|fail)
 all_goals
  apply At.endsRet za_ (fn:=Try.f172) (rs:=[.tmp 2,.tmp 3]) Anc.refl hro (lb_ rfl) rfl
  ·exact k28_
  ·exact k4_
  ·exact k5_
  ·rfl
  ·exact k27_
  ·exact k7_
  ·(intro β;first|rfl |(exfalso;simp only[Bool.and_eq_false_iff,decide_eq_false_iff_not]at hif;omega))
  ·exact k27_
def sRForm:y4_:=fun args h m=>match args with
 | [v1]=>bif isI .u8 v1 then some ((0≤(iOf v1)∧(iOf v1)≤255),.tup [.str (y6_ (formC (iOf v1))),.bool (decide (formC (iOf v1)≠0))],[],[])else none
 | _=>none
theorem sRForm_ok:zm_ Try.prog 172 sRForm:=by
 refine⟨zg_ (by kernel_rfl),fun args h m c v rd wr hs hm hc w0 M β h' w R hrd hwr hst=>?_⟩
 unfold sRForm at hs
 split at hs
 ·rename_i v1
  obtain⟨hb,hs⟩:=zn_ hs
  simp only[Option.some.injEq,Prod.mk.injEq]at hs
  obtain⟨rfl,rfl,rfl,rfl⟩:=hs
  have b1:=hb
  have y1:=hc
  refine yb_ (views:=[]) (rform_lit (iOf v1) y1) ?_ R hm hwr ?_ ?_ ?_
  ·intro x hx;cases hx
  ·intro β1 hv
   simp only[denL,z7_,z6_,z5_,zt_,zc_,zo_ b1]
  ·exact k27_
  ·exact k27_
 ·cases hs
end Go.Proofs.Ytmljmabbopkpiaa.Vm
end
