import Derived.Test.YtjliakjbdcplcaaU1
import Derived.Test.YtjliakjbdcplcaaU11
import Derived.Test.YtjliakjbdcplcaaU12
set_option linter.unusedSimpArgs false
set_option linter.unusedVariables false
set_option maxRecDepth 100000
set_option maxHeartbeats 4000000
section
namespace Go.Proofs.Ytjliakjbdcplcaa.Vm
open Go.RowKit
attribute [local push_cast] eqB eqBL allB prS zt_ i64S xo_ y3_ y2_ y1_ y0_ yz_ xn_ yy_ yx_ yw_ zy_ zv_ zw_ zu_ y5_ y4_ iOf
theorem ls_i64S2 (l:List Int):ls iOf l.length (fun q=>.int .i64 (l.getD q 0))=l:=ls_i64S l
theorem ls_sndsS2 (l:List Snd):ls xm_ l.length (fun q=>sndS (l.getD q ⟨0,0,0⟩))=l:=ls_sndsS l
def cM0:FuncId→Option yr_:=xb_ []
theorem cM0_ok:∀f S,cM0 f=some S→zh_ Try.prog f S:=fun f S h=>by cases h
def aF:RF:=fun s v x=>some (0≤x.a∧x.a < 8,.int .i64 (s.regs x.a.toNat))
def bF:RF:=fun s v x=>some (0≤x.b∧x.b < 8,.int .i64 (s.regs x.b.toNat))
def cF:RF:=fun s v x=>some (0≤x.c∧x.c < 8,.int .i64 (s.regs x.c.toNat))
theorem a_ok:zh_ Try.prog 136 (rS aF):=rS_ok (by kernel_rfl) fun s v x cond val hF hc=>by
 cases hF
 obtain⟨h0,h8⟩:=hc
 have hn:x.a.toNat < 8:=by omega
 refine⟨fun _=>rfl,fun _=>trivial,?_⟩
 refine zm_ (fn:=Try.f136) 4 14 0 rfl rfl rfl rfl rfl u1_ rfl fun w0 M E hro=>?_
 repeat' (first|refine Ctl.h ?_ |((with_reducible intro hif);first |(focus (cases hif;done)) |((try simp only[JH]at hif);try exact hy_)) |((with_reducible first|apply J22 cM0_ok za_|apply J23 fol cM0_ok za_|apply J24);(·rfl);(· exact k11_);(try kernel_rfl);try exact k10_)|fail)
 apply At.endsRet za_ (fn:=Try.f136) (rs:=[.tmp 2]) Anc.refl hro (lb_ rfl) rfl
 ·exact k5_
 ·exact k6_
 ·exact k7_
 ·rfl
 ·exact k8_
 ·exact k9_
 ·exact fun β=>rfl
 ·exact k8_
theorem b_ok:zh_ Try.prog 134 (rS bF):=rS_ok (by kernel_rfl) fun s v x cond val hF hc=>by
 cases hF
 obtain⟨h0,h8⟩:=hc
 have hn:x.b.toNat < 8:=by omega
 refine⟨fun _=>rfl,fun _=>trivial,?_⟩
 refine zm_ (fn:=Try.f134) 4 14 0 rfl rfl rfl rfl rfl u1_ rfl fun w0 M E hro=>?_
 repeat' (first|refine Ctl.h ?_ |((with_reducible intro hif);first |(focus (cases hif;done)) |((try simp only[JH]at hif);try exact hy_)) |((with_reducible first|apply J22 cM0_ok za_|apply J23 fol cM0_ok za_|apply J24);(·rfl);(· exact k11_);(try kernel_rfl);try exact k10_)|fail)
 apply At.endsRet za_ (fn:=Try.f134) (rs:=[.tmp 2]) Anc.refl hro (lb_ rfl) rfl
 ·exact k5_
 ·exact k6_
 ·exact k7_
 ·rfl
 ·exact k8_
 ·exact k9_
 ·exact fun β=>rfl
 ·exact k8_
theorem c_ok:zh_ Try.prog 139 (rS cF):=rS_ok (by kernel_rfl) fun s v x cond val hF hc=>by
 cases hF
 obtain⟨h0,h8⟩:=hc
 have hn:x.c.toNat < 8:=by omega
 refine⟨fun _=>rfl,fun _=>trivial,?_⟩
 refine zm_ (fn:=Try.f139) 4 14 0 rfl rfl rfl rfl rfl u1_ rfl fun w0 M E hro=>?_
 repeat' (first|refine Ctl.h ?_ |((with_reducible intro hif);first |(focus (cases hif;done)) |((try simp only[JH]at hif);try exact hy_)) |((with_reducible first|apply J22 cM0_ok za_|apply J23 fol cM0_ok za_|apply J24);(·rfl);(· exact k11_);(try kernel_rfl);try exact k10_)|fail)
 apply At.endsRet za_ (fn:=Try.f139) (rs:=[.tmp 2]) Anc.refl hro (lb_ rfl) rfl
 ·exact k5_
 ·exact k6_
 ·exact k7_
 ·rfl
 ·exact k8_
 ·exact k9_
 ·exact fun β=>rfl
 ·exact k8_
def putF:MF:=fun ar s v x=>match ar with
 | [.int .i64 n]=>some (0≤x.a∧x.a < 8∧0≤s.at_∧s.at_≤256,fun _=>.int .i64 0,s.put x.a.toNat n,x,false)
 | _=>none
theorem put_ok:zh_ Try.prog 133 (mS putF):=mS_ok (by kernel_rfl) fun ar s v x cond val s' x' mv hF hc=>by
 unfold putF at hF
 split at hF
 ·cases hF
  obtain⟨h0,h8,a0,a1⟩:=hc
  have hn:x.a.toNat < 8:=by omega
  refine⟨fun _=>rfl,fun _=>⟨trivial,trivial⟩,fun _ _=>rfl,fun _ _ _=>trivial,?_⟩
  refine zm_ (fn:=Try.f133) 4 25 0 rfl rfl rfl rfl rfl u1_ rfl fun w0 M E hro=>?_
  repeat' (first|refine Ctl.h ?_ |((with_reducible intro hif);first |(focus (cases hif;done)) |((try simp only[JH]at hif);try exact hy_)) |((with_reducible first|apply J22 cM0_ok za_|apply J23 fol cM0_ok za_|apply J24);(·rfl);(· exact k13_);(try kernel_rfl);try exact k12_)|fail)
  apply At.endsRet za_ (fn:=Try.f133) (rs:=[.tmp 4]) Anc.refl hro (lb_ rfl) rfl
  ·exact k5_
  ·exact k6_
  ·exact k7_
  ·rfl
  ·exact k8_
  ·exact k9_
  ·exact fun β=>rfl
  ·exact k8_
 ·cases hF
def jumpIfF:MF:=fun ar s v x=>match ar with
 | [.bool is]=>some (0≤s.at_∧s.at_≤256∧0≤x.n∧x.n < 256,fun _=>.int .i64 0,{ s with at_:=if is=true then x.n else s.at_+1 },x,false)
 | _=>none
theorem jumpIf_ok:zh_ Try.prog 138 (mS jumpIfF):=mS_ok (by kernel_rfl) fun ar s v x cond val s' x' mv hF hc=>by
 unfold jumpIfF at hF
 split at hF
 ·rename_i is
  cases hF
  obtain⟨a0,a1,n0,n1⟩:=hc
  refine⟨fun _=>rfl,fun _=>⟨trivial,trivial⟩,fun _ _=>rfl,fun _ _ _=>trivial,?_⟩
  cases is
  ·exact d16_
  ·exact d16_
 ·cases hF
end Go.Proofs.Ytjliakjbdcplcaa.Vm
end
section
namespace Go.Proofs.Ytjliakjbdcplcaa.Vm
open Go.RowKit
def sApply:yr_:=fun args h m=>match args with
 | [v1,v2,v3]=>bif isI .u8 v1 && isI .i64 v2 && isI .i64 v3 then some (True,.tup [.int .i64 (applyV (iOf v1) (iOf v2) (iOf v3)),.int .i64 (xg_ (iOf v1) (iOf v3))],[],[])else none
 | _=>none
theorem sApply_ok:zh_ Try.prog 117 sApply:=by
 refine⟨zf_ (by kernel_rfl),fun args h m c v rd wr hs hm hc w0 M β h' w R hrd hwr hst=>?_⟩
 unfold sApply at hs
 split at hs
 ·rename_i v1 v2 v3
  obtain⟨hb,hs⟩:=zj_ hs
  simp only[Option.some.injEq,Prod.mk.injEq]at hs
  obtain⟨rfl,rfl,rfl,rfl⟩:=hs
  simp only[Bool.and_eq_true]at hb
  obtain⟨⟨b1,b2⟩,b3⟩:=hb
  simp only[denL,yp_,yo_,yn_,z6_,zc_ b1,zc_ b2,zc_ b3]
  exact(apply_c (iOf v1) (iOf v2) (iOf v3) w).mono fun e w' he=>post_read R u2_ rfl he.1 he.2
 ·cases hs
end Go.Proofs.Ytjliakjbdcplcaa.Vm
end
