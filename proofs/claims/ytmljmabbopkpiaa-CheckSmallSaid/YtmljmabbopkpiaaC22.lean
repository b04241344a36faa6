import Derived.Test.YtmljmabbopkpiaaC1
import Derived.Test.YtmljmabbopkpiaaC21
set_option linter.unusedSimpArgs false
set_option linter.unusedVariables false
set_option maxRecDepth 100000
set_option maxHeartbeats 4000000
section
open Go.Proofs.Ytmljmabbopkpiaa.Vm Go.RowKit
attribute [local push_cast] eqB eqBL allB cApp sRBits sRSum sRNot sRWord sRUp sRDown sRBitw sRTruth sRLess sRProd sRAmt sRNeg sRDiv bO yz_ yy_ iOf yu_ yl_ ls_i64B ls_i64U ls_zB vb_bl sumV_f sumV_sub ed ed0 zw_ nat_one_i inR inN
section
namespace Go.Proofs.Ytmljmabbopkpiaa.Vm
open Go.RowKit
theorem apk10 (a b:Int)(X Y P Q Rm D:BitVec 64)(n y0 y1 y2 y3 y4 y5:Int)(ha0:-9223372036854775808≤a)(ha1:a≤9223372036854775807)(hb0:-9223372036854775808≤b)(hb1:b≤9223372036854775807)
 (hX:BitVec.ofInt 64 a=X) (hY:BitVec.ofInt 64 b=Y) (hP:amV a=P) (hQ:amV b=Q) (hQm:P % Q=Rm) (hQd:P / Q=D)
 (hy0:(bl Y).getD 0 0=y0) (hy1:(bl Y).getD 1 0=y1) (hy2:(bl Y).getD 2 0=y2) (hy3:(bl Y).getD 3 0=y3) (hy4:(bl Y).getD 4 0=y4) (hy5:(bl Y).getD 5 0=y5)
 (hz0:0≤y0∧y0≤1) (hz1:0≤y1∧y1≤1) (hz2:0≤y2∧y2≤1) (hz3:0≤y3∧y3≤1) (hz4:0≤y4∧y4≤1) (hz5:0≤y5∧y5≤1) (hn:y0+2*y1+4*y2+8*y3+16*y4+32*y5=n) (hn0:0≤n) (hn1:n≤63) (hq:True):zz_ Try.prog 131 [.int .u8 10,.int .i64 a,.int .i64 b] [.gone] (.tup [.int .i64 ((X <<< n.toNat).toInt),.int .i64 0]) [.gone] :=  d4_
theorem apk11 (a b:Int)(X Y P Q Rm D:BitVec 64)(n y0 y1 y2 y3 y4 y5:Int)(ha0:-9223372036854775808≤a)(ha1:a≤9223372036854775807)(hb0:-9223372036854775808≤b)(hb1:b≤9223372036854775807)
 (hX:BitVec.ofInt 64 a=X) (hY:BitVec.ofInt 64 b=Y) (hP:amV a=P) (hQ:amV b=Q) (hQm:P % Q=Rm) (hQd:P / Q=D)
 (hy0:(bl Y).getD 0 0=y0) (hy1:(bl Y).getD 1 0=y1) (hy2:(bl Y).getD 2 0=y2) (hy3:(bl Y).getD 3 0=y3) (hy4:(bl Y).getD 4 0=y4) (hy5:(bl Y).getD 5 0=y5)
 (hz0:0≤y0∧y0≤1) (hz1:0≤y1∧y1≤1) (hz2:0≤y2∧y2≤1) (hz3:0≤y3∧y3≤1) (hz4:0≤y4∧y4≤1) (hz5:0≤y5∧y5≤1) (hn:y0+2*y1+4*y2+8*y3+16*y4+32*y5=n) (hn0:0≤n) (hn1:n≤63) (hq:True):zz_ Try.prog 131 [.int .u8 11,.int .i64 a,.int .i64 b] [.gone] (.tup [.int .i64 ((dnV X n.toNat false).toInt),.int .i64 0]) [.gone] :=  d4_
theorem apk12 (a b:Int)(X Y P Q Rm D:BitVec 64)(n y0 y1 y2 y3 y4 y5:Int)(ha0:-9223372036854775808≤a)(ha1:a≤9223372036854775807)(hb0:-9223372036854775808≤b)(hb1:b≤9223372036854775807)
 (hX:BitVec.ofInt 64 a=X) (hY:BitVec.ofInt 64 b=Y) (hP:amV a=P) (hQ:amV b=Q) (hQm:P % Q=Rm) (hQd:P / Q=D)
 (hy0:(bl Y).getD 0 0=y0) (hy1:(bl Y).getD 1 0=y1) (hy2:(bl Y).getD 2 0=y2) (hy3:(bl Y).getD 3 0=y3) (hy4:(bl Y).getD 4 0=y4) (hy5:(bl Y).getD 5 0=y5)
 (hz0:0≤y0∧y0≤1) (hz1:0≤y1∧y1≤1) (hz2:0≤y2∧y2≤1) (hz3:0≤y3∧y3≤1) (hz4:0≤y4∧y4≤1) (hz5:0≤y5∧y5≤1) (hn:y0+2*y1+4*y2+8*y3+16*y4+32*y5=n) (hn0:0≤n) (hn1:n≤63) (hq:True):zz_ Try.prog 131 [.int .u8 12,.int .i64 a,.int .i64 b] [.gone] (.tup [.int .i64 ((dnV X n.toNat (X.getLsbD 63)).toInt),.int .i64 0]) [.gone]:=by
 have l1:=z8_ X
 have l2:=z8_ Y
 by_cases h0:b=0
 ·have h63:=ze_ (x:=X) (i:=63) (by decide)
  cases ht:X.getLsbD 63
  ·rw[ht]at h63
   have h6:(bl X).getD 63 0=0:=h63
   refine zf_ (fn:=Try.f131) 1 196 0 rfl rfl rfl rfl rfl u5_ rfl fun w0 M E hro=>?_
   repeat' (first|refine Ctl.h ?_ |((with_reducible intro hif);first |(focus (cases hif;done)) |((try simp only[JH]at hif);try exact hy_)) |((with_reducible first|apply J22 zk_ za_|apply J23 fol zk_ za_|apply J24);(·rfl);(· exact k72_);(try kernel_rfl);try exact k65_)|fail)
   apply At.endsRet za_ (fn:=Try.f131) (rs:=[.tmp 6,.tmp 7]) Anc.refl hro (lb_ rfl) rfl
   ·exact k28_
   ·exact k4_
   ·exact k5_
   ·rfl
   ·exact yh_
   ·exact k7_
   ·exact fun β=>rfl
   ·exact yh_
  ·rw[ht]at h63
   have h6:(bl X).getD 63 0=1:=h63
   refine zf_ (fn:=Try.f131) 1 196 0 rfl rfl rfl rfl rfl u5_ rfl fun w0 M E hro=>?_
   repeat' (first|refine Ctl.h ?_ |((with_reducible intro hif);first |(focus (cases hif;done)) |((try simp only[JH]at hif);try exact hy_)) |((with_reducible first|apply J22 zk_ za_|apply J23 fol zk_ za_|apply J24);(·rfl);(· exact k72_);(try kernel_rfl);try exact k65_)|fail)
   apply At.endsRet za_ (fn:=Try.f131) (rs:=[.tmp 6,.tmp 7]) Anc.refl hro (lb_ rfl) rfl
   ·exact k28_
   ·exact k4_
   ·exact k5_
   ·rfl
   ·exact yh_
   ·exact k7_
   ·exact fun β=>rfl
   ·exact yh_
 ·have h63:=ze_ (x:=X) (i:=63) (by decide)
  cases ht:X.getLsbD 63
  ·rw[ht]at h63
   have h6:(bl X).getD 63 0=0:=h63
   refine zf_ (fn:=Try.f131) 1 196 0 rfl rfl rfl rfl rfl u5_ rfl fun w0 M E hro=>?_
   repeat' (first|refine Ctl.h ?_ |((with_reducible intro hif);first |(focus (cases hif;done)) |((try simp only[JH]at hif);try exact hy_)) |((with_reducible first|apply J22 zk_ za_|apply J23 fol zk_ za_|apply J24);(·rfl);(· exact k73_);(try kernel_rfl);try exact k65_)|fail)
   apply At.endsRet za_ (fn:=Try.f131) (rs:=[.tmp 6,.tmp 7]) Anc.refl hro (lb_ rfl) rfl
   ·exact k28_
   ·exact k4_
   ·exact k5_
   ·rfl
   ·exact yh_
   ·exact k7_
   ·exact fun β=>rfl
   ·exact yh_
  ·rw[ht]at h63
   have h6:(bl X).getD 63 0=1:=h63
   refine zf_ (fn:=Try.f131) 1 196 0 rfl rfl rfl rfl rfl u5_ rfl fun w0 M E hro=>?_
   repeat' (first|refine Ctl.h ?_ |((with_reducible intro hif);first |(focus (cases hif;done)) |((try simp only[JH]at hif);try exact hy_)) |((with_reducible first|apply J22 zk_ za_|apply J23 fol zk_ za_|apply J24);(·rfl);(· exact k73_);(try kernel_rfl);try exact k65_)|fail)
   apply At.endsRet za_ (fn:=Try.f131) (rs:=[.tmp 6,.tmp 7]) Anc.refl hro (lb_ rfl) rfl
   ·exact k28_
   ·exact k4_
   ·exact k5_
   ·rfl
   ·exact yh_
   ·exact k7_
   ·exact fun β=>rfl
   ·exact yh_
theorem apk13 (a b:Int)(X Y P Q Rm D:BitVec 64)(n y0 y1 y2 y3 y4 y5:Int)(ha0:-9223372036854775808≤a)(ha1:a≤9223372036854775807)(hb0:-9223372036854775808≤b)(hb1:b≤9223372036854775807)
 (hX:BitVec.ofInt 64 a=X) (hY:BitVec.ofInt 64 b=Y) (hP:amV a=P) (hQ:amV b=Q) (hQm:P % Q=Rm) (hQd:P / Q=D)
 (hy0:(bl Y).getD 0 0=y0) (hy1:(bl Y).getD 1 0=y1) (hy2:(bl Y).getD 2 0=y2) (hy3:(bl Y).getD 3 0=y3) (hy4:(bl Y).getD 4 0=y4) (hy5:(bl Y).getD 5 0=y5)
 (hz0:0≤y0∧y0≤1) (hz1:0≤y1∧y1≤1) (hz2:0≤y2∧y2≤1) (hz3:0≤y3∧y3≤1) (hz4:0≤y4∧y4≤1) (hz5:0≤y5∧y5≤1) (hn:y0+2*y1+4*y2+8*y3+16*y4+32*y5=n) (hn0:0≤n) (hn1:n≤63) (hq:True):zz_ Try.prog 131 [.int .u8 13,.int .i64 a,.int .i64 b] [.gone] (.tup [.int .i64 (bI (decide (a < b))),.int .i64 0]) [.gone] :=  d4_
theorem apk14 (a b:Int)(X Y P Q Rm D:BitVec 64)(n y0 y1 y2 y3 y4 y5:Int)(ha0:-9223372036854775808≤a)(ha1:a≤9223372036854775807)(hb0:-9223372036854775808≤b)(hb1:b≤9223372036854775807)
 (hX:BitVec.ofInt 64 a=X) (hY:BitVec.ofInt 64 b=Y) (hP:amV a=P) (hQ:amV b=Q) (hQm:P % Q=Rm) (hQd:P / Q=D)
 (hy0:(bl Y).getD 0 0=y0) (hy1:(bl Y).getD 1 0=y1) (hy2:(bl Y).getD 2 0=y2) (hy3:(bl Y).getD 3 0=y3) (hy4:(bl Y).getD 4 0=y4) (hy5:(bl Y).getD 5 0=y5)
 (hz0:0≤y0∧y0≤1) (hz1:0≤y1∧y1≤1) (hz2:0≤y2∧y2≤1) (hz3:0≤y3∧y3≤1) (hz4:0≤y4∧y4≤1) (hz5:0≤y5∧y5≤1) (hn:y0+2*y1+4*y2+8*y3+16*y4+32*y5=n) (hn0:0≤n) (hn1:n≤63) (hq:True):zz_ Try.prog 131 [.int .u8 14,.int .i64 a,.int .i64 b] [.gone] (.tup [.int .i64 (bI (decide (X.toNat < Y.toNat))),.int .i64 0]) [.gone] :=  d4_
theorem apk15 (a b:Int)(X Y P Q Rm D:BitVec 64)(n y0 y1 y2 y3 y4 y5:Int)(ha0:-9223372036854775808≤a)(ha1:a≤9223372036854775807)(hb0:-9223372036854775808≤b)(hb1:b≤9223372036854775807)
 (hX:BitVec.ofInt 64 a=X) (hY:BitVec.ofInt 64 b=Y) (hP:amV a=P) (hQ:amV b=Q) (hQm:P % Q=Rm) (hQd:P / Q=D)
 (hy0:(bl Y).getD 0 0=y0) (hy1:(bl Y).getD 1 0=y1) (hy2:(bl Y).getD 2 0=y2) (hy3:(bl Y).getD 3 0=y3) (hy4:(bl Y).getD 4 0=y4) (hy5:(bl Y).getD 5 0=y5)
 (hz0:0≤y0∧y0≤1) (hz1:0≤y1∧y1≤1) (hz2:0≤y2∧y2≤1) (hz3:0≤y3∧y3≤1) (hz4:0≤y4∧y4≤1) (hz5:0≤y5∧y5≤1) (hn:y0+2*y1+4*y2+8*y3+16*y4+32*y5=n) (hn0:0≤n) (hn1:n≤63) (hq:True):zz_ Try.prog 131 [.int .u8 15,.int .i64 a,.int .i64 b] [.gone] (.tup [.int .i64 (bI (decide (a=b))),.int .i64 0]) [.gone] :=  d4_
theorem apk16 (a b:Int)(X Y P Q Rm D:BitVec 64)(n y0 y1 y2 y3 y4 y5:Int)(ha0:-9223372036854775808≤a)(ha1:a≤9223372036854775807)(hb0:-9223372036854775808≤b)(hb1:b≤9223372036854775807)
 (hX:BitVec.ofInt 64 a=X) (hY:BitVec.ofInt 64 b=Y) (hP:amV a=P) (hQ:amV b=Q) (hQm:P % Q=Rm) (hQd:P / Q=D)
 (hy0:(bl Y).getD 0 0=y0) (hy1:(bl Y).getD 1 0=y1) (hy2:(bl Y).getD 2 0=y2) (hy3:(bl Y).getD 3 0=y3) (hy4:(bl Y).getD 4 0=y4) (hy5:(bl Y).getD 5 0=y5)
 (hz0:0≤y0∧y0≤1) (hz1:0≤y1∧y1≤1) (hz2:0≤y2∧y2≤1) (hz3:0≤y3∧y3≤1) (hz4:0≤y4∧y4≤1) (hz5:0≤y5∧y5≤1) (hn:y0+2*y1+4*y2+8*y3+16*y4+32*y5=n) (hn0:0≤n) (hn1:n≤63) (hq:True):zz_ Try.prog 131 [.int .u8 16,.int .i64 a,.int .i64 b] [.gone] (.tup [.int .i64 (if a < b then a else b),.int .i64 0]) [.gone] :=  d5_
theorem apk17 (a b:Int)(X Y P Q Rm D:BitVec 64)(n y0 y1 y2 y3 y4 y5:Int)(ha0:-9223372036854775808≤a)(ha1:a≤9223372036854775807)(hb0:-9223372036854775808≤b)(hb1:b≤9223372036854775807)
 (hX:BitVec.ofInt 64 a=X) (hY:BitVec.ofInt 64 b=Y) (hP:amV a=P) (hQ:amV b=Q) (hQm:P % Q=Rm) (hQd:P / Q=D)
 (hy0:(bl Y).getD 0 0=y0) (hy1:(bl Y).getD 1 0=y1) (hy2:(bl Y).getD 2 0=y2) (hy3:(bl Y).getD 3 0=y3) (hy4:(bl Y).getD 4 0=y4) (hy5:(bl Y).getD 5 0=y5)
 (hz0:0≤y0∧y0≤1) (hz1:0≤y1∧y1≤1) (hz2:0≤y2∧y2≤1) (hz3:0≤y3∧y3≤1) (hz4:0≤y4∧y4≤1) (hz5:0≤y5∧y5≤1) (hn:y0+2*y1+4*y2+8*y3+16*y4+32*y5=n) (hn0:0≤n) (hn1:n≤63) (hq:True):zz_ Try.prog 131 [.int .u8 17,.int .i64 a,.int .i64 b] [.gone] (.tup [.int .i64 (if a < b then b else a),.int .i64 0]) [.gone] :=  d5_
end Go.Proofs.Ytmljmabbopkpiaa.Vm
end
end
