import Derived.Test.YtjliakjbdcplcaaGreatQ1
import Derived.Test.YtjliakjbdcplcaaGreatQ10
import Derived.Test.YtjliakjbdcplcaaGreatQ13
set_option linter.unusedSimpArgs false
set_option linter.unusedVariables false
set_option maxRecDepth 100000
set_option maxHeartbeats 4000000
section
open Go.Proofs.YtjliakjbdcplcaaGreat.Vm Go.RowKit
attribute [local push_cast] cApp sRBits sRSum sRNot sRWord sRUp sRDown sRBitw sRTruth sRLess sRProd sRAmt sRNeg sRDiv bO zu_ zt_ iOf xu_ xj_ ls_i64B ls_i64U ls_zB vb_bl sumV_f sumV_sub ed ed0 zp_ nat_one_i inR inN
section
namespace Go.Proofs.YtjliakjbdcplcaaGreat.Vm
open Go.RowKit
theorem apk10 (a b:Int)(X Y P Q Rm D:BitVec 64)(n y0 y1 y2 y3 y4 y5:Int)(ha0:-9223372036854775808≤a)(ha1:a≤9223372036854775807)(hb0:-9223372036854775808≤b)(hb1:b≤9223372036854775807)
 (hX:BitVec.ofInt 64 a=X) (hY:BitVec.ofInt 64 b=Y) (hP:amV a=P) (hQ:amV b=Q) (hQm:P % Q=Rm) (hQd:P / Q=D)
 (hy0:(bl Y).getD 0 0=y0) (hy1:(bl Y).getD 1 0=y1) (hy2:(bl Y).getD 2 0=y2) (hy3:(bl Y).getD 3 0=y3) (hy4:(bl Y).getD 4 0=y4) (hy5:(bl Y).getD 5 0=y5)
 (hz0:0≤y0∧y0≤1) (hz1:0≤y1∧y1≤1) (hz2:0≤y2∧y2≤1) (hz3:0≤y3∧y3≤1) (hz4:0≤y4∧y4≤1) (hz5:0≤y5∧y5≤1) (hn:y0+2*y1+4*y2+8*y3+16*y4+32*y5=n) (hn0:0≤n) (hn1:n≤63) (hq:True):zs_ Tryz.prog 121 [.int .u8 10,.int .i64 a,.int .i64 b] [.gone] (.tup [.int .i64 ((X <<< n.toNat).toInt),.int .i64 0]) [.gone] :=  d5_
theorem apk11 (a b:Int)(X Y P Q Rm D:BitVec 64)(n y0 y1 y2 y3 y4 y5:Int)(ha0:-9223372036854775808≤a)(ha1:a≤9223372036854775807)(hb0:-9223372036854775808≤b)(hb1:b≤9223372036854775807)
 (hX:BitVec.ofInt 64 a=X) (hY:BitVec.ofInt 64 b=Y) (hP:amV a=P) (hQ:amV b=Q) (hQm:P % Q=Rm) (hQd:P / Q=D)
 (hy0:(bl Y).getD 0 0=y0) (hy1:(bl Y).getD 1 0=y1) (hy2:(bl Y).getD 2 0=y2) (hy3:(bl Y).getD 3 0=y3) (hy4:(bl Y).getD 4 0=y4) (hy5:(bl Y).getD 5 0=y5)
 (hz0:0≤y0∧y0≤1) (hz1:0≤y1∧y1≤1) (hz2:0≤y2∧y2≤1) (hz3:0≤y3∧y3≤1) (hz4:0≤y4∧y4≤1) (hz5:0≤y5∧y5≤1) (hn:y0+2*y1+4*y2+8*y3+16*y4+32*y5=n) (hn0:0≤n) (hn1:n≤63) (hq:True):zs_ Tryz.prog 121 [.int .u8 11,.int .i64 a,.int .i64 b] [.gone] (.tup [.int .i64 ((dnV X n.toNat false).toInt),.int .i64 0]) [.gone] :=  d5_
theorem apk12 (a b:Int)(X Y P Q Rm D:BitVec 64)(n y0 y1 y2 y3 y4 y5:Int)(ha0:-9223372036854775808≤a)(ha1:a≤9223372036854775807)(hb0:-9223372036854775808≤b)(hb1:b≤9223372036854775807)
 (hX:BitVec.ofInt 64 a=X) (hY:BitVec.ofInt 64 b=Y) (hP:amV a=P) (hQ:amV b=Q) (hQm:P % Q=Rm) (hQd:P / Q=D)
 (hy0:(bl Y).getD 0 0=y0) (hy1:(bl Y).getD 1 0=y1) (hy2:(bl Y).getD 2 0=y2) (hy3:(bl Y).getD 3 0=y3) (hy4:(bl Y).getD 4 0=y4) (hy5:(bl Y).getD 5 0=y5)
 (hz0:0≤y0∧y0≤1) (hz1:0≤y1∧y1≤1) (hz2:0≤y2∧y2≤1) (hz3:0≤y3∧y3≤1) (hz4:0≤y4∧y4≤1) (hz5:0≤y5∧y5≤1) (hn:y0+2*y1+4*y2+8*y3+16*y4+32*y5=n) (hn0:0≤n) (hn1:n≤63) (hq:True):zs_ Tryz.prog 121 [.int .u8 12,.int .i64 a,.int .i64 b] [.gone] (.tup [.int .i64 ((dnV X n.toNat (X.getLsbD 63)).toInt),.int .i64 0]) [.gone]:=by
 have l1:=yi_ X
 have l2:=yi_ Y
 by_cases h0:b=0
 ·have h63:=zk_ (x:=X) (i:=63) (by decide)
  cases ht:X.getLsbD 63
  ·rw[ht]at h63
   have h6:(bl X).getD 63 0=0:=h63
   refine zf_ (fn:=Tryz.f121) 1 196 0 rfl rfl rfl rfl rfl u4_ rfl fun w0 M E hro=>?_
   repeat' (first|refine Ctl.h ?_ |((with_reducible intro hif);first |(focus (cases hif;done)) |((try simp only[JH]at hif);try exact hy_)) |((with_reducible first|apply J22 zq_ za_|apply J23 fol zq_ za_|apply J24);(·rfl);(· exact k61_);(try kernel_rfl);try exact k52_)|fail)
   apply At.endsRet za_ (fn:=Tryz.f121) (rs:=[.tmp 6,.tmp 7]) Anc.refl hro (lb_ rfl) rfl
   ·exact k5_
   ·exact k6_
   ·exact k7_
   ·rfl
   ·exact yq_
   ·exact k9_
   ·exact fun β=>rfl
   ·exact yq_
  ·rw[ht]at h63
   have h6:(bl X).getD 63 0=1:=h63
   refine zf_ (fn:=Tryz.f121) 1 196 0 rfl rfl rfl rfl rfl u4_ rfl fun w0 M E hro=>?_
   repeat' (first|refine Ctl.h ?_ |((with_reducible intro hif);first |(focus (cases hif;done)) |((try simp only[JH]at hif);try exact hy_)) |((with_reducible first|apply J22 zq_ za_|apply J23 fol zq_ za_|apply J24);(·rfl);(· exact k61_);(try kernel_rfl);try exact k52_)|fail)
   apply At.endsRet za_ (fn:=Tryz.f121) (rs:=[.tmp 6,.tmp 7]) Anc.refl hro (lb_ rfl) rfl
   ·exact k5_
   ·exact k6_
   ·exact k7_
   ·rfl
   ·exact yq_
   ·exact k9_
   ·exact fun β=>rfl
   ·exact yq_
 ·have h63:=zk_ (x:=X) (i:=63) (by decide)
  cases ht:X.getLsbD 63
  ·rw[ht]at h63
   have h6:(bl X).getD 63 0=0:=h63
   refine zf_ (fn:=Tryz.f121) 1 196 0 rfl rfl rfl rfl rfl u4_ rfl fun w0 M E hro=>?_
   repeat' (first|refine Ctl.h ?_ |((with_reducible intro hif);first |(focus (cases hif;done)) |((try simp only[JH]at hif);try exact hy_)) |((with_reducible first|apply J22 zq_ za_|apply J23 fol zq_ za_|apply J24);(·rfl);(· exact k62_);(try kernel_rfl);try exact k52_)|fail)
   apply At.endsRet za_ (fn:=Tryz.f121) (rs:=[.tmp 6,.tmp 7]) Anc.refl hro (lb_ rfl) rfl
   ·exact k5_
   ·exact k6_
   ·exact k7_
   ·rfl
   ·exact yq_
   ·exact k9_
   ·exact fun β=>rfl
   ·exact yq_
  ·rw[ht]at h63
   have h6:(bl X).getD 63 0=1:=h63
   refine zf_ (fn:=Tryz.f121) 1 196 0 rfl rfl rfl rfl rfl u4_ rfl fun w0 M E hro=>?_
   repeat' (first|refine Ctl.h ?_ |((with_reducible intro hif);first |(focus (cases hif;done)) |((try simp only[JH]at hif);try exact hy_)) |((with_reducible first|apply J22 zq_ za_|apply J23 fol zq_ za_|apply J24);(·rfl);(· exact k62_);(try kernel_rfl);try exact k52_)|fail)
   apply At.endsRet za_ (fn:=Tryz.f121) (rs:=[.tmp 6,.tmp 7]) Anc.refl hro (lb_ rfl) rfl
   ·exact k5_
   ·exact k6_
   ·exact k7_
   ·rfl
   ·exact yq_
   ·exact k9_
   ·exact fun β=>rfl
   ·exact yq_
theorem apk13 (a b:Int)(X Y P Q Rm D:BitVec 64)(n y0 y1 y2 y3 y4 y5:Int)(ha0:-9223372036854775808≤a)(ha1:a≤9223372036854775807)(hb0:-9223372036854775808≤b)(hb1:b≤9223372036854775807)
 (hX:BitVec.ofInt 64 a=X) (hY:BitVec.ofInt 64 b=Y) (hP:amV a=P) (hQ:amV b=Q) (hQm:P % Q=Rm) (hQd:P / Q=D)
 (hy0:(bl Y).getD 0 0=y0) (hy1:(bl Y).getD 1 0=y1) (hy2:(bl Y).getD 2 0=y2) (hy3:(bl Y).getD 3 0=y3) (hy4:(bl Y).getD 4 0=y4) (hy5:(bl Y).getD 5 0=y5)
 (hz0:0≤y0∧y0≤1) (hz1:0≤y1∧y1≤1) (hz2:0≤y2∧y2≤1) (hz3:0≤y3∧y3≤1) (hz4:0≤y4∧y4≤1) (hz5:0≤y5∧y5≤1) (hn:y0+2*y1+4*y2+8*y3+16*y4+32*y5=n) (hn0:0≤n) (hn1:n≤63) (hq:True):zs_ Tryz.prog 121 [.int .u8 13,.int .i64 a,.int .i64 b] [.gone] (.tup [.int .i64 (bI (decide (a < b))),.int .i64 0]) [.gone] :=  d5_
theorem apk14 (a b:Int)(X Y P Q Rm D:BitVec 64)(n y0 y1 y2 y3 y4 y5:Int)(ha0:-9223372036854775808≤a)(ha1:a≤9223372036854775807)(hb0:-9223372036854775808≤b)(hb1:b≤9223372036854775807)
 (hX:BitVec.ofInt 64 a=X) (hY:BitVec.ofInt 64 b=Y) (hP:amV a=P) (hQ:amV b=Q) (hQm:P % Q=Rm) (hQd:P / Q=D)
 (hy0:(bl Y).getD 0 0=y0) (hy1:(bl Y).getD 1 0=y1) (hy2:(bl Y).getD 2 0=y2) (hy3:(bl Y).getD 3 0=y3) (hy4:(bl Y).getD 4 0=y4) (hy5:(bl Y).getD 5 0=y5)
 (hz0:0≤y0∧y0≤1) (hz1:0≤y1∧y1≤1) (hz2:0≤y2∧y2≤1) (hz3:0≤y3∧y3≤1) (hz4:0≤y4∧y4≤1) (hz5:0≤y5∧y5≤1) (hn:y0+2*y1+4*y2+8*y3+16*y4+32*y5=n) (hn0:0≤n) (hn1:n≤63) (hq:True):zs_ Tryz.prog 121 [.int .u8 14,.int .i64 a,.int .i64 b] [.gone] (.tup [.int .i64 (bI (decide (X.toNat < Y.toNat))),.int .i64 0]) [.gone] :=  d5_
theorem apk15 (a b:Int)(X Y P Q Rm D:BitVec 64)(n y0 y1 y2 y3 y4 y5:Int)(ha0:-9223372036854775808≤a)(ha1:a≤9223372036854775807)(hb0:-9223372036854775808≤b)(hb1:b≤9223372036854775807)
 (hX:BitVec.ofInt 64 a=X) (hY:BitVec.ofInt 64 b=Y) (hP:amV a=P) (hQ:amV b=Q) (hQm:P % Q=Rm) (hQd:P / Q=D)
 (hy0:(bl Y).getD 0 0=y0) (hy1:(bl Y).getD 1 0=y1) (hy2:(bl Y).getD 2 0=y2) (hy3:(bl Y).getD 3 0=y3) (hy4:(bl Y).getD 4 0=y4) (hy5:(bl Y).getD 5 0=y5)
 (hz0:0≤y0∧y0≤1) (hz1:0≤y1∧y1≤1) (hz2:0≤y2∧y2≤1) (hz3:0≤y3∧y3≤1) (hz4:0≤y4∧y4≤1) (hz5:0≤y5∧y5≤1) (hn:y0+2*y1+4*y2+8*y3+16*y4+32*y5=n) (hn0:0≤n) (hn1:n≤63) (hq:True):zs_ Tryz.prog 121 [.int .u8 15,.int .i64 a,.int .i64 b] [.gone] (.tup [.int .i64 (bI (decide (a=b))),.int .i64 0]) [.gone] :=  d5_
theorem apk16 (a b:Int)(X Y P Q Rm D:BitVec 64)(n y0 y1 y2 y3 y4 y5:Int)(ha0:-9223372036854775808≤a)(ha1:a≤9223372036854775807)(hb0:-9223372036854775808≤b)(hb1:b≤9223372036854775807)
 (hX:BitVec.ofInt 64 a=X) (hY:BitVec.ofInt 64 b=Y) (hP:amV a=P) (hQ:amV b=Q) (hQm:P % Q=Rm) (hQd:P / Q=D)
 (hy0:(bl Y).getD 0 0=y0) (hy1:(bl Y).getD 1 0=y1) (hy2:(bl Y).getD 2 0=y2) (hy3:(bl Y).getD 3 0=y3) (hy4:(bl Y).getD 4 0=y4) (hy5:(bl Y).getD 5 0=y5)
 (hz0:0≤y0∧y0≤1) (hz1:0≤y1∧y1≤1) (hz2:0≤y2∧y2≤1) (hz3:0≤y3∧y3≤1) (hz4:0≤y4∧y4≤1) (hz5:0≤y5∧y5≤1) (hn:y0+2*y1+4*y2+8*y3+16*y4+32*y5=n) (hn0:0≤n) (hn1:n≤63) (hq:True):zs_ Tryz.prog 121 [.int .u8 16,.int .i64 a,.int .i64 b] [.gone] (.tup [.int .i64 (if a < b then a else b),.int .i64 0]) [.gone] :=  d6_
theorem apk17 (a b:Int)(X Y P Q Rm D:BitVec 64)(n y0 y1 y2 y3 y4 y5:Int)(ha0:-9223372036854775808≤a)(ha1:a≤9223372036854775807)(hb0:-9223372036854775808≤b)(hb1:b≤9223372036854775807)
 (hX:BitVec.ofInt 64 a=X) (hY:BitVec.ofInt 64 b=Y) (hP:amV a=P) (hQ:amV b=Q) (hQm:P % Q=Rm) (hQd:P / Q=D)
 (hy0:(bl Y).getD 0 0=y0) (hy1:(bl Y).getD 1 0=y1) (hy2:(bl Y).getD 2 0=y2) (hy3:(bl Y).getD 3 0=y3) (hy4:(bl Y).getD 4 0=y4) (hy5:(bl Y).getD 5 0=y5)
 (hz0:0≤y0∧y0≤1) (hz1:0≤y1∧y1≤1) (hz2:0≤y2∧y2≤1) (hz3:0≤y3∧y3≤1) (hz4:0≤y4∧y4≤1) (hz5:0≤y5∧y5≤1) (hn:y0+2*y1+4*y2+8*y3+16*y4+32*y5=n) (hn0:0≤n) (hn1:n≤63) (hq:True):zs_ Tryz.prog 121 [.int .u8 17,.int .i64 a,.int .i64 b] [.gone] (.tup [.int .i64 (if a < b then b else a),.int .i64 0]) [.gone] :=  d6_
end Go.Proofs.YtjliakjbdcplcaaGreat.Vm
end
end
section
namespace Go.Proofs.YtjliakjbdcplcaaGreat.Vm
open Go.RowKit
theorem apV1 (a b:Int)(ha:R64 a)(hb:R64 b):yx_ 1 a b=(oi a+oi b).toInt:=by
 rw[yx_,if_pos (by simp[yp_]),←ap1]
 rfl
theorem apV2 (a b:Int)(ha:R64 a)(hb:R64 b):yx_ 2 a b=(oi a - oi b).toInt:=by
 rw[yx_,if_pos (by simp[yp_]),←ap2]
 rfl
theorem apV3 (a b:Int)(ha:R64 a)(hb:R64 b):yx_ 3 a b=(oi a*oi b).toInt:=by
 rw[yx_,if_pos (by simp[yp_]),←ap3]
 rfl
theorem apV4 (a b:Int)(ha:R64 a)(hb:R64 b)(h0:¬b=0):yx_ 4 a b=(if ((decide (a < 0)) !=(decide (b < 0)))=true then -(amV a / amV b)else amV a / amV b).toInt:=by
 rw[yx_,if_pos (by simp[yp_,h0]),←ap4 ha hb]
 rfl
theorem apV5 (a b:Int)(ha:R64 a)(hb:R64 b)(h0:¬b=0):yx_ 5 a b=(if decide (a < 0)=true then -(amV a % amV b)else amV a % amV b).toInt:=by
 rw[yx_,if_pos (by simp[yp_,h0]),←ap5 ha hb h0]
 rfl
theorem apV6 (a b:Int)(ha:R64 a)(hb:R64 b)(h0:¬b=0):yx_ 6 a b=(if a < 0∧(amV a % amV b).toInt≠0 then amV b - amV a % amV b else amV a % amV b).toInt:=by
 have e:yx_ 6 a b=modI a b:=by rw[yx_,if_pos (by simp[yp_,h0])];simp[yv_]
 rw[e]
 split
 ·rename_i h;exact ap6b ha hb h0 h.1 h.2
 ·rename_i h;exact ap6a ha hb h0 h
theorem apV7 (a b:Int)(ha:R64 a)(hb:R64 b):yx_ 7 a b=(bwV 7 (oi a) (oi b)).toInt:=by
 rw[yx_,if_pos (by simp[yp_]),show bwV 7 (oi a) (oi b)=oi a &&& oi b by simp[bwV],←ap7]
 rfl
theorem apV8 (a b:Int)(ha:R64 a)(hb:R64 b):yx_ 8 a b=(bwV 8 (oi a) (oi b)).toInt:=by
 rw[yx_,if_pos (by simp[yp_]),show bwV 8 (oi a) (oi b)=oi a ||| oi b by simp[bwV],←ap8]
 rfl
theorem apV9 (a b:Int)(ha:R64 a)(hb:R64 b):yx_ 9 a b=(bwV 9 (oi a) (oi b)).toInt:=by
 rw[yx_,if_pos (by simp[yp_]),show bwV 9 (oi a) (oi b)=oi a ^^^ oi b by simp[bwV],←ap9]
 rfl
theorem apV10 (a b:Int)(ha:R64 a)(hb:R64 b):yx_ 10 a b=(oi a <<< (nY (oi b)).toNat).toInt:=by
 rw[yx_,if_pos (by simp[yp_]),←ap10 a (show (nY (oi b)).toNat≤63 by have:=nY_bd (oi b);omega),←nY_sh]
 rfl
theorem apV11 (a b:Int)(ha:R64 a)(hb:R64 b):yx_ 11 a b=(dnV (oi a) (nY (oi b)).toNat false).toInt:=by
 rw[yx_,if_pos (by simp[yp_]),←ap11,←nY_sh]
 rfl
theorem apV12 (a b:Int)(ha:R64 a)(hb:R64 b):yx_ 12 a b=(dnV (oi a) (nY (oi b)).toNat ((oi a).getLsbD 63)).toInt:=by
 rw[yx_,if_pos (by simp[yp_]),←ap12 ha,←nY_sh]
 rfl
theorem apV13 (a b:Int)(ha:R64 a)(hb:R64 b):yx_ 13 a b=bI (decide (a < b)):=by
 rw[yx_,if_pos (by simp[yp_]),←truth_bI]
 rfl
theorem apV14 (a b:Int)(ha:R64 a)(hb:R64 b):yx_ 14 a b=bI (decide ((oi a).toNat < (oi b).toNat)):=by
 rw[yx_,if_pos (by simp[yp_]),←truth_bI,←ap14]
 rfl
theorem apV15 (a b:Int)(ha:R64 a)(hb:R64 b):yx_ 15 a b=bI (decide (a=b)):=by
 rw[yx_,if_pos (by simp[yp_]),←truth_bI]
 show truthI (a == b)=_
 by_cases h:a=b
 ·subst h;simp
 ·rw[decide_eq_false h,beq_eq_false_iff_ne.mpr h]
theorem apV16 (a b:Int)(ha:R64 a)(hb:R64 b):yx_ 16 a b=(if a < b then a else b):=by
 rw[yx_,if_pos (by simp[yp_])]
 show (if b < a then b else a)=_
 split<;>split<;>omega
theorem apV17 (a b:Int)(ha:R64 a)(hb:R64 b):yx_ 17 a b=(if a < b then b else a):=by
 rw[yx_,if_pos (by simp[yp_])]
 show (if a < b then b else a)=_
 rfl
theorem apw1 (op a b:Int)(h:op < 1):zs_ Tryz.prog 121 [.int .u8 op,.int .i64 a,.int .i64 b] [.gone] (.tup [.int .i64 0,.int .i64 130]) [.gone]:=by
 refine zf_ (fn:=Tryz.f121) 1 196 0 rfl rfl rfl rfl rfl u4_ rfl fun w0 M E hro=>?_
 repeat' (first|refine Ctl.h ?_ |((with_reducible intro hif);first |(focus (cases hif;done)) |((try simp only[JH]at hif);try exact hy_)) |((with_reducible first|apply J22 zq_ za_|apply J23 fol zq_ za_|apply J24);(·rfl);(· (simp only[push_cast,↓JP,Nat.reduceAdd,Nat.reduceEqDiff,Nat.reduceLT,Nat.reduceMul,Nat.reduceLeDiff,reduceCtorEq,reduceIte,zu_,zt_,iOf,inR,inN,h];rfl));(try kernel_rfl);try exact k15_)|fail)
 apply At.endsRet za_ (fn:=Tryz.f121) (rs:=[.tmp 6,.tmp 7]) Anc.refl hro (lb_ rfl) rfl
 ·exact k5_
 ·exact k6_
 ·exact k7_
 ·rfl
 ·exact yq_
 ·exact k9_
 ·exact fun β=>rfl
 ·exact yq_
theorem apw2 (op a b:Int)(h:¬op < 1)(h2:17 < op):zs_ Tryz.prog 121 [.int .u8 op,.int .i64 a,.int .i64 b] [.gone] (.tup [.int .i64 0,.int .i64 130]) [.gone]:=by
 refine zf_ (fn:=Tryz.f121) 1 196 0 rfl rfl rfl rfl rfl u4_ rfl fun w0 M E hro=>?_
 repeat' (first|refine Ctl.h ?_ |((with_reducible intro hif);first |(focus (cases hif;done)) |((try simp only[JH]at hif);try exact hy_)) |((with_reducible first|apply J22 zq_ za_|apply J23 fol zq_ za_|apply J24);(·rfl);(· (simp only[push_cast,↓JP,Nat.reduceAdd,Nat.reduceEqDiff,Nat.reduceLT,Nat.reduceMul,Nat.reduceLeDiff,reduceCtorEq,reduceIte,zu_,zt_,iOf,inR,inN,h,h2];rfl));(try kernel_rfl);try exact k15_)|fail)
 apply At.endsRet za_ (fn:=Tryz.f121) (rs:=[.tmp 6,.tmp 7]) Anc.refl hro (lb_ rfl) rfl
 ·exact k5_
 ·exact k6_
 ·exact k7_
 ·rfl
 ·exact yq_
 ·exact k9_
 ·exact fun β=>rfl
 ·exact yq_
theorem apw3 (op a b:Int)(h:¬op < 1)(h2:¬17 < op)(h3:4≤op)(h4:op≤6)(h5:b=0):zs_ Tryz.prog 121 [.int .u8 op,.int .i64 a,.int .i64 b] [.gone] (.tup [.int .i64 0,.int .i64 131]) [.gone]:=by
 refine zf_ (fn:=Tryz.f121) 1 196 0 rfl rfl rfl rfl rfl u4_ rfl fun w0 M E hro=>?_
 repeat' (first|refine Ctl.h ?_ |((with_reducible intro hif);first |(focus (cases hif;done)) |((try simp only[JH]at hif);try exact hy_)) |((with_reducible first|apply J22 zq_ za_|apply J23 fol zq_ za_|apply J24);(·rfl);(· (simp only[push_cast,↓JP,Nat.reduceAdd,Nat.reduceEqDiff,Nat.reduceLT,Nat.reduceMul,Nat.reduceLeDiff,reduceCtorEq,reduceIte,zu_,zt_,iOf,inR,inN,h,h2,h3,h4,(eq_true h5)];rfl));(try kernel_rfl);try exact k15_)|fail)
 apply At.endsRet za_ (fn:=Tryz.f121) (rs:=[.tmp 6,.tmp 7]) Anc.refl hro (lb_ rfl) rfl
 ·exact k5_
 ·exact k6_
 ·exact k7_
 ·rfl
 ·exact yq_
 ·exact k9_
 ·exact fun β=>rfl
 ·exact yq_
theorem apply_lit (op a b:Int)(ha0:-9223372036854775808≤a)(ha1:a≤9223372036854775807)(hb0:-9223372036854775808≤b)(hb1:b≤9223372036854775807):zs_ Tryz.prog 121 [.int .u8 op,.int .i64 a,.int .i64 b] [.gone] (.tup [.int .i64 (yx_ op a b),.int .i64 (yp_ op b)]) [.gone]:=by
 have ha:R64 a:=⟨ha0,ha1⟩
 have hb:R64 b:=⟨hb0,hb1⟩
 by_cases h1:op < 1
 ·have e:yp_ op b=130:=by rw[yp_,if_pos (.inl h1)]
  rw[yx_,e,if_neg (by decide)]
  exact apw1 op a b h1
 by_cases h2:17 < op
 ·have e:yp_ op b=130:=by rw[yp_,if_pos (.inr h2)]
  rw[yx_,e,if_neg (by decide)]
  exact apw2 op a b h1 h2
 by_cases h3:4≤op∧op≤6∧b=0
 ·have e:yp_ op b=131:=by rw[yp_,if_neg (by omega),if_pos ⟨h3.2.2,h3.1,h3.2.1⟩]
  rw[yx_,e,if_neg (by decide)]
  exact apw3 op a b h1 h2 h3.1 h3.2.1 h3.2.2
 have e0:yp_ op b=0:=by rw[yp_,if_neg (by omega),if_neg (by omega)]
 rw[e0]
 have hop:op=1∨op=2∨op=3∨op=4∨op=5∨op=6∨op=7∨op=8∨op=9∨op=10∨op=11∨op=12∨op=13∨op=14∨op=15∨op=16∨op=17:=by omega
 have hY:=nY_bd (oi b)
 rcases hop with h|h|h|h|h|h|h|h|h|h|h|h|h|h|h|h|h<;>subst h
 ·rw[apV1 a b ha hb]
  exact apk1 a b _ _ _ _ _ _ _ _ _ _ _ _ _ ha0 ha1 hb0 hb1 rfl rfl rfl rfl rfl rfl (zk_ (by decide)) (zk_ (by decide)) (zk_ (by decide)) (zk_ (by decide)) (zk_ (by decide)) (zk_ (by decide)) (z8_ _) (z8_ _) (z8_ _) (z8_ _) (z8_ _) (z8_ _) rfl hY.1 hY.2 trivial
 ·rw[apV2 a b ha hb]
  exact apk2 a b _ _ _ _ _ _ _ _ _ _ _ _ _ ha0 ha1 hb0 hb1 rfl rfl rfl rfl rfl rfl (zk_ (by decide)) (zk_ (by decide)) (zk_ (by decide)) (zk_ (by decide)) (zk_ (by decide)) (zk_ (by decide)) (z8_ _) (z8_ _) (z8_ _) (z8_ _) (z8_ _) (z8_ _) rfl hY.1 hY.2 trivial
 ·rw[apV3 a b ha hb]
  exact apk3 a b _ _ _ _ _ _ _ _ _ _ _ _ _ ha0 ha1 hb0 hb1 rfl rfl rfl rfl rfl rfl (zk_ (by decide)) (zk_ (by decide)) (zk_ (by decide)) (zk_ (by decide)) (zk_ (by decide)) (zk_ (by decide)) (z8_ _) (z8_ _) (z8_ _) (z8_ _) (z8_ _) (z8_ _) rfl hY.1 hY.2 trivial
 ·rw[apV4 a b ha hb (by omega)]
  exact apk4 a b _ _ _ _ _ _ _ _ _ _ _ _ _ ha0 ha1 hb0 hb1 rfl rfl rfl rfl rfl rfl (zk_ (by decide)) (zk_ (by decide)) (zk_ (by decide)) (zk_ (by decide)) (zk_ (by decide)) (zk_ (by decide)) (z8_ _) (z8_ _) (z8_ _) (z8_ _) (z8_ _) (z8_ _) rfl hY.1 hY.2 (by rw[amV_nat hb];omega) (by omega)
 ·rw[apV5 a b ha hb (by omega)]
  exact apk5 a b _ _ _ _ _ _ _ _ _ _ _ _ _ ha0 ha1 hb0 hb1 rfl rfl rfl rfl rfl rfl (zk_ (by decide)) (zk_ (by decide)) (zk_ (by decide)) (zk_ (by decide)) (zk_ (by decide)) (zk_ (by decide)) (z8_ _) (z8_ _) (z8_ _) (z8_ _) (z8_ _) (z8_ _) rfl hY.1 hY.2 (by rw[amV_nat hb];omega) (by omega)
 ·rw[apV6 a b ha hb (by omega)]
  exact apk6 a b _ _ _ _ _ _ _ _ _ _ _ _ _ ha0 ha1 hb0 hb1 rfl rfl rfl rfl rfl rfl (zk_ (by decide)) (zk_ (by decide)) (zk_ (by decide)) (zk_ (by decide)) (zk_ (by decide)) (zk_ (by decide)) (z8_ _) (z8_ _) (z8_ _) (z8_ _) (z8_ _) (z8_ _) rfl hY.1 hY.2 (by rw[amV_nat hb];omega) (by omega)
 ·rw[apV7 a b ha hb]
  exact apk7 a b _ _ _ _ _ _ _ _ _ _ _ _ _ ha0 ha1 hb0 hb1 rfl rfl rfl rfl rfl rfl (zk_ (by decide)) (zk_ (by decide)) (zk_ (by decide)) (zk_ (by decide)) (zk_ (by decide)) (zk_ (by decide)) (z8_ _) (z8_ _) (z8_ _) (z8_ _) (z8_ _) (z8_ _) rfl hY.1 hY.2 trivial
 ·rw[apV8 a b ha hb]
  exact apk8 a b _ _ _ _ _ _ _ _ _ _ _ _ _ ha0 ha1 hb0 hb1 rfl rfl rfl rfl rfl rfl (zk_ (by decide)) (zk_ (by decide)) (zk_ (by decide)) (zk_ (by decide)) (zk_ (by decide)) (zk_ (by decide)) (z8_ _) (z8_ _) (z8_ _) (z8_ _) (z8_ _) (z8_ _) rfl hY.1 hY.2 trivial
 ·rw[apV9 a b ha hb]
  exact apk9 a b _ _ _ _ _ _ _ _ _ _ _ _ _ ha0 ha1 hb0 hb1 rfl rfl rfl rfl rfl rfl (zk_ (by decide)) (zk_ (by decide)) (zk_ (by decide)) (zk_ (by decide)) (zk_ (by decide)) (zk_ (by decide)) (z8_ _) (z8_ _) (z8_ _) (z8_ _) (z8_ _) (z8_ _) rfl hY.1 hY.2 trivial
 ·rw[apV10 a b ha hb]
  exact apk10 a b _ _ _ _ _ _ _ _ _ _ _ _ _ ha0 ha1 hb0 hb1 rfl rfl rfl rfl rfl rfl (zk_ (by decide)) (zk_ (by decide)) (zk_ (by decide)) (zk_ (by decide)) (zk_ (by decide)) (zk_ (by decide)) (z8_ _) (z8_ _) (z8_ _) (z8_ _) (z8_ _) (z8_ _) rfl hY.1 hY.2 trivial
 ·rw[apV11 a b ha hb]
  exact apk11 a b _ _ _ _ _ _ _ _ _ _ _ _ _ ha0 ha1 hb0 hb1 rfl rfl rfl rfl rfl rfl (zk_ (by decide)) (zk_ (by decide)) (zk_ (by decide)) (zk_ (by decide)) (zk_ (by decide)) (zk_ (by decide)) (z8_ _) (z8_ _) (z8_ _) (z8_ _) (z8_ _) (z8_ _) rfl hY.1 hY.2 trivial
 ·rw[apV12 a b ha hb]
  exact apk12 a b _ _ _ _ _ _ _ _ _ _ _ _ _ ha0 ha1 hb0 hb1 rfl rfl rfl rfl rfl rfl (zk_ (by decide)) (zk_ (by decide)) (zk_ (by decide)) (zk_ (by decide)) (zk_ (by decide)) (zk_ (by decide)) (z8_ _) (z8_ _) (z8_ _) (z8_ _) (z8_ _) (z8_ _) rfl hY.1 hY.2 trivial
 ·rw[apV13 a b ha hb]
  exact apk13 a b _ _ _ _ _ _ _ _ _ _ _ _ _ ha0 ha1 hb0 hb1 rfl rfl rfl rfl rfl rfl (zk_ (by decide)) (zk_ (by decide)) (zk_ (by decide)) (zk_ (by decide)) (zk_ (by decide)) (zk_ (by decide)) (z8_ _) (z8_ _) (z8_ _) (z8_ _) (z8_ _) (z8_ _) rfl hY.1 hY.2 trivial
 ·rw[apV14 a b ha hb]
  exact apk14 a b _ _ _ _ _ _ _ _ _ _ _ _ _ ha0 ha1 hb0 hb1 rfl rfl rfl rfl rfl rfl (zk_ (by decide)) (zk_ (by decide)) (zk_ (by decide)) (zk_ (by decide)) (zk_ (by decide)) (zk_ (by decide)) (z8_ _) (z8_ _) (z8_ _) (z8_ _) (z8_ _) (z8_ _) rfl hY.1 hY.2 trivial
 ·rw[apV15 a b ha hb]
  exact apk15 a b _ _ _ _ _ _ _ _ _ _ _ _ _ ha0 ha1 hb0 hb1 rfl rfl rfl rfl rfl rfl (zk_ (by decide)) (zk_ (by decide)) (zk_ (by decide)) (zk_ (by decide)) (zk_ (by decide)) (zk_ (by decide)) (z8_ _) (z8_ _) (z8_ _) (z8_ _) (z8_ _) (z8_ _) rfl hY.1 hY.2 trivial
 ·rw[apV16 a b ha hb]
  exact apk16 a b _ _ _ _ _ _ _ _ _ _ _ _ _ ha0 ha1 hb0 hb1 rfl rfl rfl rfl rfl rfl (zk_ (by decide)) (zk_ (by decide)) (zk_ (by decide)) (zk_ (by decide)) (zk_ (by decide)) (zk_ (by decide)) (z8_ _) (z8_ _) (z8_ _) (z8_ _) (z8_ _) (z8_ _) rfl hY.1 hY.2 trivial
 ·rw[apV17 a b ha hb]
  exact apk17 a b _ _ _ _ _ _ _ _ _ _ _ _ _ ha0 ha1 hb0 hb1 rfl rfl rfl rfl rfl rfl (zk_ (by decide)) (zk_ (by decide)) (zk_ (by decide)) (zk_ (by decide)) (zk_ (by decide)) (zk_ (by decide)) (z8_ _) (z8_ _) (z8_ _) (z8_ _) (z8_ _) (z8_ _) rfl hY.1 hY.2 trivial
def sRAp:yn_:=fun args h m=>match args with
 | [v1,v2,v3]=>bif isI .u8 v1 && isI .i64 v2 && isI .i64 v3 then some ((-9223372036854775808≤(iOf v2))∧((iOf v2)≤9223372036854775807)∧(-9223372036854775808≤(iOf v3))∧((iOf v3)≤9223372036854775807),.tup [.int .i64 (yx_ (iOf v1) (iOf v2) (iOf v3)),.int .i64 (yp_ (iOf v1) (iOf v3))],[],[])else none
 | _=>none
theorem sRAp_ok:zi_ Tryz.prog 121 sRAp:=by
 refine⟨zg_ (by kernel_rfl),fun args h m c v rd wr hs hm hc w0 M β h' w R hrd hwr hst=>?_⟩
 unfold sRAp at hs
 split at hs
 ·rename_i v1 v2 v3
  obtain⟨hb,hs⟩:=zl_ hs
  simp only[Option.some.injEq,Prod.mk.injEq]at hs
  obtain⟨rfl,rfl,rfl,rfl⟩:=hs
  simp only[Bool.and_eq_true]at hb
  obtain⟨⟨b1,b2⟩,b3⟩:=hb
  obtain⟨y1,y2,y3,y4⟩:=hc
  refine yh_ (views:=[]) (apply_lit (iOf v1) (iOf v2) (iOf v3) y1 y2 y3 y4) ?_ R hm hwr ?_ ?_ ?_
  ·intro x hx;cases hx
  ·intro β1 hv
   simp only[denL,yb_,ya_,z9_,zx_,zb_,zd_ b1,zd_ b2,zd_ b3]
  ·exact yq_
  ·exact yq_
 ·cases hs
def zF (x n:Nat):Nat:=x ^^^ x / 2 ^ n
def zV (x n j:Nat):Nat:=zF x n % 2 ^ j
def b2 (b:Bool):Nat:=if b then 1 else 0
theorem bit_div (x j:Nat):x / 2 ^ j % 2=b2 (x.testBit j):=by
 rw[Nat.testBit_eq_decide_div_mod_eq,b2]
 have h:=Nat.mod_two_eq_zero_or_one (x / 2 ^ j)
 rcases h with h|h<;>simp[h]
theorem zF_bit (x n j:Nat):(zF x n).testBit j=(x.testBit j ^^ x.testBit (j+n)):=by
 rw[zF,Nat.testBit_xor,Nat.testBit_div_two_pow]
theorem zV_next (x n j:Nat):zV x n (j+1)=zV x n j+(if (x.testBit j ^^ x.testBit (j+n))then 2 ^ j else 0):=by
 rw[zV,mod_next,zF_bit];rfl
theorem fold_lit (x n:Nat)(hx:x < 18446744073709551616)(hn:n≤64):zs_ Tryz.prog 160 [.nat .u64 x,.nat .i64 n] [.gone] (.nat .u64 (zF x n)) [.gone]:=by
 have hz0:zV x n 0=0:=Nat.mod_one _
 refine zf_ (fn:=Tryz.f160) 1 35 0 rfl rfl rfl rfl rfl (by simp only[ze_,zc_,hp,zp_];simp[HB.born]) rfl fun w0 M E hro=>?_
 repeat' (first|refine Ctl.h ?_ |((with_reducible intro hif);first |(focus (cases hif;done)) |((try simp only[JH]at hif);try exact hy_)) |((with_reducible first|apply J22 zv_ za_|apply J23 fol zv_ za_|apply J24);(·rfl);(· exact k13_);(try kernel_rfl);try exact yr_)|fail)
 refine WF.loopAt (fun (j:Nat)=>j≤64) (fun (j:Nat)=>[(0,.nat .u64 x),(1,.nat .i64 n),(5,.nat .u64 (zV x n j)),(6,.nat .i64 j)]) (fun (j:Nat)=>[.gone]) (fun (j:Nat)=>64 - j) 0 (Nat.zero_le _) ?_ ?_ rfl ?_ ?_ rfl ?_
 ·exact k33_
 ·exact k7_
 ·exact k59_
 ·exact k59_
 intro j hj
 by_cases hjl:j < 64
 ·have hpl:2 ^ j≤2 ^ 63:=Nat.pow_le_pow_right (by decide) (by omega)
  have h63:(2:Nat) ^ 63=9223372036854775808:=by decide
  rw[h63]at hpl
  have hmd:zV x n j < 2 ^ j:=Nat.mod_lt _ (Nat.pow_pos (by decide))
  have hmn:=zV_next x n j
  have hb1:=bit_div x j
  have hb2:=bit_div x (j+n)
  have hm1:min j 64=j:=by omega
  by_cases hjn:j+n < 64
  ·have hm2:min (j+n) 64=j+n:=by omega
   cases hc:x.testBit j<;>cases hd:x.testBit (j+n)
   all_goals
    rw[hc,hd]at hmn
    rw[hc]at hb1
    rw[hd]at hb2
    simp only[b2,Bool.xor_true,Bool.xor_false,Bool.not_true,Bool.not_false,if_true,Bool.false_eq_true,if_false,Nat.add_zero]at hmn hb1 hb2
    repeat' (first|refine Ctl.h ?_ |((with_reducible intro hif);first |(focus (cases hif;done)) |((try simp only[JH]at hif);try exact hy_)) |((with_reducible first|apply J22 zv_ za_|apply J23 fol zv_ za_|apply J24);(·rfl);(· (simp only[push_cast,↓JP,Nat.reduceAdd,Nat.reduceEqDiff,Nat.reduceLT,Nat.reduceMul,Nat.reduceLeDiff,reduceCtorEq,reduceIte,hjl,hjn,hm1,hm2,hb1,hb2,inR,inN,IntKind.bits,Nat.reduceMod,Nat.zero_mul,Nat.one_mul,Nat.add_zero];rfl));(try kernel_rfl);try exact k37_)|fail)
    refine At.next (j+1) ?_ ?_ ?_ rfl ?_ ?_ rfl
    ·exact⟨by omega,by omega⟩
    ·exact k60_
    ·exact k7_
    ·exact k59_
    ·exact k59_
  ·have hd:x.testBit (j+n)=false:=Nat.testBit_lt_two_pow (Nat.lt_of_lt_of_le hx (by rw[show 18446744073709551616=2 ^ 64 by decide];exact Nat.pow_le_pow_right (by decide) (by omega)))
   cases hc:x.testBit j
   all_goals
    rw[hc,hd]at hmn
    rw[hc]at hb1
    simp only[b2,Bool.xor_true,Bool.xor_false,Bool.not_true,Bool.not_false,if_true,Bool.false_eq_true,if_false,Nat.add_zero]at hmn hb1
    repeat' (first|refine Ctl.h ?_ |((with_reducible intro hif);first |(focus (cases hif;done)) |((try simp only[JH]at hif);try exact hy_)) |((with_reducible first|apply J22 zv_ za_|apply J23 fol zv_ za_|apply J24);(·rfl);(· (simp only[push_cast,↓JP,Nat.reduceAdd,Nat.reduceEqDiff,Nat.reduceLT,Nat.reduceMul,Nat.reduceLeDiff,reduceCtorEq,reduceIte,hjl,hjn,hm1,hb1,inR,inN,IntKind.bits,Nat.reduceMod,Nat.zero_mul,Nat.one_mul,Nat.add_zero];rfl));(try kernel_rfl);try exact k37_)|fail)
    refine At.next (j+1) ?_ ?_ ?_ rfl ?_ ?_ rfl
    ·exact⟨by omega,by omega⟩
    ·exact k60_
    ·exact k7_
    ·exact k59_
    ·exact k59_
 ·obtain rfl:j=64:=by omega
  have hz:zV x n 64=zF x n:=Nat.mod_eq_of_lt (Nat.xor_lt_two_pow hx (Nat.lt_of_le_of_lt (Nat.div_le_self ..) hx))
  repeat' (first|refine Ctl.h ?_ |((with_reducible intro hif);first |(focus (cases hif;done)) |((try simp only[JH]at hif);try exact hy_)) |((with_reducible first|apply J22 zv_ za_|apply J23 fol zv_ za_|apply J24);(·rfl);(· exact k17_);(try kernel_rfl);try exact yr_)|fail)
  apply At.endsRet za_ (fn:=Tryz.f160) (rs:=[.tmp 4]) Anc.refl hro (lb_ rfl) rfl
  ·exact k5_
  ·exact k6_
  ·exact k7_
  ·rfl
  ·exact k59_
  ·exact k9_
  ·(intro β;first|rfl |(rw[hz];rfl))
  ·exact k59_
theorem calls_of_lit {f:FuncId}{args:List SV}{W:World}{v:SV}(H:zs_ Tryz.prog f args [.gone] v [.gone])(hv:∀β,v.den β = v.den (fun _=>(none,0))) :
  Calls Tryz.prog f (denL (fun _=>(none,0)) args).toArray W fun e W'=>e=.returned (v.den fun _=>(none,0))∧Below W.heap.size W W':=
 (H W _ _ W (start W)).mono fun e W' ⟨β',_,R',_,he⟩=>⟨by rw[he,hv],R'.os,R'.tape,R'.output,R'.size,fun k hk=>R'.frame k hk id⟩
theorem rfold_c (x n:Int)(w:World)(h0:0≤x)(h1:x < 18446744073709551616)(hn0:0≤n)(hn:n≤64):Calls Tryz.prog 160 #[.int .u64 x,.int .i64 n] w fun e w'=>e=.returned (.int .u64 (bits .xor .u64 x (x / 2 ^ n.toNat)))∧Below w.heap.size w w':=by
 obtain⟨X,rfl⟩:∃X:Nat,x=(X:Int):=⟨x.toNat,by omega⟩
 obtain⟨k,rfl⟩:∃k:Nat,n=(k:Int):=⟨n.toNat,by omega⟩
 have h:=calls_of_lit (W:=w) (fold_lit X k (by omega) (by omega)) fun β=>rfl
 have e:bits .xor .u64 (X:Int) ((X:Int) / 2 ^ (k:Int).toNat)=((zF X k:Nat):Int):=by
  have h:=xorShift_u64 X (2 ^ k) (by omega)
  have e2:((2 ^ k:Nat):Int)=(2:Int) ^ k:=by simp
  rw[e2]at h
  exact h
 rw[e]
 exact h
end Go.Proofs.YtjliakjbdcplcaaGreat.Vm
end
