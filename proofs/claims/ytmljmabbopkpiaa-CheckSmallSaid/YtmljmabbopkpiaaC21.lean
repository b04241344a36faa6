import Derived.Test.YtmljmabbopkpiaaC1
import Derived.Test.YtmljmabbopkpiaaC20
set_option linter.unusedSimpArgs false
set_option linter.unusedVariables false
set_option maxRecDepth 100000
set_option maxHeartbeats 4000000
section
namespace Go.Proofs.Ytmljmabbopkpiaa.Vm
open Go.RowKit
attribute [local push_cast] eqB eqBL allB sRBits sRSum sRNot sRWord sRUp sRDown sRBitw sRTruth sRLess sRProd sRAmt sRNeg sRDiv bO yz_ yy_ iOf yu_ yl_ ls_i64B ls_i64U ls_zB vb_bl sumV_f sumV_sub zw_ nat_one_i inR inN
def cApp:FuncId→Option y4_:=xz_ [(153,sRBits),(155,sRSum),(156,sRNot),(154,sRWord),(162,sRUp),(163,sRDown),(161,sRBitw),(164,sRTruth),(165,sRLess),(157,sRProd),(159,sRAmt),(160,sRNeg),(158,sRDiv)]
theorem zk_:∀f S,cApp f=some S→zm_ Try.prog f S:=z0_ ⟨sRBits_ok,sRSum_ok,sRNot_ok,sRWord_ok,sRUp_ok,sRDown_ok,sRBitw_ok,sRTruth_ok,sRLess_ok,sRProd_ok,sRAmt_ok,sRNeg_ok,sRDiv_ok,trivial⟩
theorem ed0:decide ((0:Int)=1)=false:=rfl
theorem ed:decide ((1:Int)=1)=true:=rfl
theorem apk1 (a b:Int)(X Y P Q Rm D:BitVec 64)(n y0 y1 y2 y3 y4 y5:Int)(ha0:-9223372036854775808≤a)(ha1:a≤9223372036854775807)(hb0:-9223372036854775808≤b)(hb1:b≤9223372036854775807)
 (hX:BitVec.ofInt 64 a=X) (hY:BitVec.ofInt 64 b=Y) (hP:amV a=P) (hQ:amV b=Q) (hQm:P % Q=Rm) (hQd:P / Q=D)
 (hy0:(bl Y).getD 0 0=y0) (hy1:(bl Y).getD 1 0=y1) (hy2:(bl Y).getD 2 0=y2) (hy3:(bl Y).getD 3 0=y3) (hy4:(bl Y).getD 4 0=y4) (hy5:(bl Y).getD 5 0=y5)
 (hz0:0≤y0∧y0≤1) (hz1:0≤y1∧y1≤1) (hz2:0≤y2∧y2≤1) (hz3:0≤y3∧y3≤1) (hz4:0≤y4∧y4≤1) (hz5:0≤y5∧y5≤1) (hn:y0+2*y1+4*y2+8*y3+16*y4+32*y5=n) (hn0:0≤n) (hn1:n≤63) (hq:True):zz_ Try.prog 131 [.int .u8 1,.int .i64 a,.int .i64 b] [.gone] (.tup [.int .i64 ((X+Y).toInt),.int .i64 0]) [.gone] :=  d3_
theorem apk2 (a b:Int)(X Y P Q Rm D:BitVec 64)(n y0 y1 y2 y3 y4 y5:Int)(ha0:-9223372036854775808≤a)(ha1:a≤9223372036854775807)(hb0:-9223372036854775808≤b)(hb1:b≤9223372036854775807)
 (hX:BitVec.ofInt 64 a=X) (hY:BitVec.ofInt 64 b=Y) (hP:amV a=P) (hQ:amV b=Q) (hQm:P % Q=Rm) (hQd:P / Q=D)
 (hy0:(bl Y).getD 0 0=y0) (hy1:(bl Y).getD 1 0=y1) (hy2:(bl Y).getD 2 0=y2) (hy3:(bl Y).getD 3 0=y3) (hy4:(bl Y).getD 4 0=y4) (hy5:(bl Y).getD 5 0=y5)
 (hz0:0≤y0∧y0≤1) (hz1:0≤y1∧y1≤1) (hz2:0≤y2∧y2≤1) (hz3:0≤y3∧y3≤1) (hz4:0≤y4∧y4≤1) (hz5:0≤y5∧y5≤1) (hn:y0+2*y1+4*y2+8*y3+16*y4+32*y5=n) (hn0:0≤n) (hn1:n≤63) (hq:True):zz_ Try.prog 131 [.int .u8 2,.int .i64 a,.int .i64 b] [.gone] (.tup [.int .i64 ((X - Y).toInt),.int .i64 0]) [.gone] :=  d3_
theorem apk3 (a b:Int)(X Y P Q Rm D:BitVec 64)(n y0 y1 y2 y3 y4 y5:Int)(ha0:-9223372036854775808≤a)(ha1:a≤9223372036854775807)(hb0:-9223372036854775808≤b)(hb1:b≤9223372036854775807)
 (hX:BitVec.ofInt 64 a=X) (hY:BitVec.ofInt 64 b=Y) (hP:amV a=P) (hQ:amV b=Q) (hQm:P % Q=Rm) (hQd:P / Q=D)
 (hy0:(bl Y).getD 0 0=y0) (hy1:(bl Y).getD 1 0=y1) (hy2:(bl Y).getD 2 0=y2) (hy3:(bl Y).getD 3 0=y3) (hy4:(bl Y).getD 4 0=y4) (hy5:(bl Y).getD 5 0=y5)
 (hz0:0≤y0∧y0≤1) (hz1:0≤y1∧y1≤1) (hz2:0≤y2∧y2≤1) (hz3:0≤y3∧y3≤1) (hz4:0≤y4∧y4≤1) (hz5:0≤y5∧y5≤1) (hn:y0+2*y1+4*y2+8*y3+16*y4+32*y5=n) (hn0:0≤n) (hn1:n≤63) (hq:True):zz_ Try.prog 131 [.int .u8 3,.int .i64 a,.int .i64 b] [.gone] (.tup [.int .i64 ((X*Y).toInt),.int .i64 0]) [.gone] :=  d3_
theorem apk4 (a b:Int)(X Y P Q Rm D:BitVec 64)(n y0 y1 y2 y3 y4 y5:Int)(ha0:-9223372036854775808≤a)(ha1:a≤9223372036854775807)(hb0:-9223372036854775808≤b)(hb1:b≤9223372036854775807)
 (hX:BitVec.ofInt 64 a=X) (hY:BitVec.ofInt 64 b=Y) (hP:amV a=P) (hQ:amV b=Q) (hQm:P % Q=Rm) (hQd:P / Q=D)
 (hy0:(bl Y).getD 0 0=y0) (hy1:(bl Y).getD 1 0=y1) (hy2:(bl Y).getD 2 0=y2) (hy3:(bl Y).getD 3 0=y3) (hy4:(bl Y).getD 4 0=y4) (hy5:(bl Y).getD 5 0=y5)
 (hz0:0≤y0∧y0≤1) (hz1:0≤y1∧y1≤1) (hz2:0≤y2∧y2≤1) (hz3:0≤y3∧y3≤1) (hz4:0≤y4∧y4≤1) (hz5:0≤y5∧y5≤1) (hn:y0+2*y1+4*y2+8*y3+16*y4+32*y5=n) (hn0:0≤n) (hn1:n≤63) (hq:0 < Q.toNat) (h0:¬b=0):zz_ Try.prog 131 [.int .u8 4,.int .i64 a,.int .i64 b] [.gone] (.tup [.int .i64 ((if ((decide (a < 0)) !=(decide (b < 0)))=true then -D else D).toInt),.int .i64 0]) [.gone]:=by
 have l1:=z8_ X
 have l2:=z8_ Y
 by_cases h1:a < 0
 ·by_cases h2:b < 0
  ·exact d26_
  ·exact d27_
 ·by_cases h2:b < 0
  ·exact d27_
  ·exact d26_
end Go.Proofs.Ytmljmabbopkpiaa.Vm
end
section
namespace Go.Proofs.Ytmljmabbopkpiaa.Vm
open Go.RowKit
attribute [local push_cast] eqB eqBL allB cApp sRBits sRSum sRNot sRWord sRUp sRDown sRBitw sRTruth sRLess sRProd sRAmt sRNeg sRDiv bO yz_ yy_ iOf yu_ yl_ ls_i64B ls_i64U ls_zB vb_bl sumV_f sumV_sub ed ed0 zw_ nat_one_i inR inN
theorem apk5 (a b:Int)(X Y P Q Rm D:BitVec 64)(n y0 y1 y2 y3 y4 y5:Int)(ha0:-9223372036854775808≤a)(ha1:a≤9223372036854775807)(hb0:-9223372036854775808≤b)(hb1:b≤9223372036854775807)
 (hX:BitVec.ofInt 64 a=X) (hY:BitVec.ofInt 64 b=Y) (hP:amV a=P) (hQ:amV b=Q) (hQm:P % Q=Rm) (hQd:P / Q=D)
 (hy0:(bl Y).getD 0 0=y0) (hy1:(bl Y).getD 1 0=y1) (hy2:(bl Y).getD 2 0=y2) (hy3:(bl Y).getD 3 0=y3) (hy4:(bl Y).getD 4 0=y4) (hy5:(bl Y).getD 5 0=y5)
 (hz0:0≤y0∧y0≤1) (hz1:0≤y1∧y1≤1) (hz2:0≤y2∧y2≤1) (hz3:0≤y3∧y3≤1) (hz4:0≤y4∧y4≤1) (hz5:0≤y5∧y5≤1) (hn:y0+2*y1+4*y2+8*y3+16*y4+32*y5=n) (hn0:0≤n) (hn1:n≤63) (hq:0 < Q.toNat) (h0:¬b=0):zz_ Try.prog 131 [.int .u8 5,.int .i64 a,.int .i64 b] [.gone] (.tup [.int .i64 ((if decide (a < 0)=true then -Rm else Rm).toInt),.int .i64 0]) [.gone]:=by
 have l1:=z8_ X
 have l2:=z8_ Y
 by_cases h1:a < 0
 ·rw[show (if decide (a < 0)=true then -Rm else Rm) = -Rm by simp[h1]]
  refine zf_ (fn:=Try.f131) 1 196 0 rfl rfl rfl rfl rfl u5_ rfl fun w0 M E hro=>?_
  repeat' (first|refine Ctl.h ?_ |((with_reducible intro hif);first |(focus (cases hif;done)) |((try simp only[JH]at hif);try exact hy_)) |((with_reducible first|apply J22 zk_ za_|apply J23 fol zk_ za_|apply J24);(·rfl);(· exact k69_);(try kernel_rfl);try exact k65_)|fail)
  apply At.endsRet za_ (fn:=Try.f131) (rs:=[.tmp 6,.tmp 7]) Anc.refl hro (lb_ rfl) rfl
  ·exact k28_
  ·exact k4_
  ·exact k5_
  ·rfl
  ·exact yh_
  ·exact k7_
  ·exact fun β=>rfl
  ·exact yh_
 ·rw[show (if decide (a < 0)=true then -Rm else Rm)=Rm by simp[h1]]
  refine zf_ (fn:=Try.f131) 1 196 0 rfl rfl rfl rfl rfl u5_ rfl fun w0 M E hro=>?_
  repeat' (first|refine Ctl.h ?_ |((with_reducible intro hif);first |(focus (cases hif;done)) |((try simp only[JH]at hif);try exact hy_)) |((with_reducible first|apply J22 zk_ za_|apply J23 fol zk_ za_|apply J24);(·rfl);(· exact k69_);(try kernel_rfl);try exact k65_)|fail)
  apply At.endsRet za_ (fn:=Try.f131) (rs:=[.tmp 6,.tmp 7]) Anc.refl hro (lb_ rfl) rfl
  ·exact k28_
  ·exact k4_
  ·exact k5_
  ·rfl
  ·exact yh_
  ·exact k7_
  ·exact fun β=>rfl
  ·exact yh_
theorem apk6 (a b:Int)(X Y P Q Rm D:BitVec 64)(n y0 y1 y2 y3 y4 y5:Int)(ha0:-9223372036854775808≤a)(ha1:a≤9223372036854775807)(hb0:-9223372036854775808≤b)(hb1:b≤9223372036854775807)
 (hX:BitVec.ofInt 64 a=X) (hY:BitVec.ofInt 64 b=Y) (hP:amV a=P) (hQ:amV b=Q) (hQm:P % Q=Rm) (hQd:P / Q=D)
 (hy0:(bl Y).getD 0 0=y0) (hy1:(bl Y).getD 1 0=y1) (hy2:(bl Y).getD 2 0=y2) (hy3:(bl Y).getD 3 0=y3) (hy4:(bl Y).getD 4 0=y4) (hy5:(bl Y).getD 5 0=y5)
 (hz0:0≤y0∧y0≤1) (hz1:0≤y1∧y1≤1) (hz2:0≤y2∧y2≤1) (hz3:0≤y3∧y3≤1) (hz4:0≤y4∧y4≤1) (hz5:0≤y5∧y5≤1) (hn:y0+2*y1+4*y2+8*y3+16*y4+32*y5=n) (hn0:0≤n) (hn1:n≤63) (hq:0 < Q.toNat) (h0:¬b=0):zz_ Try.prog 131 [.int .u8 6,.int .i64 a,.int .i64 b] [.gone] (.tup [.int .i64 ((if a < 0∧Rm.toInt≠0 then Q - Rm else Rm).toInt),.int .i64 0]) [.gone]:=by
 have l1:=z8_ X
 have l2:=z8_ Y
 by_cases h1:a < 0
 ·by_cases h2:Rm.toInt=0
  ·rw[if_neg (by simp[h2])]
   refine zf_ (fn:=Try.f131) 1 196 0 rfl rfl rfl rfl rfl u5_ rfl fun w0 M E hro=>?_
   repeat' (first|refine Ctl.h ?_ |((with_reducible intro hif);first |(focus (cases hif;done)) |((try simp only[JH]at hif);try exact hy_)) |((with_reducible first|apply J22 zk_ za_|apply J23 fol zk_ za_|apply J24);(·rfl);(· (simp only[push_cast,↓JP,Nat.reduceAdd,Nat.reduceEqDiff,Nat.reduceLT,Nat.reduceMul,Nat.reduceLeDiff,reduceCtorEq,reduceIte,hX,hY,hP,hQ,hQm,hQd,hy0,hy1,hy2,hy3,hy4,hy5,hn,Int.cast_ofNat_Int,h0,h1,(eq_true h2)];rfl));(try kernel_rfl);try exact k65_)|fail)
   apply At.endsRet za_ (fn:=Try.f131) (rs:=[.tmp 6,.tmp 7]) Anc.refl hro (lb_ rfl) rfl
   ·exact k28_
   ·exact k4_
   ·exact k5_
   ·rfl
   ·exact yh_
   ·exact k7_
   ·exact fun β=>rfl
   ·exact yh_
  ·rw[if_pos ⟨h1,h2⟩]
   refine zf_ (fn:=Try.f131) 1 196 0 rfl rfl rfl rfl rfl u5_ rfl fun w0 M E hro=>?_
   repeat' (first|refine Ctl.h ?_ |((with_reducible intro hif);first |(focus (cases hif;done)) |((try simp only[JH]at hif);try exact hy_)) |((with_reducible first|apply J22 zk_ za_|apply J23 fol zk_ za_|apply J24);(·rfl);(· (simp only[push_cast,↓JP,Nat.reduceAdd,Nat.reduceEqDiff,Nat.reduceLT,Nat.reduceMul,Nat.reduceLeDiff,reduceCtorEq,reduceIte,hX,hY,hP,hQ,hQm,hQd,hy0,hy1,hy2,hy3,hy4,hy5,hn,Int.cast_ofNat_Int,h0,h1,h2];rfl));(try kernel_rfl);try exact k65_)|fail)
   apply At.endsRet za_ (fn:=Try.f131) (rs:=[.tmp 6,.tmp 7]) Anc.refl hro (lb_ rfl) rfl
   ·exact k28_
   ·exact k4_
   ·exact k5_
   ·rfl
   ·exact yh_
   ·exact k7_
   ·exact fun β=>rfl
   ·exact yh_
 ·rw[if_neg (by simp[h1])]
  refine zf_ (fn:=Try.f131) 1 196 0 rfl rfl rfl rfl rfl u5_ rfl fun w0 M E hro=>?_
  repeat' (first|refine Ctl.h ?_ |((with_reducible intro hif);first |(focus (cases hif;done)) |((try simp only[JH]at hif);try exact hy_)) |((with_reducible first|apply J22 zk_ za_|apply J23 fol zk_ za_|apply J24);(·rfl);(· exact k69_);(try kernel_rfl);try exact k65_)|fail)
  apply At.endsRet za_ (fn:=Try.f131) (rs:=[.tmp 6,.tmp 7]) Anc.refl hro (lb_ rfl) rfl
  ·exact k28_
  ·exact k4_
  ·exact k5_
  ·rfl
  ·exact yh_
  ·exact k7_
  ·exact fun β=>rfl
  ·exact yh_
theorem apk7 (a b:Int)(X Y P Q Rm D:BitVec 64)(n y0 y1 y2 y3 y4 y5:Int)(ha0:-9223372036854775808≤a)(ha1:a≤9223372036854775807)(hb0:-9223372036854775808≤b)(hb1:b≤9223372036854775807)
 (hX:BitVec.ofInt 64 a=X) (hY:BitVec.ofInt 64 b=Y) (hP:amV a=P) (hQ:amV b=Q) (hQm:P % Q=Rm) (hQd:P / Q=D)
 (hy0:(bl Y).getD 0 0=y0) (hy1:(bl Y).getD 1 0=y1) (hy2:(bl Y).getD 2 0=y2) (hy3:(bl Y).getD 3 0=y3) (hy4:(bl Y).getD 4 0=y4) (hy5:(bl Y).getD 5 0=y5)
 (hz0:0≤y0∧y0≤1) (hz1:0≤y1∧y1≤1) (hz2:0≤y2∧y2≤1) (hz3:0≤y3∧y3≤1) (hz4:0≤y4∧y4≤1) (hz5:0≤y5∧y5≤1) (hn:y0+2*y1+4*y2+8*y3+16*y4+32*y5=n) (hn0:0≤n) (hn1:n≤63) (hq:True):zz_ Try.prog 131 [.int .u8 7,.int .i64 a,.int .i64 b] [.gone] (.tup [.int .i64 ((bwV 7 X Y).toInt),.int .i64 0]) [.gone] :=  d4_
theorem apk8 (a b:Int)(X Y P Q Rm D:BitVec 64)(n y0 y1 y2 y3 y4 y5:Int)(ha0:-9223372036854775808≤a)(ha1:a≤9223372036854775807)(hb0:-9223372036854775808≤b)(hb1:b≤9223372036854775807)
 (hX:BitVec.ofInt 64 a=X) (hY:BitVec.ofInt 64 b=Y) (hP:amV a=P) (hQ:amV b=Q) (hQm:P % Q=Rm) (hQd:P / Q=D)
 (hy0:(bl Y).getD 0 0=y0) (hy1:(bl Y).getD 1 0=y1) (hy2:(bl Y).getD 2 0=y2) (hy3:(bl Y).getD 3 0=y3) (hy4:(bl Y).getD 4 0=y4) (hy5:(bl Y).getD 5 0=y5)
 (hz0:0≤y0∧y0≤1) (hz1:0≤y1∧y1≤1) (hz2:0≤y2∧y2≤1) (hz3:0≤y3∧y3≤1) (hz4:0≤y4∧y4≤1) (hz5:0≤y5∧y5≤1) (hn:y0+2*y1+4*y2+8*y3+16*y4+32*y5=n) (hn0:0≤n) (hn1:n≤63) (hq:True):zz_ Try.prog 131 [.int .u8 8,.int .i64 a,.int .i64 b] [.gone] (.tup [.int .i64 ((bwV 8 X Y).toInt),.int .i64 0]) [.gone] :=  d4_
theorem apk9 (a b:Int)(X Y P Q Rm D:BitVec 64)(n y0 y1 y2 y3 y4 y5:Int)(ha0:-9223372036854775808≤a)(ha1:a≤9223372036854775807)(hb0:-9223372036854775808≤b)(hb1:b≤9223372036854775807)
 (hX:BitVec.ofInt 64 a=X) (hY:BitVec.ofInt 64 b=Y) (hP:amV a=P) (hQ:amV b=Q) (hQm:P % Q=Rm) (hQd:P / Q=D)
 (hy0:(bl Y).getD 0 0=y0) (hy1:(bl Y).getD 1 0=y1) (hy2:(bl Y).getD 2 0=y2) (hy3:(bl Y).getD 3 0=y3) (hy4:(bl Y).getD 4 0=y4) (hy5:(bl Y).getD 5 0=y5)
 (hz0:0≤y0∧y0≤1) (hz1:0≤y1∧y1≤1) (hz2:0≤y2∧y2≤1) (hz3:0≤y3∧y3≤1) (hz4:0≤y4∧y4≤1) (hz5:0≤y5∧y5≤1) (hn:y0+2*y1+4*y2+8*y3+16*y4+32*y5=n) (hn0:0≤n) (hn1:n≤63) (hq:True):zz_ Try.prog 131 [.int .u8 9,.int .i64 a,.int .i64 b] [.gone] (.tup [.int .i64 ((bwV 9 X Y).toInt),.int .i64 0]) [.gone] :=  d4_
end Go.Proofs.Ytmljmabbopkpiaa.Vm
end
