import Derived.Test.YtmljmabbopkpiaaC1
import Derived.Test.YtmljmabbopkpiaaC9
import Derived.Test.YtmljmabbopkpiaaC11
import Derived.Test.YtmljmabbopkpiaaC12
import Derived.Test.YtmljmabbopkpiaaC16
import Derived.Test.YtmljmabbopkpiaaC21
import Derived.Test.YtmljmabbopkpiaaC22
set_option linter.unusedSimpArgs false
set_option linter.unusedVariables false
set_option maxRecDepth 100000
set_option maxHeartbeats 4000000
section
namespace Go.Proofs.Ytmljmabbopkpiaa.Vm
open Go.RowKit
attribute [local push_cast] eqB eqBL allB
theorem apV1 (a b:Int)(ha:R64 a)(hb:R64 b):ye_ 1 a b=(oi a+oi b).toInt:=by
 rw[ye_,if_pos (by simp[z9_]),←ap1]
 rfl
theorem apV2 (a b:Int)(ha:R64 a)(hb:R64 b):ye_ 2 a b=(oi a - oi b).toInt:=by
 rw[ye_,if_pos (by simp[z9_]),←ap2]
 rfl
theorem apV3 (a b:Int)(ha:R64 a)(hb:R64 b):ye_ 3 a b=(oi a*oi b).toInt:=by
 rw[ye_,if_pos (by simp[z9_]),←ap3]
 rfl
theorem apV4 (a b:Int)(ha:R64 a)(hb:R64 b)(h0:¬b=0):ye_ 4 a b=(if ((decide (a < 0)) !=(decide (b < 0)))=true then -(amV a / amV b)else amV a / amV b).toInt:=by
 rw[ye_,if_pos (by simp[z9_,h0]),←ap4 ha hb]
 rfl
theorem apV5 (a b:Int)(ha:R64 a)(hb:R64 b)(h0:¬b=0):ye_ 5 a b=(if decide (a < 0)=true then -(amV a % amV b)else amV a % amV b).toInt:=by
 rw[ye_,if_pos (by simp[z9_,h0]),←ap5 ha hb h0]
 rfl
theorem apV6 (a b:Int)(ha:R64 a)(hb:R64 b)(h0:¬b=0):ye_ 6 a b=(if a < 0∧(amV a % amV b).toInt≠0 then amV b - amV a % amV b else amV a % amV b).toInt:=by
 have e:ye_ 6 a b=modI a b:=by rw[ye_,if_pos (by simp[z9_,h0])];simp[z3_]
 rw[e]
 split
 ·rename_i h;exact ap6b ha hb h0 h.1 h.2
 ·rename_i h;exact ap6a ha hb h0 h
theorem apV7 (a b:Int)(ha:R64 a)(hb:R64 b):ye_ 7 a b=(bwV 7 (oi a) (oi b)).toInt:=by
 rw[ye_,if_pos (by simp[z9_]),show bwV 7 (oi a) (oi b)=oi a &&& oi b by simp[bwV],←ap7]
 rfl
theorem apV8 (a b:Int)(ha:R64 a)(hb:R64 b):ye_ 8 a b=(bwV 8 (oi a) (oi b)).toInt:=by
 rw[ye_,if_pos (by simp[z9_]),show bwV 8 (oi a) (oi b)=oi a ||| oi b by simp[bwV],←ap8]
 rfl
theorem apV9 (a b:Int)(ha:R64 a)(hb:R64 b):ye_ 9 a b=(bwV 9 (oi a) (oi b)).toInt:=by
 rw[ye_,if_pos (by simp[z9_]),show bwV 9 (oi a) (oi b)=oi a ^^^ oi b by simp[bwV],←ap9]
 rfl
theorem apV10 (a b:Int)(ha:R64 a)(hb:R64 b):ye_ 10 a b=(oi a <<< (nY (oi b)).toNat).toInt:=by
 rw[ye_,if_pos (by simp[z9_]),←ap10 a (show (nY (oi b)).toNat≤63 by have:=nY_bd (oi b);omega),←nY_sh]
 rfl
theorem apV11 (a b:Int)(ha:R64 a)(hb:R64 b):ye_ 11 a b=(dnV (oi a) (nY (oi b)).toNat false).toInt:=by
 rw[ye_,if_pos (by simp[z9_]),←ap11,←nY_sh]
 rfl
theorem apV12 (a b:Int)(ha:R64 a)(hb:R64 b):ye_ 12 a b=(dnV (oi a) (nY (oi b)).toNat ((oi a).getLsbD 63)).toInt:=by
 rw[ye_,if_pos (by simp[z9_]),←ap12 ha,←nY_sh]
 rfl
theorem apV13 (a b:Int)(ha:R64 a)(hb:R64 b):ye_ 13 a b=bI (decide (a < b)):=by
 rw[ye_,if_pos (by simp[z9_]),←truth_bI]
 rfl
theorem apV14 (a b:Int)(ha:R64 a)(hb:R64 b):ye_ 14 a b=bI (decide ((oi a).toNat < (oi b).toNat)):=by
 rw[ye_,if_pos (by simp[z9_]),←truth_bI,←ap14]
 rfl
theorem apV15 (a b:Int)(ha:R64 a)(hb:R64 b):ye_ 15 a b=bI (decide (a=b)):=by
 rw[ye_,if_pos (by simp[z9_]),←truth_bI]
 show truthI (a == b)=_
 by_cases h:a=b
 ·subst h;simp
 ·rw[decide_eq_false h,beq_eq_false_iff_ne.mpr h]
theorem apV16 (a b:Int)(ha:R64 a)(hb:R64 b):ye_ 16 a b=(if a < b then a else b):=by
 rw[ye_,if_pos (by simp[z9_])]
 show (if b < a then b else a)=_
 split<;>split<;>omega
theorem apV17 (a b:Int)(ha:R64 a)(hb:R64 b):ye_ 17 a b=(if a < b then b else a):=by
 rw[ye_,if_pos (by simp[z9_])]
 show (if a < b then b else a)=_
 rfl
theorem apw1 (op a b:Int)(h:op < 1):zz_ Try.prog 131 [.int .u8 op,.int .i64 a,.int .i64 b] [.gone] (.tup [.int .i64 0,.int .i64 130]) [.gone]:=by
 refine zf_ (fn:=Try.f131) 1 196 0 rfl rfl rfl rfl rfl u5_ rfl fun w0 M E hro=>?_
 repeat' (first|refine Ctl.h ?_ |((with_reducible intro hif);first |(focus (cases hif;done)) |((try simp only[JH]at hif);try exact hy_)) |((with_reducible first|apply J22 zk_ za_|apply J23 fol zk_ za_|apply J24);(·rfl);(· (simp only[push_cast,↓JP,Nat.reduceAdd,Nat.reduceEqDiff,Nat.reduceLT,Nat.reduceMul,Nat.reduceLeDiff,reduceCtorEq,reduceIte,yz_,yy_,iOf,inR,inN,h];rfl));(try kernel_rfl);try exact k30_)|fail)
 apply At.endsRet za_ (fn:=Try.f131) (rs:=[.tmp 6,.tmp 7]) Anc.refl hro (lb_ rfl) rfl
 ·exact k28_
 ·exact k4_
 ·exact k5_
 ·rfl
 ·exact yh_
 ·exact k7_
 ·exact fun β=>rfl
 ·exact yh_
theorem apw2 (op a b:Int)(h:¬op < 1)(h2:17 < op):zz_ Try.prog 131 [.int .u8 op,.int .i64 a,.int .i64 b] [.gone] (.tup [.int .i64 0,.int .i64 130]) [.gone]:=by
 refine zf_ (fn:=Try.f131) 1 196 0 rfl rfl rfl rfl rfl u5_ rfl fun w0 M E hro=>?_
 repeat' (first|refine Ctl.h ?_ |((with_reducible intro hif);first |(focus (cases hif;done)) |((try simp only[JH]at hif);try exact hy_)) |((with_reducible first|apply J22 zk_ za_|apply J23 fol zk_ za_|apply J24);(·rfl);(· (simp only[push_cast,↓JP,Nat.reduceAdd,Nat.reduceEqDiff,Nat.reduceLT,Nat.reduceMul,Nat.reduceLeDiff,reduceCtorEq,reduceIte,yz_,yy_,iOf,inR,inN,h,h2];rfl));(try kernel_rfl);try exact k30_)|fail)
 apply At.endsRet za_ (fn:=Try.f131) (rs:=[.tmp 6,.tmp 7]) Anc.refl hro (lb_ rfl) rfl
 ·exact k28_
 ·exact k4_
 ·exact k5_
 ·rfl
 ·exact yh_
 ·exact k7_
 ·exact fun β=>rfl
 ·exact yh_
theorem apw3 (op a b:Int)(h:¬op < 1)(h2:¬17 < op)(h3:4≤op)(h4:op≤6)(h5:b=0):zz_ Try.prog 131 [.int .u8 op,.int .i64 a,.int .i64 b] [.gone] (.tup [.int .i64 0,.int .i64 131]) [.gone]:=by
 refine zf_ (fn:=Try.f131) 1 196 0 rfl rfl rfl rfl rfl u5_ rfl fun w0 M E hro=>?_
 repeat' (first|refine Ctl.h ?_ |((with_reducible intro hif);first |(focus (cases hif;done)) |((try simp only[JH]at hif);try exact hy_)) |((with_reducible first|apply J22 zk_ za_|apply J23 fol zk_ za_|apply J24);(·rfl);(· (simp only[push_cast,↓JP,Nat.reduceAdd,Nat.reduceEqDiff,Nat.reduceLT,Nat.reduceMul,Nat.reduceLeDiff,reduceCtorEq,reduceIte,yz_,yy_,iOf,inR,inN,h,h2,h3,h4,(eq_true h5)];rfl));(try kernel_rfl);try exact k30_)|fail)
 apply At.endsRet za_ (fn:=Try.f131) (rs:=[.tmp 6,.tmp 7]) Anc.refl hro (lb_ rfl) rfl
 ·exact k28_
 ·exact k4_
 ·exact k5_
 ·rfl
 ·exact yh_
 ·exact k7_
 ·exact fun β=>rfl
 ·exact yh_
theorem apply_lit (op a b:Int)(ha0:-9223372036854775808≤a)(ha1:a≤9223372036854775807)(hb0:-9223372036854775808≤b)(hb1:b≤9223372036854775807):zz_ Try.prog 131 [.int .u8 op,.int .i64 a,.int .i64 b] [.gone] (.tup [.int .i64 (ye_ op a b),.int .i64 (z9_ op b)]) [.gone]:=by
 have ha:R64 a:=⟨ha0,ha1⟩
 have hb:R64 b:=⟨hb0,hb1⟩
 by_cases h1:op < 1
 ·have e:z9_ op b=130:=by rw[z9_,if_pos (.inl h1)]
  rw[ye_,e,if_neg (by decide)]
  exact apw1 op a b h1
 by_cases h2:17 < op
 ·have e:z9_ op b=130:=by rw[z9_,if_pos (.inr h2)]
  rw[ye_,e,if_neg (by decide)]
  exact apw2 op a b h1 h2
 by_cases h3:4≤op∧op≤6∧b=0
 ·have e:z9_ op b=131:=by rw[z9_,if_neg (by omega),if_pos ⟨h3.2.2,h3.1,h3.2.1⟩]
  rw[ye_,e,if_neg (by decide)]
  exact apw3 op a b h1 h2 h3.1 h3.2.1 h3.2.2
 have e0:z9_ op b=0:=by rw[z9_,if_neg (by omega),if_neg (by omega)]
 rw[e0]
 have hop:op=1∨op=2∨op=3∨op=4∨op=5∨op=6∨op=7∨op=8∨op=9∨op=10∨op=11∨op=12∨op=13∨op=14∨op=15∨op=16∨op=17:=by omega
 have hY:=nY_bd (oi b)
 rcases hop with h|h|h|h|h|h|h|h|h|h|h|h|h|h|h|h|h<;>subst h
 ·rw[apV1 a b ha hb]
  exact apk1 a b _ _ _ _ _ _ _ _ _ _ _ _ _ ha0 ha1 hb0 hb1 rfl rfl rfl rfl rfl rfl (ze_ (by decide)) (ze_ (by decide)) (ze_ (by decide)) (ze_ (by decide)) (ze_ (by decide)) (ze_ (by decide)) (z2_ _) (z2_ _) (z2_ _) (z2_ _) (z2_ _) (z2_ _) rfl hY.1 hY.2 trivial
 ·rw[apV2 a b ha hb]
  exact apk2 a b _ _ _ _ _ _ _ _ _ _ _ _ _ ha0 ha1 hb0 hb1 rfl rfl rfl rfl rfl rfl (ze_ (by decide)) (ze_ (by decide)) (ze_ (by decide)) (ze_ (by decide)) (ze_ (by decide)) (ze_ (by decide)) (z2_ _) (z2_ _) (z2_ _) (z2_ _) (z2_ _) (z2_ _) rfl hY.1 hY.2 trivial
 ·rw[apV3 a b ha hb]
  exact apk3 a b _ _ _ _ _ _ _ _ _ _ _ _ _ ha0 ha1 hb0 hb1 rfl rfl rfl rfl rfl rfl (ze_ (by decide)) (ze_ (by decide)) (ze_ (by decide)) (ze_ (by decide)) (ze_ (by decide)) (ze_ (by decide)) (z2_ _) (z2_ _) (z2_ _) (z2_ _) (z2_ _) (z2_ _) rfl hY.1 hY.2 trivial
 ·rw[apV4 a b ha hb (by omega)]
  exact apk4 a b _ _ _ _ _ _ _ _ _ _ _ _ _ ha0 ha1 hb0 hb1 rfl rfl rfl rfl rfl rfl (ze_ (by decide)) (ze_ (by decide)) (ze_ (by decide)) (ze_ (by decide)) (ze_ (by decide)) (ze_ (by decide)) (z2_ _) (z2_ _) (z2_ _) (z2_ _) (z2_ _) (z2_ _) rfl hY.1 hY.2 (by rw[amV_nat hb];omega) (by omega)
 ·rw[apV5 a b ha hb (by omega)]
  exact apk5 a b _ _ _ _ _ _ _ _ _ _ _ _ _ ha0 ha1 hb0 hb1 rfl rfl rfl rfl rfl rfl (ze_ (by decide)) (ze_ (by decide)) (ze_ (by decide)) (ze_ (by decide)) (ze_ (by decide)) (ze_ (by decide)) (z2_ _) (z2_ _) (z2_ _) (z2_ _) (z2_ _) (z2_ _) rfl hY.1 hY.2 (by rw[amV_nat hb];omega) (by omega)
 ·rw[apV6 a b ha hb (by omega)]
  exact apk6 a b _ _ _ _ _ _ _ _ _ _ _ _ _ ha0 ha1 hb0 hb1 rfl rfl rfl rfl rfl rfl (ze_ (by decide)) (ze_ (by decide)) (ze_ (by decide)) (ze_ (by decide)) (ze_ (by decide)) (ze_ (by decide)) (z2_ _) (z2_ _) (z2_ _) (z2_ _) (z2_ _) (z2_ _) rfl hY.1 hY.2 (by rw[amV_nat hb];omega) (by omega)
 ·rw[apV7 a b ha hb]
  exact apk7 a b _ _ _ _ _ _ _ _ _ _ _ _ _ ha0 ha1 hb0 hb1 rfl rfl rfl rfl rfl rfl (ze_ (by decide)) (ze_ (by decide)) (ze_ (by decide)) (ze_ (by decide)) (ze_ (by decide)) (ze_ (by decide)) (z2_ _) (z2_ _) (z2_ _) (z2_ _) (z2_ _) (z2_ _) rfl hY.1 hY.2 trivial
 ·rw[apV8 a b ha hb]
  exact apk8 a b _ _ _ _ _ _ _ _ _ _ _ _ _ ha0 ha1 hb0 hb1 rfl rfl rfl rfl rfl rfl (ze_ (by decide)) (ze_ (by decide)) (ze_ (by decide)) (ze_ (by decide)) (ze_ (by decide)) (ze_ (by decide)) (z2_ _) (z2_ _) (z2_ _) (z2_ _) (z2_ _) (z2_ _) rfl hY.1 hY.2 trivial
 ·rw[apV9 a b ha hb]
  exact apk9 a b _ _ _ _ _ _ _ _ _ _ _ _ _ ha0 ha1 hb0 hb1 rfl rfl rfl rfl rfl rfl (ze_ (by decide)) (ze_ (by decide)) (ze_ (by decide)) (ze_ (by decide)) (ze_ (by decide)) (ze_ (by decide)) (z2_ _) (z2_ _) (z2_ _) (z2_ _) (z2_ _) (z2_ _) rfl hY.1 hY.2 trivial
 ·rw[apV10 a b ha hb]
  exact apk10 a b _ _ _ _ _ _ _ _ _ _ _ _ _ ha0 ha1 hb0 hb1 rfl rfl rfl rfl rfl rfl (ze_ (by decide)) (ze_ (by decide)) (ze_ (by decide)) (ze_ (by decide)) (ze_ (by decide)) (ze_ (by decide)) (z2_ _) (z2_ _) (z2_ _) (z2_ _) (z2_ _) (z2_ _) rfl hY.1 hY.2 trivial
 ·rw[apV11 a b ha hb]
  exact apk11 a b _ _ _ _ _ _ _ _ _ _ _ _ _ ha0 ha1 hb0 hb1 rfl rfl rfl rfl rfl rfl (ze_ (by decide)) (ze_ (by decide)) (ze_ (by decide)) (ze_ (by decide)) (ze_ (by decide)) (ze_ (by decide)) (z2_ _) (z2_ _) (z2_ _) (z2_ _) (z2_ _) (z2_ _) rfl hY.1 hY.2 trivial
 ·rw[apV12 a b ha hb]
  exact apk12 a b _ _ _ _ _ _ _ _ _ _ _ _ _ ha0 ha1 hb0 hb1 rfl rfl rfl rfl rfl rfl (ze_ (by decide)) (ze_ (by decide)) (ze_ (by decide)) (ze_ (by decide)) (ze_ (by decide)) (ze_ (by decide)) (z2_ _) (z2_ _) (z2_ _) (z2_ _) (z2_ _) (z2_ _) rfl hY.1 hY.2 trivial
 ·rw[apV13 a b ha hb]
  exact apk13 a b _ _ _ _ _ _ _ _ _ _ _ _ _ ha0 ha1 hb0 hb1 rfl rfl rfl rfl rfl rfl (ze_ (by decide)) (ze_ (by decide)) (ze_ (by decide)) (ze_ (by decide)) (ze_ (by decide)) (ze_ (by decide)) (z2_ _) (z2_ _) (z2_ _) (z2_ _) (z2_ _) (z2_ _) rfl hY.1 hY.2 trivial
 ·rw[apV14 a b ha hb]
  exact apk14 a b _ _ _ _ _ _ _ _ _ _ _ _ _ ha0 ha1 hb0 hb1 rfl rfl rfl rfl rfl rfl (ze_ (by decide)) (ze_ (by decide)) (ze_ (by decide)) (ze_ (by decide)) (ze_ (by decide)) (ze_ (by decide)) (z2_ _) (z2_ _) (z2_ _) (z2_ _) (z2_ _) (z2_ _) rfl hY.1 hY.2 trivial
 ·rw[apV15 a b ha hb]
  exact apk15 a b _ _ _ _ _ _ _ _ _ _ _ _ _ ha0 ha1 hb0 hb1 rfl rfl rfl rfl rfl rfl (ze_ (by decide)) (ze_ (by decide)) (ze_ (by decide)) (ze_ (by decide)) (ze_ (by decide)) (ze_ (by decide)) (z2_ _) (z2_ _) (z2_ _) (z2_ _) (z2_ _) (z2_ _) rfl hY.1 hY.2 trivial
 ·rw[apV16 a b ha hb]
  exact apk16 a b _ _ _ _ _ _ _ _ _ _ _ _ _ ha0 ha1 hb0 hb1 rfl rfl rfl rfl rfl rfl (ze_ (by decide)) (ze_ (by decide)) (ze_ (by decide)) (ze_ (by decide)) (ze_ (by decide)) (ze_ (by decide)) (z2_ _) (z2_ _) (z2_ _) (z2_ _) (z2_ _) (z2_ _) rfl hY.1 hY.2 trivial
 ·rw[apV17 a b ha hb]
  exact apk17 a b _ _ _ _ _ _ _ _ _ _ _ _ _ ha0 ha1 hb0 hb1 rfl rfl rfl rfl rfl rfl (ze_ (by decide)) (ze_ (by decide)) (ze_ (by decide)) (ze_ (by decide)) (ze_ (by decide)) (ze_ (by decide)) (z2_ _) (z2_ _) (z2_ _) (z2_ _) (z2_ _) (z2_ _) rfl hY.1 hY.2 trivial
def sRAp:y4_:=fun args h m=>match args with
 | [v1,v2,v3]=>bif isI .u8 v1 && isI .i64 v2 && isI .i64 v3 then some ((-9223372036854775808≤(iOf v2))∧((iOf v2)≤9223372036854775807)∧(-9223372036854775808≤(iOf v3))∧((iOf v3)≤9223372036854775807),.tup [.int .i64 (ye_ (iOf v1) (iOf v2) (iOf v3)),.int .i64 (z9_ (iOf v1) (iOf v3))],[],[])else none
 | _=>none
theorem sRAp_ok:zm_ Try.prog 131 sRAp:=by
 refine⟨zg_ (by kernel_rfl),fun args h m c v rd wr hs hm hc w0 M β h' w R hrd hwr hst=>?_⟩
 unfold sRAp at hs
 split at hs
 ·rename_i v1 v2 v3
  obtain⟨hb,hs⟩:=zn_ hs
  simp only[Option.some.injEq,Prod.mk.injEq]at hs
  obtain⟨rfl,rfl,rfl,rfl⟩:=hs
  simp only[Bool.and_eq_true]at hb
  obtain⟨⟨b1,b2⟩,b3⟩:=hb
  obtain⟨y1,y2,y3,y4⟩:=hc
  refine yb_ (views:=[]) (apply_lit (iOf v1) (iOf v2) (iOf v3) y1 y2 y3 y4) ?_ R hm hwr ?_ ?_ ?_
  ·intro x hx;cases hx
  ·exact d19_
  ·exact yh_
  ·exact yh_
 ·cases hs
end Go.Proofs.Ytmljmabbopkpiaa.Vm
end
section
namespace Go.Proofs.Ytmljmabbopkpiaa.Vm
open Go.RowKit
attribute [local push_cast] eqB eqBL allB prS sndsS zw_ nav_ins xs_ xr_ xq_ xp_ xo_ nav_snd xn_ xm_ xl_ yo_ yi_ yv_ yq_ yz_ yy_ iOf nav_k nav_k0 nav_k1 nav_ka nav_kai nav_ft nav_ft0 nav_ft1 isKn_kS knOf_kS isKa_kaS kaOf_kaS isFt_ftS ftOf_ftS setp_ka setp_ftk setp_ftr setp_fti evm_ins evm_snd evm_k evm_ka evm_ft
theorem ftS_ren (ρ : Nat→Nat)(f:Ft):(ftS f).ren ρ = ftS f:=by simp only[ftS,kaS,kS,SV.ren,renL]
theorem hands_lit (n p k:Nat)(f:Ft):zz_ Try.prog 100 [.sl 1 2 [] 5 0 n (some p),.nat .i64 k,ftS f] [.gone,.gone,.gone] (.fn 125 [.ptr 3 [],.ptr 4 [],.ptr 5 []]) [.gone,.gone,.gone,.own 25 (.sl 1 2 [] 5 0 n (some p)) true,.own 3 (.nat .i64 k) true,.own 44 (ftS f) true]:=by
 refine zf_ (fn:=Try.f100) 3 8 0 rfl rfl rfl rfl rfl (by simp only[zh_,zb_,hp];simp[HB.born,ftS,kaS,kS,zb_,zh_]) rfl fun w0 M E hro=>?_
 repeat' (first|refine Ctl.h ?_ |((with_reducible intro hif);first |(focus (cases hif;done)) |((try simp only[JH]at hif);try exact hy_)) |((with_reducible first|apply J22 y3_ za_|apply J23 fol y3_ za_|apply J24);(·rfl);(· exact k13_);(try kernel_rfl);try exact k9_)|fail)
 apply At.endsRet za_ (fn:=Try.f100) (rs:=[.tmp 6]) Anc.refl hro (lb_ rfl) rfl
 ·exact k3_
 ·exact k4_
 ·exact k5_
 ·rfl
 ·exact k6_
 ·exact k7_
 ·exact fun β=>rfl
 ·exact k6_
def sHands:y4_:=fun args h m=>match args with
 | [.sl z i [] 5 0 n (some p),.nat .i64 k,u]=>bif (h z).born && (h i).born && isFt u then some (True,.fn 125 [.ptr m [],.ptr (m+1) [],.ptr (m+2) []],[z,i],[(m,.own 25 (.sl z i [] 5 0 n (some p)) true),(m+1,.own 3 (.nat .i64 k) true),(m+2,.own 44 (ftS (ftOf u)) true)])else none
 | _=>none
theorem sHands_ok:zm_ Try.prog 100 sHands:=by
 refine⟨zg_ (by kernel_rfl),fun args h m c v rd wr hs hm hc w0 M β h' w R hrd hwr hst=>?_⟩
 unfold sHands at hs
 split at hs
 ·rename_i z i n p k u
  obtain⟨hb,hs2⟩:=zn_ hs
  clear hs
  simp only[Bool.and_eq_true]at hb
  obtain⟨⟨hz,hi⟩,hu⟩:=hb
  simp only[Option.some.injEq,Prod.mk.injEq]at hs2
  obtain⟨rfl,rfl,rfl,rfl⟩:=hs2
  have ei:h' i=h i:=hrd i (by simp)
  have ez:h' z=h z:=hrd z (by simp)
  have C:=callG (L1:=[.gone,.gone,.gone,.own 25 (.sl 1 2 [] 5 0 n (some p)) true,.own 3 (.nat .i64 k) true,.own 44 (ftS (ftOf u)) true]) (h:=h) (m:=m) [0,z,i] (hands_lit n p k (ftOf u)) R rfl (by simp) rfl rfl rfl
   ⟨.gone (by rw[R.nil0];rfl),.gone (by rw[ez];exact hz),.gone (by rw[ei];exact hi),trivial⟩ hm (by simpa [newB,rhoL,HB.ren,ftS_ren]using hwr) (by simp)
   (by simp[x2_,HB.stable]) (by simp[zh_,zb_,hp,HB.born,ftS_stable]) (by simp[NewL,HB.stable,zb_,HB.isRo,hG,hp,HB.born,ftS_stable]) (by simp[zb_,zh_,hG,hp,HB.born])
  have e0:denL β (renL (rhoL [0,z,i] m) [SV.sl 1 2 [] 5 0 n (some p),.nat .i64 k,ftS (ftOf u)])=denL β [.sl z i [] 5 0 n (some p),.nat .i64 k,u]:=by
   simp[renL,SV.ren,rhoL,ftS_ren,denL,ftOf_den hu,ftS_den]
  rw[e0]at C
  refine C.mono fun e w' he=>?_
  simpa [newB,rhoL,HB.ren,SV.ren,renL,ftS_ren]using he
 ·cases hs
end Go.Proofs.Ytmljmabbopkpiaa.Vm
end
section
namespace Go.Proofs.Ytmljmabbopkpiaa
theorem yr_ {p:List Ins}(h:(zu_ p).2=0):0 < p.length∧p.length≤256∧goesB (p.getD (p.length - 1) ⟨0,0,0,0,0⟩)=false∧∀k,k < p.length→badAt p.length (p.getD k ⟨0,0,0,0,0⟩)=0:=by
 unfold zu_ at h
 by_cases h0:p.length=0
 ·rw[if_pos h0]at h;cases h
 ·by_cases h1:256 < p.length
  ·rw[if_neg h0,if_pos h1]at h;cases h
  ·rw[if_neg h0,if_neg h1]at h
   refine⟨by omega,by omega,?_⟩
   unfold checkK at h
   cases hf:p.findIdx? (fun i=>badAt p.length i != 0)with
   | some k=>
    rw[hf]at h
    obtain⟨hk,hb,_⟩:=List.findIdx?_eq_some_iff_getElem.1 hf
    exfalso
    have hg:p.getD k ⟨0,0,0,0,0⟩=p[k]:=by simp[List.getD,hk]
    dsimp only at h
    rw[hg]at h
    simp[h]at hb
   | none=>
    rw[hf]at h
    rw[List.findIdx?_eq_none_iff]at hf
    dsimp only at h
    refine⟨?_,fun k hk=>?_⟩
    ·by_cases hg:goesB (p.getD (p.length - 1) ⟨0,0,0,0,0⟩)=true
     ·rw[if_pos hg]at h;cases h
     ·simpa using hg
    ·have := hf (p.getD k ⟨0, 0, 0, 0, 0⟩) (by
      rw[List.getD_eq_getElem?_getD,List.getElem?_eq_getElem hk];exact List.getElem_mem hk)
     simpa using this
structure RightI (n k:Nat) (x:Ins):Prop where
 ok:x.ok
 one:oneE x=0
 a:x.a < 8
 b:x.b < 8
 c:x.c < 8
 targ:xj_ x=true→0≤targV x∧targV x < n
 goes:goesB x=true→k+1 < n
 cls:x.op=1∨x.op=2∨x.op=3∨x.op=4∨x.op=5∨x.op=6∨x.op=7∨x.op=8∨x.op=9∨x.op=10∨x.op=11∨(33≤x.op∧x.op≤49)
theorem one_regs {x:Ins}(h:oneE x=0):x.a < 8∧x.b < 8∧x.c < 8∧(xj_ x=true→0≤x.n)∧(x.op=1∨x.op=2∨x.op=3∨x.op=4∨x.op=5∨x.op=6∨x.op=7∨x.op=8∨x.op=9∨x.op=10∨x.op=11∨(33≤x.op∧x.op≤49)):=by
 have h0:=h
 unfold oneE at h
 have hf:formC x.op≠0:=fun e=>by rw[if_pos e]at h;cases h
 rw[if_neg hf]at h
 have hc:x0_ (formC x.op) x.a x.b x.c x.n:=by
  by_cases q:x0_ (formC x.op) x.a x.b x.c x.n
  ·exact q
  ·rw[y1_ q]at h;cases h
 have ht:xj_ x=true→x.op=9∨x.op=10∨x.op=11:=fun ht=>by
  unfold xj_ at ht
  simp at ht
  exact ht.2
 revert hc hf
 unfold formC
 split
 ·rename_i q;intro hf hc;obtain⟨q1,q2,q3,q4⟩:=hc;exact⟨q1,q2,q3,fun t=>by omega,by omega⟩
 split
 ·exact Vm.k75_
 split
 ·rename_i q;intro hf hc;obtain⟨q1,q2,q3⟩:=hc;exact⟨by omega,by omega,by omega,fun t=>by have:=ht t;omega,by omega⟩
 split
 ·exact Vm.k75_
 split
 ·exact Vm.k76_
 split
 ·exact Vm.k76_
 split
 ·exact Vm.k76_
 ·intro hf;exact absurd rfl hf
theorem right_at {p:List Ins}(hok:∀x∈p,x.ok)(h:(zu_ p).2=0){k:Nat}(hk:k < p.length):RightI p.length k (p.getD k ⟨0,0,0,0,0⟩):=by
 obtain⟨h0,h1,h2,h3⟩:=yr_ h
 have hb:=h3 k hk
 unfold badAt at hb
 have h4:oneE (p.getD k ⟨0,0,0,0,0⟩)=0:=by
  by_cases q:oneE (p.getD k ⟨0,0,0,0,0⟩)=0
  ·exact q
  ·rw[if_pos q]at hb;exact absurd hb q
 rw[if_neg (by omega)]at hb
 obtain⟨ra,rb,rc,rt,rcl⟩:=one_regs h4
 refine⟨hok _ (by rw[List.getD_eq_getElem?_getD,List.getElem?_eq_getElem hk];exact List.getElem_mem hk),h4,ra,rb,rc,fun ht=>?_,fun hg=>?_,rcl⟩
 ·refine⟨by unfold targV;rw[if_pos ht];exact rt ht,?_⟩
  by_cases q:(p.length:Int)≤targV (p.getD k ⟨0,0,0,0,0⟩)
  ·rw[if_pos ⟨ht,q⟩]at hb;cases hb
  ·omega
 ·by_cases q:k+1 < p.length
  ·exact q
  ·have:k=p.length - 1:=by omega
   subst this
   rw[h2]at hg;cases hg
theorem goesB_of {x:Ins}(h:oneE x=0):goesB x=(x.op != 1 && (x.op != 2 && x.op != 9)):=by unfold goesB;rw[h];rfl
theorem targB_of {x:Ins}(h:oneE x=0):xj_ x=(x.op == 9 ||(x.op == 10 || x.op == 11)):=by unfold xj_;rw[h];rfl
structure Emits (n k:Nat) (x:Ins) (f:Ft) (z:Bool×Bool×Ft):Prop where
 hands:xf_ x k f=emitL x k z.1 z.2.1 z.2.2
 goes:z.1=true→k+1 < n
 targ:z.2.1=true→0≤targV x∧targV x < n
 reached:z.2.2.reached=f.reached
end Go.Proofs.Ytmljmabbopkpiaa
end
section
namespace Go.Proofs.Ytmljmabbopkpiaa.Vm
open Go.RowKit
section
variable {P:Program} {w0 w1 w2:World} {M M1 M2:Nat→Prop} {E:Env} {n0 N n:Nat} {D D1 D2:List Deferred} {φ : Fr} {L:List HB} {Q:Exit→Act→World→Prop} {ro:Option Nat}
theorem WF.loopB {α : Type}(p:α→Prop)(φi:α→Fr)(Li:α→List HB)(μ : α→Nat){c:Code}(x0:α)(h0:p x0)
  (hφ : SubF φ (φi x0)) (hL:LessL L (Li x0)) (hz:hp (Li x0) 0=.gone) (hs:x2_ (hp (Li x0)) (Li x0)) (hf:xe_ (hp (Li x0)) (φi x0)) (hb:bornTo n0 (Li x0)=true)
  (step:∀w1 M1 D1 x,Anc w0 M D w1 M1 D1→p x→WF ro n P c w1 M1 E n0 N D1 (φi x) (Li x) (Exit.then (fun a w=>∃w2 M2 D2 y,Anc w1 M1 D1 w2 M2 D2∧p y∧μ y < μ x∧St w2 M2 E n0 N D2 (φi y) (Li y) a w) Q)):WF ro n P (.loop c) w0 M E n0 N D φ L Q:=
 WF.sub hφ hL hz hs hf hb (WF.loop p φi Li μ x0 h0 step)
theorem At.nextB {α : Type}{p:α→Prop}{φi:α→Fr}{Li:α→List HB}{μ : α→Nat}{m:Nat}(A:Anc w1 M1 D1 w2 M2 D2)(l:List Nat)(y:α)(hy:p y∧μ y < m)(h00:l.getD 0 0=0)(hz:hp (Li y) 0=.gone)(hid:idTo n0 l=true)(hpk:PickL (sg l) (hp L) (Li y) l)(hinj:injL (Li y) l []=true)(hs:x2_ (hp (Li y)) (Li y))(hφ : PickF (sg l) φ (φi y))(hf:xe_ (hp (Li y)) (φi y))(hb:bornTo n0 (Li y)=true) :
  At w2 M2 E n0 N D2 φ L (fun a w=>∃w2 M2 D2 y,Anc w1 M1 D1 w2 M2 D2∧p y∧μ y < m∧St w2 M2 E n0 N D2 (φi y) (Li y) a w):=
 fun a w hS=>⟨w2,M2,D2,y,A,hy.1,hy.2,hS.pick l h00 hz hid hpk hinj hs hφ hf hb⟩
end
end Go.Proofs.Ytmljmabbopkpiaa.Vm
end
