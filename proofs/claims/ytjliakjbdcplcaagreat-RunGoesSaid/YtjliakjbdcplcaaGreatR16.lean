import Derived.Test.YtjliakjbdcplcaaGreatR1
import Derived.Test.YtjliakjbdcplcaaGreatR15
set_option linter.unusedSimpArgs false
set_option linter.unusedVariables false
set_option maxRecDepth 100000
set_option maxHeartbeats 4000000
section
namespace Go.Proofs.YtjliakjbdcplcaaGreat.Vm
open Go.RowKit
attribute [local push_cast] cApp sRBits sRSum sRNot sRWord sRUp sRDown sRBitw sRTruth sRLess sRProd sRAmt sRNeg sRDiv bO zq_ zr_ iOf xi_ xb_ ls_i64B ls_i64U ls_zB vb_bl sumV_f sumV_sub ed ed0 i64S nat_one_i inR inN
theorem apk5 (a b : Int) (X Y P Q Rm D : BitVec 64) (n y0 y1 y2 y3 y4 y5 : Int) (ha0 : -9223372036854775808 ≤ a) (ha1 : a ≤ 9223372036854775807) (hb0 : -9223372036854775808 ≤ b) (hb1 : b ≤ 9223372036854775807)
 (hX : BitVec.ofInt 64 a = X) (hY : BitVec.ofInt 64 b = Y) (hP : amV a = P) (hQ : amV b = Q) (hQm : P % Q = Rm) (hQd : P / Q = D)
 (hy0 : (bl Y).getD 0 0 = y0) (hy1 : (bl Y).getD 1 0 = y1) (hy2 : (bl Y).getD 2 0 = y2) (hy3 : (bl Y).getD 3 0 = y3) (hy4 : (bl Y).getD 4 0 = y4) (hy5 : (bl Y).getD 5 0 = y5)
 (hz0 : 0 ≤ y0 ∧ y0 ≤ 1) (hz1 : 0 ≤ y1 ∧ y1 ≤ 1) (hz2 : 0 ≤ y2 ∧ y2 ≤ 1) (hz3 : 0 ≤ y3 ∧ y3 ≤ 1) (hz4 : 0 ≤ y4 ∧ y4 ≤ 1) (hz5 : 0 ≤ y5 ∧ y5 ≤ 1) (hn : y0 + 2 * y1 + 4 * y2 + 8 * y3 + 16 * y4 + 32 * y5 = n) (hn0 : 0 ≤ n) (hn1 : n ≤ 63) (hq : 0 < Q.toNat) (h0 : ¬ b = 0) : zp_ Tryz.prog 121 [.int .u8 5, .int .i64 a, .int .i64 b] [.gone] (.tup [.int .i64 ((if decide (a < 0) = true then -Rm else Rm).toInt), .int .i64 0]) [.gone] := by
 have l1 := ya_ X
 have l2 := ya_ Y
 by_cases h1 : a < 0
 ·rw [show (if decide (a < 0) = true then -Rm else Rm) = -Rm by simp [h1]]
  refine ze_ (fn := Tryz.f121) 1 196 0 rfl rfl rfl rfl rfl u2_ rfl fun w0 M E hro => ?_
  repeat' (first | refine Ctl.h ?_ | ((with_reducible intro hif); first | (focus (cases hif; done)) | ((try simp only [JH] at hif); try (exfalso; omega))) | ((with_reducible first | apply J22 zk_ za_ | apply J23 fol zk_ za_ | apply J24); (·rfl); (· exact k45_); (try kernel_rfl); try exact k41_) | fail)
  apply At.endsRet za_ (fn := Tryz.f121) (rs := [.tmp 6, .tmp 7]) Anc.refl hro (lb_ rfl) rfl
  ·exact k11_
  ·exact ys_
  ·exact k6_
  ·rfl
  ·exact k7_
  ·exact zx_
  ·exact fun β => rfl
  ·exact k7_
 ·rw [show (if decide (a < 0) = true then -Rm else Rm) = Rm by simp [h1]]
  refine ze_ (fn := Tryz.f121) 1 196 0 rfl rfl rfl rfl rfl u2_ rfl fun w0 M E hro => ?_
  repeat' (first | refine Ctl.h ?_ | ((with_reducible intro hif); first | (focus (cases hif; done)) | ((try simp only [JH] at hif); try (exfalso; omega))) | ((with_reducible first | apply J22 zk_ za_ | apply J23 fol zk_ za_ | apply J24); (·rfl); (· exact k45_); (try kernel_rfl); try exact k41_) | fail)
  apply At.endsRet za_ (fn := Tryz.f121) (rs := [.tmp 6, .tmp 7]) Anc.refl hro (lb_ rfl) rfl
  ·exact k11_
  ·exact ys_
  ·exact k6_
  ·rfl
  ·exact k7_
  ·exact zx_
  ·exact fun β => rfl
  ·exact k7_
theorem apk6 (a b : Int) (X Y P Q Rm D : BitVec 64) (n y0 y1 y2 y3 y4 y5 : Int) (ha0 : -9223372036854775808 ≤ a) (ha1 : a ≤ 9223372036854775807) (hb0 : -9223372036854775808 ≤ b) (hb1 : b ≤ 9223372036854775807)
 (hX : BitVec.ofInt 64 a = X) (hY : BitVec.ofInt 64 b = Y) (hP : amV a = P) (hQ : amV b = Q) (hQm : P % Q = Rm) (hQd : P / Q = D)
 (hy0 : (bl Y).getD 0 0 = y0) (hy1 : (bl Y).getD 1 0 = y1) (hy2 : (bl Y).getD 2 0 = y2) (hy3 : (bl Y).getD 3 0 = y3) (hy4 : (bl Y).getD 4 0 = y4) (hy5 : (bl Y).getD 5 0 = y5)
 (hz0 : 0 ≤ y0 ∧ y0 ≤ 1) (hz1 : 0 ≤ y1 ∧ y1 ≤ 1) (hz2 : 0 ≤ y2 ∧ y2 ≤ 1) (hz3 : 0 ≤ y3 ∧ y3 ≤ 1) (hz4 : 0 ≤ y4 ∧ y4 ≤ 1) (hz5 : 0 ≤ y5 ∧ y5 ≤ 1) (hn : y0 + 2 * y1 + 4 * y2 + 8 * y3 + 16 * y4 + 32 * y5 = n) (hn0 : 0 ≤ n) (hn1 : n ≤ 63) (hq : 0 < Q.toNat) (h0 : ¬ b = 0) : zp_ Tryz.prog 121 [.int .u8 6, .int .i64 a, .int .i64 b] [.gone] (.tup [.int .i64 ((if a < 0 ∧ Rm.toInt ≠ 0 then Q - Rm else Rm).toInt), .int .i64 0]) [.gone] := by
 have l1 := ya_ X
 have l2 := ya_ Y
 by_cases h1 : a < 0
 ·by_cases h2 : Rm.toInt = 0
  ·rw [if_neg (by simp [h2])]
   refine ze_ (fn := Tryz.f121) 1 196 0 rfl rfl rfl rfl rfl u2_ rfl fun w0 M E hro => ?_
   repeat' (first | refine Ctl.h ?_ | ((with_reducible intro hif); first | (focus (cases hif; done)) | ((try simp only [JH] at hif); try (exfalso; omega))) | ((with_reducible first | apply J22 zk_ za_ | apply J23 fol zk_ za_ | apply J24); (·rfl); (· (simp only [push_cast, ↓JP, Nat.reduceAdd, Nat.reduceEqDiff, Nat.reduceLT, Nat.reduceMul, Nat.reduceLeDiff, reduceCtorEq, reduceIte, hX, hY, hP, hQ, hQm, hQd, hy0, hy1, hy2, hy3, hy4, hy5, hn, Int.cast_ofNat_Int, h0, h1, (eq_true h2)]; rfl)); (try kernel_rfl); try exact k41_) | fail)
   apply At.endsRet za_ (fn := Tryz.f121) (rs := [.tmp 6, .tmp 7]) Anc.refl hro (lb_ rfl) rfl
   ·exact k11_
   ·exact ys_
   ·exact k6_
   ·rfl
   ·exact k7_
   ·exact zx_
   ·exact fun β => rfl
   ·exact k7_
  ·rw [if_pos ⟨h1, h2⟩]
   refine ze_ (fn := Tryz.f121) 1 196 0 rfl rfl rfl rfl rfl u2_ rfl fun w0 M E hro => ?_
   repeat' (first | refine Ctl.h ?_ | ((with_reducible intro hif); first | (focus (cases hif; done)) | ((try simp only [JH] at hif); try (exfalso; omega))) | ((with_reducible first | apply J22 zk_ za_ | apply J23 fol zk_ za_ | apply J24); (·rfl); (· (simp only [push_cast, ↓JP, Nat.reduceAdd, Nat.reduceEqDiff, Nat.reduceLT, Nat.reduceMul, Nat.reduceLeDiff, reduceCtorEq, reduceIte, hX, hY, hP, hQ, hQm, hQd, hy0, hy1, hy2, hy3, hy4, hy5, hn, Int.cast_ofNat_Int, h0, h1, h2]; rfl)); (try kernel_rfl); try exact k41_) | fail)
   apply At.endsRet za_ (fn := Tryz.f121) (rs := [.tmp 6, .tmp 7]) Anc.refl hro (lb_ rfl) rfl
   ·exact k11_
   ·exact ys_
   ·exact k6_
   ·rfl
   ·exact k7_
   ·exact zx_
   ·exact fun β => rfl
   ·exact k7_
 ·rw [if_neg (by simp [h1])]
  refine ze_ (fn := Tryz.f121) 1 196 0 rfl rfl rfl rfl rfl u2_ rfl fun w0 M E hro => ?_
  repeat' (first | refine Ctl.h ?_ | ((with_reducible intro hif); first | (focus (cases hif; done)) | ((try simp only [JH] at hif); try (exfalso; omega))) | ((with_reducible first | apply J22 zk_ za_ | apply J23 fol zk_ za_ | apply J24); (·rfl); (· exact k45_); (try kernel_rfl); try exact k41_) | fail)
  apply At.endsRet za_ (fn := Tryz.f121) (rs := [.tmp 6, .tmp 7]) Anc.refl hro (lb_ rfl) rfl
  ·exact k11_
  ·exact ys_
  ·exact k6_
  ·rfl
  ·exact k7_
  ·exact zx_
  ·exact fun β => rfl
  ·exact k7_
theorem apk7 (a b : Int) (X Y P Q Rm D : BitVec 64) (n y0 y1 y2 y3 y4 y5 : Int) (ha0 : -9223372036854775808 ≤ a) (ha1 : a ≤ 9223372036854775807) (hb0 : -9223372036854775808 ≤ b) (hb1 : b ≤ 9223372036854775807)
 (hX : BitVec.ofInt 64 a = X) (hY : BitVec.ofInt 64 b = Y) (hP : amV a = P) (hQ : amV b = Q) (hQm : P % Q = Rm) (hQd : P / Q = D)
 (hy0 : (bl Y).getD 0 0 = y0) (hy1 : (bl Y).getD 1 0 = y1) (hy2 : (bl Y).getD 2 0 = y2) (hy3 : (bl Y).getD 3 0 = y3) (hy4 : (bl Y).getD 4 0 = y4) (hy5 : (bl Y).getD 5 0 = y5)
 (hz0 : 0 ≤ y0 ∧ y0 ≤ 1) (hz1 : 0 ≤ y1 ∧ y1 ≤ 1) (hz2 : 0 ≤ y2 ∧ y2 ≤ 1) (hz3 : 0 ≤ y3 ∧ y3 ≤ 1) (hz4 : 0 ≤ y4 ∧ y4 ≤ 1) (hz5 : 0 ≤ y5 ∧ y5 ≤ 1) (hn : y0 + 2 * y1 + 4 * y2 + 8 * y3 + 16 * y4 + 32 * y5 = n) (hn0 : 0 ≤ n) (hn1 : n ≤ 63) (hq : True) : zp_ Tryz.prog 121 [.int .u8 7, .int .i64 a, .int .i64 b] [.gone] (.tup [.int .i64 ((bwV 7 X Y).toInt), .int .i64 0]) [.gone] :=  d5_
theorem apk8 (a b : Int) (X Y P Q Rm D : BitVec 64) (n y0 y1 y2 y3 y4 y5 : Int) (ha0 : -9223372036854775808 ≤ a) (ha1 : a ≤ 9223372036854775807) (hb0 : -9223372036854775808 ≤ b) (hb1 : b ≤ 9223372036854775807)
 (hX : BitVec.ofInt 64 a = X) (hY : BitVec.ofInt 64 b = Y) (hP : amV a = P) (hQ : amV b = Q) (hQm : P % Q = Rm) (hQd : P / Q = D)
 (hy0 : (bl Y).getD 0 0 = y0) (hy1 : (bl Y).getD 1 0 = y1) (hy2 : (bl Y).getD 2 0 = y2) (hy3 : (bl Y).getD 3 0 = y3) (hy4 : (bl Y).getD 4 0 = y4) (hy5 : (bl Y).getD 5 0 = y5)
 (hz0 : 0 ≤ y0 ∧ y0 ≤ 1) (hz1 : 0 ≤ y1 ∧ y1 ≤ 1) (hz2 : 0 ≤ y2 ∧ y2 ≤ 1) (hz3 : 0 ≤ y3 ∧ y3 ≤ 1) (hz4 : 0 ≤ y4 ∧ y4 ≤ 1) (hz5 : 0 ≤ y5 ∧ y5 ≤ 1) (hn : y0 + 2 * y1 + 4 * y2 + 8 * y3 + 16 * y4 + 32 * y5 = n) (hn0 : 0 ≤ n) (hn1 : n ≤ 63) (hq : True) : zp_ Tryz.prog 121 [.int .u8 8, .int .i64 a, .int .i64 b] [.gone] (.tup [.int .i64 ((bwV 8 X Y).toInt), .int .i64 0]) [.gone] :=  d5_
theorem apk9 (a b : Int) (X Y P Q Rm D : BitVec 64) (n y0 y1 y2 y3 y4 y5 : Int) (ha0 : -9223372036854775808 ≤ a) (ha1 : a ≤ 9223372036854775807) (hb0 : -9223372036854775808 ≤ b) (hb1 : b ≤ 9223372036854775807)
 (hX : BitVec.ofInt 64 a = X) (hY : BitVec.ofInt 64 b = Y) (hP : amV a = P) (hQ : amV b = Q) (hQm : P % Q = Rm) (hQd : P / Q = D)
 (hy0 : (bl Y).getD 0 0 = y0) (hy1 : (bl Y).getD 1 0 = y1) (hy2 : (bl Y).getD 2 0 = y2) (hy3 : (bl Y).getD 3 0 = y3) (hy4 : (bl Y).getD 4 0 = y4) (hy5 : (bl Y).getD 5 0 = y5)
 (hz0 : 0 ≤ y0 ∧ y0 ≤ 1) (hz1 : 0 ≤ y1 ∧ y1 ≤ 1) (hz2 : 0 ≤ y2 ∧ y2 ≤ 1) (hz3 : 0 ≤ y3 ∧ y3 ≤ 1) (hz4 : 0 ≤ y4 ∧ y4 ≤ 1) (hz5 : 0 ≤ y5 ∧ y5 ≤ 1) (hn : y0 + 2 * y1 + 4 * y2 + 8 * y3 + 16 * y4 + 32 * y5 = n) (hn0 : 0 ≤ n) (hn1 : n ≤ 63) (hq : True) : zp_ Tryz.prog 121 [.int .u8 9, .int .i64 a, .int .i64 b] [.gone] (.tup [.int .i64 ((bwV 9 X Y).toInt), .int .i64 0]) [.gone] :=  d5_
end Go.Proofs.YtjliakjbdcplcaaGreat.Vm
end
