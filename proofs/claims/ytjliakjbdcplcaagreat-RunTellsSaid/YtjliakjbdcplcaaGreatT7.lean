import Derived.Test.YtjliakjbdcplcaaGreatT5
import Derived.Test.YtjliakjbdcplcaaGreatT6
set_option linter.unusedSimpArgs false
set_option linter.unusedVariables false
set_option maxRecDepth 100000
set_option maxHeartbeats 4000000
section
namespace Go.Proofs.YtjliakjbdcplcaaGreat.Vm
theorem u4_ {P : Prop} (h : P := by simp only [zd_, Stable, hp, i64S, u64S, HB.stable]; simp [HB.born]) : P := h
theorem k45_ {P : Prop} (h : P := by (repeat' (first | exact trivial | exact rfl | assumption | apply Stable.ite | apply And.intro | intro _ | (simp only [Stable, zd_, i64S]; done)))) : P := h
theorem k46_ {P : Prop} (h : P := by ((repeat' (first | exact trivial | apply And.intro)) <;> (first | rfl | (first | rfl | (rw [hmn]; rfl))))) : P := h
theorem k47_ {P : Prop} (h : P := by (repeat' (first | exact trivial | exact rfl | assumption | apply Stable.ite | apply And.intro | intro _ | (simp only [Stable, zd_, i64S, u64S, HB.stable]; done)))) : P := h
theorem k48_ {P : Prop} (h : P := by (simp only [push_cast, ↓JP, Nat.reduceAdd, Nat.reduceEqDiff, Nat.reduceLT, Nat.reduceMul, Nat.reduceLeDiff, reduceCtorEq, reduceIte, hX, hY, hP, hQ, hQm, hQd, hy0, hy1, hy2, hy3, hy4, hy5, hn, Int.cast_ofNat_Int, h0, h1]; rfl)) : P := h
theorem k49_ {P : Prop} (h : P := by (simp only [push_cast, ↓JP, Nat.reduceAdd, Nat.reduceEqDiff, Nat.reduceLT, Nat.reduceMul, Nat.reduceLeDiff, reduceCtorEq, reduceIte, hX, hY, hP, hQ, hQm, hQd, hy0, hy1, hy2, hy3, hy4, hy5, hn, Int.cast_ofNat_Int, (eq_true h0)]; rfl)) : P := h
theorem k50_ {P : Prop} (h : P := by (simp only [push_cast, ↓JP, Nat.reduceAdd, Nat.reduceEqDiff, Nat.reduceLT, Nat.reduceMul, Nat.reduceLeDiff, reduceCtorEq, reduceIte, hX, hY, hP, hQ, hQm, hQd, hy0, hy1, hy2, hy3, hy4, hy5, hn, Int.cast_ofNat_Int, h0]; rfl)) : P := h
theorem k51_ {P : Prop} (h : P := by (simp only [push_cast, ↓JP, Nat.reduceAdd, Nat.reduceEqDiff, Nat.reduceLT, Nat.reduceMul, Nat.reduceLeDiff, reduceCtorEq, reduceIte, hX, hY, hP, hQ, hQm, hQd, hy0, hy1, hy2, hy3, hy4, hy5, hn, Int.cast_ofNat_Int, (eq_true h0), h6]; rfl)) : P := h
theorem k52_ {P : Prop} (h : P := by (simp only [push_cast, ↓JP, Nat.reduceAdd, Nat.reduceEqDiff, Nat.reduceLT, Nat.reduceMul, Nat.reduceLeDiff, reduceCtorEq, reduceIte, hX, hY, hP, hQ, hQm, hQd, hy0, hy1, hy2, hy3, hy4, hy5, hn, Int.cast_ofNat_Int, h0, h6]; rfl)) : P := h
theorem k53_ {P : Prop} (h : P := by (simp only [push_cast, ↓JP, Nat.reduceAdd, Nat.reduceEqDiff, Nat.reduceLT, Nat.reduceMul, Nat.reduceLeDiff, reduceCtorEq, reduceIte, hX, hY, hP, hQ, hQm, hQd, hy0, hy1, hy2, hy3, hy4, hy5, hn, Int.cast_ofNat_Int, (eq_true h0), h1]; rfl)) : P := h
theorem k54_ {P : Prop} (h : P := by (first | exact True.intro | ((repeat' (first | exact True.intro | apply And.intro | rfl | omega | decide | intro _)); done) | ((try simp only [JS, implies_true, forall_const, z9_, z2_, kndOf, inR, inN]); (repeat' (first | assumption | exact True.intro | omega | apply And.intro)); done))) : P := h
end Go.Proofs.YtjliakjbdcplcaaGreat.Vm
end
section
namespace Go.Proofs.YtjliakjbdcplcaaGreat.Vm
open Go.RowKit
attribute [local push_cast] cApp sRBits sRSum sRNot sRWord sRUp sRDown sRBitw sRTruth sRLess sRProd sRAmt sRNeg sRDiv bO zw_ zy_ iOf y6_ yy_ ls_i64B ls_i64U ls_zB vb_bl sumV_f sumV_sub ed ed0 i64S nat_one_i inR inN
theorem apk5 (a b : Int) (X Y P Q Rm D : BitVec 64) (n y0 y1 y2 y3 y4 y5 : Int) (ha0 : -9223372036854775808 ≤ a) (ha1 : a ≤ 9223372036854775807) (hb0 : -9223372036854775808 ≤ b) (hb1 : b ≤ 9223372036854775807)
 (hX : BitVec.ofInt 64 a = X) (hY : BitVec.ofInt 64 b = Y) (hP : amV a = P) (hQ : amV b = Q) (hQm : P % Q = Rm) (hQd : P / Q = D)
 (hy0 : (bl Y).getD 0 0 = y0) (hy1 : (bl Y).getD 1 0 = y1) (hy2 : (bl Y).getD 2 0 = y2) (hy3 : (bl Y).getD 3 0 = y3) (hy4 : (bl Y).getD 4 0 = y4) (hy5 : (bl Y).getD 5 0 = y5)
 (hz0 : 0 ≤ y0 ∧ y0 ≤ 1) (hz1 : 0 ≤ y1 ∧ y1 ≤ 1) (hz2 : 0 ≤ y2 ∧ y2 ≤ 1) (hz3 : 0 ≤ y3 ∧ y3 ≤ 1) (hz4 : 0 ≤ y4 ∧ y4 ≤ 1) (hz5 : 0 ≤ y5 ∧ y5 ≤ 1) (hn : y0 + 2 * y1 + 4 * y2 + 8 * y3 + 16 * y4 + 32 * y5 = n) (hn0 : 0 ≤ n) (hn1 : n ≤ 63) (hq : 0 < Q.toNat) (h0 : ¬ b = 0) : zo_ Tryz.prog 121 [.int .u8 5, .int .i64 a, .int .i64 b] [.gone] (.tup [.int .i64 ((if decide (a < 0) = true then -Rm else Rm).toInt), .int .i64 0]) [.gone] := by
 have l1 := ya_ X
 have l2 := ya_ Y
 by_cases h1 : a < 0
 ·rw [show (if decide (a < 0) = true then -Rm else Rm) = -Rm by simp [h1]]
  refine ze_ (fn := Tryz.f121) 1 196 0 rfl rfl rfl rfl rfl u2_ rfl fun w0 M E hro => ?_
  repeat' (first | refine Ctl.h ?_ | ((with_reducible intro hif); first | (focus (cases hif; done)) | ((try simp only [JH] at hif); try (exfalso; omega))) | ((with_reducible first | apply J22 zm_ za_ | apply J23 fol zm_ za_ | apply J24); (·rfl); (· exact k48_); (try kernel_rfl); try exact k41_) | fail)
  apply At.endsRet za_ (fn := Tryz.f121) (rs := [.tmp 6, .tmp 7]) Anc.refl hro (lb_ rfl) rfl
  ·exact k11_
  ·exact yl_
  ·exact k6_
  ·rfl
  ·exact k7_
  ·exact zs_
  ·exact fun β => rfl
  ·exact k7_
 ·rw [show (if decide (a < 0) = true then -Rm else Rm) = Rm by simp [h1]]
  refine ze_ (fn := Tryz.f121) 1 196 0 rfl rfl rfl rfl rfl u2_ rfl fun w0 M E hro => ?_
  repeat' (first | refine Ctl.h ?_ | ((with_reducible intro hif); first | (focus (cases hif; done)) | ((try simp only [JH] at hif); try (exfalso; omega))) | ((with_reducible first | apply J22 zm_ za_ | apply J23 fol zm_ za_ | apply J24); (·rfl); (· exact k48_); (try kernel_rfl); try exact k41_) | fail)
  apply At.endsRet za_ (fn := Tryz.f121) (rs := [.tmp 6, .tmp 7]) Anc.refl hro (lb_ rfl) rfl
  ·exact k11_
  ·exact yl_
  ·exact k6_
  ·rfl
  ·exact k7_
  ·exact zs_
  ·exact fun β => rfl
  ·exact k7_
theorem apk6 (a b : Int) (X Y P Q Rm D : BitVec 64) (n y0 y1 y2 y3 y4 y5 : Int) (ha0 : -9223372036854775808 ≤ a) (ha1 : a ≤ 9223372036854775807) (hb0 : -9223372036854775808 ≤ b) (hb1 : b ≤ 9223372036854775807)
 (hX : BitVec.ofInt 64 a = X) (hY : BitVec.ofInt 64 b = Y) (hP : amV a = P) (hQ : amV b = Q) (hQm : P % Q = Rm) (hQd : P / Q = D)
 (hy0 : (bl Y).getD 0 0 = y0) (hy1 : (bl Y).getD 1 0 = y1) (hy2 : (bl Y).getD 2 0 = y2) (hy3 : (bl Y).getD 3 0 = y3) (hy4 : (bl Y).getD 4 0 = y4) (hy5 : (bl Y).getD 5 0 = y5)
 (hz0 : 0 ≤ y0 ∧ y0 ≤ 1) (hz1 : 0 ≤ y1 ∧ y1 ≤ 1) (hz2 : 0 ≤ y2 ∧ y2 ≤ 1) (hz3 : 0 ≤ y3 ∧ y3 ≤ 1) (hz4 : 0 ≤ y4 ∧ y4 ≤ 1) (hz5 : 0 ≤ y5 ∧ y5 ≤ 1) (hn : y0 + 2 * y1 + 4 * y2 + 8 * y3 + 16 * y4 + 32 * y5 = n) (hn0 : 0 ≤ n) (hn1 : n ≤ 63) (hq : 0 < Q.toNat) (h0 : ¬ b = 0) : zo_ Tryz.prog 121 [.int .u8 6, .int .i64 a, .int .i64 b] [.gone] (.tup [.int .i64 ((if a < 0 ∧ Rm.toInt ≠ 0 then Q - Rm else Rm).toInt), .int .i64 0]) [.gone] := by
 have l1 := ya_ X
 have l2 := ya_ Y
 by_cases h1 : a < 0
 ·by_cases h2 : Rm.toInt = 0
  ·rw [if_neg (by simp [h2])]
   refine ze_ (fn := Tryz.f121) 1 196 0 rfl rfl rfl rfl rfl u2_ rfl fun w0 M E hro => ?_
   repeat' (first | refine Ctl.h ?_ | ((with_reducible intro hif); first | (focus (cases hif; done)) | ((try simp only [JH] at hif); try (exfalso; omega))) | ((with_reducible first | apply J22 zm_ za_ | apply J23 fol zm_ za_ | apply J24); (·rfl); (· (simp only [push_cast, ↓JP, Nat.reduceAdd, Nat.reduceEqDiff, Nat.reduceLT, Nat.reduceMul, Nat.reduceLeDiff, reduceCtorEq, reduceIte, hX, hY, hP, hQ, hQm, hQd, hy0, hy1, hy2, hy3, hy4, hy5, hn, Int.cast_ofNat_Int, h0, h1, (eq_true h2)]; rfl)); (try kernel_rfl); try exact k41_) | fail)
   apply At.endsRet za_ (fn := Tryz.f121) (rs := [.tmp 6, .tmp 7]) Anc.refl hro (lb_ rfl) rfl
   ·exact k11_
   ·exact yl_
   ·exact k6_
   ·rfl
   ·exact k7_
   ·exact zs_
   ·exact fun β => rfl
   ·exact k7_
  ·rw [if_pos ⟨h1, h2⟩]
   refine ze_ (fn := Tryz.f121) 1 196 0 rfl rfl rfl rfl rfl u2_ rfl fun w0 M E hro => ?_
   repeat' (first | refine Ctl.h ?_ | ((with_reducible intro hif); first | (focus (cases hif; done)) | ((try simp only [JH] at hif); try (exfalso; omega))) | ((with_reducible first | apply J22 zm_ za_ | apply J23 fol zm_ za_ | apply J24); (·rfl); (· (simp only [push_cast, ↓JP, Nat.reduceAdd, Nat.reduceEqDiff, Nat.reduceLT, Nat.reduceMul, Nat.reduceLeDiff, reduceCtorEq, reduceIte, hX, hY, hP, hQ, hQm, hQd, hy0, hy1, hy2, hy3, hy4, hy5, hn, Int.cast_ofNat_Int, h0, h1, h2]; rfl)); (try kernel_rfl); try exact k41_) | fail)
   apply At.endsRet za_ (fn := Tryz.f121) (rs := [.tmp 6, .tmp 7]) Anc.refl hro (lb_ rfl) rfl
   ·exact k11_
   ·exact yl_
   ·exact k6_
   ·rfl
   ·exact k7_
   ·exact zs_
   ·exact fun β => rfl
   ·exact k7_
 ·rw [if_neg (by simp [h1])]
  refine ze_ (fn := Tryz.f121) 1 196 0 rfl rfl rfl rfl rfl u2_ rfl fun w0 M E hro => ?_
  repeat' (first | refine Ctl.h ?_ | ((with_reducible intro hif); first | (focus (cases hif; done)) | ((try simp only [JH] at hif); try (exfalso; omega))) | ((with_reducible first | apply J22 zm_ za_ | apply J23 fol zm_ za_ | apply J24); (·rfl); (· exact k48_); (try kernel_rfl); try exact k41_) | fail)
  apply At.endsRet za_ (fn := Tryz.f121) (rs := [.tmp 6, .tmp 7]) Anc.refl hro (lb_ rfl) rfl
  ·exact k11_
  ·exact yl_
  ·exact k6_
  ·rfl
  ·exact k7_
  ·exact zs_
  ·exact fun β => rfl
  ·exact k7_
theorem apk7 (a b : Int) (X Y P Q Rm D : BitVec 64) (n y0 y1 y2 y3 y4 y5 : Int) (ha0 : -9223372036854775808 ≤ a) (ha1 : a ≤ 9223372036854775807) (hb0 : -9223372036854775808 ≤ b) (hb1 : b ≤ 9223372036854775807)
 (hX : BitVec.ofInt 64 a = X) (hY : BitVec.ofInt 64 b = Y) (hP : amV a = P) (hQ : amV b = Q) (hQm : P % Q = Rm) (hQd : P / Q = D)
 (hy0 : (bl Y).getD 0 0 = y0) (hy1 : (bl Y).getD 1 0 = y1) (hy2 : (bl Y).getD 2 0 = y2) (hy3 : (bl Y).getD 3 0 = y3) (hy4 : (bl Y).getD 4 0 = y4) (hy5 : (bl Y).getD 5 0 = y5)
 (hz0 : 0 ≤ y0 ∧ y0 ≤ 1) (hz1 : 0 ≤ y1 ∧ y1 ≤ 1) (hz2 : 0 ≤ y2 ∧ y2 ≤ 1) (hz3 : 0 ≤ y3 ∧ y3 ≤ 1) (hz4 : 0 ≤ y4 ∧ y4 ≤ 1) (hz5 : 0 ≤ y5 ∧ y5 ≤ 1) (hn : y0 + 2 * y1 + 4 * y2 + 8 * y3 + 16 * y4 + 32 * y5 = n) (hn0 : 0 ≤ n) (hn1 : n ≤ 63) (hq : True) : zo_ Tryz.prog 121 [.int .u8 7, .int .i64 a, .int .i64 b] [.gone] (.tup [.int .i64 ((bwV 7 X Y).toInt), .int .i64 0]) [.gone] := by
 have l1 := ya_ X
 have l2 := ya_ Y
 by_cases h0 : b = 0
 ·refine ze_ (fn := Tryz.f121) 1 196 0 rfl rfl rfl rfl rfl u2_ rfl fun w0 M E hro => ?_
  repeat' (first | refine Ctl.h ?_ | ((with_reducible intro hif); first | (focus (cases hif; done)) | ((try simp only [JH] at hif); try (exfalso; omega))) | ((with_reducible first | apply J22 zm_ za_ | apply J23 fol zm_ za_ | apply J24); (·rfl); (· exact k49_); (try kernel_rfl); try exact k41_) | fail)
  apply At.endsRet za_ (fn := Tryz.f121) (rs := [.tmp 6, .tmp 7]) Anc.refl hro (lb_ rfl) rfl
  ·exact k11_
  ·exact yl_
  ·exact k6_
  ·rfl
  ·exact k7_
  ·exact zs_
  ·exact fun β => rfl
  ·exact k7_
 ·refine ze_ (fn := Tryz.f121) 1 196 0 rfl rfl rfl rfl rfl u2_ rfl fun w0 M E hro => ?_
  repeat' (first | refine Ctl.h ?_ | ((with_reducible intro hif); first | (focus (cases hif; done)) | ((try simp only [JH] at hif); try (exfalso; omega))) | ((with_reducible first | apply J22 zm_ za_ | apply J23 fol zm_ za_ | apply J24); (·rfl); (· exact k50_); (try kernel_rfl); try exact k41_) | fail)
  apply At.endsRet za_ (fn := Tryz.f121) (rs := [.tmp 6, .tmp 7]) Anc.refl hro (lb_ rfl) rfl
  ·exact k11_
  ·exact yl_
  ·exact k6_
  ·rfl
  ·exact k7_
  ·exact zs_
  ·exact fun β => rfl
  ·exact k7_
theorem apk8 (a b : Int) (X Y P Q Rm D : BitVec 64) (n y0 y1 y2 y3 y4 y5 : Int) (ha0 : -9223372036854775808 ≤ a) (ha1 : a ≤ 9223372036854775807) (hb0 : -9223372036854775808 ≤ b) (hb1 : b ≤ 9223372036854775807)
 (hX : BitVec.ofInt 64 a = X) (hY : BitVec.ofInt 64 b = Y) (hP : amV a = P) (hQ : amV b = Q) (hQm : P % Q = Rm) (hQd : P / Q = D)
 (hy0 : (bl Y).getD 0 0 = y0) (hy1 : (bl Y).getD 1 0 = y1) (hy2 : (bl Y).getD 2 0 = y2) (hy3 : (bl Y).getD 3 0 = y3) (hy4 : (bl Y).getD 4 0 = y4) (hy5 : (bl Y).getD 5 0 = y5)
 (hz0 : 0 ≤ y0 ∧ y0 ≤ 1) (hz1 : 0 ≤ y1 ∧ y1 ≤ 1) (hz2 : 0 ≤ y2 ∧ y2 ≤ 1) (hz3 : 0 ≤ y3 ∧ y3 ≤ 1) (hz4 : 0 ≤ y4 ∧ y4 ≤ 1) (hz5 : 0 ≤ y5 ∧ y5 ≤ 1) (hn : y0 + 2 * y1 + 4 * y2 + 8 * y3 + 16 * y4 + 32 * y5 = n) (hn0 : 0 ≤ n) (hn1 : n ≤ 63) (hq : True) : zo_ Tryz.prog 121 [.int .u8 8, .int .i64 a, .int .i64 b] [.gone] (.tup [.int .i64 ((bwV 8 X Y).toInt), .int .i64 0]) [.gone] := by
 have l1 := ya_ X
 have l2 := ya_ Y
 by_cases h0 : b = 0
 ·refine ze_ (fn := Tryz.f121) 1 196 0 rfl rfl rfl rfl rfl u2_ rfl fun w0 M E hro => ?_
  repeat' (first | refine Ctl.h ?_ | ((with_reducible intro hif); first | (focus (cases hif; done)) | ((try simp only [JH] at hif); try (exfalso; omega))) | ((with_reducible first | apply J22 zm_ za_ | apply J23 fol zm_ za_ | apply J24); (·rfl); (· exact k49_); (try kernel_rfl); try exact k41_) | fail)
  apply At.endsRet za_ (fn := Tryz.f121) (rs := [.tmp 6, .tmp 7]) Anc.refl hro (lb_ rfl) rfl
  ·exact k11_
  ·exact yl_
  ·exact k6_
  ·rfl
  ·exact k7_
  ·exact zs_
  ·exact fun β => rfl
  ·exact k7_
 ·refine ze_ (fn := Tryz.f121) 1 196 0 rfl rfl rfl rfl rfl u2_ rfl fun w0 M E hro => ?_
  repeat' (first | refine Ctl.h ?_ | ((with_reducible intro hif); first | (focus (cases hif; done)) | ((try simp only [JH] at hif); try (exfalso; omega))) | ((with_reducible first | apply J22 zm_ za_ | apply J23 fol zm_ za_ | apply J24); (·rfl); (· exact k50_); (try kernel_rfl); try exact k41_) | fail)
  apply At.endsRet za_ (fn := Tryz.f121) (rs := [.tmp 6, .tmp 7]) Anc.refl hro (lb_ rfl) rfl
  ·exact k11_
  ·exact yl_
  ·exact k6_
  ·rfl
  ·exact k7_
  ·exact zs_
  ·exact fun β => rfl
  ·exact k7_
theorem apk9 (a b : Int) (X Y P Q Rm D : BitVec 64) (n y0 y1 y2 y3 y4 y5 : Int) (ha0 : -9223372036854775808 ≤ a) (ha1 : a ≤ 9223372036854775807) (hb0 : -9223372036854775808 ≤ b) (hb1 : b ≤ 9223372036854775807)
 (hX : BitVec.ofInt 64 a = X) (hY : BitVec.ofInt 64 b = Y) (hP : amV a = P) (hQ : amV b = Q) (hQm : P % Q = Rm) (hQd : P / Q = D)
 (hy0 : (bl Y).getD 0 0 = y0) (hy1 : (bl Y).getD 1 0 = y1) (hy2 : (bl Y).getD 2 0 = y2) (hy3 : (bl Y).getD 3 0 = y3) (hy4 : (bl Y).getD 4 0 = y4) (hy5 : (bl Y).getD 5 0 = y5)
 (hz0 : 0 ≤ y0 ∧ y0 ≤ 1) (hz1 : 0 ≤ y1 ∧ y1 ≤ 1) (hz2 : 0 ≤ y2 ∧ y2 ≤ 1) (hz3 : 0 ≤ y3 ∧ y3 ≤ 1) (hz4 : 0 ≤ y4 ∧ y4 ≤ 1) (hz5 : 0 ≤ y5 ∧ y5 ≤ 1) (hn : y0 + 2 * y1 + 4 * y2 + 8 * y3 + 16 * y4 + 32 * y5 = n) (hn0 : 0 ≤ n) (hn1 : n ≤ 63) (hq : True) : zo_ Tryz.prog 121 [.int .u8 9, .int .i64 a, .int .i64 b] [.gone] (.tup [.int .i64 ((bwV 9 X Y).toInt), .int .i64 0]) [.gone] := by
 have l1 := ya_ X
 have l2 := ya_ Y
 by_cases h0 : b = 0
 ·refine ze_ (fn := Tryz.f121) 1 196 0 rfl rfl rfl rfl rfl u2_ rfl fun w0 M E hro => ?_
  repeat' (first | refine Ctl.h ?_ | ((with_reducible intro hif); first | (focus (cases hif; done)) | ((try simp only [JH] at hif); try (exfalso; omega))) | ((with_reducible first | apply J22 zm_ za_ | apply J23 fol zm_ za_ | apply J24); (·rfl); (· exact k49_); (try kernel_rfl); try exact k41_) | fail)
  apply At.endsRet za_ (fn := Tryz.f121) (rs := [.tmp 6, .tmp 7]) Anc.refl hro (lb_ rfl) rfl
  ·exact k11_
  ·exact yl_
  ·exact k6_
  ·rfl
  ·exact k7_
  ·exact zs_
  ·exact fun β => rfl
  ·exact k7_
 ·refine ze_ (fn := Tryz.f121) 1 196 0 rfl rfl rfl rfl rfl u2_ rfl fun w0 M E hro => ?_
  repeat' (first | refine Ctl.h ?_ | ((with_reducible intro hif); first | (focus (cases hif; done)) | ((try simp only [JH] at hif); try (exfalso; omega))) | ((with_reducible first | apply J22 zm_ za_ | apply J23 fol zm_ za_ | apply J24); (·rfl); (· exact k50_); (try kernel_rfl); try exact k41_) | fail)
  apply At.endsRet za_ (fn := Tryz.f121) (rs := [.tmp 6, .tmp 7]) Anc.refl hro (lb_ rfl) rfl
  ·exact k11_
  ·exact yl_
  ·exact k6_
  ·rfl
  ·exact k7_
  ·exact zs_
  ·exact fun β => rfl
  ·exact k7_
end Go.Proofs.YtjliakjbdcplcaaGreat.Vm
end
section
namespace Go.Proofs.YtjliakjbdcplcaaGreat.Vm
open Go.RowKit
attribute [local push_cast] cApp sRBits sRSum sRNot sRWord sRUp sRDown sRBitw sRTruth sRLess sRProd sRAmt sRNeg sRDiv bO zw_ zy_ iOf y6_ yy_ ls_i64B ls_i64U ls_zB vb_bl sumV_f sumV_sub ed ed0 i64S nat_one_i inR inN
theorem apk10 (a b : Int) (X Y P Q Rm D : BitVec 64) (n y0 y1 y2 y3 y4 y5 : Int) (ha0 : -9223372036854775808 ≤ a) (ha1 : a ≤ 9223372036854775807) (hb0 : -9223372036854775808 ≤ b) (hb1 : b ≤ 9223372036854775807)
 (hX : BitVec.ofInt 64 a = X) (hY : BitVec.ofInt 64 b = Y) (hP : amV a = P) (hQ : amV b = Q) (hQm : P % Q = Rm) (hQd : P / Q = D)
 (hy0 : (bl Y).getD 0 0 = y0) (hy1 : (bl Y).getD 1 0 = y1) (hy2 : (bl Y).getD 2 0 = y2) (hy3 : (bl Y).getD 3 0 = y3) (hy4 : (bl Y).getD 4 0 = y4) (hy5 : (bl Y).getD 5 0 = y5)
 (hz0 : 0 ≤ y0 ∧ y0 ≤ 1) (hz1 : 0 ≤ y1 ∧ y1 ≤ 1) (hz2 : 0 ≤ y2 ∧ y2 ≤ 1) (hz3 : 0 ≤ y3 ∧ y3 ≤ 1) (hz4 : 0 ≤ y4 ∧ y4 ≤ 1) (hz5 : 0 ≤ y5 ∧ y5 ≤ 1) (hn : y0 + 2 * y1 + 4 * y2 + 8 * y3 + 16 * y4 + 32 * y5 = n) (hn0 : 0 ≤ n) (hn1 : n ≤ 63) (hq : True) : zo_ Tryz.prog 121 [.int .u8 10, .int .i64 a, .int .i64 b] [.gone] (.tup [.int .i64 ((X <<< n.toNat).toInt), .int .i64 0]) [.gone] := by
 have l1 := ya_ X
 have l2 := ya_ Y
 by_cases h0 : b = 0
 ·refine ze_ (fn := Tryz.f121) 1 196 0 rfl rfl rfl rfl rfl u2_ rfl fun w0 M E hro => ?_
  repeat' (first | refine Ctl.h ?_ | ((with_reducible intro hif); first | (focus (cases hif; done)) | ((try simp only [JH] at hif); try (exfalso; omega))) | ((with_reducible first | apply J22 zm_ za_ | apply J23 fol zm_ za_ | apply J24); (·rfl); (· exact k49_); (try kernel_rfl); try exact k41_) | fail)
  apply At.endsRet za_ (fn := Tryz.f121) (rs := [.tmp 6, .tmp 7]) Anc.refl hro (lb_ rfl) rfl
  ·exact k11_
  ·exact yl_
  ·exact k6_
  ·rfl
  ·exact k7_
  ·exact zs_
  ·exact fun β => rfl
  ·exact k7_
 ·refine ze_ (fn := Tryz.f121) 1 196 0 rfl rfl rfl rfl rfl u2_ rfl fun w0 M E hro => ?_
  repeat' (first | refine Ctl.h ?_ | ((with_reducible intro hif); first | (focus (cases hif; done)) | ((try simp only [JH] at hif); try (exfalso; omega))) | ((with_reducible first | apply J22 zm_ za_ | apply J23 fol zm_ za_ | apply J24); (·rfl); (· exact k50_); (try kernel_rfl); try exact k41_) | fail)
  apply At.endsRet za_ (fn := Tryz.f121) (rs := [.tmp 6, .tmp 7]) Anc.refl hro (lb_ rfl) rfl
  ·exact k11_
  ·exact yl_
  ·exact k6_
  ·rfl
  ·exact k7_
  ·exact zs_
  ·exact fun β => rfl
  ·exact k7_
theorem apk11 (a b : Int) (X Y P Q Rm D : BitVec 64) (n y0 y1 y2 y3 y4 y5 : Int) (ha0 : -9223372036854775808 ≤ a) (ha1 : a ≤ 9223372036854775807) (hb0 : -9223372036854775808 ≤ b) (hb1 : b ≤ 9223372036854775807)
 (hX : BitVec.ofInt 64 a = X) (hY : BitVec.ofInt 64 b = Y) (hP : amV a = P) (hQ : amV b = Q) (hQm : P % Q = Rm) (hQd : P / Q = D)
 (hy0 : (bl Y).getD 0 0 = y0) (hy1 : (bl Y).getD 1 0 = y1) (hy2 : (bl Y).getD 2 0 = y2) (hy3 : (bl Y).getD 3 0 = y3) (hy4 : (bl Y).getD 4 0 = y4) (hy5 : (bl Y).getD 5 0 = y5)
 (hz0 : 0 ≤ y0 ∧ y0 ≤ 1) (hz1 : 0 ≤ y1 ∧ y1 ≤ 1) (hz2 : 0 ≤ y2 ∧ y2 ≤ 1) (hz3 : 0 ≤ y3 ∧ y3 ≤ 1) (hz4 : 0 ≤ y4 ∧ y4 ≤ 1) (hz5 : 0 ≤ y5 ∧ y5 ≤ 1) (hn : y0 + 2 * y1 + 4 * y2 + 8 * y3 + 16 * y4 + 32 * y5 = n) (hn0 : 0 ≤ n) (hn1 : n ≤ 63) (hq : True) : zo_ Tryz.prog 121 [.int .u8 11, .int .i64 a, .int .i64 b] [.gone] (.tup [.int .i64 ((dnV X n.toNat false).toInt), .int .i64 0]) [.gone] := by
 have l1 := ya_ X
 have l2 := ya_ Y
 by_cases h0 : b = 0
 ·refine ze_ (fn := Tryz.f121) 1 196 0 rfl rfl rfl rfl rfl u2_ rfl fun w0 M E hro => ?_
  repeat' (first | refine Ctl.h ?_ | ((with_reducible intro hif); first | (focus (cases hif; done)) | ((try simp only [JH] at hif); try (exfalso; omega))) | ((with_reducible first | apply J22 zm_ za_ | apply J23 fol zm_ za_ | apply J24); (·rfl); (· exact k49_); (try kernel_rfl); try exact k41_) | fail)
  apply At.endsRet za_ (fn := Tryz.f121) (rs := [.tmp 6, .tmp 7]) Anc.refl hro (lb_ rfl) rfl
  ·exact k11_
  ·exact yl_
  ·exact k6_
  ·rfl
  ·exact k7_
  ·exact zs_
  ·exact fun β => rfl
  ·exact k7_
 ·refine ze_ (fn := Tryz.f121) 1 196 0 rfl rfl rfl rfl rfl u2_ rfl fun w0 M E hro => ?_
  repeat' (first | refine Ctl.h ?_ | ((with_reducible intro hif); first | (focus (cases hif; done)) | ((try simp only [JH] at hif); try (exfalso; omega))) | ((with_reducible first | apply J22 zm_ za_ | apply J23 fol zm_ za_ | apply J24); (·rfl); (· exact k50_); (try kernel_rfl); try exact k41_) | fail)
  apply At.endsRet za_ (fn := Tryz.f121) (rs := [.tmp 6, .tmp 7]) Anc.refl hro (lb_ rfl) rfl
  ·exact k11_
  ·exact yl_
  ·exact k6_
  ·rfl
  ·exact k7_
  ·exact zs_
  ·exact fun β => rfl
  ·exact k7_
theorem apk12 (a b : Int) (X Y P Q Rm D : BitVec 64) (n y0 y1 y2 y3 y4 y5 : Int) (ha0 : -9223372036854775808 ≤ a) (ha1 : a ≤ 9223372036854775807) (hb0 : -9223372036854775808 ≤ b) (hb1 : b ≤ 9223372036854775807)
 (hX : BitVec.ofInt 64 a = X) (hY : BitVec.ofInt 64 b = Y) (hP : amV a = P) (hQ : amV b = Q) (hQm : P % Q = Rm) (hQd : P / Q = D)
 (hy0 : (bl Y).getD 0 0 = y0) (hy1 : (bl Y).getD 1 0 = y1) (hy2 : (bl Y).getD 2 0 = y2) (hy3 : (bl Y).getD 3 0 = y3) (hy4 : (bl Y).getD 4 0 = y4) (hy5 : (bl Y).getD 5 0 = y5)
 (hz0 : 0 ≤ y0 ∧ y0 ≤ 1) (hz1 : 0 ≤ y1 ∧ y1 ≤ 1) (hz2 : 0 ≤ y2 ∧ y2 ≤ 1) (hz3 : 0 ≤ y3 ∧ y3 ≤ 1) (hz4 : 0 ≤ y4 ∧ y4 ≤ 1) (hz5 : 0 ≤ y5 ∧ y5 ≤ 1) (hn : y0 + 2 * y1 + 4 * y2 + 8 * y3 + 16 * y4 + 32 * y5 = n) (hn0 : 0 ≤ n) (hn1 : n ≤ 63) (hq : True) : zo_ Tryz.prog 121 [.int .u8 12, .int .i64 a, .int .i64 b] [.gone] (.tup [.int .i64 ((dnV X n.toNat (X.getLsbD 63)).toInt), .int .i64 0]) [.gone] := by
 have l1 := ya_ X
 have l2 := ya_ Y
 by_cases h0 : b = 0
 ·have h63 := zi_ (x := X) (i := 63) (by decide)
  cases ht : X.getLsbD 63
  ·rw [ht] at h63
   have h6 : (bl X).getD 63 0 = 0 := h63
   refine ze_ (fn := Tryz.f121) 1 196 0 rfl rfl rfl rfl rfl u2_ rfl fun w0 M E hro => ?_
   repeat' (first | refine Ctl.h ?_ | ((with_reducible intro hif); first | (focus (cases hif; done)) | ((try simp only [JH] at hif); try (exfalso; omega))) | ((with_reducible first | apply J22 zm_ za_ | apply J23 fol zm_ za_ | apply J24); (·rfl); (· exact k51_); (try kernel_rfl); try exact k41_) | fail)
   apply At.endsRet za_ (fn := Tryz.f121) (rs := [.tmp 6, .tmp 7]) Anc.refl hro (lb_ rfl) rfl
   ·exact k11_
   ·exact yl_
   ·exact k6_
   ·rfl
   ·exact k7_
   ·exact zs_
   ·exact fun β => rfl
   ·exact k7_
  ·rw [ht] at h63
   have h6 : (bl X).getD 63 0 = 1 := h63
   refine ze_ (fn := Tryz.f121) 1 196 0 rfl rfl rfl rfl rfl u2_ rfl fun w0 M E hro => ?_
   repeat' (first | refine Ctl.h ?_ | ((with_reducible intro hif); first | (focus (cases hif; done)) | ((try simp only [JH] at hif); try (exfalso; omega))) | ((with_reducible first | apply J22 zm_ za_ | apply J23 fol zm_ za_ | apply J24); (·rfl); (· exact k51_); (try kernel_rfl); try exact k41_) | fail)
   apply At.endsRet za_ (fn := Tryz.f121) (rs := [.tmp 6, .tmp 7]) Anc.refl hro (lb_ rfl) rfl
   ·exact k11_
   ·exact yl_
   ·exact k6_
   ·rfl
   ·exact k7_
   ·exact zs_
   ·exact fun β => rfl
   ·exact k7_
 ·have h63 := zi_ (x := X) (i := 63) (by decide)
  cases ht : X.getLsbD 63
  ·rw [ht] at h63
   have h6 : (bl X).getD 63 0 = 0 := h63
   refine ze_ (fn := Tryz.f121) 1 196 0 rfl rfl rfl rfl rfl u2_ rfl fun w0 M E hro => ?_
   repeat' (first | refine Ctl.h ?_ | ((with_reducible intro hif); first | (focus (cases hif; done)) | ((try simp only [JH] at hif); try (exfalso; omega))) | ((with_reducible first | apply J22 zm_ za_ | apply J23 fol zm_ za_ | apply J24); (·rfl); (· exact k52_); (try kernel_rfl); try exact k41_) | fail)
   apply At.endsRet za_ (fn := Tryz.f121) (rs := [.tmp 6, .tmp 7]) Anc.refl hro (lb_ rfl) rfl
   ·exact k11_
   ·exact yl_
   ·exact k6_
   ·rfl
   ·exact k7_
   ·exact zs_
   ·exact fun β => rfl
   ·exact k7_
  ·rw [ht] at h63
   have h6 : (bl X).getD 63 0 = 1 := h63
   refine ze_ (fn := Tryz.f121) 1 196 0 rfl rfl rfl rfl rfl u2_ rfl fun w0 M E hro => ?_
   repeat' (first | refine Ctl.h ?_ | ((with_reducible intro hif); first | (focus (cases hif; done)) | ((try simp only [JH] at hif); try (exfalso; omega))) | ((with_reducible first | apply J22 zm_ za_ | apply J23 fol zm_ za_ | apply J24); (·rfl); (· exact k52_); (try kernel_rfl); try exact k41_) | fail)
   apply At.endsRet za_ (fn := Tryz.f121) (rs := [.tmp 6, .tmp 7]) Anc.refl hro (lb_ rfl) rfl
   ·exact k11_
   ·exact yl_
   ·exact k6_
   ·rfl
   ·exact k7_
   ·exact zs_
   ·exact fun β => rfl
   ·exact k7_
theorem apk13 (a b : Int) (X Y P Q Rm D : BitVec 64) (n y0 y1 y2 y3 y4 y5 : Int) (ha0 : -9223372036854775808 ≤ a) (ha1 : a ≤ 9223372036854775807) (hb0 : -9223372036854775808 ≤ b) (hb1 : b ≤ 9223372036854775807)
 (hX : BitVec.ofInt 64 a = X) (hY : BitVec.ofInt 64 b = Y) (hP : amV a = P) (hQ : amV b = Q) (hQm : P % Q = Rm) (hQd : P / Q = D)
 (hy0 : (bl Y).getD 0 0 = y0) (hy1 : (bl Y).getD 1 0 = y1) (hy2 : (bl Y).getD 2 0 = y2) (hy3 : (bl Y).getD 3 0 = y3) (hy4 : (bl Y).getD 4 0 = y4) (hy5 : (bl Y).getD 5 0 = y5)
 (hz0 : 0 ≤ y0 ∧ y0 ≤ 1) (hz1 : 0 ≤ y1 ∧ y1 ≤ 1) (hz2 : 0 ≤ y2 ∧ y2 ≤ 1) (hz3 : 0 ≤ y3 ∧ y3 ≤ 1) (hz4 : 0 ≤ y4 ∧ y4 ≤ 1) (hz5 : 0 ≤ y5 ∧ y5 ≤ 1) (hn : y0 + 2 * y1 + 4 * y2 + 8 * y3 + 16 * y4 + 32 * y5 = n) (hn0 : 0 ≤ n) (hn1 : n ≤ 63) (hq : True) : zo_ Tryz.prog 121 [.int .u8 13, .int .i64 a, .int .i64 b] [.gone] (.tup [.int .i64 (bI (decide (a < b))), .int .i64 0]) [.gone] := by
 have l1 := ya_ X
 have l2 := ya_ Y
 by_cases h0 : b = 0
 ·refine ze_ (fn := Tryz.f121) 1 196 0 rfl rfl rfl rfl rfl u2_ rfl fun w0 M E hro => ?_
  repeat' (first | refine Ctl.h ?_ | ((with_reducible intro hif); first | (focus (cases hif; done)) | ((try simp only [JH] at hif); try (exfalso; omega))) | ((with_reducible first | apply J22 zm_ za_ | apply J23 fol zm_ za_ | apply J24); (·rfl); (· exact k49_); (try kernel_rfl); try exact k41_) | fail)
  apply At.endsRet za_ (fn := Tryz.f121) (rs := [.tmp 6, .tmp 7]) Anc.refl hro (lb_ rfl) rfl
  ·exact k11_
  ·exact yl_
  ·exact k6_
  ·rfl
  ·exact k7_
  ·exact zs_
  ·exact fun β => rfl
  ·exact k7_
 ·refine ze_ (fn := Tryz.f121) 1 196 0 rfl rfl rfl rfl rfl u2_ rfl fun w0 M E hro => ?_
  repeat' (first | refine Ctl.h ?_ | ((with_reducible intro hif); first | (focus (cases hif; done)) | ((try simp only [JH] at hif); try (exfalso; omega))) | ((with_reducible first | apply J22 zm_ za_ | apply J23 fol zm_ za_ | apply J24); (·rfl); (· exact k50_); (try kernel_rfl); try exact k41_) | fail)
  apply At.endsRet za_ (fn := Tryz.f121) (rs := [.tmp 6, .tmp 7]) Anc.refl hro (lb_ rfl) rfl
  ·exact k11_
  ·exact yl_
  ·exact k6_
  ·rfl
  ·exact k7_
  ·exact zs_
  ·exact fun β => rfl
  ·exact k7_
theorem apk14 (a b : Int) (X Y P Q Rm D : BitVec 64) (n y0 y1 y2 y3 y4 y5 : Int) (ha0 : -9223372036854775808 ≤ a) (ha1 : a ≤ 9223372036854775807) (hb0 : -9223372036854775808 ≤ b) (hb1 : b ≤ 9223372036854775807)
 (hX : BitVec.ofInt 64 a = X) (hY : BitVec.ofInt 64 b = Y) (hP : amV a = P) (hQ : amV b = Q) (hQm : P % Q = Rm) (hQd : P / Q = D)
 (hy0 : (bl Y).getD 0 0 = y0) (hy1 : (bl Y).getD 1 0 = y1) (hy2 : (bl Y).getD 2 0 = y2) (hy3 : (bl Y).getD 3 0 = y3) (hy4 : (bl Y).getD 4 0 = y4) (hy5 : (bl Y).getD 5 0 = y5)
 (hz0 : 0 ≤ y0 ∧ y0 ≤ 1) (hz1 : 0 ≤ y1 ∧ y1 ≤ 1) (hz2 : 0 ≤ y2 ∧ y2 ≤ 1) (hz3 : 0 ≤ y3 ∧ y3 ≤ 1) (hz4 : 0 ≤ y4 ∧ y4 ≤ 1) (hz5 : 0 ≤ y5 ∧ y5 ≤ 1) (hn : y0 + 2 * y1 + 4 * y2 + 8 * y3 + 16 * y4 + 32 * y5 = n) (hn0 : 0 ≤ n) (hn1 : n ≤ 63) (hq : True) : zo_ Tryz.prog 121 [.int .u8 14, .int .i64 a, .int .i64 b] [.gone] (.tup [.int .i64 (bI (decide (X.toNat < Y.toNat))), .int .i64 0]) [.gone] := by
 have l1 := ya_ X
 have l2 := ya_ Y
 by_cases h0 : b = 0
 ·refine ze_ (fn := Tryz.f121) 1 196 0 rfl rfl rfl rfl rfl u2_ rfl fun w0 M E hro => ?_
  repeat' (first | refine Ctl.h ?_ | ((with_reducible intro hif); first | (focus (cases hif; done)) | ((try simp only [JH] at hif); try (exfalso; omega))) | ((with_reducible first | apply J22 zm_ za_ | apply J23 fol zm_ za_ | apply J24); (·rfl); (· exact k49_); (try kernel_rfl); try exact k41_) | fail)
  apply At.endsRet za_ (fn := Tryz.f121) (rs := [.tmp 6, .tmp 7]) Anc.refl hro (lb_ rfl) rfl
  ·exact k11_
  ·exact yl_
  ·exact k6_
  ·rfl
  ·exact k7_
  ·exact zs_
  ·exact fun β => rfl
  ·exact k7_
 ·refine ze_ (fn := Tryz.f121) 1 196 0 rfl rfl rfl rfl rfl u2_ rfl fun w0 M E hro => ?_
  repeat' (first | refine Ctl.h ?_ | ((with_reducible intro hif); first | (focus (cases hif; done)) | ((try simp only [JH] at hif); try (exfalso; omega))) | ((with_reducible first | apply J22 zm_ za_ | apply J23 fol zm_ za_ | apply J24); (·rfl); (· exact k50_); (try kernel_rfl); try exact k41_) | fail)
  apply At.endsRet za_ (fn := Tryz.f121) (rs := [.tmp 6, .tmp 7]) Anc.refl hro (lb_ rfl) rfl
  ·exact k11_
  ·exact yl_
  ·exact k6_
  ·rfl
  ·exact k7_
  ·exact zs_
  ·exact fun β => rfl
  ·exact k7_
theorem apk15 (a b : Int) (X Y P Q Rm D : BitVec 64) (n y0 y1 y2 y3 y4 y5 : Int) (ha0 : -9223372036854775808 ≤ a) (ha1 : a ≤ 9223372036854775807) (hb0 : -9223372036854775808 ≤ b) (hb1 : b ≤ 9223372036854775807)
 (hX : BitVec.ofInt 64 a = X) (hY : BitVec.ofInt 64 b = Y) (hP : amV a = P) (hQ : amV b = Q) (hQm : P % Q = Rm) (hQd : P / Q = D)
 (hy0 : (bl Y).getD 0 0 = y0) (hy1 : (bl Y).getD 1 0 = y1) (hy2 : (bl Y).getD 2 0 = y2) (hy3 : (bl Y).getD 3 0 = y3) (hy4 : (bl Y).getD 4 0 = y4) (hy5 : (bl Y).getD 5 0 = y5)
 (hz0 : 0 ≤ y0 ∧ y0 ≤ 1) (hz1 : 0 ≤ y1 ∧ y1 ≤ 1) (hz2 : 0 ≤ y2 ∧ y2 ≤ 1) (hz3 : 0 ≤ y3 ∧ y3 ≤ 1) (hz4 : 0 ≤ y4 ∧ y4 ≤ 1) (hz5 : 0 ≤ y5 ∧ y5 ≤ 1) (hn : y0 + 2 * y1 + 4 * y2 + 8 * y3 + 16 * y4 + 32 * y5 = n) (hn0 : 0 ≤ n) (hn1 : n ≤ 63) (hq : True) : zo_ Tryz.prog 121 [.int .u8 15, .int .i64 a, .int .i64 b] [.gone] (.tup [.int .i64 (bI (decide (a = b))), .int .i64 0]) [.gone] := by
 have l1 := ya_ X
 have l2 := ya_ Y
 by_cases h0 : b = 0
 ·refine ze_ (fn := Tryz.f121) 1 196 0 rfl rfl rfl rfl rfl u2_ rfl fun w0 M E hro => ?_
  repeat' (first | refine Ctl.h ?_ | ((with_reducible intro hif); first | (focus (cases hif; done)) | ((try simp only [JH] at hif); try (exfalso; omega))) | ((with_reducible first | apply J22 zm_ za_ | apply J23 fol zm_ za_ | apply J24); (·rfl); (· exact k49_); (try kernel_rfl); try exact k41_) | fail)
  apply At.endsRet za_ (fn := Tryz.f121) (rs := [.tmp 6, .tmp 7]) Anc.refl hro (lb_ rfl) rfl
  ·exact k11_
  ·exact yl_
  ·exact k6_
  ·rfl
  ·exact k7_
  ·exact zs_
  ·exact fun β => rfl
  ·exact k7_
 ·refine ze_ (fn := Tryz.f121) 1 196 0 rfl rfl rfl rfl rfl u2_ rfl fun w0 M E hro => ?_
  repeat' (first | refine Ctl.h ?_ | ((with_reducible intro hif); first | (focus (cases hif; done)) | ((try simp only [JH] at hif); try (exfalso; omega))) | ((with_reducible first | apply J22 zm_ za_ | apply J23 fol zm_ za_ | apply J24); (·rfl); (· exact k50_); (try kernel_rfl); try exact k41_) | fail)
  apply At.endsRet za_ (fn := Tryz.f121) (rs := [.tmp 6, .tmp 7]) Anc.refl hro (lb_ rfl) rfl
  ·exact k11_
  ·exact yl_
  ·exact k6_
  ·rfl
  ·exact k7_
  ·exact zs_
  ·exact fun β => rfl
  ·exact k7_
end Go.Proofs.YtjliakjbdcplcaaGreat.Vm
end
section
namespace Go.Proofs.YtjliakjbdcplcaaGreat.Vm
open Go.RowKit
attribute [local push_cast] cApp sRBits sRSum sRNot sRWord sRUp sRDown sRBitw sRTruth sRLess sRProd sRAmt sRNeg sRDiv bO zw_ zy_ iOf y6_ yy_ ls_i64B ls_i64U ls_zB vb_bl sumV_f sumV_sub ed ed0 i64S nat_one_i inR inN
theorem apk16 (a b : Int) (X Y P Q Rm D : BitVec 64) (n y0 y1 y2 y3 y4 y5 : Int) (ha0 : -9223372036854775808 ≤ a) (ha1 : a ≤ 9223372036854775807) (hb0 : -9223372036854775808 ≤ b) (hb1 : b ≤ 9223372036854775807)
 (hX : BitVec.ofInt 64 a = X) (hY : BitVec.ofInt 64 b = Y) (hP : amV a = P) (hQ : amV b = Q) (hQm : P % Q = Rm) (hQd : P / Q = D)
 (hy0 : (bl Y).getD 0 0 = y0) (hy1 : (bl Y).getD 1 0 = y1) (hy2 : (bl Y).getD 2 0 = y2) (hy3 : (bl Y).getD 3 0 = y3) (hy4 : (bl Y).getD 4 0 = y4) (hy5 : (bl Y).getD 5 0 = y5)
 (hz0 : 0 ≤ y0 ∧ y0 ≤ 1) (hz1 : 0 ≤ y1 ∧ y1 ≤ 1) (hz2 : 0 ≤ y2 ∧ y2 ≤ 1) (hz3 : 0 ≤ y3 ∧ y3 ≤ 1) (hz4 : 0 ≤ y4 ∧ y4 ≤ 1) (hz5 : 0 ≤ y5 ∧ y5 ≤ 1) (hn : y0 + 2 * y1 + 4 * y2 + 8 * y3 + 16 * y4 + 32 * y5 = n) (hn0 : 0 ≤ n) (hn1 : n ≤ 63) (hq : True) : zo_ Tryz.prog 121 [.int .u8 16, .int .i64 a, .int .i64 b] [.gone] (.tup [.int .i64 (if a < b then a else b), .int .i64 0]) [.gone] := by
 have l1 := ya_ X
 have l2 := ya_ Y
 by_cases h0 : b = 0
 ·by_cases h1 : a < b
  ·rw [if_pos h1]
   refine ze_ (fn := Tryz.f121) 1 196 0 rfl rfl rfl rfl rfl u2_ rfl fun w0 M E hro => ?_
   repeat' (first | refine Ctl.h ?_ | ((with_reducible intro hif); first | (focus (cases hif; done)) | ((try simp only [JH] at hif); try (exfalso; omega))) | ((with_reducible first | apply J22 zm_ za_ | apply J23 fol zm_ za_ | apply J24); (·rfl); (· exact k53_); (try kernel_rfl); try exact k41_) | fail)
   apply At.endsRet za_ (fn := Tryz.f121) (rs := [.tmp 6, .tmp 7]) Anc.refl hro (lb_ rfl) rfl
   ·exact k11_
   ·exact yl_
   ·exact k6_
   ·rfl
   ·exact k7_
   ·exact zs_
   ·exact fun β => rfl
   ·exact k7_
  ·rw [if_neg h1]
   refine ze_ (fn := Tryz.f121) 1 196 0 rfl rfl rfl rfl rfl u2_ rfl fun w0 M E hro => ?_
   repeat' (first | refine Ctl.h ?_ | ((with_reducible intro hif); first | (focus (cases hif; done)) | ((try simp only [JH] at hif); try (exfalso; omega))) | ((with_reducible first | apply J22 zm_ za_ | apply J23 fol zm_ za_ | apply J24); (·rfl); (· exact k53_); (try kernel_rfl); try exact k41_) | fail)
   apply At.endsRet za_ (fn := Tryz.f121) (rs := [.tmp 6, .tmp 7]) Anc.refl hro (lb_ rfl) rfl
   ·exact k11_
   ·exact yl_
   ·exact k6_
   ·rfl
   ·exact k7_
   ·exact zs_
   ·exact fun β => rfl
   ·exact k7_
 ·by_cases h1 : a < b
  ·rw [if_pos h1]
   refine ze_ (fn := Tryz.f121) 1 196 0 rfl rfl rfl rfl rfl u2_ rfl fun w0 M E hro => ?_
   repeat' (first | refine Ctl.h ?_ | ((with_reducible intro hif); first | (focus (cases hif; done)) | ((try simp only [JH] at hif); try (exfalso; omega))) | ((with_reducible first | apply J22 zm_ za_ | apply J23 fol zm_ za_ | apply J24); (·rfl); (· exact k48_); (try kernel_rfl); try exact k41_) | fail)
   apply At.endsRet za_ (fn := Tryz.f121) (rs := [.tmp 6, .tmp 7]) Anc.refl hro (lb_ rfl) rfl
   ·exact k11_
   ·exact yl_
   ·exact k6_
   ·rfl
   ·exact k7_
   ·exact zs_
   ·exact fun β => rfl
   ·exact k7_
  ·rw [if_neg h1]
   refine ze_ (fn := Tryz.f121) 1 196 0 rfl rfl rfl rfl rfl u2_ rfl fun w0 M E hro => ?_
   repeat' (first | refine Ctl.h ?_ | ((with_reducible intro hif); first | (focus (cases hif; done)) | ((try simp only [JH] at hif); try (exfalso; omega))) | ((with_reducible first | apply J22 zm_ za_ | apply J23 fol zm_ za_ | apply J24); (·rfl); (· exact k48_); (try kernel_rfl); try exact k41_) | fail)
   apply At.endsRet za_ (fn := Tryz.f121) (rs := [.tmp 6, .tmp 7]) Anc.refl hro (lb_ rfl) rfl
   ·exact k11_
   ·exact yl_
   ·exact k6_
   ·rfl
   ·exact k7_
   ·exact zs_
   ·exact fun β => rfl
   ·exact k7_
theorem apk17 (a b : Int) (X Y P Q Rm D : BitVec 64) (n y0 y1 y2 y3 y4 y5 : Int) (ha0 : -9223372036854775808 ≤ a) (ha1 : a ≤ 9223372036854775807) (hb0 : -9223372036854775808 ≤ b) (hb1 : b ≤ 9223372036854775807)
 (hX : BitVec.ofInt 64 a = X) (hY : BitVec.ofInt 64 b = Y) (hP : amV a = P) (hQ : amV b = Q) (hQm : P % Q = Rm) (hQd : P / Q = D)
 (hy0 : (bl Y).getD 0 0 = y0) (hy1 : (bl Y).getD 1 0 = y1) (hy2 : (bl Y).getD 2 0 = y2) (hy3 : (bl Y).getD 3 0 = y3) (hy4 : (bl Y).getD 4 0 = y4) (hy5 : (bl Y).getD 5 0 = y5)
 (hz0 : 0 ≤ y0 ∧ y0 ≤ 1) (hz1 : 0 ≤ y1 ∧ y1 ≤ 1) (hz2 : 0 ≤ y2 ∧ y2 ≤ 1) (hz3 : 0 ≤ y3 ∧ y3 ≤ 1) (hz4 : 0 ≤ y4 ∧ y4 ≤ 1) (hz5 : 0 ≤ y5 ∧ y5 ≤ 1) (hn : y0 + 2 * y1 + 4 * y2 + 8 * y3 + 16 * y4 + 32 * y5 = n) (hn0 : 0 ≤ n) (hn1 : n ≤ 63) (hq : True) : zo_ Tryz.prog 121 [.int .u8 17, .int .i64 a, .int .i64 b] [.gone] (.tup [.int .i64 (if a < b then b else a), .int .i64 0]) [.gone] := by
 have l1 := ya_ X
 have l2 := ya_ Y
 by_cases h0 : b = 0
 ·by_cases h1 : a < b
  ·rw [if_pos h1]
   refine ze_ (fn := Tryz.f121) 1 196 0 rfl rfl rfl rfl rfl u2_ rfl fun w0 M E hro => ?_
   repeat' (first | refine Ctl.h ?_ | ((with_reducible intro hif); first | (focus (cases hif; done)) | ((try simp only [JH] at hif); try (exfalso; omega))) | ((with_reducible first | apply J22 zm_ za_ | apply J23 fol zm_ za_ | apply J24); (·rfl); (· exact k53_); (try kernel_rfl); try exact k41_) | fail)
   apply At.endsRet za_ (fn := Tryz.f121) (rs := [.tmp 6, .tmp 7]) Anc.refl hro (lb_ rfl) rfl
   ·exact k11_
   ·exact yl_
   ·exact k6_
   ·rfl
   ·exact k7_
   ·exact zs_
   ·exact fun β => rfl
   ·exact k7_
  ·rw [if_neg h1]
   refine ze_ (fn := Tryz.f121) 1 196 0 rfl rfl rfl rfl rfl u2_ rfl fun w0 M E hro => ?_
   repeat' (first | refine Ctl.h ?_ | ((with_reducible intro hif); first | (focus (cases hif; done)) | ((try simp only [JH] at hif); try (exfalso; omega))) | ((with_reducible first | apply J22 zm_ za_ | apply J23 fol zm_ za_ | apply J24); (·rfl); (· exact k53_); (try kernel_rfl); try exact k41_) | fail)
   apply At.endsRet za_ (fn := Tryz.f121) (rs := [.tmp 6, .tmp 7]) Anc.refl hro (lb_ rfl) rfl
   ·exact k11_
   ·exact yl_
   ·exact k6_
   ·rfl
   ·exact k7_
   ·exact zs_
   ·exact fun β => rfl
   ·exact k7_
 ·by_cases h1 : a < b
  ·rw [if_pos h1]
   refine ze_ (fn := Tryz.f121) 1 196 0 rfl rfl rfl rfl rfl u2_ rfl fun w0 M E hro => ?_
   repeat' (first | refine Ctl.h ?_ | ((with_reducible intro hif); first | (focus (cases hif; done)) | ((try simp only [JH] at hif); try (exfalso; omega))) | ((with_reducible first | apply J22 zm_ za_ | apply J23 fol zm_ za_ | apply J24); (·rfl); (· exact k48_); (try kernel_rfl); try exact k41_) | fail)
   apply At.endsRet za_ (fn := Tryz.f121) (rs := [.tmp 6, .tmp 7]) Anc.refl hro (lb_ rfl) rfl
   ·exact k11_
   ·exact yl_
   ·exact k6_
   ·rfl
   ·exact k7_
   ·exact zs_
   ·exact fun β => rfl
   ·exact k7_
  ·rw [if_neg h1]
   refine ze_ (fn := Tryz.f121) 1 196 0 rfl rfl rfl rfl rfl u2_ rfl fun w0 M E hro => ?_
   repeat' (first | refine Ctl.h ?_ | ((with_reducible intro hif); first | (focus (cases hif; done)) | ((try simp only [JH] at hif); try (exfalso; omega))) | ((with_reducible first | apply J22 zm_ za_ | apply J23 fol zm_ za_ | apply J24); (·rfl); (· exact k48_); (try kernel_rfl); try exact k41_) | fail)
   apply At.endsRet za_ (fn := Tryz.f121) (rs := [.tmp 6, .tmp 7]) Anc.refl hro (lb_ rfl) rfl
   ·exact k11_
   ·exact yl_
   ·exact k6_
   ·rfl
   ·exact k7_
   ·exact zs_
   ·exact fun β => rfl
   ·exact k7_
end Go.Proofs.YtjliakjbdcplcaaGreat.Vm
end
section
open Go.Proofs.YtjliakjbdcplcaaGreat.Vm Go.RowKit
section
namespace Go.Proofs.YtjliakjbdcplcaaGreat.Vm
open Go.RowKit
theorem apV1 (a b : Int) (ha : R64 a) (hb : R64 b) : yp_ 1 a b = (oi a + oi b).toInt := by
 rw [yp_, if_pos (by simp [yj_]), ← ap1]
 rfl
theorem apV2 (a b : Int) (ha : R64 a) (hb : R64 b) : yp_ 2 a b = (oi a - oi b).toInt := by
 rw [yp_, if_pos (by simp [yj_]), ← ap2]
 rfl
theorem apV3 (a b : Int) (ha : R64 a) (hb : R64 b) : yp_ 3 a b = (oi a * oi b).toInt := by
 rw [yp_, if_pos (by simp [yj_]), ← ap3]
 rfl
theorem apV4 (a b : Int) (ha : R64 a) (hb : R64 b) (h0 : ¬ b = 0) : yp_ 4 a b = (if ((decide (a < 0)) != (decide (b < 0))) = true then -(amV a / amV b) else amV a / amV b).toInt := by
 rw [yp_, if_pos (by simp [yj_, h0]), ← ap4 ha hb]
 rfl
theorem apV5 (a b : Int) (ha : R64 a) (hb : R64 b) (h0 : ¬ b = 0) : yp_ 5 a b = (if decide (a < 0) = true then -(amV a % amV b) else amV a % amV b).toInt := by
 rw [yp_, if_pos (by simp [yj_, h0]), ← ap5 ha hb h0]
 rfl
theorem apV6 (a b : Int) (ha : R64 a) (hb : R64 b) (h0 : ¬ b = 0) : yp_ 6 a b = (if a < 0 ∧ (amV a % amV b).toInt ≠ 0 then amV b - amV a % amV b else amV a % amV b).toInt := by
 have e : yp_ 6 a b = modI a b := by rw [yp_, if_pos (by simp [yj_, h0])]; simp [ym_]
 rw [e]
 split
 ·rename_i h; exact ap6b ha hb h0 h.1 h.2
 ·rename_i h; exact ap6a ha hb h0 h
theorem apV7 (a b : Int) (ha : R64 a) (hb : R64 b) : yp_ 7 a b = (bwV 7 (oi a) (oi b)).toInt := by
 rw [yp_, if_pos (by simp [yj_]), show bwV 7 (oi a) (oi b) = oi a &&& oi b by simp [bwV], ← ap7]
 rfl
theorem apV8 (a b : Int) (ha : R64 a) (hb : R64 b) : yp_ 8 a b = (bwV 8 (oi a) (oi b)).toInt := by
 rw [yp_, if_pos (by simp [yj_]), show bwV 8 (oi a) (oi b) = oi a ||| oi b by simp [bwV], ← ap8]
 rfl
theorem apV9 (a b : Int) (ha : R64 a) (hb : R64 b) : yp_ 9 a b = (bwV 9 (oi a) (oi b)).toInt := by
 rw [yp_, if_pos (by simp [yj_]), show bwV 9 (oi a) (oi b) = oi a ^^^ oi b by simp [bwV], ← ap9]
 rfl
theorem apV10 (a b : Int) (ha : R64 a) (hb : R64 b) : yp_ 10 a b = (oi a <<< (nY (oi b)).toNat).toInt := by
 rw [yp_, if_pos (by simp [yj_]), ← ap10 a (show (nY (oi b)).toNat ≤ 63 by have := nY_bd (oi b); omega), ← nY_sh]
 rfl
theorem apV11 (a b : Int) (ha : R64 a) (hb : R64 b) : yp_ 11 a b = (dnV (oi a) (nY (oi b)).toNat false).toInt := by
 rw [yp_, if_pos (by simp [yj_]), ← ap11, ← nY_sh]
 rfl
theorem apV12 (a b : Int) (ha : R64 a) (hb : R64 b) : yp_ 12 a b = (dnV (oi a) (nY (oi b)).toNat ((oi a).getLsbD 63)).toInt := by
 rw [yp_, if_pos (by simp [yj_]), ← ap12 ha, ← nY_sh]
 rfl
theorem apV13 (a b : Int) (ha : R64 a) (hb : R64 b) : yp_ 13 a b = bI (decide (a < b)) := by
 rw [yp_, if_pos (by simp [yj_]), ← truth_bI]
 rfl
theorem apV14 (a b : Int) (ha : R64 a) (hb : R64 b) : yp_ 14 a b = bI (decide ((oi a).toNat < (oi b).toNat)) := by
 rw [yp_, if_pos (by simp [yj_]), ← truth_bI, ← ap14]
 rfl
theorem apV15 (a b : Int) (ha : R64 a) (hb : R64 b) : yp_ 15 a b = bI (decide (a = b)) := by
 rw [yp_, if_pos (by simp [yj_]), ← truth_bI]
 show truthI (a == b) = _
 by_cases h : a = b
 ·subst h; simp
 ·rw [decide_eq_false h, beq_eq_false_iff_ne.mpr h]
theorem apV16 (a b : Int) (ha : R64 a) (hb : R64 b) : yp_ 16 a b = (if a < b then a else b) := by
 rw [yp_, if_pos (by simp [yj_])]
 show (if b < a then b else a) = _
 split <;> split <;> omega
theorem apV17 (a b : Int) (ha : R64 a) (hb : R64 b) : yp_ 17 a b = (if a < b then b else a) := by
 rw [yp_, if_pos (by simp [yj_])]
 show (if a < b then b else a) = _
 rfl
theorem apw1 (op a b : Int) (h : op < 1) : zo_ Tryz.prog 121 [.int .u8 op, .int .i64 a, .int .i64 b] [.gone] (.tup [.int .i64 0, .int .i64 130]) [.gone] := by
 refine ze_ (fn := Tryz.f121) 1 196 0 rfl rfl rfl rfl rfl u2_ rfl fun w0 M E hro => ?_
 repeat' (first | refine Ctl.h ?_ | ((with_reducible intro hif); first | (focus (cases hif; done)) | ((try simp only [JH] at hif); try (exfalso; omega))) | ((with_reducible first | apply J22 zm_ za_ | apply J23 fol zm_ za_ | apply J24); (·rfl); (· (simp only [push_cast, ↓JP, Nat.reduceAdd, Nat.reduceEqDiff, Nat.reduceLT, Nat.reduceMul, Nat.reduceLeDiff, reduceCtorEq, reduceIte, zw_, zy_, iOf, inR, inN, h]; rfl)); (try kernel_rfl); try exact k25_) | fail)
 apply At.endsRet za_ (fn := Tryz.f121) (rs := [.tmp 6, .tmp 7]) Anc.refl hro (lb_ rfl) rfl
 ·exact k11_
 ·exact yl_
 ·exact k6_
 ·rfl
 ·exact k7_
 ·exact zs_
 ·exact fun β => rfl
 ·exact k7_
theorem apw2 (op a b : Int) (h : ¬ op < 1) (h2 : 17 < op) : zo_ Tryz.prog 121 [.int .u8 op, .int .i64 a, .int .i64 b] [.gone] (.tup [.int .i64 0, .int .i64 130]) [.gone] := by
 refine ze_ (fn := Tryz.f121) 1 196 0 rfl rfl rfl rfl rfl u2_ rfl fun w0 M E hro => ?_
 repeat' (first | refine Ctl.h ?_ | ((with_reducible intro hif); first | (focus (cases hif; done)) | ((try simp only [JH] at hif); try (exfalso; omega))) | ((with_reducible first | apply J22 zm_ za_ | apply J23 fol zm_ za_ | apply J24); (·rfl); (· (simp only [push_cast, ↓JP, Nat.reduceAdd, Nat.reduceEqDiff, Nat.reduceLT, Nat.reduceMul, Nat.reduceLeDiff, reduceCtorEq, reduceIte, zw_, zy_, iOf, inR, inN, h, h2]; rfl)); (try kernel_rfl); try exact k25_) | fail)
 apply At.endsRet za_ (fn := Tryz.f121) (rs := [.tmp 6, .tmp 7]) Anc.refl hro (lb_ rfl) rfl
 ·exact k11_
 ·exact yl_
 ·exact k6_
 ·rfl
 ·exact k7_
 ·exact zs_
 ·exact fun β => rfl
 ·exact k7_
theorem apw3 (op a b : Int) (h : ¬ op < 1) (h2 : ¬ 17 < op) (h3 : 4 ≤ op) (h4 : op ≤ 6) (h5 : b = 0) : zo_ Tryz.prog 121 [.int .u8 op, .int .i64 a, .int .i64 b] [.gone] (.tup [.int .i64 0, .int .i64 131]) [.gone] := by
 refine ze_ (fn := Tryz.f121) 1 196 0 rfl rfl rfl rfl rfl u2_ rfl fun w0 M E hro => ?_
 repeat' (first | refine Ctl.h ?_ | ((with_reducible intro hif); first | (focus (cases hif; done)) | ((try simp only [JH] at hif); try (exfalso; omega))) | ((with_reducible first | apply J22 zm_ za_ | apply J23 fol zm_ za_ | apply J24); (·rfl); (· (simp only [push_cast, ↓JP, Nat.reduceAdd, Nat.reduceEqDiff, Nat.reduceLT, Nat.reduceMul, Nat.reduceLeDiff, reduceCtorEq, reduceIte, zw_, zy_, iOf, inR, inN, h, h2, h3, h4, (eq_true h5)]; rfl)); (try kernel_rfl); try exact k25_) | fail)
 apply At.endsRet za_ (fn := Tryz.f121) (rs := [.tmp 6, .tmp 7]) Anc.refl hro (lb_ rfl) rfl
 ·exact k11_
 ·exact yl_
 ·exact k6_
 ·rfl
 ·exact k7_
 ·exact zs_
 ·exact fun β => rfl
 ·exact k7_
theorem apply_lit (op a b : Int) (ha0 : -9223372036854775808 ≤ a) (ha1 : a ≤ 9223372036854775807) (hb0 : -9223372036854775808 ≤ b) (hb1 : b ≤ 9223372036854775807) : zo_ Tryz.prog 121 [.int .u8 op, .int .i64 a, .int .i64 b] [.gone] (.tup [.int .i64 (yp_ op a b), .int .i64 (yj_ op b)]) [.gone] := by
 have ha : R64 a := ⟨ha0, ha1⟩
 have hb : R64 b := ⟨hb0, hb1⟩
 by_cases h1 : op < 1
 ·have e : yj_ op b = 130 := by rw [yj_, if_pos (.inl h1)]
  rw [yp_, e, if_neg (by decide)]
  exact apw1 op a b h1
 by_cases h2 : 17 < op
 ·have e : yj_ op b = 130 := by rw [yj_, if_pos (.inr h2)]
  rw [yp_, e, if_neg (by decide)]
  exact apw2 op a b h1 h2
 by_cases h3 : 4 ≤ op ∧ op ≤ 6 ∧ b = 0
 ·have e : yj_ op b = 131 := by rw [yj_, if_neg (by omega), if_pos ⟨h3.2.2, h3.1, h3.2.1⟩]
  rw [yp_, e, if_neg (by decide)]
  exact apw3 op a b h1 h2 h3.1 h3.2.1 h3.2.2
 have e0 : yj_ op b = 0 := by rw [yj_, if_neg (by omega), if_neg (by omega)]
 rw [e0]
 have hop : op = 1 ∨ op = 2 ∨ op = 3 ∨ op = 4 ∨ op = 5 ∨ op = 6 ∨ op = 7 ∨ op = 8 ∨ op = 9 ∨ op = 10 ∨ op = 11 ∨ op = 12 ∨ op = 13 ∨ op = 14 ∨ op = 15 ∨ op = 16 ∨ op = 17 := by omega
 have hY := nY_bd (oi b)
 rcases hop with h | h | h | h | h | h | h | h | h | h | h | h | h | h | h | h | h <;> subst h
 ·rw [apV1 a b ha hb]
  exact apk1 a b _ _ _ _ _ _ _ _ _ _ _ _ _ ha0 ha1 hb0 hb1 rfl rfl rfl rfl rfl rfl (zi_ (by decide)) (zi_ (by decide)) (zi_ (by decide)) (zi_ (by decide)) (zi_ (by decide)) (zi_ (by decide)) (zz_ _) (zz_ _) (zz_ _) (zz_ _) (zz_ _) (zz_ _) rfl hY.1 hY.2 trivial
 ·rw [apV2 a b ha hb]
  exact apk2 a b _ _ _ _ _ _ _ _ _ _ _ _ _ ha0 ha1 hb0 hb1 rfl rfl rfl rfl rfl rfl (zi_ (by decide)) (zi_ (by decide)) (zi_ (by decide)) (zi_ (by decide)) (zi_ (by decide)) (zi_ (by decide)) (zz_ _) (zz_ _) (zz_ _) (zz_ _) (zz_ _) (zz_ _) rfl hY.1 hY.2 trivial
 ·rw [apV3 a b ha hb]
  exact apk3 a b _ _ _ _ _ _ _ _ _ _ _ _ _ ha0 ha1 hb0 hb1 rfl rfl rfl rfl rfl rfl (zi_ (by decide)) (zi_ (by decide)) (zi_ (by decide)) (zi_ (by decide)) (zi_ (by decide)) (zi_ (by decide)) (zz_ _) (zz_ _) (zz_ _) (zz_ _) (zz_ _) (zz_ _) rfl hY.1 hY.2 trivial
 ·rw [apV4 a b ha hb (by omega)]
  exact apk4 a b _ _ _ _ _ _ _ _ _ _ _ _ _ ha0 ha1 hb0 hb1 rfl rfl rfl rfl rfl rfl (zi_ (by decide)) (zi_ (by decide)) (zi_ (by decide)) (zi_ (by decide)) (zi_ (by decide)) (zi_ (by decide)) (zz_ _) (zz_ _) (zz_ _) (zz_ _) (zz_ _) (zz_ _) rfl hY.1 hY.2 (by rw [amV_nat hb]; omega) (by omega)
 ·rw [apV5 a b ha hb (by omega)]
  exact apk5 a b _ _ _ _ _ _ _ _ _ _ _ _ _ ha0 ha1 hb0 hb1 rfl rfl rfl rfl rfl rfl (zi_ (by decide)) (zi_ (by decide)) (zi_ (by decide)) (zi_ (by decide)) (zi_ (by decide)) (zi_ (by decide)) (zz_ _) (zz_ _) (zz_ _) (zz_ _) (zz_ _) (zz_ _) rfl hY.1 hY.2 (by rw [amV_nat hb]; omega) (by omega)
 ·rw [apV6 a b ha hb (by omega)]
  exact apk6 a b _ _ _ _ _ _ _ _ _ _ _ _ _ ha0 ha1 hb0 hb1 rfl rfl rfl rfl rfl rfl (zi_ (by decide)) (zi_ (by decide)) (zi_ (by decide)) (zi_ (by decide)) (zi_ (by decide)) (zi_ (by decide)) (zz_ _) (zz_ _) (zz_ _) (zz_ _) (zz_ _) (zz_ _) rfl hY.1 hY.2 (by rw [amV_nat hb]; omega) (by omega)
 ·rw [apV7 a b ha hb]
  exact apk7 a b _ _ _ _ _ _ _ _ _ _ _ _ _ ha0 ha1 hb0 hb1 rfl rfl rfl rfl rfl rfl (zi_ (by decide)) (zi_ (by decide)) (zi_ (by decide)) (zi_ (by decide)) (zi_ (by decide)) (zi_ (by decide)) (zz_ _) (zz_ _) (zz_ _) (zz_ _) (zz_ _) (zz_ _) rfl hY.1 hY.2 trivial
 ·rw [apV8 a b ha hb]
  exact apk8 a b _ _ _ _ _ _ _ _ _ _ _ _ _ ha0 ha1 hb0 hb1 rfl rfl rfl rfl rfl rfl (zi_ (by decide)) (zi_ (by decide)) (zi_ (by decide)) (zi_ (by decide)) (zi_ (by decide)) (zi_ (by decide)) (zz_ _) (zz_ _) (zz_ _) (zz_ _) (zz_ _) (zz_ _) rfl hY.1 hY.2 trivial
 ·rw [apV9 a b ha hb]
  exact apk9 a b _ _ _ _ _ _ _ _ _ _ _ _ _ ha0 ha1 hb0 hb1 rfl rfl rfl rfl rfl rfl (zi_ (by decide)) (zi_ (by decide)) (zi_ (by decide)) (zi_ (by decide)) (zi_ (by decide)) (zi_ (by decide)) (zz_ _) (zz_ _) (zz_ _) (zz_ _) (zz_ _) (zz_ _) rfl hY.1 hY.2 trivial
 ·rw [apV10 a b ha hb]
  exact apk10 a b _ _ _ _ _ _ _ _ _ _ _ _ _ ha0 ha1 hb0 hb1 rfl rfl rfl rfl rfl rfl (zi_ (by decide)) (zi_ (by decide)) (zi_ (by decide)) (zi_ (by decide)) (zi_ (by decide)) (zi_ (by decide)) (zz_ _) (zz_ _) (zz_ _) (zz_ _) (zz_ _) (zz_ _) rfl hY.1 hY.2 trivial
 ·rw [apV11 a b ha hb]
  exact apk11 a b _ _ _ _ _ _ _ _ _ _ _ _ _ ha0 ha1 hb0 hb1 rfl rfl rfl rfl rfl rfl (zi_ (by decide)) (zi_ (by decide)) (zi_ (by decide)) (zi_ (by decide)) (zi_ (by decide)) (zi_ (by decide)) (zz_ _) (zz_ _) (zz_ _) (zz_ _) (zz_ _) (zz_ _) rfl hY.1 hY.2 trivial
 ·rw [apV12 a b ha hb]
  exact apk12 a b _ _ _ _ _ _ _ _ _ _ _ _ _ ha0 ha1 hb0 hb1 rfl rfl rfl rfl rfl rfl (zi_ (by decide)) (zi_ (by decide)) (zi_ (by decide)) (zi_ (by decide)) (zi_ (by decide)) (zi_ (by decide)) (zz_ _) (zz_ _) (zz_ _) (zz_ _) (zz_ _) (zz_ _) rfl hY.1 hY.2 trivial
 ·rw [apV13 a b ha hb]
  exact apk13 a b _ _ _ _ _ _ _ _ _ _ _ _ _ ha0 ha1 hb0 hb1 rfl rfl rfl rfl rfl rfl (zi_ (by decide)) (zi_ (by decide)) (zi_ (by decide)) (zi_ (by decide)) (zi_ (by decide)) (zi_ (by decide)) (zz_ _) (zz_ _) (zz_ _) (zz_ _) (zz_ _) (zz_ _) rfl hY.1 hY.2 trivial
 ·rw [apV14 a b ha hb]
  exact apk14 a b _ _ _ _ _ _ _ _ _ _ _ _ _ ha0 ha1 hb0 hb1 rfl rfl rfl rfl rfl rfl (zi_ (by decide)) (zi_ (by decide)) (zi_ (by decide)) (zi_ (by decide)) (zi_ (by decide)) (zi_ (by decide)) (zz_ _) (zz_ _) (zz_ _) (zz_ _) (zz_ _) (zz_ _) rfl hY.1 hY.2 trivial
 ·rw [apV15 a b ha hb]
  exact apk15 a b _ _ _ _ _ _ _ _ _ _ _ _ _ ha0 ha1 hb0 hb1 rfl rfl rfl rfl rfl rfl (zi_ (by decide)) (zi_ (by decide)) (zi_ (by decide)) (zi_ (by decide)) (zi_ (by decide)) (zi_ (by decide)) (zz_ _) (zz_ _) (zz_ _) (zz_ _) (zz_ _) (zz_ _) rfl hY.1 hY.2 trivial
 ·rw [apV16 a b ha hb]
  exact apk16 a b _ _ _ _ _ _ _ _ _ _ _ _ _ ha0 ha1 hb0 hb1 rfl rfl rfl rfl rfl rfl (zi_ (by decide)) (zi_ (by decide)) (zi_ (by decide)) (zi_ (by decide)) (zi_ (by decide)) (zi_ (by decide)) (zz_ _) (zz_ _) (zz_ _) (zz_ _) (zz_ _) (zz_ _) rfl hY.1 hY.2 trivial
 ·rw [apV17 a b ha hb]
  exact apk17 a b _ _ _ _ _ _ _ _ _ _ _ _ _ ha0 ha1 hb0 hb1 rfl rfl rfl rfl rfl rfl (zi_ (by decide)) (zi_ (by decide)) (zi_ (by decide)) (zi_ (by decide)) (zi_ (by decide)) (zi_ (by decide)) (zz_ _) (zz_ _) (zz_ _) (zz_ _) (zz_ _) (zz_ _) rfl hY.1 hY.2 trivial
def sRAp : yq_ := fun args h m => match args with
 | [v1, v2, v3] => bif isI .u8 v1 && isI .i64 v2 && isI .i64 v3 then some ((-9223372036854775808 ≤ (iOf v2)) ∧ ((iOf v2) ≤ 9223372036854775807) ∧ (-9223372036854775808 ≤ (iOf v3)) ∧ ((iOf v3) ≤ 9223372036854775807), .tup [.int .i64 (yp_ (iOf v1) (iOf v2) (iOf v3)), .int .i64 (yj_ (iOf v1) (iOf v3))], [], []) else none
 | _ => none
theorem sRAp_ok : zj_ Tryz.prog 121 sRAp := by
 refine ⟨zf_ (by kernel_rfl), fun args h m c v rd wr hs hm hc w0 M β h' w R hrd hwr hst => ?_⟩
 unfold sRAp at hs
 split at hs
 ·rename_i v1 v2 v3
  obtain ⟨hb, hs⟩ := zk_ hs
  simp only [Option.some.injEq, Prod.mk.injEq] at hs
  obtain ⟨rfl, rfl, rfl, rfl⟩ := hs
  simp only [Bool.and_eq_true] at hb
  obtain ⟨⟨b1, b2⟩, b3⟩ := hb
  obtain ⟨y1, y2, y3, y4⟩ := hc
  refine yf_ (views := []) (apply_lit (iOf v1) (iOf v2) (iOf v3) y1 y2 y3 y4) ?_ R hm hwr ?_ ?_ ?_
  ·intro x hx; cases hx
  ·intro β1 hv
   simp only [denL, z7_, z6_, z5_, zr_, zb_, zc_ b1, zc_ b2, zc_ b3]
  ·exact k7_
  ·exact k7_
 ·cases hs
def zF (x n : Nat) : Nat := x ^^^ x / 2 ^ n
def zV (x n j : Nat) : Nat := zF x n % 2 ^ j
def b2 (b : Bool) : Nat := if b then 1 else 0
theorem bit_div (x j : Nat) : x / 2 ^ j % 2 = b2 (x.testBit j) := by
 rw [Nat.testBit_eq_decide_div_mod_eq, b2]
 have h := Nat.mod_two_eq_zero_or_one (x / 2 ^ j)
 rcases h with h | h <;> simp [h]
theorem zF_bit (x n j : Nat) : (zF x n).testBit j = (x.testBit j ^^ x.testBit (j + n)) := by
 rw [zF, Nat.testBit_xor, Nat.testBit_div_two_pow]
theorem zV_next (x n j : Nat) : zV x n (j + 1) = zV x n j + (if (x.testBit j ^^ x.testBit (j + n)) then 2 ^ j else 0) := by
 rw [zV, mod_next, zF_bit]; rfl
theorem fold_lit (x n : Nat) (hx : x < 18446744073709551616) (hn : n ≤ 64) : zo_ Tryz.prog 160 [.nat .u64 x, .nat .i64 n] [.gone] (.nat .u64 (zF x n)) [.gone] := by
 have hz0 : zV x n 0 = 0 := Nat.mod_one _
 refine ze_ (fn := Tryz.f160) 1 35 0 rfl rfl rfl rfl rfl (by simp only [zd_, Stable, hp, i64S]; simp [HB.born]) rfl fun w0 M E hro => ?_
 repeat' (first | refine Ctl.h ?_ | ((with_reducible intro hif); first | (focus (cases hif; done)) | ((try simp only [JH] at hif); try (exfalso; omega))) | ((with_reducible first | apply J22 zq_ za_ | apply J23 fol zq_ za_ | apply J24); (·rfl); (· exact k20_); (try kernel_rfl); try exact yk_) | fail)
 refine WF.loopAt (fun (j : Nat) => j ≤ 64) (fun (j : Nat) => [(0, .nat .u64 x), (1, .nat .i64 n), (5, .nat .u64 (zV x n j)), (6, .nat .i64 j)]) (fun (j : Nat) => [.gone]) (fun (j : Nat) => 64 - j) 0 (Nat.zero_le _) ?_ ?_ rfl ?_ ?_ rfl ?_
 ·exact k17_
 ·exact k6_
 ·exact k45_
 ·exact k45_
 intro j hj
 by_cases hjl : j < 64
 ·have hpl : 2 ^ j ≤ 2 ^ 63 := Nat.pow_le_pow_right (by decide) (by omega)
  have h63 : (2 : Nat) ^ 63 = 9223372036854775808 := by decide
  rw [h63] at hpl
  have hmd : zV x n j < 2 ^ j := Nat.mod_lt _ (Nat.pow_pos (by decide))
  have hmn := zV_next x n j
  have hb1 := bit_div x j
  have hb2 := bit_div x (j + n)
  have hm1 : min j 64 = j := by omega
  by_cases hjn : j + n < 64
  ·have hm2 : min (j + n) 64 = j + n := by omega
   cases hc : x.testBit j <;> cases hd : x.testBit (j + n)
   all_goals
    rw [hc, hd] at hmn
    rw [hc] at hb1
    rw [hd] at hb2
    simp only [b2, Bool.xor_true, Bool.xor_false, Bool.not_true, Bool.not_false, if_true, Bool.false_eq_true, if_false, Nat.add_zero] at hmn hb1 hb2
    repeat' (first | refine Ctl.h ?_ | ((with_reducible intro hif); first | (focus (cases hif; done)) | ((try simp only [JH] at hif); try (exfalso; omega))) | ((with_reducible first | apply J22 zq_ za_ | apply J23 fol zq_ za_ | apply J24); (·rfl); (· (simp only [push_cast, ↓JP, Nat.reduceAdd, Nat.reduceEqDiff, Nat.reduceLT, Nat.reduceMul, Nat.reduceLeDiff, reduceCtorEq, reduceIte, hjl, hjn, hm1, hm2, hb1, hb2, inR, inN, IntKind.bits, Nat.reduceMod, Nat.zero_mul, Nat.one_mul, Nat.add_zero]; rfl)); (try kernel_rfl); try exact k26_) | fail)
    refine At.next (j + 1) ?_ ?_ ?_ rfl ?_ ?_ rfl
    ·exact ⟨by omega, by omega⟩
    ·exact k46_
    ·exact k6_
    ·exact k45_
    ·exact k45_
  ·have hd : x.testBit (j + n) = false := Nat.testBit_lt_two_pow (Nat.lt_of_lt_of_le hx (by rw [show 18446744073709551616 = 2 ^ 64 by decide]; exact Nat.pow_le_pow_right (by decide) (by omega)))
   cases hc : x.testBit j
   all_goals
    rw [hc, hd] at hmn
    rw [hc] at hb1
    simp only [b2, Bool.xor_true, Bool.xor_false, Bool.not_true, Bool.not_false, if_true, Bool.false_eq_true, if_false, Nat.add_zero] at hmn hb1
    repeat' (first | refine Ctl.h ?_ | ((with_reducible intro hif); first | (focus (cases hif; done)) | ((try simp only [JH] at hif); try (exfalso; omega))) | ((with_reducible first | apply J22 zq_ za_ | apply J23 fol zq_ za_ | apply J24); (·rfl); (· (simp only [push_cast, ↓JP, Nat.reduceAdd, Nat.reduceEqDiff, Nat.reduceLT, Nat.reduceMul, Nat.reduceLeDiff, reduceCtorEq, reduceIte, hjl, hjn, hm1, hb1, inR, inN, IntKind.bits, Nat.reduceMod, Nat.zero_mul, Nat.one_mul, Nat.add_zero]; rfl)); (try kernel_rfl); try exact k26_) | fail)
    refine At.next (j + 1) ?_ ?_ ?_ rfl ?_ ?_ rfl
    ·exact ⟨by omega, by omega⟩
    ·exact k46_
    ·exact k6_
    ·exact k45_
    ·exact k45_
 ·obtain rfl : j = 64 := by omega
  have hz : zV x n 64 = zF x n := Nat.mod_eq_of_lt (Nat.xor_lt_two_pow hx (Nat.lt_of_le_of_lt (Nat.div_le_self ..) hx))
  repeat' (first | refine Ctl.h ?_ | ((with_reducible intro hif); first | (focus (cases hif; done)) | ((try simp only [JH] at hif); try (exfalso; omega))) | ((with_reducible first | apply J22 zq_ za_ | apply J23 fol zq_ za_ | apply J24); (·rfl); (· exact k22_); (try kernel_rfl); try exact yk_) | fail)
  apply At.endsRet za_ (fn := Tryz.f160) (rs := [.tmp 4]) Anc.refl hro (lb_ rfl) rfl
  ·exact k11_
  ·exact yl_
  ·exact k6_
  ·rfl
  ·exact k45_
  ·exact zs_
  ·(intro β; first | rfl | (rw [hz]; rfl))
  ·exact k45_
theorem calls_of_lit {f : FuncId} {args : List SV} {W : World} {v : SV} (H : zo_ Tryz.prog f args [.gone] v [.gone]) (hv : ∀ β, v.den β = v.den (fun _ => (none, 0))) :
  Calls Tryz.prog f (denL (fun _ => (none, 0)) args).toArray W fun e W' => e = .returned (v.den fun _ => (none, 0)) ∧ Below W.heap.size W W' :=
 (H W _ _ W (start W)).mono fun e W' ⟨β', _, R', _, he⟩ => ⟨by rw [he, hv], R'.os, R'.tape, R'.output, R'.size, fun k hk => R'.frame k hk id⟩
theorem rfold_c (x n : Int) (w : World) (h0 : 0 ≤ x) (h1 : x < 18446744073709551616) (hn0 : 0 ≤ n) (hn : n ≤ 64) : Calls Tryz.prog 160 #[.int .u64 x, .int .i64 n] w fun e w' => e = .returned (.int .u64 (bits .xor .u64 x (x / 2 ^ n.toNat))) ∧ Below w.heap.size w w' := by
 obtain ⟨X, rfl⟩ : ∃ X : Nat, x = (X : Int) := ⟨x.toNat, by omega⟩
 obtain ⟨k, rfl⟩ : ∃ k : Nat, n = (k : Int) := ⟨n.toNat, by omega⟩
 have h := calls_of_lit (W := w) (fold_lit X k (by omega) (by omega)) fun β => rfl
 have e : bits .xor .u64 (X : Int) ((X : Int) / 2 ^ (k : Int).toNat) = ((zF X k : Nat) : Int) := by
  have h := xorShift_u64 X (2 ^ k) (by omega)
  have e2 : ((2 ^ k : Nat) : Int) = (2 : Int) ^ k := by simp
  rw [e2] at h
  exact h
 rw [e]
 exact h
def u64S (l : List Int) : Nat → SV := fun q => .int .u64 (l.getD q 0)
theorem u64S_stable {h : HM} {l : List Int} (q : Nat) : Stable h (u64S l q) := trivial
def uwV (l : List Int) : List Value := l.map fun x => .int .u64 x
theorem elems_u64 {β : Env} {n : Nat} {f : Nat → SV} (hf : ∀ q, q < n → isI .u64 (f q) = true) : z1_ β 1 n f = uwV (ls iOf n f) := by
 rw [elems_ls (cells := fun x => [.int .u64 x]) isI_cl (fun _ => rfl) hf]
 unfold uwV
 rw [List.flatMap_def]
 induction ls iOf n f with
 | nil => rfl
 | cons x l ih => simp [ih]
theorem elems_u64S {β : Env} (l : List Int) : z1_ β 1 l.length (u64S l) = uwV l := by
 rw [elems_u64 (fun q _ => rfl), show ls iOf l.length (u64S l) = l from ls_of (g := iOf) (e := fun x => .int .u64 x) (fun _ => rfl) l 0]
theorem viewU64 {w : World} {β : Env} {A : Option Addr} {n cap : Nat} {f : Nat → SV} (hr : yv_ w w.heap.size 1 A n (z1_ β 1 n f)) (hn : n ≤ cap) (hf : ∀ q, q < n → isI .u64 (f q) = true) : (View.mk 1 (ls iOf n f).length (u64S (ls iOf n f)) A cap).Ok w :=
 ⟨fun β' => by rw [elems_u64S, zb_]; rwa [elems_u64 hf] at hr, by rw [zb_]; exact hn, fun h q => u64S_stable q, Nat.succ_pos _⟩
def sRFold : yq_ := fun args _ _ => match args with
 | [a, b] => bif isI .u64 a && isI .i64 b then some ((0 ≤ iOf a ∧ iOf a < 18446744073709551616) ∧ 0 ≤ iOf b ∧ iOf b ≤ 64, .int .u64 (foldI (iOf a) (iOf b)), [], []) else none
 | _ => none
theorem sRFold_ok : zj_ Tryz.prog 160 sRFold := by
 refine ⟨zf_ (by kernel_rfl), fun args h m c v rd wr hs hm hc w0 M β h' w R hrd hwr hst => ?_⟩
 unfold sRFold at hs
 split at hs
 ·rename_i a b
  obtain ⟨hb, hs⟩ := zk_ hs
  simp only [Option.some.injEq, Prod.mk.injEq] at hs
  obtain ⟨rfl, rfl, rfl, rfl⟩ := hs
  simp only [Bool.and_eq_true] at hb
  obtain ⟨b1, b2⟩ := hb
  obtain ⟨⟨c1, c2⟩, c3, c4⟩ := hc
  simp only [denL, zc_ b1, zc_ b2]
  exact (rfold_c (iOf a) (iOf b) w c1 c2 c3 c4).mono fun e w' he => post_read R trivial rfl he.1 he.2
 ·cases hs
def cMx : FuncId → Option yq_ := y3_ [(160, sRFold)]
theorem cMx_ok : ∀ f S, cMx f = some S → zj_ Tryz.prog f S := zp_ ⟨sRFold_ok, trivial⟩
theorem mix_lit (x : Int) (h0 : 0 ≤ x) (h1 : x < 18446744073709551616) : zo_ Tryz.prog 142 [.int .u64 x] [.gone] (.int .u64 (mixI x)) [.gone] := by
 obtain ⟨m1, hm1⟩ : ∃ m, IntKind.u64.wrap (foldI x 30 * 13787848793156543929) = m := ⟨_, rfl⟩
 obtain ⟨m2, hm2⟩ : ∃ m, IntKind.u64.wrap (foldI m1 27 * 10723151780598845931) = m := ⟨_, rfl⟩
 have e : mixI x = foldI m2 31 := by rw [mixI, hm1, hm2]
 have b1 := u64_bd (foldI x 30 * 13787848793156543929)
 have b2 := u64_bd (foldI m1 27 * 10723151780598845931)
 rw [hm1] at b1
 rw [hm2] at b2
 rw [e]
 refine ze_ (fn := Tryz.f142) 1 11 0 rfl rfl rfl rfl rfl u4_ rfl fun w0 M E hro => ?_
 repeat' (first | refine Ctl.h ?_ | ((with_reducible intro hif); first | (focus (cases hif; done)) | ((try simp only [JH] at hif); try (exfalso; omega))) | ((with_reducible first | apply J22 cMx_ok za_ | apply J23 fol cMx_ok za_ | apply J24); (·rfl); (· (simp only [push_cast, ↓JP, Nat.reduceAdd, Nat.reduceEqDiff, Nat.reduceLT, Nat.reduceMul, Nat.reduceLeDiff, reduceCtorEq, reduceIte, cMx, sRFold, zw_, zy_, iOf, Int.cast_ofNat_Int, hm1, hm2, inR, inN]; rfl)); (try kernel_rfl); try exact k24_) | fail)
 apply At.endsRet za_ (fn := Tryz.f142) (rs := [.tmp 2]) Anc.refl hro (lb_ rfl) rfl
 ·exact k11_
 ·exact yl_
 ·exact k6_
 ·rfl
 ·exact k47_
 ·exact zs_
 ·exact fun β => rfl
 ·exact k47_
def sRMix : yq_ := fun args h m => match args with
 | [v1] => bif isI .u64 v1 then some ((0 ≤ (iOf v1)) ∧ ((iOf v1) < 18446744073709551616), .int .u64 (mixI (iOf v1)), [], []) else none
 | _ => none
theorem sRMix_ok : zj_ Tryz.prog 142 sRMix := by
 refine ⟨zf_ (by kernel_rfl), fun args h m c v rd wr hs hm hc w0 M β h' w R hrd hwr hst => ?_⟩
 unfold sRMix at hs
 split at hs
 ·rename_i v1
  obtain ⟨hb, hs⟩ := zk_ hs
  simp only [Option.some.injEq, Prod.mk.injEq] at hs
  obtain ⟨rfl, rfl, rfl, rfl⟩ := hs
  have b1 := hb
  obtain ⟨y1, y2⟩ := hc
  refine yf_ (views := []) (mix_lit (iOf v1) y1 y2) ?_ R hm hwr ?_ ?_ ?_
  ·intro x hx; cases hx
  ·intro β1 hv
   simp only [denL, z7_, z6_, z5_, zr_, zb_, zc_ b1]
  ·exact k47_
  ·exact k47_
 ·cases hs
def jn1 (x : Int) : Int := mixI (IntKind.u64.wrap (IntKind.u64.wrap (11400714819323198485 + x) + IntKind.u64.wrap (0 * 11400714819323198485)))
def jn2 (x y : Int) : Int := mixI (IntKind.u64.wrap (IntKind.u64.wrap (11400714819323198485 + y) + IntKind.u64.wrap (jn1 x * 11400714819323198485)))
theorem jn2_key (x y : Int) : jn2 x y = keyI x y := by
 have e : jn1 x = mixI (IntKind.u64.wrap (IntKind.u64.wrap (11400714819323198485 + x))) := by
  rw [jn1]
  simp only [wrapU64]
  congr 1
  omega
 rw [jn2, e]; rfl
theorem ls1U (f : Nat → SV) : ls iOf 1 f = [iOf (f 0)] := rfl
theorem ls2U (f : Nat → SV) : ls iOf 2 f = [iOf (f 0), iOf (f 1)] := rfl
theorem ls0U (f : Nat → SV) : ls iOf 0 f = [] := rfl
theorem join0_lit (p1 : Nat) : zo_ Tryz.prog 161 [.sl 1 2 [] 1 0 0 (some p1)] [.gone, .gone, .ro (.arr 0 1 (u64S []))] (.int .u64 0) [.gone] := by
 refine ze_ (fn := Tryz.f161) 3 22 0 rfl rfl rfl rfl rfl u4_ rfl fun w0 M E hro => ?_
 repeat' (first | refine Ctl.h ?_ | ((with_reducible intro hif); first | (focus (cases hif; done)) | ((try simp only [JH] at hif); try (exfalso; omega))) | ((with_reducible first | apply J22 cMx_ok za_ | apply J23 fol cMx_ok za_ | apply J24); (·rfl); (· (simp only [push_cast, ↓JP, Nat.reduceAdd, Nat.reduceEqDiff, Nat.reduceLT, Nat.reduceMul, Nat.reduceLeDiff, reduceCtorEq, reduceIte, inR, inN]; rfl)); (try kernel_rfl); try exact k25_) | fail)
 apply At.endsRet za_ (fn := Tryz.f161) (rs := [.tmp 2]) Anc.refl hro (lb_ rfl) rfl
 ·exact k11_
 ·exact yl_
 ·exact k6_
 ·rfl
 ·exact k47_
 ·exact zs_
 ·exact fun β => rfl
 ·exact k47_
theorem join0_ok (l : List Int) (p1 : Nat) (h : l.length = 0) : zo_ Tryz.prog 161 [.sl 1 2 [] 1 0 l.length (some p1)] [.gone, .gone, .ro (.arr l.length 1 (u64S l))] (.int .u64 0) [.gone] := by
 obtain rfl := List.length_eq_zero_iff.mp h
 exact join0_lit p1
def sRJ0 : yq_ := fun args h m => match args with
 | [v1] => match xa_ h 1 (.tup []) v1 with
  | some (c1, n1, f1, r1) => some (c1 ∧ (∀ q, q < n1 → isI .u64 (f1 q) = true) ∧ ((ls iOf n1 f1).length = 0), .int .u64 0, r1, [])
  | _ => none
 | _ => none
theorem sRJ0_ok : zj_ Tryz.prog 161 sRJ0 := by
 refine ⟨zf_ (by kernel_rfl), fun args h m c v rd wr hs hm hc w0 M β h' w R hrd hwr hst => ?_⟩
 unfold sRJ0 at hs
 split at hs
 ·rename_i v1
  split at hs
  ·rename_i c1 n1 f1 r1 a1
   simp only [Option.some.injEq, Prod.mk.injEq] at hs
   obtain ⟨rfl, rfl, rfl, rfl⟩ := hs
   obtain ⟨k1, g1, y1⟩ := hc
   obtain ⟨A1, p1, d1, e1, t1⟩ := zg_ R a1 k1 (fun i hi => hrd i hi) (by omega)
   refine yf_ (views := [⟨1, (ls iOf n1 f1).length, u64S (ls iOf n1 f1), A1, p1⟩]) (join0_ok (ls iOf n1 f1) p1 y1) ?_ R hm hwr ?_ ?_ ?_
   ·intro x hx
    simp only [List.mem_cons, List.not_mem_nil, or_false] at hx
    subst hx
    ·exact viewU64 t1 e1 g1
   ·intro β1 hv
    simp only [Vd, zb_, and_true] at hv
    have z1 := hv
    simp only [denL, z7_, z6_, z5_, zr_, zb_, z1, d1]
   ·exact k47_
   ·exact k47_
  ·cases hs
 ·cases hs
def cJ0 : FuncId → Option yq_ := y3_ [(142, sRMix), (161, sRJ0)]
theorem cJ0_ok : ∀ f S, cJ0 f = some S → zj_ Tryz.prog f S := zp_ ⟨sRMix_ok, sRJ0_ok, trivial⟩
theorem join1_lit (x : Int) (p1 : Nat) : zo_ Tryz.prog 161 [.sl 1 2 [] 1 0 1 (some p1)] [.gone, .gone, .ro (.arr 1 1 (u64S [x]))] (.int .u64 (jn1 x)) [.gone] := by
 obtain ⟨m, hm⟩ : ∃ m, IntKind.u64.wrap (IntKind.u64.wrap (11400714819323198485 + x) + IntKind.u64.wrap (0 * 11400714819323198485)) = m := ⟨_, rfl⟩
 have b1 := u64_bd (IntKind.u64.wrap (11400714819323198485 + x) + IntKind.u64.wrap (0 * 11400714819323198485))
 rw [hm] at b1
 rw [jn1, hm]
 refine ze_ (fn := Tryz.f161) 3 22 0 rfl rfl rfl rfl rfl u4_ rfl fun w0 M E hro => ?_
 repeat' (first | refine Ctl.h ?_ | ((with_reducible intro hif); first | (focus (cases hif; done)) | ((try simp only [JH] at hif); try (exfalso; omega))) | ((with_reducible first | apply J22 cJ0_ok za_ | apply J23 fol cJ0_ok za_ | apply J24); (·rfl); (· (simp only [push_cast, ↓JP, Nat.reduceAdd, Nat.reduceEqDiff, Nat.reduceLT, Nat.reduceMul, Nat.reduceLeDiff, reduceCtorEq, reduceIte, cJ0, sRMix, sRJ0, zw_, zy_, iOf, u64S, ls0U, ls1U, Int.cast_ofNat_Int, Int.reduceSub, Int.reduceToNat, Nat.sub_zero, Nat.sub_self, List.getD_cons_zero, List.getD_cons_succ, hm, inR, inN]; rfl)); (try kernel_rfl); try exact k54_) | fail)
 apply At.endsRet za_ (fn := Tryz.f161) (rs := [.tmp 2]) Anc.refl hro (lb_ rfl) rfl
 ·exact k11_
 ·exact yl_
 ·exact k6_
 ·rfl
 ·exact k47_
 ·exact zs_
 ·exact fun β => rfl
 ·exact k47_
theorem join1_ok (l : List Int) (p1 : Nat) (h : l.length = 1) : zo_ Tryz.prog 161 [.sl 1 2 [] 1 0 l.length (some p1)] [.gone, .gone, .ro (.arr l.length 1 (u64S l))] (.int .u64 (jn1 (l.getD 0 0))) [.gone] := by
 obtain ⟨x, rfl⟩ := List.length_eq_one_iff.mp h
 exact join1_lit x p1
def sRJ1 : yq_ := fun args h m => match args with
 | [v1] => match xa_ h 1 (.tup []) v1 with
  | some (c1, n1, f1, r1) => some (c1 ∧ (∀ q, q < n1 → isI .u64 (f1 q) = true) ∧ ((ls iOf n1 f1).length = 1), .int .u64 (jn1 ((ls iOf n1 f1).getD 0 0)), r1, [])
  | _ => none
 | _ => none
theorem sRJ1_ok : zj_ Tryz.prog 161 sRJ1 := by
 refine ⟨zf_ (by kernel_rfl), fun args h m c v rd wr hs hm hc w0 M β h' w R hrd hwr hst => ?_⟩
 unfold sRJ1 at hs
 split at hs
 ·rename_i v1
  split at hs
  ·rename_i c1 n1 f1 r1 a1
   simp only [Option.some.injEq, Prod.mk.injEq] at hs
   obtain ⟨rfl, rfl, rfl, rfl⟩ := hs
   obtain ⟨k1, g1, y1⟩ := hc
   obtain ⟨A1, p1, d1, e1, t1⟩ := zg_ R a1 k1 (fun i hi => hrd i hi) (by omega)
   refine yf_ (views := [⟨1, (ls iOf n1 f1).length, u64S (ls iOf n1 f1), A1, p1⟩]) (join1_ok (ls iOf n1 f1) p1 y1) ?_ R hm hwr ?_ ?_ ?_
   ·intro x hx
    simp only [List.mem_cons, List.not_mem_nil, or_false] at hx
    subst hx
    ·exact viewU64 t1 e1 g1
   ·intro β1 hv
    simp only [Vd, zb_, and_true] at hv
    have z1 := hv
    simp only [denL, z7_, z6_, z5_, zr_, zb_, z1, d1]
   ·exact k47_
   ·exact k47_
  ·cases hs
 ·cases hs
def cJ1 : FuncId → Option yq_ := y3_ [(142, sRMix), (161, sRJ1)]
theorem cJ1_ok : ∀ f S, cJ1 f = some S → zj_ Tryz.prog f S := zp_ ⟨sRMix_ok, sRJ1_ok, trivial⟩
theorem join2_lit (x y : Int) (p1 : Nat) : zo_ Tryz.prog 161 [.sl 1 2 [] 1 0 2 (some p1)] [.gone, .gone, .ro (.arr 2 1 (u64S [x, y]))] (.int .u64 (jn2 x y)) [.gone] := by
 obtain ⟨m, hm⟩ : ∃ m, IntKind.u64.wrap (IntKind.u64.wrap (11400714819323198485 + y) + IntKind.u64.wrap (jn1 x * 11400714819323198485)) = m := ⟨_, rfl⟩
 have b1 := u64_bd (IntKind.u64.wrap (11400714819323198485 + y) + IntKind.u64.wrap (jn1 x * 11400714819323198485))
 rw [hm] at b1
 rw [jn2, hm]
 refine ze_ (fn := Tryz.f161) 3 22 0 rfl rfl rfl rfl rfl u4_ rfl fun w0 M E hro => ?_
 repeat' (first | refine Ctl.h ?_ | ((with_reducible intro hif); first | (focus (cases hif; done)) | ((try simp only [JH] at hif); try (exfalso; omega))) | ((with_reducible first | apply J22 cJ1_ok za_ | apply J23 fol cJ1_ok za_ | apply J24); (·rfl); (· (simp only [push_cast, ↓JP, Nat.reduceAdd, Nat.reduceEqDiff, Nat.reduceLT, Nat.reduceMul, Nat.reduceLeDiff, reduceCtorEq, reduceIte, cJ1, sRMix, sRJ1, zw_, zy_, iOf, u64S, ls0U, ls1U, Int.cast_ofNat_Int, Int.reduceSub, Int.reduceToNat, Nat.sub_zero, Nat.sub_self, List.getD_cons_zero, List.getD_cons_succ, hm, inR, inN]; rfl)); (try kernel_rfl); try exact k54_) | fail)
 apply At.endsRet za_ (fn := Tryz.f161) (rs := [.tmp 2]) Anc.refl hro (lb_ rfl) rfl
 ·exact k11_
 ·exact yl_
 ·exact k6_
 ·rfl
 ·exact k47_
 ·exact zs_
 ·exact fun β => rfl
 ·exact k47_
theorem join2_ok (l : List Int) (p1 : Nat) (h : l.length = 2) : zo_ Tryz.prog 161 [.sl 1 2 [] 1 0 l.length (some p1)] [.gone, .gone, .ro (.arr l.length 1 (u64S l))] (.int .u64 (jn2 (l.getD 0 0) (l.getD 1 0))) [.gone] := by
 match l, h with
 | [x, y], _ => exact join2_lit x y p1
def sRJ2 : yq_ := fun args h m => match args with
 | [v1] => match xa_ h 1 (.tup []) v1 with
  | some (c1, n1, f1, r1) => some (c1 ∧ (∀ q, q < n1 → isI .u64 (f1 q) = true) ∧ ((ls iOf n1 f1).length = 2), .int .u64 (jn2 ((ls iOf n1 f1).getD 0 0) ((ls iOf n1 f1).getD 1 0)), r1, [])
  | _ => none
 | _ => none
theorem sRJ2_ok : zj_ Tryz.prog 161 sRJ2 := by
 refine ⟨zf_ (by kernel_rfl), fun args h m c v rd wr hs hm hc w0 M β h' w R hrd hwr hst => ?_⟩
 unfold sRJ2 at hs
 split at hs
 ·rename_i v1
  split at hs
  ·rename_i c1 n1 f1 r1 a1
   simp only [Option.some.injEq, Prod.mk.injEq] at hs
   obtain ⟨rfl, rfl, rfl, rfl⟩ := hs
   obtain ⟨k1, g1, y1⟩ := hc
   obtain ⟨A1, p1, d1, e1, t1⟩ := zg_ R a1 k1 (fun i hi => hrd i hi) (by omega)
   refine yf_ (views := [⟨1, (ls iOf n1 f1).length, u64S (ls iOf n1 f1), A1, p1⟩]) (join2_ok (ls iOf n1 f1) p1 y1) ?_ R hm hwr ?_ ?_ ?_
   ·intro x hx
    simp only [List.mem_cons, List.not_mem_nil, or_false] at hx
    subst hx
    ·exact viewU64 t1 e1 g1
   ·intro β1 hv
    simp only [Vd, zb_, and_true] at hv
    have z1 := hv
    simp only [denL, z7_, z6_, z5_, zr_, zb_, z1, d1]
   ·exact k47_
   ·exact k47_
  ·cases hs
 ·cases hs
def cKy : FuncId → Option yq_ := y3_ [(161, sRJ2)]
theorem cKy_ok : ∀ f S, cKy f = some S → zj_ Tryz.prog f S := zp_ ⟨sRJ2_ok, trivial⟩
theorem rkey_lit (s p : Int) (h0 : 0 ≤ p) (h1 : p ≤ 65536) : zo_ Tryz.prog 143 [.int .u64 s, .int .i64 p] [.gone] (.int .u64 (keyI s p)) [.gone] := by
 rw [← jn2_key]
 refine ze_ (fn := Tryz.f143) 1 10 0 rfl rfl rfl rfl rfl u4_ rfl fun w0 M E hro => ?_
 repeat' (first | refine Ctl.h ?_ | ((with_reducible intro hif); first | (focus (cases hif; done)) | ((try simp only [JH] at hif); try (exfalso; omega))) | ((with_reducible first | apply J22 cKy_ok za_ | apply J23 fol cKy_ok za_ | apply J24); (·rfl); (· (simp only [push_cast, ↓JP, Nat.reduceAdd, Nat.reduceEqDiff, Nat.reduceLT, Nat.reduceMul, Nat.reduceLeDiff, reduceCtorEq, reduceIte, cKy, sRJ2, zw_, zy_, iOf, ls2U, Int.cast_ofNat_Int, inR, inN, List.all_cons, List.all_nil]; rfl)); (try kernel_rfl); (try (focus (first | exact True.intro | ((repeat' (first | exact True.intro | apply And.intro | rfl | omega | decide | (intro q hq; match q, hq with | 0, _ => rfl | 1, _ => rfl))); done) | ((try simp only [JS, implies_true, forall_const, z9_, z2_, kndOf, inR, inN]); (repeat' (first | assumption | exact True.intro | omega | apply And.intro)); done))))) | fail)
 apply At.endsRet za_ (fn := Tryz.f143) (rs := [.tmp 4]) Anc.refl hro (lb_ rfl) rfl
 ·exact k11_
 ·exact yl_
 ·exact k6_
 ·rfl
 ·exact k47_
 ·exact zs_
 ·exact fun β => rfl
 ·exact k47_
def sRKey : yq_ := fun args h m => match args with
 | [v1, v2] => bif isI .u64 v1 && isI .i64 v2 then some ((0 ≤ (iOf v2)) ∧ ((iOf v2) ≤ 65536), .int .u64 (keyI (iOf v1) (iOf v2)), [], []) else none
 | _ => none
theorem sRKey_ok : zj_ Tryz.prog 143 sRKey := by
 refine ⟨zf_ (by kernel_rfl), fun args h m c v rd wr hs hm hc w0 M β h' w R hrd hwr hst => ?_⟩
 unfold sRKey at hs
 split at hs
 ·rename_i v1 v2
  obtain ⟨hb, hs⟩ := zk_ hs
  simp only [Option.some.injEq, Prod.mk.injEq] at hs
  obtain ⟨rfl, rfl, rfl, rfl⟩ := hs
  simp only [Bool.and_eq_true] at hb
  obtain ⟨b1, b2⟩ := hb
  obtain ⟨y1, y2⟩ := hc
  refine yf_ (views := []) (rkey_lit (iOf v1) (iOf v2) y1 y2) ?_ R hm hwr ?_ ?_ ?_
  ·intro x hx; cases hx
  ·intro β1 hv
   simp only [denL, z7_, z6_, z5_, zr_, zb_, zc_ b1, zc_ b2]
  ·exact k47_
  ·exact k47_
 ·cases hs
def cVa : FuncId → Option yq_ := y3_ [(143, sRKey), (142, sRMix)]
theorem cVa_ok : ∀ f S, cVa f = some S → zj_ Tryz.prog f S := zp_ ⟨sRKey_ok, sRMix_ok, trivial⟩
theorem rval_lit (s p i : Int) (h0 : 0 ≤ p) (h1 : p ≤ 65536) (h2 : 0 ≤ i) (h3 : i ≤ 281474976710656) : zo_ Tryz.prog 120 [.int .u64 s, .int .i64 p, .int .i64 i] [.gone] (.int .u64 (valueI s p i)) [.gone] := by
 obtain ⟨m, hm⟩ : ∃ m, IntKind.u64.wrap (keyI s p + IntKind.u64.wrap ((i + 1) * 11400714819323198485)) = m := ⟨_, rfl⟩
 have b1 := u64_bd (keyI s p + IntKind.u64.wrap ((i + 1) * 11400714819323198485))
 rw [hm] at b1
 have e : valueI s p i = mixI m := by
  rw [valueI, atI, ← hm]
  have e1 : IntKind.u64.wrap (IntKind.u64.wrap i + 1) = i + 1 := by simp only [wrapU64]; omega
  rw [e1]
 rw [e]
 refine ze_ (fn := Tryz.f120) 1 16 0 rfl rfl rfl rfl rfl u4_ rfl fun w0 M E hro => ?_
 repeat' (first | refine Ctl.h ?_ | ((with_reducible intro hif); first | (focus (cases hif; done)) | ((try simp only [JH] at hif); try (exfalso; omega))) | ((with_reducible first | apply J22 cVa_ok za_ | apply J23 fol cVa_ok za_ | apply J24); (·rfl); (· (simp only [push_cast, ↓JP, Nat.reduceAdd, Nat.reduceEqDiff, Nat.reduceLT, Nat.reduceMul, Nat.reduceLeDiff, reduceCtorEq, reduceIte, cVa, sRKey, sRMix, zw_, zy_, iOf, nat_one_i, Int.cast_ofNat_Int, hm, inR, inN]; rfl)); (try kernel_rfl); try exact k54_) | fail)
 apply At.endsRet za_ (fn := Tryz.f120) (rs := [.tmp 6]) Anc.refl hro (lb_ rfl) rfl
 ·exact k11_
 ·exact yl_
 ·exact k6_
 ·rfl
 ·exact k47_
 ·exact zs_
 ·exact fun β => rfl
 ·exact k47_
def sRVal : yq_ := fun args h m => match args with
 | [v1, v2, v3] => bif isI .u64 v1 && isI .i64 v2 && isI .i64 v3 then some ((0 ≤ (iOf v2)) ∧ ((iOf v2) ≤ 65536) ∧ (0 ≤ (iOf v3)) ∧ ((iOf v3) ≤ 281474976710656), .int .u64 (valueI (iOf v1) (iOf v2) (iOf v3)), [], []) else none
 | _ => none
theorem sRVal_ok : zj_ Tryz.prog 120 sRVal := by
 refine ⟨zf_ (by kernel_rfl), fun args h m c v rd wr hs hm hc w0 M β h' w R hrd hwr hst => ?_⟩
 unfold sRVal at hs
 split at hs
 ·rename_i v1 v2 v3
  obtain ⟨hb, hs⟩ := zk_ hs
  simp only [Option.some.injEq, Prod.mk.injEq] at hs
  obtain ⟨rfl, rfl, rfl, rfl⟩ := hs
  simp only [Bool.and_eq_true] at hb
  obtain ⟨⟨b1, b2⟩, b3⟩ := hb
  obtain ⟨y1, y2, y3, y4⟩ := hc
  refine yf_ (views := []) (rval_lit (iOf v1) (iOf v2) (iOf v3) y1 y2 y3 y4) ?_ R hm hwr ?_ ?_ ?_
  ·intro x hx; cases hx
  ·intro β1 hv
   simp only [denL, z7_, z6_, z5_, zr_, zb_, zc_ b1, zc_ b2, zc_ b3]
  ·exact k47_
  ·exact k47_
 ·cases hs
def sbV (v n j : Nat) : Nat := v % 2 ^ j * n / 2 ^ j
theorem sbV_zero (v n : Nat) : sbV v n 0 = 0 := by simp [sbV, Nat.mod_one]
theorem sbV_next (v n j : Nat) : sbV v n (j + 1) = (sbV v n j + (if v.testBit j then n else 0)) / 2 := by
 have hp : 0 < 2 ^ j := Nat.pow_pos (by decide)
 unfold sbV
 rw [mod_next, Nat.add_mul, Nat.pow_succ, ← Nat.div_div_eq_div_mul]
 cases v.testBit j
 ·simp
 ·simp only [if_true]
  rw [Nat.add_mul_div_left _ _ hp]
theorem sbV_lt (v n j : Nat) (hn : 0 < n) : sbV v n j < n := by
 have hp : 0 < 2 ^ j := Nat.pow_pos (by decide)
 unfold sbV
 rw [Nat.div_lt_iff_lt_mul hp, Nat.mul_comm n]
 exact Nat.mul_lt_mul_of_pos_right (Nat.mod_lt _ hp) hn
theorem below_lit (v n : Nat) (hv : v < 18446744073709551616) (hn0 : 0 < n) (hn : n ≤ 9223372036854775807) : zo_ Tryz.prog 119 [.nat .u64 v, .nat .i64 n] [.gone] (.nat .i64 (sbV v n 64)) [.gone] := by
 have hz0 := sbV_zero v n
 refine ze_ (fn := Tryz.f119) 1 24 0 rfl rfl rfl rfl rfl (by simp only [zd_, Stable, hp, i64S]; simp [HB.born]) rfl fun w0 M E hro => ?_
 repeat' (first | refine Ctl.h ?_ | ((with_reducible intro hif); first | (focus (cases hif; done)) | ((try simp only [JH] at hif); try (exfalso; omega))) | ((with_reducible first | apply J22 zq_ za_ | apply J23 fol zq_ za_ | apply J24); (·rfl); (· exact k20_); (try kernel_rfl); try exact yk_) | fail)
 refine WF.loopAt (fun (j : Nat) => j ≤ 64) (fun (j : Nat) => [(0, .nat .u64 v), (1, .nat .i64 n), (5, .nat .u64 (sbV v n j)), (6, .nat .i64 j)]) (fun (j : Nat) => [.gone]) (fun (j : Nat) => 64 - j) 0 (Nat.zero_le _) ?_ ?_ rfl ?_ ?_ rfl ?_
 ·exact k17_
 ·exact k6_
 ·exact k45_
 ·exact k45_
 intro j hj
 have hlt := sbV_lt v n j hn0
 by_cases hjl : j < 64
 ·have hmn := sbV_next v n j
  have hb1 := bit_div v j
  have hm1 : min j 64 = j := by omega
  cases hc : v.testBit j
  all_goals
   rw [hc] at hmn hb1
   simp only [b2, if_true, Bool.false_eq_true, if_false, Nat.add_zero] at hmn hb1
   repeat' (first | refine Ctl.h ?_ | ((with_reducible intro hif); first | (focus (cases hif; done)) | ((try simp only [JH] at hif); try (exfalso; omega))) | ((with_reducible first | apply J22 zq_ za_ | apply J23 fol zq_ za_ | apply J24); (·rfl); (· (simp only [push_cast, ↓JP, Nat.reduceAdd, Nat.reduceEqDiff, Nat.reduceLT, Nat.reduceMul, Nat.reduceLeDiff, reduceCtorEq, reduceIte, hjl, hm1, hb1, inR, inN, IntKind.bits]; rfl)); (try kernel_rfl); try exact k26_) | fail)
   refine At.next (j + 1) ?_ ?_ ?_ rfl ?_ ?_ rfl
   ·exact ⟨by omega, by omega⟩
   ·exact k46_
   ·exact k6_
   ·exact k45_
   ·exact k45_
 ·obtain rfl : j = 64 := by omega
  repeat' (first | refine Ctl.h ?_ | ((with_reducible intro hif); first | (focus (cases hif; done)) | ((try simp only [JH] at hif); try (exfalso; omega))) | ((with_reducible first | apply J22 zq_ za_ | apply J23 fol zq_ za_ | apply J24); (·rfl); (· (simp only [push_cast, ↓JP, Nat.reduceAdd, Nat.reduceEqDiff, Nat.reduceLT, Nat.reduceMul, Nat.reduceLeDiff, reduceCtorEq, reduceIte, hjl, inR, inN]; rfl)); (try kernel_rfl); (try (focus (first | exact True.intro | ((repeat' (first | exact True.intro | apply And.intro | omega | decide | (simp only [inN]; omega))); done) | ((try simp only [JS, implies_true, forall_const, z9_, z2_, kndOf, inR, inN]); (repeat' (first | assumption | exact True.intro | omega | apply And.intro)); done))))) | fail)
  apply At.endsRet za_ (fn := Tryz.f119) (rs := [.tmp 4]) Anc.refl hro (lb_ rfl) rfl
  ·exact k11_
  ·exact yl_
  ·exact k6_
  ·rfl
  ·exact k45_
  ·exact zs_
  ·exact fun β => rfl
  ·exact k45_
theorem rbelow_ok (v n : Int) (h0 : 0 ≤ v) (h1 : v < 18446744073709551616) (h2 : 1 ≤ n) (h3 : n ≤ 9223372036854775807) : zo_ Tryz.prog 119 [.int .u64 v, .int .i64 n] [.gone] (.int .i64 (belowI v n)) [.gone] := by
 obtain ⟨V, rfl⟩ : ∃ V : Nat, v = (V : Int) := ⟨v.toNat, by omega⟩
 obtain ⟨k, rfl⟩ : ∃ k : Nat, n = (k : Int) := ⟨n.toNat, by omega⟩
 have e : belowI (V : Int) (k : Int) = ((sbV V k 64 : Nat) : Int) := by
  have hw : IntKind.u64.wrap (k : Int) = (k : Int) := by rw [wrapU64]; omega
  have hs : sbV V k 64 = V * k / 18446744073709551616 := by
   have h64 : (2 : Nat) ^ 64 = 18446744073709551616 := by decide
   unfold sbV
   rw [h64, Nat.mod_eq_of_lt (by omega)]
  have hl := sbV_lt V k 64 (by omega)
  have hu : upperI (V : Int) (k : Int) = ((sbV V k 64 : Nat) : Int) := by
   rw [upper_eq _ _ (by omega) (by omega) (by omega) (by omega), hs]
   simp
  rw [belowI, hw, hu, wrap64]
  omega
 rw [e]
 exact below_lit V k (by omega) (by omega) (by omega)
def sRBel : yq_ := fun args h m => match args with
 | [v1, v2] => bif isI .u64 v1 && isI .i64 v2 then some ((0 ≤ (iOf v1)) ∧ ((iOf v1) < 18446744073709551616) ∧ (1 ≤ (iOf v2)) ∧ ((iOf v2) ≤ 9223372036854775807), .int .i64 (belowI (iOf v1) (iOf v2)), [], []) else none
 | _ => none
theorem sRBel_ok : zj_ Tryz.prog 119 sRBel := by
 refine ⟨zf_ (by kernel_rfl), fun args h m c v rd wr hs hm hc w0 M β h' w R hrd hwr hst => ?_⟩
 unfold sRBel at hs
 split at hs
 ·rename_i v1 v2
  obtain ⟨hb, hs⟩ := zk_ hs
  simp only [Option.some.injEq, Prod.mk.injEq] at hs
  obtain ⟨rfl, rfl, rfl, rfl⟩ := hs
  simp only [Bool.and_eq_true] at hb
  obtain ⟨b1, b2⟩ := hb
  obtain ⟨y1, y2, y3, y4⟩ := hc
  refine yf_ (views := []) (rbelow_ok (iOf v1) (iOf v2) y1 y2 y3 y4) ?_ R hm hwr ?_ ?_ ?_
  ·intro x hx; cases hx
  ·intro β1 hv
   simp only [denL, z7_, z6_, z5_, zr_, zb_, zc_ b1, zc_ b2]
  ·exact k45_
  ·exact k45_
 ·cases hs
end Go.Proofs.YtjliakjbdcplcaaGreat.Vm
end
end
