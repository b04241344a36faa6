import Derived.Test.YtjliakjbdcplcaaGreatR1
import Derived.Test.YtjliakjbdcplcaaGreatR10
import Derived.Test.YtjliakjbdcplcaaGreatR12
import Derived.Test.YtjliakjbdcplcaaGreatR15
import Derived.Test.YtjliakjbdcplcaaGreatR16
import Derived.Test.YtjliakjbdcplcaaGreatR17
set_option linter.unusedSimpArgs false
set_option linter.unusedVariables false
set_option maxRecDepth 100000
set_option maxHeartbeats 4000000
section
open Go.Proofs.YtjliakjbdcplcaaGreat.Vm Go.RowKit
section
namespace Go.Proofs.YtjliakjbdcplcaaGreat.Vm
open Go.RowKit
theorem apV1 (a b : Int) (ha : R64 a) (hb : R64 b) : yp_ 1 a b = (oi a + oi b).toInt := by
 rw [yp_, if_pos (by simp [yk_]), ← ap1]
 rfl
theorem apV2 (a b : Int) (ha : R64 a) (hb : R64 b) : yp_ 2 a b = (oi a - oi b).toInt := by
 rw [yp_, if_pos (by simp [yk_]), ← ap2]
 rfl
theorem apV3 (a b : Int) (ha : R64 a) (hb : R64 b) : yp_ 3 a b = (oi a * oi b).toInt := by
 rw [yp_, if_pos (by simp [yk_]), ← ap3]
 rfl
theorem apV4 (a b : Int) (ha : R64 a) (hb : R64 b) (h0 : ¬ b = 0) : yp_ 4 a b = (if ((decide (a < 0)) != (decide (b < 0))) = true then -(amV a / amV b) else amV a / amV b).toInt := by
 rw [yp_, if_pos (by simp [yk_, h0]), ← ap4 ha hb]
 rfl
theorem apV5 (a b : Int) (ha : R64 a) (hb : R64 b) (h0 : ¬ b = 0) : yp_ 5 a b = (if decide (a < 0) = true then -(amV a % amV b) else amV a % amV b).toInt := by
 rw [yp_, if_pos (by simp [yk_, h0]), ← ap5 ha hb h0]
 rfl
theorem apV6 (a b : Int) (ha : R64 a) (hb : R64 b) (h0 : ¬ b = 0) : yp_ 6 a b = (if a < 0 ∧ (amV a % amV b).toInt ≠ 0 then amV b - amV a % amV b else amV a % amV b).toInt := by
 have e : yp_ 6 a b = modI a b := by rw [yp_, if_pos (by simp [yk_, h0])]; simp [yl_]
 rw [e]
 split
 ·rename_i h; exact ap6b ha hb h0 h.1 h.2
 ·rename_i h; exact ap6a ha hb h0 h
theorem apV7 (a b : Int) (ha : R64 a) (hb : R64 b) : yp_ 7 a b = (bwV 7 (oi a) (oi b)).toInt := by
 rw [yp_, if_pos (by simp [yk_]), show bwV 7 (oi a) (oi b) = oi a &&& oi b by simp [bwV], ← ap7]
 rfl
theorem apV8 (a b : Int) (ha : R64 a) (hb : R64 b) : yp_ 8 a b = (bwV 8 (oi a) (oi b)).toInt := by
 rw [yp_, if_pos (by simp [yk_]), show bwV 8 (oi a) (oi b) = oi a ||| oi b by simp [bwV], ← ap8]
 rfl
theorem apV9 (a b : Int) (ha : R64 a) (hb : R64 b) : yp_ 9 a b = (bwV 9 (oi a) (oi b)).toInt := by
 rw [yp_, if_pos (by simp [yk_]), show bwV 9 (oi a) (oi b) = oi a ^^^ oi b by simp [bwV], ← ap9]
 rfl
theorem apV10 (a b : Int) (ha : R64 a) (hb : R64 b) : yp_ 10 a b = (oi a <<< (nY (oi b)).toNat).toInt := by
 rw [yp_, if_pos (by simp [yk_]), ← ap10 a (show (nY (oi b)).toNat ≤ 63 by have := nY_bd (oi b); omega), ← nY_sh]
 rfl
theorem apV11 (a b : Int) (ha : R64 a) (hb : R64 b) : yp_ 11 a b = (dnV (oi a) (nY (oi b)).toNat false).toInt := by
 rw [yp_, if_pos (by simp [yk_]), ← ap11, ← nY_sh]
 rfl
theorem apV12 (a b : Int) (ha : R64 a) (hb : R64 b) : yp_ 12 a b = (dnV (oi a) (nY (oi b)).toNat ((oi a).getLsbD 63)).toInt := by
 rw [yp_, if_pos (by simp [yk_]), ← ap12 ha, ← nY_sh]
 rfl
theorem apV13 (a b : Int) (ha : R64 a) (hb : R64 b) : yp_ 13 a b = bI (decide (a < b)) := by
 rw [yp_, if_pos (by simp [yk_]), ← truth_bI]
 rfl
theorem apV14 (a b : Int) (ha : R64 a) (hb : R64 b) : yp_ 14 a b = bI (decide ((oi a).toNat < (oi b).toNat)) := by
 rw [yp_, if_pos (by simp [yk_]), ← truth_bI, ← ap14]
 rfl
theorem apV15 (a b : Int) (ha : R64 a) (hb : R64 b) : yp_ 15 a b = bI (decide (a = b)) := by
 rw [yp_, if_pos (by simp [yk_]), ← truth_bI]
 show truthI (a == b) = _
 by_cases h : a = b
 ·subst h; simp
 ·rw [decide_eq_false h, beq_eq_false_iff_ne.mpr h]
theorem apV16 (a b : Int) (ha : R64 a) (hb : R64 b) : yp_ 16 a b = (if a < b then a else b) := by
 rw [yp_, if_pos (by simp [yk_])]
 show (if b < a then b else a) = _
 split <;> split <;> omega
theorem apV17 (a b : Int) (ha : R64 a) (hb : R64 b) : yp_ 17 a b = (if a < b then b else a) := by
 rw [yp_, if_pos (by simp [yk_])]
 show (if a < b then b else a) = _
 rfl
theorem apw1 (op a b : Int) (h : op < 1) : zp_ Tryz.prog 121 [.int .u8 op, .int .i64 a, .int .i64 b] [.gone] (.tup [.int .i64 0, .int .i64 130]) [.gone] := by
 refine ze_ (fn := Tryz.f121) 1 196 0 rfl rfl rfl rfl rfl u2_ rfl fun w0 M E hro => ?_
 repeat' (first | refine Ctl.h ?_ | ((with_reducible intro hif); first | (focus (cases hif; done)) | ((try simp only [JH] at hif); try (exfalso; omega))) | ((with_reducible first | apply J22 zk_ za_ | apply J23 fol zk_ za_ | apply J24); (·rfl); (· (simp only [push_cast, ↓JP, Nat.reduceAdd, Nat.reduceEqDiff, Nat.reduceLT, Nat.reduceMul, Nat.reduceLeDiff, reduceCtorEq, reduceIte, zq_, zr_, iOf, inR, inN, h]; rfl)); (try kernel_rfl); try exact k25_) | fail)
 apply At.endsRet za_ (fn := Tryz.f121) (rs := [.tmp 6, .tmp 7]) Anc.refl hro (lb_ rfl) rfl
 ·exact k11_
 ·exact ys_
 ·exact k6_
 ·rfl
 ·exact k7_
 ·exact zx_
 ·exact fun β => rfl
 ·exact k7_
theorem apw2 (op a b : Int) (h : ¬ op < 1) (h2 : 17 < op) : zp_ Tryz.prog 121 [.int .u8 op, .int .i64 a, .int .i64 b] [.gone] (.tup [.int .i64 0, .int .i64 130]) [.gone] := by
 refine ze_ (fn := Tryz.f121) 1 196 0 rfl rfl rfl rfl rfl u2_ rfl fun w0 M E hro => ?_
 repeat' (first | refine Ctl.h ?_ | ((with_reducible intro hif); first | (focus (cases hif; done)) | ((try simp only [JH] at hif); try (exfalso; omega))) | ((with_reducible first | apply J22 zk_ za_ | apply J23 fol zk_ za_ | apply J24); (·rfl); (· (simp only [push_cast, ↓JP, Nat.reduceAdd, Nat.reduceEqDiff, Nat.reduceLT, Nat.reduceMul, Nat.reduceLeDiff, reduceCtorEq, reduceIte, zq_, zr_, iOf, inR, inN, h, h2]; rfl)); (try kernel_rfl); try exact k25_) | fail)
 apply At.endsRet za_ (fn := Tryz.f121) (rs := [.tmp 6, .tmp 7]) Anc.refl hro (lb_ rfl) rfl
 ·exact k11_
 ·exact ys_
 ·exact k6_
 ·rfl
 ·exact k7_
 ·exact zx_
 ·exact fun β => rfl
 ·exact k7_
theorem apw3 (op a b : Int) (h : ¬ op < 1) (h2 : ¬ 17 < op) (h3 : 4 ≤ op) (h4 : op ≤ 6) (h5 : b = 0) : zp_ Tryz.prog 121 [.int .u8 op, .int .i64 a, .int .i64 b] [.gone] (.tup [.int .i64 0, .int .i64 131]) [.gone] := by
 refine ze_ (fn := Tryz.f121) 1 196 0 rfl rfl rfl rfl rfl u2_ rfl fun w0 M E hro => ?_
 repeat' (first | refine Ctl.h ?_ | ((with_reducible intro hif); first | (focus (cases hif; done)) | ((try simp only [JH] at hif); try (exfalso; omega))) | ((with_reducible first | apply J22 zk_ za_ | apply J23 fol zk_ za_ | apply J24); (·rfl); (· (simp only [push_cast, ↓JP, Nat.reduceAdd, Nat.reduceEqDiff, Nat.reduceLT, Nat.reduceMul, Nat.reduceLeDiff, reduceCtorEq, reduceIte, zq_, zr_, iOf, inR, inN, h, h2, h3, h4, (eq_true h5)]; rfl)); (try kernel_rfl); try exact k25_) | fail)
 apply At.endsRet za_ (fn := Tryz.f121) (rs := [.tmp 6, .tmp 7]) Anc.refl hro (lb_ rfl) rfl
 ·exact k11_
 ·exact ys_
 ·exact k6_
 ·rfl
 ·exact k7_
 ·exact zx_
 ·exact fun β => rfl
 ·exact k7_
theorem apply_lit (op a b : Int) (ha0 : -9223372036854775808 ≤ a) (ha1 : a ≤ 9223372036854775807) (hb0 : -9223372036854775808 ≤ b) (hb1 : b ≤ 9223372036854775807) : zp_ Tryz.prog 121 [.int .u8 op, .int .i64 a, .int .i64 b] [.gone] (.tup [.int .i64 (yp_ op a b), .int .i64 (yk_ op b)]) [.gone] := by
 have ha : R64 a := ⟨ha0, ha1⟩
 have hb : R64 b := ⟨hb0, hb1⟩
 by_cases h1 : op < 1
 ·have e : yk_ op b = 130 := by rw [yk_, if_pos (.inl h1)]
  rw [yp_, e, if_neg (by decide)]
  exact apw1 op a b h1
 by_cases h2 : 17 < op
 ·have e : yk_ op b = 130 := by rw [yk_, if_pos (.inr h2)]
  rw [yp_, e, if_neg (by decide)]
  exact apw2 op a b h1 h2
 by_cases h3 : 4 ≤ op ∧ op ≤ 6 ∧ b = 0
 ·have e : yk_ op b = 131 := by rw [yk_, if_neg (by omega), if_pos ⟨h3.2.2, h3.1, h3.2.1⟩]
  rw [yp_, e, if_neg (by decide)]
  exact apw3 op a b h1 h2 h3.1 h3.2.1 h3.2.2
 have e0 : yk_ op b = 0 := by rw [yk_, if_neg (by omega), if_neg (by omega)]
 rw [e0]
 have hop : op = 1 ∨ op = 2 ∨ op = 3 ∨ op = 4 ∨ op = 5 ∨ op = 6 ∨ op = 7 ∨ op = 8 ∨ op = 9 ∨ op = 10 ∨ op = 11 ∨ op = 12 ∨ op = 13 ∨ op = 14 ∨ op = 15 ∨ op = 16 ∨ op = 17 := by omega
 have hY := nY_bd (oi b)
 rcases hop with h | h | h | h | h | h | h | h | h | h | h | h | h | h | h | h | h <;> subst h
 ·rw [apV1 a b ha hb]
  exact apk1 a b _ _ _ _ _ _ _ _ _ _ _ _ _ ha0 ha1 hb0 hb1 rfl rfl rfl rfl rfl rfl (zg_ (by decide)) (zg_ (by decide)) (zg_ (by decide)) (zg_ (by decide)) (zg_ (by decide)) (zg_ (by decide)) (z3_ _) (z3_ _) (z3_ _) (z3_ _) (z3_ _) (z3_ _) rfl hY.1 hY.2 trivial
 ·rw [apV2 a b ha hb]
  exact apk2 a b _ _ _ _ _ _ _ _ _ _ _ _ _ ha0 ha1 hb0 hb1 rfl rfl rfl rfl rfl rfl (zg_ (by decide)) (zg_ (by decide)) (zg_ (by decide)) (zg_ (by decide)) (zg_ (by decide)) (zg_ (by decide)) (z3_ _) (z3_ _) (z3_ _) (z3_ _) (z3_ _) (z3_ _) rfl hY.1 hY.2 trivial
 ·rw [apV3 a b ha hb]
  exact apk3 a b _ _ _ _ _ _ _ _ _ _ _ _ _ ha0 ha1 hb0 hb1 rfl rfl rfl rfl rfl rfl (zg_ (by decide)) (zg_ (by decide)) (zg_ (by decide)) (zg_ (by decide)) (zg_ (by decide)) (zg_ (by decide)) (z3_ _) (z3_ _) (z3_ _) (z3_ _) (z3_ _) (z3_ _) rfl hY.1 hY.2 trivial
 ·rw [apV4 a b ha hb (by omega)]
  exact apk4 a b _ _ _ _ _ _ _ _ _ _ _ _ _ ha0 ha1 hb0 hb1 rfl rfl rfl rfl rfl rfl (zg_ (by decide)) (zg_ (by decide)) (zg_ (by decide)) (zg_ (by decide)) (zg_ (by decide)) (zg_ (by decide)) (z3_ _) (z3_ _) (z3_ _) (z3_ _) (z3_ _) (z3_ _) rfl hY.1 hY.2 (by rw [amV_nat hb]; omega) (by omega)
 ·rw [apV5 a b ha hb (by omega)]
  exact apk5 a b _ _ _ _ _ _ _ _ _ _ _ _ _ ha0 ha1 hb0 hb1 rfl rfl rfl rfl rfl rfl (zg_ (by decide)) (zg_ (by decide)) (zg_ (by decide)) (zg_ (by decide)) (zg_ (by decide)) (zg_ (by decide)) (z3_ _) (z3_ _) (z3_ _) (z3_ _) (z3_ _) (z3_ _) rfl hY.1 hY.2 (by rw [amV_nat hb]; omega) (by omega)
 ·rw [apV6 a b ha hb (by omega)]
  exact apk6 a b _ _ _ _ _ _ _ _ _ _ _ _ _ ha0 ha1 hb0 hb1 rfl rfl rfl rfl rfl rfl (zg_ (by decide)) (zg_ (by decide)) (zg_ (by decide)) (zg_ (by decide)) (zg_ (by decide)) (zg_ (by decide)) (z3_ _) (z3_ _) (z3_ _) (z3_ _) (z3_ _) (z3_ _) rfl hY.1 hY.2 (by rw [amV_nat hb]; omega) (by omega)
 ·rw [apV7 a b ha hb]
  exact apk7 a b _ _ _ _ _ _ _ _ _ _ _ _ _ ha0 ha1 hb0 hb1 rfl rfl rfl rfl rfl rfl (zg_ (by decide)) (zg_ (by decide)) (zg_ (by decide)) (zg_ (by decide)) (zg_ (by decide)) (zg_ (by decide)) (z3_ _) (z3_ _) (z3_ _) (z3_ _) (z3_ _) (z3_ _) rfl hY.1 hY.2 trivial
 ·rw [apV8 a b ha hb]
  exact apk8 a b _ _ _ _ _ _ _ _ _ _ _ _ _ ha0 ha1 hb0 hb1 rfl rfl rfl rfl rfl rfl (zg_ (by decide)) (zg_ (by decide)) (zg_ (by decide)) (zg_ (by decide)) (zg_ (by decide)) (zg_ (by decide)) (z3_ _) (z3_ _) (z3_ _) (z3_ _) (z3_ _) (z3_ _) rfl hY.1 hY.2 trivial
 ·rw [apV9 a b ha hb]
  exact apk9 a b _ _ _ _ _ _ _ _ _ _ _ _ _ ha0 ha1 hb0 hb1 rfl rfl rfl rfl rfl rfl (zg_ (by decide)) (zg_ (by decide)) (zg_ (by decide)) (zg_ (by decide)) (zg_ (by decide)) (zg_ (by decide)) (z3_ _) (z3_ _) (z3_ _) (z3_ _) (z3_ _) (z3_ _) rfl hY.1 hY.2 trivial
 ·rw [apV10 a b ha hb]
  exact apk10 a b _ _ _ _ _ _ _ _ _ _ _ _ _ ha0 ha1 hb0 hb1 rfl rfl rfl rfl rfl rfl (zg_ (by decide)) (zg_ (by decide)) (zg_ (by decide)) (zg_ (by decide)) (zg_ (by decide)) (zg_ (by decide)) (z3_ _) (z3_ _) (z3_ _) (z3_ _) (z3_ _) (z3_ _) rfl hY.1 hY.2 trivial
 ·rw [apV11 a b ha hb]
  exact apk11 a b _ _ _ _ _ _ _ _ _ _ _ _ _ ha0 ha1 hb0 hb1 rfl rfl rfl rfl rfl rfl (zg_ (by decide)) (zg_ (by decide)) (zg_ (by decide)) (zg_ (by decide)) (zg_ (by decide)) (zg_ (by decide)) (z3_ _) (z3_ _) (z3_ _) (z3_ _) (z3_ _) (z3_ _) rfl hY.1 hY.2 trivial
 ·rw [apV12 a b ha hb]
  exact apk12 a b _ _ _ _ _ _ _ _ _ _ _ _ _ ha0 ha1 hb0 hb1 rfl rfl rfl rfl rfl rfl (zg_ (by decide)) (zg_ (by decide)) (zg_ (by decide)) (zg_ (by decide)) (zg_ (by decide)) (zg_ (by decide)) (z3_ _) (z3_ _) (z3_ _) (z3_ _) (z3_ _) (z3_ _) rfl hY.1 hY.2 trivial
 ·rw [apV13 a b ha hb]
  exact apk13 a b _ _ _ _ _ _ _ _ _ _ _ _ _ ha0 ha1 hb0 hb1 rfl rfl rfl rfl rfl rfl (zg_ (by decide)) (zg_ (by decide)) (zg_ (by decide)) (zg_ (by decide)) (zg_ (by decide)) (zg_ (by decide)) (z3_ _) (z3_ _) (z3_ _) (z3_ _) (z3_ _) (z3_ _) rfl hY.1 hY.2 trivial
 ·rw [apV14 a b ha hb]
  exact apk14 a b _ _ _ _ _ _ _ _ _ _ _ _ _ ha0 ha1 hb0 hb1 rfl rfl rfl rfl rfl rfl (zg_ (by decide)) (zg_ (by decide)) (zg_ (by decide)) (zg_ (by decide)) (zg_ (by decide)) (zg_ (by decide)) (z3_ _) (z3_ _) (z3_ _) (z3_ _) (z3_ _) (z3_ _) rfl hY.1 hY.2 trivial
 ·rw [apV15 a b ha hb]
  exact apk15 a b _ _ _ _ _ _ _ _ _ _ _ _ _ ha0 ha1 hb0 hb1 rfl rfl rfl rfl rfl rfl (zg_ (by decide)) (zg_ (by decide)) (zg_ (by decide)) (zg_ (by decide)) (zg_ (by decide)) (zg_ (by decide)) (z3_ _) (z3_ _) (z3_ _) (z3_ _) (z3_ _) (z3_ _) rfl hY.1 hY.2 trivial
 ·rw [apV16 a b ha hb]
  exact apk16 a b _ _ _ _ _ _ _ _ _ _ _ _ _ ha0 ha1 hb0 hb1 rfl rfl rfl rfl rfl rfl (zg_ (by decide)) (zg_ (by decide)) (zg_ (by decide)) (zg_ (by decide)) (zg_ (by decide)) (zg_ (by decide)) (z3_ _) (z3_ _) (z3_ _) (z3_ _) (z3_ _) (z3_ _) rfl hY.1 hY.2 trivial
 ·rw [apV17 a b ha hb]
  exact apk17 a b _ _ _ _ _ _ _ _ _ _ _ _ _ ha0 ha1 hb0 hb1 rfl rfl rfl rfl rfl rfl (zg_ (by decide)) (zg_ (by decide)) (zg_ (by decide)) (zg_ (by decide)) (zg_ (by decide)) (zg_ (by decide)) (z3_ _) (z3_ _) (z3_ _) (z3_ _) (z3_ _) (z3_ _) rfl hY.1 hY.2 trivial
def sRAp : yt_ := fun args h m => match args with
 | [v1, v2, v3] => bif isI .u8 v1 && isI .i64 v2 && isI .i64 v3 then some ((-9223372036854775808 ≤ (iOf v2)) ∧ ((iOf v2) ≤ 9223372036854775807) ∧ (-9223372036854775808 ≤ (iOf v3)) ∧ ((iOf v3) ≤ 9223372036854775807), .tup [.int .i64 (yp_ (iOf v1) (iOf v2) (iOf v3)), .int .i64 (yk_ (iOf v1) (iOf v3))], [], []) else none
 | _ => none
theorem sRAp_ok : zh_ Tryz.prog 121 sRAp := by
 refine ⟨zf_ (by kernel_rfl), fun args h m c v rd wr hs hm hc w0 M β h' w R hrd hwr hst => ?_⟩
 unfold sRAp at hs
 split at hs
 ·rename_i v1 v2 v3
  obtain ⟨hb, hs⟩ := zj_ hs
  simp only [Option.some.injEq, Prod.mk.injEq] at hs
  obtain ⟨rfl, rfl, rfl, rfl⟩ := hs
  simp only [Bool.and_eq_true] at hb
  obtain ⟨⟨b1, b2⟩, b3⟩ := hb
  obtain ⟨y1, y2, y3, y4⟩ := hc
  refine ym_ (views := []) (apply_lit (iOf v1) (iOf v2) (iOf v3) y1 y2 y3 y4) ?_ R hm hwr ?_ ?_ ?_
  ·intro x hx; cases hx
  ·intro β1 hv
   simp only [denL, yh_, yg_, yf_, zv_, zb_, zc_ b1, zc_ b2, zc_ b3]
  ·exact k7_
  ·exact k7_
 ·cases hs
def zF (x n : Nat) : Nat := x ^^^ x / 2 ^ n
def zV (x n j : Nat) : Nat := zF x n % 2 ^ j
def b2 (b : Bool) : Nat := if b then 1 else 0
theorem bit_div (x j : Nat) : x / 2 ^ j % 2 = b2 (x.testBit j) := by
 rw [Nat.testBit_eq_decide_div_mod_eq, b2]
 have h := Nat.mod_two_eq_zero_or_one (x / 2 ^ j)
 rcases h with h | h <;> simp [h]
theorem zF_bit (x n j : Nat) : (zF x n).testBit j = (x.testBit j ^^ x.testBit (j + n)) := by
 rw [zF, Nat.testBit_xor, Nat.testBit_div_two_pow]
theorem zV_next (x n j : Nat) : zV x n (j + 1) = zV x n j + (if (x.testBit j ^^ x.testBit (j + n)) then 2 ^ j else 0) := by
 rw [zV, mod_next, zF_bit]; rfl
theorem fold_lit (x n : Nat) (hx : x < 18446744073709551616) (hn : n ≤ 64) : zp_ Tryz.prog 160 [.nat .u64 x, .nat .i64 n] [.gone] (.nat .u64 (zF x n)) [.gone] := by
 have hz0 : zV x n 0 = 0 := Nat.mod_one _
 refine ze_ (fn := Tryz.f160) 1 35 0 rfl rfl rfl rfl rfl (by simp only [zd_, Stable, hp, i64S]; simp [HB.born]) rfl fun w0 M E hro => ?_
 repeat' (first | refine Ctl.h ?_ | ((with_reducible intro hif); first | (focus (cases hif; done)) | ((try simp only [JH] at hif); try (exfalso; omega))) | ((with_reducible first | apply J22 zs_ za_ | apply J23 fol zs_ za_ | apply J24); (·rfl); (· exact k15_); (try kernel_rfl); try exact y5_) | fail)
 refine WF.loopAt (fun (j : Nat) => j ≤ 64) (fun (j : Nat) => [(0, .nat .u64 x), (1, .nat .i64 n), (5, .nat .u64 (zV x n j)), (6, .nat .i64 j)]) (fun (j : Nat) => [.gone]) (fun (j : Nat) => 64 - j) 0 (Nat.zero_le _) ?_ ?_ rfl ?_ ?_ rfl ?_
 ·exact k21_
 ·exact k6_
 ·exact k51_
 ·exact k51_
 intro j hj
 by_cases hjl : j < 64
 ·have hpl : 2 ^ j ≤ 2 ^ 63 := Nat.pow_le_pow_right (by decide) (by omega)
  have h63 : (2 : Nat) ^ 63 = 9223372036854775808 := by decide
  rw [h63] at hpl
  have hmd : zV x n j < 2 ^ j := Nat.mod_lt _ (Nat.pow_pos (by decide))
  have hmn := zV_next x n j
  have hb1 := bit_div x j
  have hb2 := bit_div x (j + n)
  have hm1 : min j 64 = j := by omega
  by_cases hjn : j + n < 64
  ·have hm2 : min (j + n) 64 = j + n := by omega
   cases hc : x.testBit j <;> cases hd : x.testBit (j + n)
   all_goals
    rw [hc, hd] at hmn
    rw [hc] at hb1
    rw [hd] at hb2
    simp only [b2, Bool.xor_true, Bool.xor_false, Bool.not_true, Bool.not_false, if_true, Bool.false_eq_true, if_false, Nat.add_zero] at hmn hb1 hb2
    repeat' (first | refine Ctl.h ?_ | ((with_reducible intro hif); first | (focus (cases hif; done)) | ((try simp only [JH] at hif); try (exfalso; omega))) | ((with_reducible first | apply J22 zs_ za_ | apply J23 fol zs_ za_ | apply J24); (·rfl); (· (simp only [push_cast, ↓JP, Nat.reduceAdd, Nat.reduceEqDiff, Nat.reduceLT, Nat.reduceMul, Nat.reduceLeDiff, reduceCtorEq, reduceIte, hjl, hjn, hm1, hm2, hb1, hb2, inR, inN, IntKind.bits, Nat.reduceMod, Nat.zero_mul, Nat.one_mul, Nat.add_zero]; rfl)); (try kernel_rfl); try exact k26_) | fail)
    refine At.next (j + 1) ?_ ?_ ?_ rfl ?_ ?_ rfl
    ·exact ⟨by omega, by omega⟩
    ·exact k52_
    ·exact k6_
    ·exact k51_
    ·exact k51_
  ·have hd : x.testBit (j + n) = false := Nat.testBit_lt_two_pow (Nat.lt_of_lt_of_le hx (by rw [show 18446744073709551616 = 2 ^ 64 by decide]; exact Nat.pow_le_pow_right (by decide) (by omega)))
   cases hc : x.testBit j
   all_goals
    rw [hc, hd] at hmn
    rw [hc] at hb1
    simp only [b2, Bool.xor_true, Bool.xor_false, Bool.not_true, Bool.not_false, if_true, Bool.false_eq_true, if_false, Nat.add_zero] at hmn hb1
    repeat' (first | refine Ctl.h ?_ | ((with_reducible intro hif); first | (focus (cases hif; done)) | ((try simp only [JH] at hif); try (exfalso; omega))) | ((with_reducible first | apply J22 zs_ za_ | apply J23 fol zs_ za_ | apply J24); (·rfl); (· (simp only [push_cast, ↓JP, Nat.reduceAdd, Nat.reduceEqDiff, Nat.reduceLT, Nat.reduceMul, Nat.reduceLeDiff, reduceCtorEq, reduceIte, hjl, hjn, hm1, hb1, inR, inN, IntKind.bits, Nat.reduceMod, Nat.zero_mul, Nat.one_mul, Nat.add_zero]; rfl)); (try kernel_rfl); try exact k26_) | fail)
    refine At.next (j + 1) ?_ ?_ ?_ rfl ?_ ?_ rfl
    ·exact ⟨by omega, by omega⟩
    ·exact k52_
    ·exact k6_
    ·exact k51_
    ·exact k51_
 ·obtain rfl : j = 64 := by omega
  have hz : zV x n 64 = zF x n := Nat.mod_eq_of_lt (Nat.xor_lt_two_pow hx (Nat.lt_of_le_of_lt (Nat.div_le_self ..) hx))
  repeat' (first | refine Ctl.h ?_ | ((with_reducible intro hif); first | (focus (cases hif; done)) | ((try simp only [JH] at hif); try (exfalso; omega))) | ((with_reducible first | apply J22 zs_ za_ | apply J23 fol zs_ za_ | apply J24); (·rfl); (· exact k17_); (try kernel_rfl); try exact y5_) | fail)
  apply At.endsRet za_ (fn := Tryz.f160) (rs := [.tmp 4]) Anc.refl hro (lb_ rfl) rfl
  ·exact k11_
  ·exact ys_
  ·exact k6_
  ·rfl
  ·exact k51_
  ·exact zx_
  ·(intro β; first | rfl | (rw [hz]; rfl))
  ·exact k51_
theorem calls_of_lit {f : FuncId} {args : List SV} {W : World} {v : SV} (H : zp_ Tryz.prog f args [.gone] v [.gone]) (hv : ∀ β, v.den β = v.den (fun _ => (none, 0))) :
  Calls Tryz.prog f (denL (fun _ => (none, 0)) args).toArray W fun e W' => e = .returned (v.den fun _ => (none, 0)) ∧ Below W.heap.size W W' :=
 (H W _ _ W (start W)).mono fun e W' ⟨β', _, R', _, he⟩ => ⟨by rw [he, hv], R'.os, R'.tape, R'.output, R'.size, fun k hk => R'.frame k hk id⟩
theorem rfold_c (x n : Int) (w : World) (h0 : 0 ≤ x) (h1 : x < 18446744073709551616) (hn0 : 0 ≤ n) (hn : n ≤ 64) : Calls Tryz.prog 160 #[.int .u64 x, .int .i64 n] w fun e w' => e = .returned (.int .u64 (bits .xor .u64 x (x / 2 ^ n.toNat))) ∧ Below w.heap.size w w' := by
 obtain ⟨X, rfl⟩ : ∃ X : Nat, x = (X : Int) := ⟨x.toNat, by omega⟩
 obtain ⟨k, rfl⟩ : ∃ k : Nat, n = (k : Int) := ⟨n.toNat, by omega⟩
 have h := calls_of_lit (W := w) (fold_lit X k (by omega) (by omega)) fun β => rfl
 have e : bits .xor .u64 (X : Int) ((X : Int) / 2 ^ (k : Int).toNat) = ((zF X k : Nat) : Int) := by
  have h := xorShift_u64 X (2 ^ k) (by omega)
  have e2 : ((2 ^ k : Nat) : Int) = (2 : Int) ^ k := by simp
  rw [e2] at h
  exact h
 rw [e]
 exact h
def u64S (l : List Int) : Nat → SV := fun q => .int .u64 (l.getD q 0)
theorem u64S_stable {h : HM} {l : List Int} (q : Nat) : Stable h (u64S l q) := trivial
def uwV (l : List Int) : List Value := l.map fun x => .int .u64 x
theorem elems_u64 {β : Env} {n : Nat} {f : Nat → SV} (hf : ∀ q, q < n → isI .u64 (f q) = true) : z4_ β 1 n f = uwV (ls iOf n f) := by
 rw [elems_ls (cells := fun x => [.int .u64 x]) isI_cl (fun _ => rfl) hf]
 unfold uwV
 rw [List.flatMap_def]
 induction ls iOf n f with
 | nil => rfl
 | cons x l ih => simp [ih]
theorem elems_u64S {β : Env} (l : List Int) : z4_ β 1 l.length (u64S l) = uwV l := by
 rw [elems_u64 (fun q _ => rfl), show ls iOf l.length (u64S l) = l from ls_of (g := iOf) (e := fun x => .int .u64 x) (fun _ => rfl) l 0]
theorem viewU64 {w : World} {β : Env} {A : Option Addr} {n cap : Nat} {f : Nat → SV} (hr : yu_ w w.heap.size 1 A n (z4_ β 1 n f)) (hn : n ≤ cap) (hf : ∀ q, q < n → isI .u64 (f q) = true) : (View.mk 1 (ls iOf n f).length (u64S (ls iOf n f)) A cap).Ok w :=
 ⟨fun β' => by rw [elems_u64S, zb_]; rwa [elems_u64 hf] at hr, by rw [zb_]; exact hn, fun h q => u64S_stable q, Nat.succ_pos _⟩
def sRFold : yt_ := fun args _ _ => match args with
 | [a, b] => bif isI .u64 a && isI .i64 b then some ((0 ≤ iOf a ∧ iOf a < 18446744073709551616) ∧ 0 ≤ iOf b ∧ iOf b ≤ 64, .int .u64 (foldI (iOf a) (iOf b)), [], []) else none
 | _ => none
theorem sRFold_ok : zh_ Tryz.prog 160 sRFold := by
 refine ⟨zf_ (by kernel_rfl), fun args h m c v rd wr hs hm hc w0 M β h' w R hrd hwr hst => ?_⟩
 unfold sRFold at hs
 split at hs
 ·rename_i a b
  obtain ⟨hb, hs⟩ := zj_ hs
  simp only [Option.some.injEq, Prod.mk.injEq] at hs
  obtain ⟨rfl, rfl, rfl, rfl⟩ := hs
  simp only [Bool.and_eq_true] at hb
  obtain ⟨b1, b2⟩ := hb
  obtain ⟨⟨c1, c2⟩, c3, c4⟩ := hc
  simp only [denL, zc_ b1, zc_ b2]
  exact (rfold_c (iOf a) (iOf b) w c1 c2 c3 c4).mono fun e w' he => post_read R trivial rfl he.1 he.2
 ·cases hs
def cMx : FuncId → Option yt_ := y6_ [(160, sRFold)]
theorem cMx_ok : ∀ f S, cMx f = some S → zh_ Tryz.prog f S := zn_ ⟨sRFold_ok, trivial⟩
theorem mix_lit (x : Int) (h0 : 0 ≤ x) (h1 : x < 18446744073709551616) : zp_ Tryz.prog 142 [.int .u64 x] [.gone] (.int .u64 (mixI x)) [.gone] := by
 obtain ⟨m1, hm1⟩ : ∃ m, IntKind.u64.wrap (foldI x 30 * 13787848793156543929) = m := ⟨_, rfl⟩
 obtain ⟨m2, hm2⟩ : ∃ m, IntKind.u64.wrap (foldI m1 27 * 10723151780598845931) = m := ⟨_, rfl⟩
 have e : mixI x = foldI m2 31 := by rw [mixI, hm1, hm2]
 have b1 := u64_bd (foldI x 30 * 13787848793156543929)
 have b2 := u64_bd (foldI m1 27 * 10723151780598845931)
 rw [hm1] at b1
 rw [hm2] at b2
 rw [e]
 refine ze_ (fn := Tryz.f142) 1 11 0 rfl rfl rfl rfl rfl u4_ rfl fun w0 M E hro => ?_
 repeat' (first | refine Ctl.h ?_ | ((with_reducible intro hif); first | (focus (cases hif; done)) | ((try simp only [JH] at hif); try (exfalso; omega))) | ((with_reducible first | apply J22 cMx_ok za_ | apply J23 fol cMx_ok za_ | apply J24); (·rfl); (· (simp only [push_cast, ↓JP, Nat.reduceAdd, Nat.reduceEqDiff, Nat.reduceLT, Nat.reduceMul, Nat.reduceLeDiff, reduceCtorEq, reduceIte, cMx, sRFold, zq_, zr_, iOf, Int.cast_ofNat_Int, hm1, hm2, inR, inN]; rfl)); (try kernel_rfl); try exact k24_) | fail)
 apply At.endsRet za_ (fn := Tryz.f142) (rs := [.tmp 2]) Anc.refl hro (lb_ rfl) rfl
 ·exact k11_
 ·exact ys_
 ·exact k6_
 ·rfl
 ·exact k53_
 ·exact zx_
 ·exact fun β => rfl
 ·exact k53_
def sRMix : yt_ := fun args h m => match args with
 | [v1] => bif isI .u64 v1 then some ((0 ≤ (iOf v1)) ∧ ((iOf v1) < 18446744073709551616), .int .u64 (mixI (iOf v1)), [], []) else none
 | _ => none
theorem sRMix_ok : zh_ Tryz.prog 142 sRMix := by
 refine ⟨zf_ (by kernel_rfl), fun args h m c v rd wr hs hm hc w0 M β h' w R hrd hwr hst => ?_⟩
 unfold sRMix at hs
 split at hs
 ·rename_i v1
  obtain ⟨hb, hs⟩ := zj_ hs
  simp only [Option.some.injEq, Prod.mk.injEq] at hs
  obtain ⟨rfl, rfl, rfl, rfl⟩ := hs
  have b1 := hb
  obtain ⟨y1, y2⟩ := hc
  refine ym_ (views := []) (mix_lit (iOf v1) y1 y2) ?_ R hm hwr ?_ ?_ ?_
  ·intro x hx; cases hx
  ·exact d25_
  ·exact k53_
  ·exact k53_
 ·cases hs
def jn1 (x : Int) : Int := mixI (IntKind.u64.wrap (IntKind.u64.wrap (11400714819323198485 + x) + IntKind.u64.wrap (0 * 11400714819323198485)))
def jn2 (x y : Int) : Int := mixI (IntKind.u64.wrap (IntKind.u64.wrap (11400714819323198485 + y) + IntKind.u64.wrap (jn1 x * 11400714819323198485)))
theorem jn2_key (x y : Int) : jn2 x y = keyI x y := by
 have e : jn1 x = mixI (IntKind.u64.wrap (IntKind.u64.wrap (11400714819323198485 + x))) := by
  rw [jn1]
  simp only [wrapU64]
  congr 1
  omega
 rw [jn2, e]; rfl
theorem ls1U (f : Nat → SV) : ls iOf 1 f = [iOf (f 0)] := rfl
theorem ls2U (f : Nat → SV) : ls iOf 2 f = [iOf (f 0), iOf (f 1)] := rfl
theorem ls0U (f : Nat → SV) : ls iOf 0 f = [] := rfl
theorem join0_lit (p1 : Nat) : zp_ Tryz.prog 161 [.sl 1 2 [] 1 0 0 (some p1)] [.gone, .gone, .ro (.arr 0 1 (u64S []))] (.int .u64 0) [.gone] := by
 refine ze_ (fn := Tryz.f161) 3 22 0 rfl rfl rfl rfl rfl u4_ rfl fun w0 M E hro => ?_
 repeat' (first | refine Ctl.h ?_ | ((with_reducible intro hif); first | (focus (cases hif; done)) | ((try simp only [JH] at hif); try (exfalso; omega))) | ((with_reducible first | apply J22 cMx_ok za_ | apply J23 fol cMx_ok za_ | apply J24); (·rfl); (· (simp only [push_cast, ↓JP, Nat.reduceAdd, Nat.reduceEqDiff, Nat.reduceLT, Nat.reduceMul, Nat.reduceLeDiff, reduceCtorEq, reduceIte, inR, inN]; rfl)); (try kernel_rfl); try exact k25_) | fail)
 apply At.endsRet za_ (fn := Tryz.f161) (rs := [.tmp 2]) Anc.refl hro (lb_ rfl) rfl
 ·exact k11_
 ·exact ys_
 ·exact k6_
 ·rfl
 ·exact k53_
 ·exact zx_
 ·exact fun β => rfl
 ·exact k53_
theorem join0_ok (l : List Int) (p1 : Nat) (h : l.length = 0) : zp_ Tryz.prog 161 [.sl 1 2 [] 1 0 l.length (some p1)] [.gone, .gone, .ro (.arr l.length 1 (u64S l))] (.int .u64 0) [.gone] := by
 obtain rfl := List.length_eq_zero_iff.mp h
 exact join0_lit p1
def sRJ0 : yt_ := fun args h m => match args with
 | [v1] => match xv_ h 1 (.tup []) v1 with
  | some (c1, n1, f1, r1) => some (c1 ∧ (∀ q, q < n1 → isI .u64 (f1 q) = true) ∧ ((ls iOf n1 f1).length = 0), .int .u64 0, r1, [])
  | _ => none
 | _ => none
theorem sRJ0_ok : zh_ Tryz.prog 161 sRJ0 := by
 refine ⟨zf_ (by kernel_rfl), fun args h m c v rd wr hs hm hc w0 M β h' w R hrd hwr hst => ?_⟩
 unfold sRJ0 at hs
 split at hs
 ·rename_i v1
  split at hs
  ·rename_i c1 n1 f1 r1 a1
   simp only [Option.some.injEq, Prod.mk.injEq] at hs
   obtain ⟨rfl, rfl, rfl, rfl⟩ := hs
   obtain ⟨k1, g1, y1⟩ := hc
   obtain ⟨A1, p1, d1, e1, t1⟩ := zi_ R a1 k1 (fun i hi => hrd i hi) (by omega)
   refine ym_ (views := [⟨1, (ls iOf n1 f1).length, u64S (ls iOf n1 f1), A1, p1⟩]) (join0_ok (ls iOf n1 f1) p1 y1) ?_ R hm hwr ?_ ?_ ?_
   ·exact d33_
   ·exact d28_
   ·exact k53_
   ·exact k53_
  ·cases hs
 ·cases hs
def cJ0 : FuncId → Option yt_ := y6_ [(142, sRMix), (161, sRJ0)]
theorem cJ0_ok : ∀ f S, cJ0 f = some S → zh_ Tryz.prog f S := zn_ ⟨sRMix_ok, sRJ0_ok, trivial⟩
theorem join1_lit (x : Int) (p1 : Nat) : zp_ Tryz.prog 161 [.sl 1 2 [] 1 0 1 (some p1)] [.gone, .gone, .ro (.arr 1 1 (u64S [x]))] (.int .u64 (jn1 x)) [.gone] := by
 obtain ⟨m, hm⟩ : ∃ m, IntKind.u64.wrap (IntKind.u64.wrap (11400714819323198485 + x) + IntKind.u64.wrap (0 * 11400714819323198485)) = m := ⟨_, rfl⟩
 have b1 := u64_bd (IntKind.u64.wrap (11400714819323198485 + x) + IntKind.u64.wrap (0 * 11400714819323198485))
 rw [hm] at b1
 rw [jn1, hm]
 refine ze_ (fn := Tryz.f161) 3 22 0 rfl rfl rfl rfl rfl u4_ rfl fun w0 M E hro => ?_
 repeat' (first | refine Ctl.h ?_ | ((with_reducible intro hif); first | (focus (cases hif; done)) | ((try simp only [JH] at hif); try (exfalso; omega))) | ((with_reducible first | apply J22 cJ0_ok za_ | apply J23 fol cJ0_ok za_ | apply J24); (·rfl); (· (simp only [push_cast, ↓JP, Nat.reduceAdd, Nat.reduceEqDiff, Nat.reduceLT, Nat.reduceMul, Nat.reduceLeDiff, reduceCtorEq, reduceIte, cJ0, sRMix, sRJ0, zq_, zr_, iOf, u64S, ls0U, ls1U, Int.cast_ofNat_Int, Int.reduceSub, Int.reduceToNat, Nat.sub_zero, Nat.sub_self, List.getD_cons_zero, List.getD_cons_succ, hm, inR, inN]; rfl)); (try kernel_rfl); try exact k54_) | fail)
 apply At.endsRet za_ (fn := Tryz.f161) (rs := [.tmp 2]) Anc.refl hro (lb_ rfl) rfl
 ·exact k11_
 ·exact ys_
 ·exact k6_
 ·rfl
 ·exact k53_
 ·exact zx_
 ·exact fun β => rfl
 ·exact k53_
theorem join1_ok (l : List Int) (p1 : Nat) (h : l.length = 1) : zp_ Tryz.prog 161 [.sl 1 2 [] 1 0 l.length (some p1)] [.gone, .gone, .ro (.arr l.length 1 (u64S l))] (.int .u64 (jn1 (l.getD 0 0))) [.gone] := by
 obtain ⟨x, rfl⟩ := List.length_eq_one_iff.mp h
 exact join1_lit x p1
def sRJ1 : yt_ := fun args h m => match args with
 | [v1] => match xv_ h 1 (.tup []) v1 with
  | some (c1, n1, f1, r1) => some (c1 ∧ (∀ q, q < n1 → isI .u64 (f1 q) = true) ∧ ((ls iOf n1 f1).length = 1), .int .u64 (jn1 ((ls iOf n1 f1).getD 0 0)), r1, [])
  | _ => none
 | _ => none
theorem sRJ1_ok : zh_ Tryz.prog 161 sRJ1 := by
 refine ⟨zf_ (by kernel_rfl), fun args h m c v rd wr hs hm hc w0 M β h' w R hrd hwr hst => ?_⟩
 unfold sRJ1 at hs
 split at hs
 ·rename_i v1
  split at hs
  ·rename_i c1 n1 f1 r1 a1
   simp only [Option.some.injEq, Prod.mk.injEq] at hs
   obtain ⟨rfl, rfl, rfl, rfl⟩ := hs
   obtain ⟨k1, g1, y1⟩ := hc
   obtain ⟨A1, p1, d1, e1, t1⟩ := zi_ R a1 k1 (fun i hi => hrd i hi) (by omega)
   refine ym_ (views := [⟨1, (ls iOf n1 f1).length, u64S (ls iOf n1 f1), A1, p1⟩]) (join1_ok (ls iOf n1 f1) p1 y1) ?_ R hm hwr ?_ ?_ ?_
   ·exact d33_
   ·exact d28_
   ·exact k53_
   ·exact k53_
  ·cases hs
 ·cases hs
def cJ1 : FuncId → Option yt_ := y6_ [(142, sRMix), (161, sRJ1)]
theorem cJ1_ok : ∀ f S, cJ1 f = some S → zh_ Tryz.prog f S := zn_ ⟨sRMix_ok, sRJ1_ok, trivial⟩
theorem join2_lit (x y : Int) (p1 : Nat) : zp_ Tryz.prog 161 [.sl 1 2 [] 1 0 2 (some p1)] [.gone, .gone, .ro (.arr 2 1 (u64S [x, y]))] (.int .u64 (jn2 x y)) [.gone] := by
 obtain ⟨m, hm⟩ : ∃ m, IntKind.u64.wrap (IntKind.u64.wrap (11400714819323198485 + y) + IntKind.u64.wrap (jn1 x * 11400714819323198485)) = m := ⟨_, rfl⟩
 have b1 := u64_bd (IntKind.u64.wrap (11400714819323198485 + y) + IntKind.u64.wrap (jn1 x * 11400714819323198485))
 rw [hm] at b1
 rw [jn2, hm]
 refine ze_ (fn := Tryz.f161) 3 22 0 rfl rfl rfl rfl rfl u4_ rfl fun w0 M E hro => ?_
 repeat' (first | refine Ctl.h ?_ | ((with_reducible intro hif); first | (focus (cases hif; done)) | ((try simp only [JH] at hif); try (exfalso; omega))) | ((with_reducible first | apply J22 cJ1_ok za_ | apply J23 fol cJ1_ok za_ | apply J24); (·rfl); (· (simp only [push_cast, ↓JP, Nat.reduceAdd, Nat.reduceEqDiff, Nat.reduceLT, Nat.reduceMul, Nat.reduceLeDiff, reduceCtorEq, reduceIte, cJ1, sRMix, sRJ1, zq_, zr_, iOf, u64S, ls0U, ls1U, Int.cast_ofNat_Int, Int.reduceSub, Int.reduceToNat, Nat.sub_zero, Nat.sub_self, List.getD_cons_zero, List.getD_cons_succ, hm, inR, inN]; rfl)); (try kernel_rfl); try exact k54_) | fail)
 apply At.endsRet za_ (fn := Tryz.f161) (rs := [.tmp 2]) Anc.refl hro (lb_ rfl) rfl
 ·exact k11_
 ·exact ys_
 ·exact k6_
 ·rfl
 ·exact k53_
 ·exact zx_
 ·exact fun β => rfl
 ·exact k53_
theorem join2_ok (l : List Int) (p1 : Nat) (h : l.length = 2) : zp_ Tryz.prog 161 [.sl 1 2 [] 1 0 l.length (some p1)] [.gone, .gone, .ro (.arr l.length 1 (u64S l))] (.int .u64 (jn2 (l.getD 0 0) (l.getD 1 0))) [.gone] := by
 match l, h with
 | [x, y], _ => exact join2_lit x y p1
def sRJ2 : yt_ := fun args h m => match args with
 | [v1] => match xv_ h 1 (.tup []) v1 with
  | some (c1, n1, f1, r1) => some (c1 ∧ (∀ q, q < n1 → isI .u64 (f1 q) = true) ∧ ((ls iOf n1 f1).length = 2), .int .u64 (jn2 ((ls iOf n1 f1).getD 0 0) ((ls iOf n1 f1).getD 1 0)), r1, [])
  | _ => none
 | _ => none
theorem sRJ2_ok : zh_ Tryz.prog 161 sRJ2 := by
 refine ⟨zf_ (by kernel_rfl), fun args h m c v rd wr hs hm hc w0 M β h' w R hrd hwr hst => ?_⟩
 unfold sRJ2 at hs
 split at hs
 ·rename_i v1
  split at hs
  ·rename_i c1 n1 f1 r1 a1
   simp only [Option.some.injEq, Prod.mk.injEq] at hs
   obtain ⟨rfl, rfl, rfl, rfl⟩ := hs
   obtain ⟨k1, g1, y1⟩ := hc
   obtain ⟨A1, p1, d1, e1, t1⟩ := zi_ R a1 k1 (fun i hi => hrd i hi) (by omega)
   refine ym_ (views := [⟨1, (ls iOf n1 f1).length, u64S (ls iOf n1 f1), A1, p1⟩]) (join2_ok (ls iOf n1 f1) p1 y1) ?_ R hm hwr ?_ ?_ ?_
   ·exact d33_
   ·exact d28_
   ·exact k53_
   ·exact k53_
  ·cases hs
 ·cases hs
def cKy : FuncId → Option yt_ := y6_ [(161, sRJ2)]
theorem cKy_ok : ∀ f S, cKy f = some S → zh_ Tryz.prog f S := zn_ ⟨sRJ2_ok, trivial⟩
theorem rkey_lit (s p : Int) (h0 : 0 ≤ p) (h1 : p ≤ 65536) : zp_ Tryz.prog 143 [.int .u64 s, .int .i64 p] [.gone] (.int .u64 (keyI s p)) [.gone] := by
 rw [← jn2_key]
 refine ze_ (fn := Tryz.f143) 1 10 0 rfl rfl rfl rfl rfl u4_ rfl fun w0 M E hro => ?_
 repeat' (first | refine Ctl.h ?_ | ((with_reducible intro hif); first | (focus (cases hif; done)) | ((try simp only [JH] at hif); try (exfalso; omega))) | ((with_reducible first | apply J22 cKy_ok za_ | apply J23 fol cKy_ok za_ | apply J24); (·rfl); (· (simp only [push_cast, ↓JP, Nat.reduceAdd, Nat.reduceEqDiff, Nat.reduceLT, Nat.reduceMul, Nat.reduceLeDiff, reduceCtorEq, reduceIte, cKy, sRJ2, zq_, zr_, iOf, ls2U, Int.cast_ofNat_Int, inR, inN, List.all_cons, List.all_nil]; rfl)); (try kernel_rfl); (try (focus (first | exact True.intro | ((repeat' (first | exact True.intro | apply And.intro | rfl | omega | decide | (intro q hq; match q, hq with | 0, _ => rfl | 1, _ => rfl))); done) | ((try simp only [JS, implies_true, forall_const, yd_, z9_, kndOf, inR, inN]); (repeat' (first | assumption | exact True.intro | omega | apply And.intro)); done))))) | fail)
 apply At.endsRet za_ (fn := Tryz.f143) (rs := [.tmp 4]) Anc.refl hro (lb_ rfl) rfl
 ·exact k11_
 ·exact ys_
 ·exact k6_
 ·rfl
 ·exact k53_
 ·exact zx_
 ·exact fun β => rfl
 ·exact k53_
def sRKey : yt_ := fun args h m => match args with
 | [v1, v2] => bif isI .u64 v1 && isI .i64 v2 then some ((0 ≤ (iOf v2)) ∧ ((iOf v2) ≤ 65536), .int .u64 (keyI (iOf v1) (iOf v2)), [], []) else none
 | _ => none
theorem sRKey_ok : zh_ Tryz.prog 143 sRKey := by
 refine ⟨zf_ (by kernel_rfl), fun args h m c v rd wr hs hm hc w0 M β h' w R hrd hwr hst => ?_⟩
 unfold sRKey at hs
 split at hs
 ·rename_i v1 v2
  obtain ⟨hb, hs⟩ := zj_ hs
  simp only [Option.some.injEq, Prod.mk.injEq] at hs
  obtain ⟨rfl, rfl, rfl, rfl⟩ := hs
  simp only [Bool.and_eq_true] at hb
  obtain ⟨b1, b2⟩ := hb
  obtain ⟨y1, y2⟩ := hc
  refine ym_ (views := []) (rkey_lit (iOf v1) (iOf v2) y1 y2) ?_ R hm hwr ?_ ?_ ?_
  ·intro x hx; cases hx
  ·intro β1 hv
   simp only [denL, yh_, yg_, yf_, zv_, zb_, zc_ b1, zc_ b2]
  ·exact k53_
  ·exact k53_
 ·cases hs
def cVa : FuncId → Option yt_ := y6_ [(143, sRKey), (142, sRMix)]
theorem cVa_ok : ∀ f S, cVa f = some S → zh_ Tryz.prog f S := zn_ ⟨sRKey_ok, sRMix_ok, trivial⟩
theorem rval_lit (s p i : Int) (h0 : 0 ≤ p) (h1 : p ≤ 65536) (h2 : 0 ≤ i) (h3 : i ≤ 281474976710656) : zp_ Tryz.prog 120 [.int .u64 s, .int .i64 p, .int .i64 i] [.gone] (.int .u64 (valueI s p i)) [.gone] := by
 obtain ⟨m, hm⟩ : ∃ m, IntKind.u64.wrap (keyI s p + IntKind.u64.wrap ((i + 1) * 11400714819323198485)) = m := ⟨_, rfl⟩
 have b1 := u64_bd (keyI s p + IntKind.u64.wrap ((i + 1) * 11400714819323198485))
 rw [hm] at b1
 have e : valueI s p i = mixI m := by
  rw [valueI, atI, ← hm]
  have e1 : IntKind.u64.wrap (IntKind.u64.wrap i + 1) = i + 1 := by simp only [wrapU64]; omega
  rw [e1]
 rw [e]
 refine ze_ (fn := Tryz.f120) 1 16 0 rfl rfl rfl rfl rfl u4_ rfl fun w0 M E hro => ?_
 repeat' (first | refine Ctl.h ?_ | ((with_reducible intro hif); first | (focus (cases hif; done)) | ((try simp only [JH] at hif); try (exfalso; omega))) | ((with_reducible first | apply J22 cVa_ok za_ | apply J23 fol cVa_ok za_ | apply J24); (·rfl); (· (simp only [push_cast, ↓JP, Nat.reduceAdd, Nat.reduceEqDiff, Nat.reduceLT, Nat.reduceMul, Nat.reduceLeDiff, reduceCtorEq, reduceIte, cVa, sRKey, sRMix, zq_, zr_, iOf, nat_one_i, Int.cast_ofNat_Int, hm, inR, inN]; rfl)); (try kernel_rfl); try exact k54_) | fail)
 apply At.endsRet za_ (fn := Tryz.f120) (rs := [.tmp 6]) Anc.refl hro (lb_ rfl) rfl
 ·exact k11_
 ·exact ys_
 ·exact k6_
 ·rfl
 ·exact k53_
 ·exact zx_
 ·exact fun β => rfl
 ·exact k53_
def sRVal : yt_ := fun args h m => match args with
 | [v1, v2, v3] => bif isI .u64 v1 && isI .i64 v2 && isI .i64 v3 then some ((0 ≤ (iOf v2)) ∧ ((iOf v2) ≤ 65536) ∧ (0 ≤ (iOf v3)) ∧ ((iOf v3) ≤ 281474976710656), .int .u64 (valueI (iOf v1) (iOf v2) (iOf v3)), [], []) else none
 | _ => none
theorem sRVal_ok : zh_ Tryz.prog 120 sRVal := by
 refine ⟨zf_ (by kernel_rfl), fun args h m c v rd wr hs hm hc w0 M β h' w R hrd hwr hst => ?_⟩
 unfold sRVal at hs
 split at hs
 ·rename_i v1 v2 v3
  obtain ⟨hb, hs⟩ := zj_ hs
  simp only [Option.some.injEq, Prod.mk.injEq] at hs
  obtain ⟨rfl, rfl, rfl, rfl⟩ := hs
  simp only [Bool.and_eq_true] at hb
  obtain ⟨⟨b1, b2⟩, b3⟩ := hb
  obtain ⟨y1, y2, y3, y4⟩ := hc
  refine ym_ (views := []) (rval_lit (iOf v1) (iOf v2) (iOf v3) y1 y2 y3 y4) ?_ R hm hwr ?_ ?_ ?_
  ·intro x hx; cases hx
  ·intro β1 hv
   simp only [denL, yh_, yg_, yf_, zv_, zb_, zc_ b1, zc_ b2, zc_ b3]
  ·exact k53_
  ·exact k53_
 ·cases hs
end Go.Proofs.YtjliakjbdcplcaaGreat.Vm
end
end
