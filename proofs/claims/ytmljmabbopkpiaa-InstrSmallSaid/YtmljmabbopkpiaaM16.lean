import Derived.Test.YtmljmabbopkpiaaM1
import Derived.Test.YtmljmabbopkpiaaM10
import Derived.Test.YtmljmabbopkpiaaM14
import Derived.Test.YtmljmabbopkpiaaM15
import Derived.Test.YtmljmabbopkpiaaProg
set_option linter.unusedSimpArgs false
set_option linter.unusedVariables false
set_option maxRecDepth 100000
set_option maxHeartbeats 4000000
section
open Go.Proofs.Ytmljmabbopkpiaa.Vm Go.RowKit
section
namespace Go.Proofs.Ytmljmabbopkpiaa.Vm
open Go.RowKit
theorem apV1 (a b : Int) (ha : R64 a) (hb : R64 b) : yn_ 1 a b = (oi a + oi b).toInt := by
 rw [yn_, if_pos (by simp [yk_]), ← ap1]
 rfl
theorem apV2 (a b : Int) (ha : R64 a) (hb : R64 b) : yn_ 2 a b = (oi a - oi b).toInt := by
 rw [yn_, if_pos (by simp [yk_]), ← ap2]
 rfl
theorem apV3 (a b : Int) (ha : R64 a) (hb : R64 b) : yn_ 3 a b = (oi a * oi b).toInt := by
 rw [yn_, if_pos (by simp [yk_]), ← ap3]
 rfl
theorem apV4 (a b : Int) (ha : R64 a) (hb : R64 b) (h0 : ¬ b = 0) : yn_ 4 a b = (if ((decide (a < 0)) != (decide (b < 0))) = true then -(amV a / amV b) else amV a / amV b).toInt := by
 rw [yn_, if_pos (by simp [yk_, h0]), ← ap4 ha hb]
 rfl
theorem apV5 (a b : Int) (ha : R64 a) (hb : R64 b) (h0 : ¬ b = 0) : yn_ 5 a b = (if decide (a < 0) = true then -(amV a % amV b) else amV a % amV b).toInt := by
 rw [yn_, if_pos (by simp [yk_, h0]), ← ap5 ha hb h0]
 rfl
theorem apV6 (a b : Int) (ha : R64 a) (hb : R64 b) (h0 : ¬ b = 0) : yn_ 6 a b = (if a < 0 ∧ (amV a % amV b).toInt ≠ 0 then amV b - amV a % amV b else amV a % amV b).toInt := by
 have e : yn_ 6 a b = modI a b := by rw [yn_, if_pos (by simp [yk_, h0])]; simp [yj_]
 rw [e]
 split
 ·rename_i h; exact ap6b ha hb h0 h.1 h.2
 ·rename_i h; exact ap6a ha hb h0 h
theorem apV7 (a b : Int) (ha : R64 a) (hb : R64 b) : yn_ 7 a b = (bwV 7 (oi a) (oi b)).toInt := by
 rw [yn_, if_pos (by simp [yk_]), show bwV 7 (oi a) (oi b) = oi a &&& oi b by simp [bwV], ← ap7]
 rfl
theorem apV8 (a b : Int) (ha : R64 a) (hb : R64 b) : yn_ 8 a b = (bwV 8 (oi a) (oi b)).toInt := by
 rw [yn_, if_pos (by simp [yk_]), show bwV 8 (oi a) (oi b) = oi a ||| oi b by simp [bwV], ← ap8]
 rfl
theorem apV9 (a b : Int) (ha : R64 a) (hb : R64 b) : yn_ 9 a b = (bwV 9 (oi a) (oi b)).toInt := by
 rw [yn_, if_pos (by simp [yk_]), show bwV 9 (oi a) (oi b) = oi a ^^^ oi b by simp [bwV], ← ap9]
 rfl
theorem apV10 (a b : Int) (ha : R64 a) (hb : R64 b) : yn_ 10 a b = (oi a <<< (nY (oi b)).toNat).toInt := by
 rw [yn_, if_pos (by simp [yk_]), ← ap10 a (show (nY (oi b)).toNat ≤ 63 by have := nY_bd (oi b); omega), ← nY_sh]
 rfl
theorem apV11 (a b : Int) (ha : R64 a) (hb : R64 b) : yn_ 11 a b = (dnV (oi a) (nY (oi b)).toNat false).toInt := by
 rw [yn_, if_pos (by simp [yk_]), ← ap11, ← nY_sh]
 rfl
theorem apV12 (a b : Int) (ha : R64 a) (hb : R64 b) : yn_ 12 a b = (dnV (oi a) (nY (oi b)).toNat ((oi a).getLsbD 63)).toInt := by
 rw [yn_, if_pos (by simp [yk_]), ← ap12 ha, ← nY_sh]
 rfl
theorem apV13 (a b : Int) (ha : R64 a) (hb : R64 b) : yn_ 13 a b = bI (decide (a < b)) := by
 rw [yn_, if_pos (by simp [yk_]), ← truth_bI]
 rfl
theorem apV14 (a b : Int) (ha : R64 a) (hb : R64 b) : yn_ 14 a b = bI (decide ((oi a).toNat < (oi b).toNat)) := by
 rw [yn_, if_pos (by simp [yk_]), ← truth_bI, ← ap14]
 rfl
theorem apV15 (a b : Int) (ha : R64 a) (hb : R64 b) : yn_ 15 a b = bI (decide (a = b)) := by
 rw [yn_, if_pos (by simp [yk_]), ← truth_bI]
 show truthI (a == b) = _
 by_cases h : a = b
 ·subst h; simp
 ·rw [decide_eq_false h, beq_eq_false_iff_ne.mpr h]
theorem apV16 (a b : Int) (ha : R64 a) (hb : R64 b) : yn_ 16 a b = (if a < b then a else b) := by
 rw [yn_, if_pos (by simp [yk_])]
 show (if b < a then b else a) = _
 split <;> split <;> omega
theorem apV17 (a b : Int) (ha : R64 a) (hb : R64 b) : yn_ 17 a b = (if a < b then b else a) := by
 rw [yn_, if_pos (by simp [yk_])]
 show (if a < b then b else a) = _
 rfl
theorem apw1 (op a b : Int) (h : op < 1) : zp_ Try.prog 131 [.int .u8 op, .int .i64 a, .int .i64 b] [.gone] (.tup [.int .i64 0, .int .i64 130]) [.gone] := by
 refine zf_ (fn := Try.f131) 1 196 0 rfl rfl rfl rfl rfl u3_ rfl fun w0 M E hro => ?_
 repeat' (first | refine Ctl.h ?_ | ((with_reducible intro hif); first | (focus (cases hif; done)) | ((try simp only [JH] at hif); try (exfalso; omega))) | ((with_reducible first | apply J22 zk_ za_ | apply J23 fol zk_ za_ | apply J24); (·rfl); (· (simp only [push_cast, ↓JP, Nat.reduceAdd, Nat.reduceEqDiff, Nat.reduceLT, Nat.reduceMul, Nat.reduceLeDiff, reduceCtorEq, reduceIte, ya_, z9_, iOf, inR, inN, h]; rfl)); (try kernel_rfl); try exact k26_) | fail)
 apply At.endsRet za_ (fn := Try.f131) (rs := [.tmp 6, .tmp 7]) Anc.refl hro (lb_ rfl) rfl
 ·exact k3_
 ·exact k4_
 ·exact k5_
 ·rfl
 ·exact yh_
 ·exact k7_
 ·exact fun β => rfl
 ·exact yh_
theorem apw2 (op a b : Int) (h : ¬ op < 1) (h2 : 17 < op) : zp_ Try.prog 131 [.int .u8 op, .int .i64 a, .int .i64 b] [.gone] (.tup [.int .i64 0, .int .i64 130]) [.gone] := by
 refine zf_ (fn := Try.f131) 1 196 0 rfl rfl rfl rfl rfl u3_ rfl fun w0 M E hro => ?_
 repeat' (first | refine Ctl.h ?_ | ((with_reducible intro hif); first | (focus (cases hif; done)) | ((try simp only [JH] at hif); try (exfalso; omega))) | ((with_reducible first | apply J22 zk_ za_ | apply J23 fol zk_ za_ | apply J24); (·rfl); (· (simp only [push_cast, ↓JP, Nat.reduceAdd, Nat.reduceEqDiff, Nat.reduceLT, Nat.reduceMul, Nat.reduceLeDiff, reduceCtorEq, reduceIte, ya_, z9_, iOf, inR, inN, h, h2]; rfl)); (try kernel_rfl); try exact k26_) | fail)
 apply At.endsRet za_ (fn := Try.f131) (rs := [.tmp 6, .tmp 7]) Anc.refl hro (lb_ rfl) rfl
 ·exact k3_
 ·exact k4_
 ·exact k5_
 ·rfl
 ·exact yh_
 ·exact k7_
 ·exact fun β => rfl
 ·exact yh_
theorem apw3 (op a b : Int) (h : ¬ op < 1) (h2 : ¬ 17 < op) (h3 : 4 ≤ op) (h4 : op ≤ 6) (h5 : b = 0) : zp_ Try.prog 131 [.int .u8 op, .int .i64 a, .int .i64 b] [.gone] (.tup [.int .i64 0, .int .i64 131]) [.gone] := by
 refine zf_ (fn := Try.f131) 1 196 0 rfl rfl rfl rfl rfl u3_ rfl fun w0 M E hro => ?_
 repeat' (first | refine Ctl.h ?_ | ((with_reducible intro hif); first | (focus (cases hif; done)) | ((try simp only [JH] at hif); try (exfalso; omega))) | ((with_reducible first | apply J22 zk_ za_ | apply J23 fol zk_ za_ | apply J24); (·rfl); (· (simp only [push_cast, ↓JP, Nat.reduceAdd, Nat.reduceEqDiff, Nat.reduceLT, Nat.reduceMul, Nat.reduceLeDiff, reduceCtorEq, reduceIte, ya_, z9_, iOf, inR, inN, h, h2, h3, h4, (eq_true h5)]; rfl)); (try kernel_rfl); try exact k26_) | fail)
 apply At.endsRet za_ (fn := Try.f131) (rs := [.tmp 6, .tmp 7]) Anc.refl hro (lb_ rfl) rfl
 ·exact k3_
 ·exact k4_
 ·exact k5_
 ·rfl
 ·exact yh_
 ·exact k7_
 ·exact fun β => rfl
 ·exact yh_
theorem apply_lit (op a b : Int) (ha0 : -9223372036854775808 ≤ a) (ha1 : a ≤ 9223372036854775807) (hb0 : -9223372036854775808 ≤ b) (hb1 : b ≤ 9223372036854775807) : zp_ Try.prog 131 [.int .u8 op, .int .i64 a, .int .i64 b] [.gone] (.tup [.int .i64 (yn_ op a b), .int .i64 (yk_ op b)]) [.gone] := by
 have ha : R64 a := ⟨ha0, ha1⟩
 have hb : R64 b := ⟨hb0, hb1⟩
 by_cases h1 : op < 1
 ·have e : yk_ op b = 130 := by rw [yk_, if_pos (.inl h1)]
  rw [yn_, e, if_neg (by decide)]
  exact apw1 op a b h1
 by_cases h2 : 17 < op
 ·have e : yk_ op b = 130 := by rw [yk_, if_pos (.inr h2)]
  rw [yn_, e, if_neg (by decide)]
  exact apw2 op a b h1 h2
 by_cases h3 : 4 ≤ op ∧ op ≤ 6 ∧ b = 0
 ·have e : yk_ op b = 131 := by rw [yk_, if_neg (by omega), if_pos ⟨h3.2.2, h3.1, h3.2.1⟩]
  rw [yn_, e, if_neg (by decide)]
  exact apw3 op a b h1 h2 h3.1 h3.2.1 h3.2.2
 have e0 : yk_ op b = 0 := by rw [yk_, if_neg (by omega), if_neg (by omega)]
 rw [e0]
 have hop : op = 1 ∨ op = 2 ∨ op = 3 ∨ op = 4 ∨ op = 5 ∨ op = 6 ∨ op = 7 ∨ op = 8 ∨ op = 9 ∨ op = 10 ∨ op = 11 ∨ op = 12 ∨ op = 13 ∨ op = 14 ∨ op = 15 ∨ op = 16 ∨ op = 17 := by omega
 have hY := nY_bd (oi b)
 rcases hop with h | h | h | h | h | h | h | h | h | h | h | h | h | h | h | h | h <;> subst h
 ·rw [apV1 a b ha hb]
  exact apk1 a b _ _ _ _ _ _ _ _ _ _ _ _ _ ha0 ha1 hb0 hb1 rfl rfl rfl rfl rfl rfl (zh_ (by decide)) (zh_ (by decide)) (zh_ (by decide)) (zh_ (by decide)) (zh_ (by decide)) (zh_ (by decide)) (zz_ _) (zz_ _) (zz_ _) (zz_ _) (zz_ _) (zz_ _) rfl hY.1 hY.2 trivial
 ·rw [apV2 a b ha hb]
  exact apk2 a b _ _ _ _ _ _ _ _ _ _ _ _ _ ha0 ha1 hb0 hb1 rfl rfl rfl rfl rfl rfl (zh_ (by decide)) (zh_ (by decide)) (zh_ (by decide)) (zh_ (by decide)) (zh_ (by decide)) (zh_ (by decide)) (zz_ _) (zz_ _) (zz_ _) (zz_ _) (zz_ _) (zz_ _) rfl hY.1 hY.2 trivial
 ·rw [apV3 a b ha hb]
  exact apk3 a b _ _ _ _ _ _ _ _ _ _ _ _ _ ha0 ha1 hb0 hb1 rfl rfl rfl rfl rfl rfl (zh_ (by decide)) (zh_ (by decide)) (zh_ (by decide)) (zh_ (by decide)) (zh_ (by decide)) (zh_ (by decide)) (zz_ _) (zz_ _) (zz_ _) (zz_ _) (zz_ _) (zz_ _) rfl hY.1 hY.2 trivial
 ·rw [apV4 a b ha hb (by omega)]
  exact apk4 a b _ _ _ _ _ _ _ _ _ _ _ _ _ ha0 ha1 hb0 hb1 rfl rfl rfl rfl rfl rfl (zh_ (by decide)) (zh_ (by decide)) (zh_ (by decide)) (zh_ (by decide)) (zh_ (by decide)) (zh_ (by decide)) (zz_ _) (zz_ _) (zz_ _) (zz_ _) (zz_ _) (zz_ _) rfl hY.1 hY.2 (by rw [amV_nat hb]; omega) (by omega)
 ·rw [apV5 a b ha hb (by omega)]
  exact apk5 a b _ _ _ _ _ _ _ _ _ _ _ _ _ ha0 ha1 hb0 hb1 rfl rfl rfl rfl rfl rfl (zh_ (by decide)) (zh_ (by decide)) (zh_ (by decide)) (zh_ (by decide)) (zh_ (by decide)) (zh_ (by decide)) (zz_ _) (zz_ _) (zz_ _) (zz_ _) (zz_ _) (zz_ _) rfl hY.1 hY.2 (by rw [amV_nat hb]; omega) (by omega)
 ·rw [apV6 a b ha hb (by omega)]
  exact apk6 a b _ _ _ _ _ _ _ _ _ _ _ _ _ ha0 ha1 hb0 hb1 rfl rfl rfl rfl rfl rfl (zh_ (by decide)) (zh_ (by decide)) (zh_ (by decide)) (zh_ (by decide)) (zh_ (by decide)) (zh_ (by decide)) (zz_ _) (zz_ _) (zz_ _) (zz_ _) (zz_ _) (zz_ _) rfl hY.1 hY.2 (by rw [amV_nat hb]; omega) (by omega)
 ·rw [apV7 a b ha hb]
  exact apk7 a b _ _ _ _ _ _ _ _ _ _ _ _ _ ha0 ha1 hb0 hb1 rfl rfl rfl rfl rfl rfl (zh_ (by decide)) (zh_ (by decide)) (zh_ (by decide)) (zh_ (by decide)) (zh_ (by decide)) (zh_ (by decide)) (zz_ _) (zz_ _) (zz_ _) (zz_ _) (zz_ _) (zz_ _) rfl hY.1 hY.2 trivial
 ·rw [apV8 a b ha hb]
  exact apk8 a b _ _ _ _ _ _ _ _ _ _ _ _ _ ha0 ha1 hb0 hb1 rfl rfl rfl rfl rfl rfl (zh_ (by decide)) (zh_ (by decide)) (zh_ (by decide)) (zh_ (by decide)) (zh_ (by decide)) (zh_ (by decide)) (zz_ _) (zz_ _) (zz_ _) (zz_ _) (zz_ _) (zz_ _) rfl hY.1 hY.2 trivial
 ·rw [apV9 a b ha hb]
  exact apk9 a b _ _ _ _ _ _ _ _ _ _ _ _ _ ha0 ha1 hb0 hb1 rfl rfl rfl rfl rfl rfl (zh_ (by decide)) (zh_ (by decide)) (zh_ (by decide)) (zh_ (by decide)) (zh_ (by decide)) (zh_ (by decide)) (zz_ _) (zz_ _) (zz_ _) (zz_ _) (zz_ _) (zz_ _) rfl hY.1 hY.2 trivial
 ·rw [apV10 a b ha hb]
  exact apk10 a b _ _ _ _ _ _ _ _ _ _ _ _ _ ha0 ha1 hb0 hb1 rfl rfl rfl rfl rfl rfl (zh_ (by decide)) (zh_ (by decide)) (zh_ (by decide)) (zh_ (by decide)) (zh_ (by decide)) (zh_ (by decide)) (zz_ _) (zz_ _) (zz_ _) (zz_ _) (zz_ _) (zz_ _) rfl hY.1 hY.2 trivial
 ·rw [apV11 a b ha hb]
  exact apk11 a b _ _ _ _ _ _ _ _ _ _ _ _ _ ha0 ha1 hb0 hb1 rfl rfl rfl rfl rfl rfl (zh_ (by decide)) (zh_ (by decide)) (zh_ (by decide)) (zh_ (by decide)) (zh_ (by decide)) (zh_ (by decide)) (zz_ _) (zz_ _) (zz_ _) (zz_ _) (zz_ _) (zz_ _) rfl hY.1 hY.2 trivial
 ·rw [apV12 a b ha hb]
  exact apk12 a b _ _ _ _ _ _ _ _ _ _ _ _ _ ha0 ha1 hb0 hb1 rfl rfl rfl rfl rfl rfl (zh_ (by decide)) (zh_ (by decide)) (zh_ (by decide)) (zh_ (by decide)) (zh_ (by decide)) (zh_ (by decide)) (zz_ _) (zz_ _) (zz_ _) (zz_ _) (zz_ _) (zz_ _) rfl hY.1 hY.2 trivial
 ·rw [apV13 a b ha hb]
  exact apk13 a b _ _ _ _ _ _ _ _ _ _ _ _ _ ha0 ha1 hb0 hb1 rfl rfl rfl rfl rfl rfl (zh_ (by decide)) (zh_ (by decide)) (zh_ (by decide)) (zh_ (by decide)) (zh_ (by decide)) (zh_ (by decide)) (zz_ _) (zz_ _) (zz_ _) (zz_ _) (zz_ _) (zz_ _) rfl hY.1 hY.2 trivial
 ·rw [apV14 a b ha hb]
  exact apk14 a b _ _ _ _ _ _ _ _ _ _ _ _ _ ha0 ha1 hb0 hb1 rfl rfl rfl rfl rfl rfl (zh_ (by decide)) (zh_ (by decide)) (zh_ (by decide)) (zh_ (by decide)) (zh_ (by decide)) (zh_ (by decide)) (zz_ _) (zz_ _) (zz_ _) (zz_ _) (zz_ _) (zz_ _) rfl hY.1 hY.2 trivial
 ·rw [apV15 a b ha hb]
  exact apk15 a b _ _ _ _ _ _ _ _ _ _ _ _ _ ha0 ha1 hb0 hb1 rfl rfl rfl rfl rfl rfl (zh_ (by decide)) (zh_ (by decide)) (zh_ (by decide)) (zh_ (by decide)) (zh_ (by decide)) (zh_ (by decide)) (zz_ _) (zz_ _) (zz_ _) (zz_ _) (zz_ _) (zz_ _) rfl hY.1 hY.2 trivial
 ·rw [apV16 a b ha hb]
  exact apk16 a b _ _ _ _ _ _ _ _ _ _ _ _ _ ha0 ha1 hb0 hb1 rfl rfl rfl rfl rfl rfl (zh_ (by decide)) (zh_ (by decide)) (zh_ (by decide)) (zh_ (by decide)) (zh_ (by decide)) (zh_ (by decide)) (zz_ _) (zz_ _) (zz_ _) (zz_ _) (zz_ _) (zz_ _) rfl hY.1 hY.2 trivial
 ·rw [apV17 a b ha hb]
  exact apk17 a b _ _ _ _ _ _ _ _ _ _ _ _ _ ha0 ha1 hb0 hb1 rfl rfl rfl rfl rfl rfl (zh_ (by decide)) (zh_ (by decide)) (zh_ (by decide)) (zh_ (by decide)) (zh_ (by decide)) (zh_ (by decide)) (zz_ _) (zz_ _) (zz_ _) (zz_ _) (zz_ _) (zz_ _) rfl hY.1 hY.2 trivial
def sRAp : yp_ := fun args h m => match args with
 | [v1, v2, v3] => bif isI .u8 v1 && isI .i64 v2 && isI .i64 v3 then some ((-9223372036854775808 ≤ (iOf v2)) ∧ ((iOf v2) ≤ 9223372036854775807) ∧ (-9223372036854775808 ≤ (iOf v3)) ∧ ((iOf v3) ≤ 9223372036854775807), .tup [.int .i64 (yn_ (iOf v1) (iOf v2) (iOf v3)), .int .i64 (yk_ (iOf v1) (iOf v3))], [], []) else none
 | _ => none
theorem sRAp_ok : zj_ Try.prog 131 sRAp := by
 refine ⟨zi_ (by kernel_rfl), fun args h m c v rd wr hs hm hc w0 M β h' w R hrd hwr hst => ?_⟩
 unfold sRAp at hs
 split at hs
 ·rename_i v1 v2 v3
  obtain ⟨hb, hs⟩ := zl_ hs
  simp only [Option.some.injEq, Prod.mk.injEq] at hs
  obtain ⟨rfl, rfl, rfl, rfl⟩ := hs
  simp only [Bool.and_eq_true] at hb
  obtain ⟨⟨b1, b2⟩, b3⟩ := hb
  obtain ⟨y1, y2, y3, y4⟩ := hc
  refine yl_ (views := []) (apply_lit (iOf v1) (iOf v2) (iOf v3) y1 y2 y3 y4) ?_ R hm hwr ?_ ?_ ?_
  ·intro x hx; cases hx
  ·intro β1 hv
   simp only [denL, z4_, z3_, yd_, zs_, zc_, zd_ b1, zd_ b2, zd_ b3]
  ·exact yh_
  ·exact yh_
 ·cases hs
def zF (x n : Nat) : Nat := x ^^^ x / 2 ^ n
def zV (x n j : Nat) : Nat := zF x n % 2 ^ j
def b2 (b : Bool) : Nat := if b then 1 else 0
theorem bit_div (x j : Nat) : x / 2 ^ j % 2 = b2 (x.testBit j) := by
 rw [Nat.testBit_eq_decide_div_mod_eq, b2]
 have h := Nat.mod_two_eq_zero_or_one (x / 2 ^ j)
 rcases h with h | h <;> simp [h]
theorem zF_bit (x n j : Nat) : (zF x n).testBit j = (x.testBit j ^^ x.testBit (j + n)) := by
 rw [zF, Nat.testBit_xor, Nat.testBit_div_two_pow]
theorem zV_next (x n j : Nat) : zV x n (j + 1) = zV x n j + (if (x.testBit j ^^ x.testBit (j + n)) then 2 ^ j else 0) := by
 rw [zV, mod_next, zF_bit]; rfl
theorem fold_lit (x n : Nat) (hx : x < 18446744073709551616) (hn : n ≤ 64) : zp_ Try.prog 174 [.nat .u64 x, .nat .i64 n] [.gone] (.nat .u64 (zF x n)) [.gone] := by
 have hz0 : zV x n 0 = 0 := Nat.mod_one _
 refine zf_ (fn := Try.f174) 1 35 0 rfl rfl rfl rfl rfl (by simp only [ze_, zb_, hp, zo_]; simp [HB.born]) rfl fun w0 M E hro => ?_
 repeat' (first | refine Ctl.h ?_ | ((with_reducible intro hif); first | (focus (cases hif; done)) | ((try simp only [JH] at hif); try (exfalso; omega))) | ((with_reducible first | apply J22 zx_ za_ | apply J23 fol zx_ za_ | apply J24); (·rfl); (· exact k16_); (try kernel_rfl); try exact xi_) | fail)
 refine WF.loopAt (fun (j : Nat) => j ≤ 64) (fun (j : Nat) => [(0, .nat .u64 x), (1, .nat .i64 n), (5, .nat .u64 (zV x n j)), (6, .nat .i64 j)]) (fun (j : Nat) => [.gone]) (fun (j : Nat) => 64 - j) 0 (Nat.zero_le _) ?_ ?_ rfl ?_ ?_ rfl ?_
 ·exact k23_
 ·exact k5_
 ·exact k52_
 ·exact k52_
 intro j hj
 by_cases hjl : j < 64
 ·have hpl : 2 ^ j ≤ 2 ^ 63 := Nat.pow_le_pow_right (by decide) (by omega)
  have h63 : (2 : Nat) ^ 63 = 9223372036854775808 := by decide
  rw [h63] at hpl
  have hmd : zV x n j < 2 ^ j := Nat.mod_lt _ (Nat.pow_pos (by decide))
  have hmn := zV_next x n j
  have hb1 := bit_div x j
  have hb2 := bit_div x (j + n)
  have hm1 : min j 64 = j := by omega
  by_cases hjn : j + n < 64
  ·have hm2 : min (j + n) 64 = j + n := by omega
   cases hc : x.testBit j <;> cases hd : x.testBit (j + n)
   all_goals
    rw [hc, hd] at hmn
    rw [hc] at hb1
    rw [hd] at hb2
    simp only [b2, Bool.xor_true, Bool.xor_false, Bool.not_true, Bool.not_false, if_true, Bool.false_eq_true, if_false, Nat.add_zero] at hmn hb1 hb2
    repeat' (first | refine Ctl.h ?_ | ((with_reducible intro hif); first | (focus (cases hif; done)) | ((try simp only [JH] at hif); try (exfalso; omega))) | ((with_reducible first | apply J22 zx_ za_ | apply J23 fol zx_ za_ | apply J24); (·rfl); (· (simp only [push_cast, ↓JP, Nat.reduceAdd, Nat.reduceEqDiff, Nat.reduceLT, Nat.reduceMul, Nat.reduceLeDiff, reduceCtorEq, reduceIte, hjl, hjn, hm1, hm2, hb1, hb2, inR, inN, IntKind.bits, Nat.reduceMod, Nat.zero_mul, Nat.one_mul, Nat.add_zero]; rfl)); (try kernel_rfl); try exact k27_) | fail)
    refine At.next (j + 1) ?_ ?_ ?_ rfl ?_ ?_ rfl
    ·exact ⟨by omega, by omega⟩
    ·exact k53_
    ·exact k5_
    ·exact k52_
    ·exact k52_
  ·have hd : x.testBit (j + n) = false := Nat.testBit_lt_two_pow (Nat.lt_of_lt_of_le hx (by rw [show 18446744073709551616 = 2 ^ 64 by decide]; exact Nat.pow_le_pow_right (by decide) (by omega)))
   cases hc : x.testBit j
   all_goals
    rw [hc, hd] at hmn
    rw [hc] at hb1
    simp only [b2, Bool.xor_true, Bool.xor_false, Bool.not_true, Bool.not_false, if_true, Bool.false_eq_true, if_false, Nat.add_zero] at hmn hb1
    repeat' (first | refine Ctl.h ?_ | ((with_reducible intro hif); first | (focus (cases hif; done)) | ((try simp only [JH] at hif); try (exfalso; omega))) | ((with_reducible first | apply J22 zx_ za_ | apply J23 fol zx_ za_ | apply J24); (·rfl); (· (simp only [push_cast, ↓JP, Nat.reduceAdd, Nat.reduceEqDiff, Nat.reduceLT, Nat.reduceMul, Nat.reduceLeDiff, reduceCtorEq, reduceIte, hjl, hjn, hm1, hb1, inR, inN, IntKind.bits, Nat.reduceMod, Nat.zero_mul, Nat.one_mul, Nat.add_zero]; rfl)); (try kernel_rfl); try exact k27_) | fail)
    refine At.next (j + 1) ?_ ?_ ?_ rfl ?_ ?_ rfl
    ·exact ⟨by omega, by omega⟩
    ·exact k53_
    ·exact k5_
    ·exact k52_
    ·exact k52_
 ·obtain rfl : j = 64 := by omega
  have hz : zV x n 64 = zF x n := Nat.mod_eq_of_lt (Nat.xor_lt_two_pow hx (Nat.lt_of_le_of_lt (Nat.div_le_self ..) hx))
  repeat' (first | refine Ctl.h ?_ | ((with_reducible intro hif); first | (focus (cases hif; done)) | ((try simp only [JH] at hif); try (exfalso; omega))) | ((with_reducible first | apply J22 zx_ za_ | apply J23 fol zx_ za_ | apply J24); (·rfl); (· exact k19_); (try kernel_rfl); try exact xi_) | fail)
  apply At.endsRet za_ (fn := Try.f174) (rs := [.tmp 4]) Anc.refl hro (lb_ rfl) rfl
  ·exact k3_
  ·exact k4_
  ·exact k5_
  ·rfl
  ·exact k52_
  ·exact k7_
  ·(intro β; first | rfl | (rw [hz]; rfl))
  ·exact k52_
theorem calls_of_lit {f : FuncId} {args : List SV} {W : World} {v : SV} (H : zp_ Try.prog f args [.gone] v [.gone]) (hv : ∀ β, v.den β = v.den (fun _ => (none, 0))) :
  Calls Try.prog f (denL (fun _ => (none, 0)) args).toArray W fun e W' => e = .returned (v.den fun _ => (none, 0)) ∧ Below W.heap.size W W' :=
 (H W _ _ W (start W)).mono fun e W' ⟨β', _, R', _, he⟩ => ⟨by rw [he, hv], R'.os, R'.tape, R'.output, R'.size, fun k hk => R'.frame k hk id⟩
theorem rfold_c (x n : Int) (w : World) (h0 : 0 ≤ x) (h1 : x < 18446744073709551616) (hn0 : 0 ≤ n) (hn : n ≤ 64) : Calls Try.prog 174 #[.int .u64 x, .int .i64 n] w fun e w' => e = .returned (.int .u64 (bits .xor .u64 x (x / 2 ^ n.toNat))) ∧ Below w.heap.size w w' := by
 obtain ⟨X, rfl⟩ : ∃ X : Nat, x = (X : Int) := ⟨x.toNat, by omega⟩
 obtain ⟨k, rfl⟩ : ∃ k : Nat, n = (k : Int) := ⟨n.toNat, by omega⟩
 have h := calls_of_lit (W := w) (fold_lit X k (by omega) (by omega)) fun β => rfl
 have e : bits .xor .u64 (X : Int) ((X : Int) / 2 ^ (k : Int).toNat) = ((zF X k : Nat) : Int) := by
  have h := xorShift_u64 X (2 ^ k) (by omega)
  have e2 : ((2 ^ k : Nat) : Int) = (2 : Int) ^ k := by simp
  rw [e2] at h
  exact h
 rw [e]
 exact h
end Go.Proofs.Ytmljmabbopkpiaa.Vm
end
end
section
namespace Go.Proofs.Ytmljmabbopkpiaa
open Go.RowKit
def foldI (x n : Int) : Int := bits .xor .u64 x (x / 2 ^ n.toNat)
theorem fold_c (x n : Int) (w : World) (h0 : 0 ≤ n) (h1 : n ≤ 64) : Calls Try.prog 150 #[.int .u64 x, .int .i64 n] w fun e w' => e = .returned (.int .u64 (foldI x n)) ∧ w = w' := by
 go_enter Try.func150, Try.ntmps150
 go_wp2
 go_ret
 exact ⟨rfl, rfl⟩
def mixI (x : Int) : Int := foldI (IntKind.u64.wrap (foldI (IntKind.u64.wrap (foldI x 30 * 13787848793156543929)) 27 * 10723151780598845931)) 31
theorem mix_c (x : Int) (w : World) : Calls Try.prog 128 #[.int .u64 x] w fun e w' => e = .returned (.int .u64 (mixI x)) ∧ w = w' := by
 go_enter Try.func128, Try.ntmps128
 go_wp2_with (go_at_call 150; refine (fold_c _ _ _ (by omega) (by omega)).mono ?_; rintro e w' ⟨rfl, rfl⟩)
 go_ret
 exact ⟨rfl, rfl⟩
def atI (key index : Int) : Int := mixI (IntKind.u64.wrap (key + IntKind.u64.wrap (IntKind.u64.wrap (IntKind.u64.wrap index + 1) * 11400714819323198485)))
theorem at_c (key index : Int) (w : World) : Calls Try.prog 105 #[.int .u64 key, .int .i64 index] w fun e w' => e = .returned (.int .u64 (atI key index)) ∧ w = w' := by
 go_enter Try.func105, Try.ntmps105
 go_wp2_with (go_at_call 128; refine (mix_c _ _).mono ?_; rintro e w' ⟨rfl, rfl⟩)
 go_ret
 exact ⟨rfl, rfl⟩
def lo32 (z : Int) : Int := bits .and .u64 z 4294967295
def upP (v n : Int) : Int := IntKind.u64.wrap (lo32 v * lo32 n)
def upQ (v n : Int) : Int := IntKind.u64.wrap (IntKind.u64.wrap (v / 4294967296 * lo32 n) + upP v n / 4294967296)
def upR (v n : Int) : Int := IntKind.u64.wrap (IntKind.u64.wrap (lo32 v * (n / 4294967296)) + lo32 (upQ v n))
def upperI (v n : Int) : Int := IntKind.u64.wrap (IntKind.u64.wrap (IntKind.u64.wrap (v / 4294967296 * (n / 4294967296)) + upQ v n / 4294967296) + upR v n / 4294967296)
theorem upper_c (v n : Int) (w : World) : Calls Try.prog 106 #[.int .u64 v, .int .u64 n] w fun e w' => e = .returned (.int .u64 (upperI v n)) ∧ w = w' := by
 go_enter Try.func106, Try.ntmps106
 go_wp2
 go_ret
 exact ⟨rfl, rfl⟩
theorem wrapU64 (z : Int) : IntKind.u64.wrap z = z % 18446744073709551616 := by simp [IntKind.wrap, IntKind.bits, IntKind.signed]
theorem lo32_eq (z : Int) (h0 : 0 ≤ z) (h1 : z < 18446744073709551616) : lo32 z = z % 4294967296 := and_low32 z h0 h1
theorem mul_bd (a b : Int) (a0 : 0 ≤ a) (a1 : a ≤ 4294967295) (b0 : 0 ≤ b) (b1 : b ≤ 4294967295) : 0 ≤ a * b ∧ a * b ≤ 18446744065119617025 :=
 ⟨Int.mul_nonneg a0 b0, Int.le_trans (Int.mul_le_mul a1 b1 b0 (by decide)) (by decide)⟩
theorem upper_eq (v n : Int) (v0 : 0 ≤ v) (v1 : v < 18446744073709551616) (n0 : 0 ≤ n) (n1 : n < 18446744073709551616) : upperI v n = v * n / 18446744073709551616 := by
 have ev := Int.emod_add_mul_ediv v 4294967296
 have en := Int.emod_add_mul_ediv n 4294967296
 have hlv := lo32_eq v v0 v1
 have hln := lo32_eq n n0 n1
 have a0 : 0 ≤ v / 4294967296 := by omega
 have a1 : v / 4294967296 ≤ 4294967295 := by omega
 have b0 : 0 ≤ v % 4294967296 := by omega
 have b1 : v % 4294967296 ≤ 4294967295 := by omega
 have c0 : 0 ≤ n / 4294967296 := by omega
 have c1 : n / 4294967296 ≤ 4294967295 := by omega
 have d0 : 0 ≤ n % 4294967296 := by omega
 have d1 : n % 4294967296 ≤ 4294967295 := by omega
 generalize ha : v / 4294967296 = a at *
 generalize hb : v % 4294967296 = b at *
 generalize hc : n / 4294967296 = c at *
 generalize hd : n % 4294967296 = d at *
 have hX := mul_bd a c a0 a1 c0 c1
 have hY := mul_bd a d a0 a1 d0 d1
 have hZ := mul_bd b c b0 b1 c0 c1
 have hW := mul_bd b d b0 b1 d0 d1
 have hvn : v * n = a * c * 18446744073709551616 + (a * d + b * c) * 4294967296 + b * d := by
  rw [← ev, ← en, Int.add_mul, Int.mul_add, Int.mul_add]
  rw [show b * (4294967296 * c) = b * c * 4294967296 by rw [Int.mul_comm 4294967296 c, Int.mul_assoc], show 4294967296 * a * d = a * d * 4294967296 by rw [Int.mul_comm 4294967296 a, Int.mul_assoc, Int.mul_comm 4294967296 d, Int.mul_assoc],
   show 4294967296 * a * (4294967296 * c) = a * c * 18446744073709551616 by rw [Int.mul_comm 4294967296 a, Int.mul_comm 4294967296 c, Int.mul_assoc, ← Int.mul_assoc 4294967296 c, Int.mul_comm 4294967296 c, Int.mul_assoc c, Int.mul_assoc]; rfl]
  omega
 have hp : upP v n = b * d := by
  rw [upP, hlv, hln, wrapU64]; omega
 have hq : upQ v n = a * d + b * d / 4294967296 := by
  rw [upQ, hp, hln, ha, wrapU64, wrapU64]; omega
 have hlq : lo32 (upQ v n) = (a * d + b * d / 4294967296) % 4294967296 := by
  rw [hq]; exact lo32_eq _ (by omega) (by omega)
 have hr : upR v n = b * c + (a * d + b * d / 4294967296) % 4294967296 := by
  rw [upR, hlq, hlv, hc, wrapU64, wrapU64]; omega
 rw [upperI, hq, hr, ha, hc, hvn, wrapU64, wrapU64, wrapU64]
 generalize a * c = X at *
 generalize a * d = Y at *
 generalize b * c = Z at *
 generalize b * d = U at *
 omega
def belowI (v n : Int) : Int := wrap64 (upperI v (IntKind.u64.wrap n))
theorem below_ok (v n : Int) (w : World) (h : 1 ≤ n) : Calls Try.prog 64 #[.int .u64 v, .int .i64 n] w fun e w' => e = .returned (.tuple #[.int .i64 (belowI v n), .int .i64 0]) ∧ w = w' := by
 go_enter Try.func64, Try.ntmps64
 go_wp2_with (go_at_call 106; refine (upper_c _ _ _).mono ?_; rintro e w' ⟨rfl, rfl⟩)
 go_ret2
 exact ⟨rfl, rfl⟩
def join2 (x y : Int) : Int := mixI (IntKind.u64.wrap (IntKind.u64.wrap (11400714819323198485 + y) + IntKind.u64.wrap (mixI (IntKind.u64.wrap (IntKind.u64.wrap (11400714819323198485 + x))) * 11400714819323198485)))
set_option maxRecDepth 100000 in
set_option maxHeartbeats 1000000 in
theorem join2_c (b : Nat) (x y : Int) (w : World) (h0 : w.cell? ⟨b, 0, none⟩ = some (.int .u64 x)) (h1 : w.cell? ⟨b, 1, none⟩ = some (.int .u64 y)) :
  Calls Try.prog 127 #[.slice (some ⟨b, 0, none⟩) 2 2] w fun e w' => e = .returned (.int .u64 (join2 x y)) ∧ w = w' := by
 go_enter Try.func127, Try.ntmps127
 go_wp2
 refine wp_loop_rounds 3 ?_
 rw [rounds_succ]
 go_wp2_with (go_at_call 128; refine (mix_c _ _).mono ?_; rintro e w' ⟨rfl, rfl⟩)
 rw [rounds_succ]
 go_wp2_with (go_at_call 128; refine (mix_c _ _).mono ?_; rintro e w' ⟨rfl, rfl⟩)
 rw [rounds_succ]
 go_wp2_with (go_at_call 128; refine (mix_c _ _).mono ?_; rintro e w' ⟨rfl, rfl⟩)
 go_ret
 exact ⟨rfl, rfl⟩
def keyI (seed process : Int) : Int := join2 seed process
theorem key_ok (seed process : Int) (w : World) (h0 : 0 ≤ process) (h1 : process ≤ 65536) : Calls Try.prog 104 #[.int .u64 seed, .int .i64 process] w fun e w' => e = .returned (.tuple #[.int .u64 (keyI seed process), .int .i64 0]) ∧ Below w.heap.size w w' := by
 go_enter Try.func104, Try.ntmps104
 go_wp2_with fail
 refine (join2_c w.heap.size seed process _ ?_ ?_).mono ?_
 ·exact cell_of_row _ _ _ _ _ _ (heap_alloc_new w _)
 ·exact cell_of_row _ _ _ _ _ _ (heap_alloc_new w _)
 rintro e w' ⟨rfl, rfl⟩
 go_wp2
 go_ret2
 exact ⟨rfl, (Below.refl _ _).alloc (Nat.le_refl _) _⟩
def valueI (seed process index : Int) : Int := atI (keyI seed process) index
set_option maxHeartbeats 1000000 in
theorem value_ok (seed process index : Int) (w : World) (h0 : 0 ≤ process) (h1 : process ≤ 65536) (h2 : 0 ≤ index) (h3 : index ≤ 281474976710656) :
  Calls Try.prog 63 #[.int .u64 seed, .int .i64 process, .int .i64 index] w fun e w' => e = .returned (.tuple #[.int .u64 (valueI seed process index), .int .i64 0]) ∧ Below w.heap.size w w' := by
 go_enter Try.func63, Try.ntmps63
 go_wp2_with fail
 refine (key_ok _ _ _ h0 h1).mono ?_
 rintro e w' ⟨rfl, hb⟩
 go_wp2_with (go_at_call 105; refine (at_c _ _ _).mono ?_; rintro e w' ⟨rfl, rfl⟩)
 go_ret2
 exact ⟨rfl, hb⟩
def drawI (seed process index n : Int) : Int := belowI (valueI seed process index) n
set_option maxHeartbeats 1000000 in
theorem draw_ok (seed process index n : Int) (w : World) (h0 : 0 ≤ process) (h1 : process ≤ 65536) (h2 : 0 ≤ index) (h3 : index ≤ 281474976710656) (hn : 1 ≤ n) :
  Calls Try.prog 27 #[.int .u64 seed, .int .i64 process, .int .i64 index, .int .i64 n] w fun e w' => e = .returned (.tuple #[.int .i64 (drawI seed process index n), .int .i64 0]) ∧ Below w.heap.size w w' := by
 go_enter Try.func27, Try.ntmps27
 go_wp2_with fail
 refine (value_ok _ _ _ _ h0 h1 h2 h3).mono ?_
 rintro e w' ⟨rfl, hb⟩
 go_wp2_with (go_at_call 64; refine (below_ok _ _ _ hn).mono ?_; rintro e w' ⟨rfl, rfl⟩)
 go_ret2
 exact ⟨rfl, hb⟩
theorem u64_bd (z : Int) : 0 ≤ IntKind.u64.wrap z ∧ IntKind.u64.wrap z < 18446744073709551616 := by rw [wrapU64]; omega
theorem foldI_bd (x n : Int) (h : 0 ≤ x) (h1 : x < 18446744073709551616) (hn : 0 ≤ n) : 0 ≤ foldI x n ∧ foldI x n < 18446744073709551616 := by
 unfold foldI
 have : bits .xor .u64 x (x / 2 ^ n.toNat) = IntKind.u64.wrap (bits .xor .u64 x (x / 2 ^ n.toNat)) := by
  simp only [bits, wrapU64]
  omega
 rw [this]; exact u64_bd _
theorem mixI_bd (x : Int) : 0 ≤ mixI x ∧ mixI x < 18446744073709551616 := foldI_bd _ _ (u64_bd _).1 (u64_bd _).2 (by decide)
theorem valueI_bd (s p i : Int) : 0 ≤ valueI s p i ∧ valueI s p i < 18446744073709551616 := mixI_bd _
theorem drawI_bd (s p i n : Int) (hn : 1 ≤ n) (hn1 : n ≤ 9223372036854775807) : 0 ≤ drawI s p i n ∧ drawI s p i n < n := by
 unfold drawI belowI
 have hv := valueI_bd s p i
 have hw : IntKind.u64.wrap n = n := by rw [wrapU64]; omega
 rw [hw, upper_eq _ _ hv.1 hv.2 (by omega) (by omega)]
 have h0 : 0 ≤ valueI s p i * n / 18446744073709551616 := Int.ediv_nonneg (Int.mul_nonneg hv.1 (by omega)) (by decide)
 have h1 : valueI s p i * n / 18446744073709551616 < n := by
  apply Int.ediv_lt_of_lt_mul (by decide)
  rw [Int.mul_comm n]
  exact Int.mul_lt_mul_of_pos_right hv.2 (by omega)
 have hz : wrap64 (valueI s p i * n / 18446744073709551616) = valueI s p i * n / 18446744073709551616 := by
  unfold wrap64; omega
 rw [hz]; exact ⟨h0, h1⟩
end Go.Proofs.Ytmljmabbopkpiaa
end
