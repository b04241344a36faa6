import Derived.Test.YtmljmabbopkpiaaI1
import Derived.Test.YtmljmabbopkpiaaI5
import Derived.Test.YtmljmabbopkpiaaI6
import Derived.Test.YtmljmabbopkpiaaI8
import Derived.Test.YtmljmabbopkpiaaI9
import Derived.Test.YtmljmabbopkpiaaProg
set_option linter.unusedSimpArgs false
set_option linter.unusedVariables false
set_option maxRecDepth 100000
set_option maxHeartbeats 4000000
section
namespace Go.Proofs.Ytmljmabbopkpiaa.Vm
theorem u5_ {P : Prop} (h : P := by simp only [ze_, zc_, hp, i64S, u64S, HB.stable]; simp [HB.born]) : P := h
theorem k52_ {P : Prop} (h : P := by (repeat' (first | exact trivial | exact rfl | assumption | apply zc_.ite | apply And.intro | intro _ | (simp only [zc_, ze_, i64S]; done)))) : P := h
theorem k53_ {P : Prop} (h : P := by ((repeat' (first | exact trivial | apply And.intro)) <;> (first | rfl | (first | rfl | (rw [hmn]; rfl))))) : P := h
theorem k54_ {P : Prop} (h : P := by (repeat' (first | exact trivial | exact rfl | assumption | apply zc_.ite | apply And.intro | intro _ | (simp only [zc_, ze_, i64S, u64S, HB.stable]; done)))) : P := h
theorem k55_ {P : Prop} (h : P := by (first | exact True.intro | ((repeat' (first | exact True.intro | apply And.intro | rfl | omega | decide | intro _)); done) | ((try simp only [JS, implies_true, forall_const, z7_, z5_, kndOf, inR, inN]); (repeat' (first | assumption | exact True.intro | omega | apply And.intro)); done))) : P := h
end Go.Proofs.Ytmljmabbopkpiaa.Vm
end
section
open Go.Proofs.Ytmljmabbopkpiaa.Vm Go.RowKit
section
namespace Go.Proofs.Ytmljmabbopkpiaa.Vm
open Go.RowKit
theorem apV1 (a b : Int) (ha : R64 a) (hb : R64 b) : yg_ 1 a b = (oi a + oi b).toInt := by
 rw [yg_, if_pos (by simp [ye_]), ← ap1]
 rfl
theorem apV2 (a b : Int) (ha : R64 a) (hb : R64 b) : yg_ 2 a b = (oi a - oi b).toInt := by
 rw [yg_, if_pos (by simp [ye_]), ← ap2]
 rfl
theorem apV3 (a b : Int) (ha : R64 a) (hb : R64 b) : yg_ 3 a b = (oi a * oi b).toInt := by
 rw [yg_, if_pos (by simp [ye_]), ← ap3]
 rfl
theorem apV4 (a b : Int) (ha : R64 a) (hb : R64 b) (h0 : ¬ b = 0) : yg_ 4 a b = (if ((decide (a < 0)) != (decide (b < 0))) = true then -(amV a / amV b) else amV a / amV b).toInt := by
 rw [yg_, if_pos (by simp [ye_, h0]), ← ap4 ha hb]
 rfl
theorem apV5 (a b : Int) (ha : R64 a) (hb : R64 b) (h0 : ¬ b = 0) : yg_ 5 a b = (if decide (a < 0) = true then -(amV a % amV b) else amV a % amV b).toInt := by
 rw [yg_, if_pos (by simp [ye_, h0]), ← ap5 ha hb h0]
 rfl
theorem apV6 (a b : Int) (ha : R64 a) (hb : R64 b) (h0 : ¬ b = 0) : yg_ 6 a b = (if a < 0 ∧ (amV a % amV b).toInt ≠ 0 then amV b - amV a % amV b else amV a % amV b).toInt := by
 have e : yg_ 6 a b = modI a b := by rw [yg_, if_pos (by simp [ye_, h0])]; simp [yb_]
 rw [e]
 split
 ·rename_i h; exact ap6b ha hb h0 h.1 h.2
 ·rename_i h; exact ap6a ha hb h0 h
theorem apV7 (a b : Int) (ha : R64 a) (hb : R64 b) : yg_ 7 a b = (bwV 7 (oi a) (oi b)).toInt := by
 rw [yg_, if_pos (by simp [ye_]), show bwV 7 (oi a) (oi b) = oi a &&& oi b by simp [bwV], ← ap7]
 rfl
theorem apV8 (a b : Int) (ha : R64 a) (hb : R64 b) : yg_ 8 a b = (bwV 8 (oi a) (oi b)).toInt := by
 rw [yg_, if_pos (by simp [ye_]), show bwV 8 (oi a) (oi b) = oi a ||| oi b by simp [bwV], ← ap8]
 rfl
theorem apV9 (a b : Int) (ha : R64 a) (hb : R64 b) : yg_ 9 a b = (bwV 9 (oi a) (oi b)).toInt := by
 rw [yg_, if_pos (by simp [ye_]), show bwV 9 (oi a) (oi b) = oi a ^^^ oi b by simp [bwV], ← ap9]
 rfl
theorem apV10 (a b : Int) (ha : R64 a) (hb : R64 b) : yg_ 10 a b = (oi a <<< (nY (oi b)).toNat).toInt := by
 rw [yg_, if_pos (by simp [ye_]), ← ap10 a (show (nY (oi b)).toNat ≤ 63 by have := nY_bd (oi b); omega), ← nY_sh]
 rfl
theorem apV11 (a b : Int) (ha : R64 a) (hb : R64 b) : yg_ 11 a b = (dnV (oi a) (nY (oi b)).toNat false).toInt := by
 rw [yg_, if_pos (by simp [ye_]), ← ap11, ← nY_sh]
 rfl
theorem apV12 (a b : Int) (ha : R64 a) (hb : R64 b) : yg_ 12 a b = (dnV (oi a) (nY (oi b)).toNat ((oi a).getLsbD 63)).toInt := by
 rw [yg_, if_pos (by simp [ye_]), ← ap12 ha, ← nY_sh]
 rfl
theorem apV13 (a b : Int) (ha : R64 a) (hb : R64 b) : yg_ 13 a b = bI (decide (a < b)) := by
 rw [yg_, if_pos (by simp [ye_]), ← truth_bI]
 rfl
theorem apV14 (a b : Int) (ha : R64 a) (hb : R64 b) : yg_ 14 a b = bI (decide ((oi a).toNat < (oi b).toNat)) := by
 rw [yg_, if_pos (by simp [ye_]), ← truth_bI, ← ap14]
 rfl
theorem apV15 (a b : Int) (ha : R64 a) (hb : R64 b) : yg_ 15 a b = bI (decide (a = b)) := by
 rw [yg_, if_pos (by simp [ye_]), ← truth_bI]
 show truthI (a == b) = _
 by_cases h : a = b
 ·subst h; simp
 ·rw [decide_eq_false h, beq_eq_false_iff_ne.mpr h]
theorem apV16 (a b : Int) (ha : R64 a) (hb : R64 b) : yg_ 16 a b = (if a < b then a else b) := by
 rw [yg_, if_pos (by simp [ye_])]
 show (if b < a then b else a) = _
 split <;> split <;> omega
theorem apV17 (a b : Int) (ha : R64 a) (hb : R64 b) : yg_ 17 a b = (if a < b then b else a) := by
 rw [yg_, if_pos (by simp [ye_])]
 show (if a < b then b else a) = _
 rfl
theorem apw1 (op a b : Int) (h : op < 1) : zo_ Try.prog 131 [.int .u8 op, .int .i64 a, .int .i64 b] [.gone] (.tup [.int .i64 0, .int .i64 130]) [.gone] := by
 refine zf_ (fn := Try.f131) 1 196 0 rfl rfl rfl rfl rfl u3_ rfl fun w0 M E hro => ?_
 repeat' (first | refine Ctl.h ?_ | ((with_reducible intro hif); first | (focus (cases hif; done)) | ((try simp only [JH] at hif); try (exfalso; omega))) | ((with_reducible first | apply J22 zk_ za_ | apply J23 fol zk_ za_ | apply J24); (·rfl); (· (simp only [push_cast, ↓JP, Nat.reduceAdd, Nat.reduceEqDiff, Nat.reduceLT, Nat.reduceMul, Nat.reduceLeDiff, reduceCtorEq, reduceIte, yd_, yc_, iOf, inR, inN, h]; rfl)); (try kernel_rfl); try exact k26_) | fail)
 apply At.endsRet za_ (fn := Try.f131) (rs := [.tmp 6, .tmp 7]) Anc.refl hro (lb_ rfl) rfl
 ·exact k3_
 ·exact k4_
 ·exact k5_
 ·rfl
 ·exact ya_
 ·exact k7_
 ·exact fun β => rfl
 ·exact ya_
theorem apw2 (op a b : Int) (h : ¬ op < 1) (h2 : 17 < op) : zo_ Try.prog 131 [.int .u8 op, .int .i64 a, .int .i64 b] [.gone] (.tup [.int .i64 0, .int .i64 130]) [.gone] := by
 refine zf_ (fn := Try.f131) 1 196 0 rfl rfl rfl rfl rfl u3_ rfl fun w0 M E hro => ?_
 repeat' (first | refine Ctl.h ?_ | ((with_reducible intro hif); first | (focus (cases hif; done)) | ((try simp only [JH] at hif); try (exfalso; omega))) | ((with_reducible first | apply J22 zk_ za_ | apply J23 fol zk_ za_ | apply J24); (·rfl); (· (simp only [push_cast, ↓JP, Nat.reduceAdd, Nat.reduceEqDiff, Nat.reduceLT, Nat.reduceMul, Nat.reduceLeDiff, reduceCtorEq, reduceIte, yd_, yc_, iOf, inR, inN, h, h2]; rfl)); (try kernel_rfl); try exact k26_) | fail)
 apply At.endsRet za_ (fn := Try.f131) (rs := [.tmp 6, .tmp 7]) Anc.refl hro (lb_ rfl) rfl
 ·exact k3_
 ·exact k4_
 ·exact k5_
 ·rfl
 ·exact ya_
 ·exact k7_
 ·exact fun β => rfl
 ·exact ya_
theorem apw3 (op a b : Int) (h : ¬ op < 1) (h2 : ¬ 17 < op) (h3 : 4 ≤ op) (h4 : op ≤ 6) (h5 : b = 0) : zo_ Try.prog 131 [.int .u8 op, .int .i64 a, .int .i64 b] [.gone] (.tup [.int .i64 0, .int .i64 131]) [.gone] := by
 refine zf_ (fn := Try.f131) 1 196 0 rfl rfl rfl rfl rfl u3_ rfl fun w0 M E hro => ?_
 repeat' (first | refine Ctl.h ?_ | ((with_reducible intro hif); first | (focus (cases hif; done)) | ((try simp only [JH] at hif); try (exfalso; omega))) | ((with_reducible first | apply J22 zk_ za_ | apply J23 fol zk_ za_ | apply J24); (·rfl); (· (simp only [push_cast, ↓JP, Nat.reduceAdd, Nat.reduceEqDiff, Nat.reduceLT, Nat.reduceMul, Nat.reduceLeDiff, reduceCtorEq, reduceIte, yd_, yc_, iOf, inR, inN, h, h2, h3, h4, (eq_true h5)]; rfl)); (try kernel_rfl); try exact k26_) | fail)
 apply At.endsRet za_ (fn := Try.f131) (rs := [.tmp 6, .tmp 7]) Anc.refl hro (lb_ rfl) rfl
 ·exact k3_
 ·exact k4_
 ·exact k5_
 ·rfl
 ·exact ya_
 ·exact k7_
 ·exact fun β => rfl
 ·exact ya_
theorem apply_lit (op a b : Int) (ha0 : -9223372036854775808 ≤ a) (ha1 : a ≤ 9223372036854775807) (hb0 : -9223372036854775808 ≤ b) (hb1 : b ≤ 9223372036854775807) : zo_ Try.prog 131 [.int .u8 op, .int .i64 a, .int .i64 b] [.gone] (.tup [.int .i64 (yg_ op a b), .int .i64 (ye_ op b)]) [.gone] := by
 have ha : R64 a := ⟨ha0, ha1⟩
 have hb : R64 b := ⟨hb0, hb1⟩
 by_cases h1 : op < 1
 ·have e : ye_ op b = 130 := by rw [ye_, if_pos (.inl h1)]
  rw [yg_, e, if_neg (by decide)]
  exact apw1 op a b h1
 by_cases h2 : 17 < op
 ·have e : ye_ op b = 130 := by rw [ye_, if_pos (.inr h2)]
  rw [yg_, e, if_neg (by decide)]
  exact apw2 op a b h1 h2
 by_cases h3 : 4 ≤ op ∧ op ≤ 6 ∧ b = 0
 ·have e : ye_ op b = 131 := by rw [ye_, if_neg (by omega), if_pos ⟨h3.2.2, h3.1, h3.2.1⟩]
  rw [yg_, e, if_neg (by decide)]
  exact apw3 op a b h1 h2 h3.1 h3.2.1 h3.2.2
 have e0 : ye_ op b = 0 := by rw [ye_, if_neg (by omega), if_neg (by omega)]
 rw [e0]
 have hop : op = 1 ∨ op = 2 ∨ op = 3 ∨ op = 4 ∨ op = 5 ∨ op = 6 ∨ op = 7 ∨ op = 8 ∨ op = 9 ∨ op = 10 ∨ op = 11 ∨ op = 12 ∨ op = 13 ∨ op = 14 ∨ op = 15 ∨ op = 16 ∨ op = 17 := by omega
 have hY := nY_bd (oi b)
 rcases hop with h | h | h | h | h | h | h | h | h | h | h | h | h | h | h | h | h <;> subst h
 ·rw [apV1 a b ha hb]
  exact apk1 a b _ _ _ _ _ _ _ _ _ _ _ _ _ ha0 ha1 hb0 hb1 rfl rfl rfl rfl rfl rfl (zh_ (by decide)) (zh_ (by decide)) (zh_ (by decide)) (zh_ (by decide)) (zh_ (by decide)) (zh_ (by decide)) (zv_ _) (zv_ _) (zv_ _) (zv_ _) (zv_ _) (zv_ _) rfl hY.1 hY.2 trivial
 ·rw [apV2 a b ha hb]
  exact apk2 a b _ _ _ _ _ _ _ _ _ _ _ _ _ ha0 ha1 hb0 hb1 rfl rfl rfl rfl rfl rfl (zh_ (by decide)) (zh_ (by decide)) (zh_ (by decide)) (zh_ (by decide)) (zh_ (by decide)) (zh_ (by decide)) (zv_ _) (zv_ _) (zv_ _) (zv_ _) (zv_ _) (zv_ _) rfl hY.1 hY.2 trivial
 ·rw [apV3 a b ha hb]
  exact apk3 a b _ _ _ _ _ _ _ _ _ _ _ _ _ ha0 ha1 hb0 hb1 rfl rfl rfl rfl rfl rfl (zh_ (by decide)) (zh_ (by decide)) (zh_ (by decide)) (zh_ (by decide)) (zh_ (by decide)) (zh_ (by decide)) (zv_ _) (zv_ _) (zv_ _) (zv_ _) (zv_ _) (zv_ _) rfl hY.1 hY.2 trivial
 ·rw [apV4 a b ha hb (by omega)]
  exact apk4 a b _ _ _ _ _ _ _ _ _ _ _ _ _ ha0 ha1 hb0 hb1 rfl rfl rfl rfl rfl rfl (zh_ (by decide)) (zh_ (by decide)) (zh_ (by decide)) (zh_ (by decide)) (zh_ (by decide)) (zh_ (by decide)) (zv_ _) (zv_ _) (zv_ _) (zv_ _) (zv_ _) (zv_ _) rfl hY.1 hY.2 (by rw [amV_nat hb]; omega) (by omega)
 ·rw [apV5 a b ha hb (by omega)]
  exact apk5 a b _ _ _ _ _ _ _ _ _ _ _ _ _ ha0 ha1 hb0 hb1 rfl rfl rfl rfl rfl rfl (zh_ (by decide)) (zh_ (by decide)) (zh_ (by decide)) (zh_ (by decide)) (zh_ (by decide)) (zh_ (by decide)) (zv_ _) (zv_ _) (zv_ _) (zv_ _) (zv_ _) (zv_ _) rfl hY.1 hY.2 (by rw [amV_nat hb]; omega) (by omega)
 ·rw [apV6 a b ha hb (by omega)]
  exact apk6 a b _ _ _ _ _ _ _ _ _ _ _ _ _ ha0 ha1 hb0 hb1 rfl rfl rfl rfl rfl rfl (zh_ (by decide)) (zh_ (by decide)) (zh_ (by decide)) (zh_ (by decide)) (zh_ (by decide)) (zh_ (by decide)) (zv_ _) (zv_ _) (zv_ _) (zv_ _) (zv_ _) (zv_ _) rfl hY.1 hY.2 (by rw [amV_nat hb]; omega) (by omega)
 ·rw [apV7 a b ha hb]
  exact apk7 a b _ _ _ _ _ _ _ _ _ _ _ _ _ ha0 ha1 hb0 hb1 rfl rfl rfl rfl rfl rfl (zh_ (by decide)) (zh_ (by decide)) (zh_ (by decide)) (zh_ (by decide)) (zh_ (by decide)) (zh_ (by decide)) (zv_ _) (zv_ _) (zv_ _) (zv_ _) (zv_ _) (zv_ _) rfl hY.1 hY.2 trivial
 ·rw [apV8 a b ha hb]
  exact apk8 a b _ _ _ _ _ _ _ _ _ _ _ _ _ ha0 ha1 hb0 hb1 rfl rfl rfl rfl rfl rfl (zh_ (by decide)) (zh_ (by decide)) (zh_ (by decide)) (zh_ (by decide)) (zh_ (by decide)) (zh_ (by decide)) (zv_ _) (zv_ _) (zv_ _) (zv_ _) (zv_ _) (zv_ _) rfl hY.1 hY.2 trivial
 ·rw [apV9 a b ha hb]
  exact apk9 a b _ _ _ _ _ _ _ _ _ _ _ _ _ ha0 ha1 hb0 hb1 rfl rfl rfl rfl rfl rfl (zh_ (by decide)) (zh_ (by decide)) (zh_ (by decide)) (zh_ (by decide)) (zh_ (by decide)) (zh_ (by decide)) (zv_ _) (zv_ _) (zv_ _) (zv_ _) (zv_ _) (zv_ _) rfl hY.1 hY.2 trivial
 ·rw [apV10 a b ha hb]
  exact apk10 a b _ _ _ _ _ _ _ _ _ _ _ _ _ ha0 ha1 hb0 hb1 rfl rfl rfl rfl rfl rfl (zh_ (by decide)) (zh_ (by decide)) (zh_ (by decide)) (zh_ (by decide)) (zh_ (by decide)) (zh_ (by decide)) (zv_ _) (zv_ _) (zv_ _) (zv_ _) (zv_ _) (zv_ _) rfl hY.1 hY.2 trivial
 ·rw [apV11 a b ha hb]
  exact apk11 a b _ _ _ _ _ _ _ _ _ _ _ _ _ ha0 ha1 hb0 hb1 rfl rfl rfl rfl rfl rfl (zh_ (by decide)) (zh_ (by decide)) (zh_ (by decide)) (zh_ (by decide)) (zh_ (by decide)) (zh_ (by decide)) (zv_ _) (zv_ _) (zv_ _) (zv_ _) (zv_ _) (zv_ _) rfl hY.1 hY.2 trivial
 ·rw [apV12 a b ha hb]
  exact apk12 a b _ _ _ _ _ _ _ _ _ _ _ _ _ ha0 ha1 hb0 hb1 rfl rfl rfl rfl rfl rfl (zh_ (by decide)) (zh_ (by decide)) (zh_ (by decide)) (zh_ (by decide)) (zh_ (by decide)) (zh_ (by decide)) (zv_ _) (zv_ _) (zv_ _) (zv_ _) (zv_ _) (zv_ _) rfl hY.1 hY.2 trivial
 ·rw [apV13 a b ha hb]
  exact apk13 a b _ _ _ _ _ _ _ _ _ _ _ _ _ ha0 ha1 hb0 hb1 rfl rfl rfl rfl rfl rfl (zh_ (by decide)) (zh_ (by decide)) (zh_ (by decide)) (zh_ (by decide)) (zh_ (by decide)) (zh_ (by decide)) (zv_ _) (zv_ _) (zv_ _) (zv_ _) (zv_ _) (zv_ _) rfl hY.1 hY.2 trivial
 ·rw [apV14 a b ha hb]
  exact apk14 a b _ _ _ _ _ _ _ _ _ _ _ _ _ ha0 ha1 hb0 hb1 rfl rfl rfl rfl rfl rfl (zh_ (by decide)) (zh_ (by decide)) (zh_ (by decide)) (zh_ (by decide)) (zh_ (by decide)) (zh_ (by decide)) (zv_ _) (zv_ _) (zv_ _) (zv_ _) (zv_ _) (zv_ _) rfl hY.1 hY.2 trivial
 ·rw [apV15 a b ha hb]
  exact apk15 a b _ _ _ _ _ _ _ _ _ _ _ _ _ ha0 ha1 hb0 hb1 rfl rfl rfl rfl rfl rfl (zh_ (by decide)) (zh_ (by decide)) (zh_ (by decide)) (zh_ (by decide)) (zh_ (by decide)) (zh_ (by decide)) (zv_ _) (zv_ _) (zv_ _) (zv_ _) (zv_ _) (zv_ _) rfl hY.1 hY.2 trivial
 ·rw [apV16 a b ha hb]
  exact apk16 a b _ _ _ _ _ _ _ _ _ _ _ _ _ ha0 ha1 hb0 hb1 rfl rfl rfl rfl rfl rfl (zh_ (by decide)) (zh_ (by decide)) (zh_ (by decide)) (zh_ (by decide)) (zh_ (by decide)) (zh_ (by decide)) (zv_ _) (zv_ _) (zv_ _) (zv_ _) (zv_ _) (zv_ _) rfl hY.1 hY.2 trivial
 ·rw [apV17 a b ha hb]
  exact apk17 a b _ _ _ _ _ _ _ _ _ _ _ _ _ ha0 ha1 hb0 hb1 rfl rfl rfl rfl rfl rfl (zh_ (by decide)) (zh_ (by decide)) (zh_ (by decide)) (zh_ (by decide)) (zh_ (by decide)) (zh_ (by decide)) (zv_ _) (zv_ _) (zv_ _) (zv_ _) (zv_ _) (zv_ _) rfl hY.1 hY.2 trivial
def sRAp : yq_ := fun args h m => match args with
 | [v1, v2, v3] => bif isI .u8 v1 && isI .i64 v2 && isI .i64 v3 then some ((-9223372036854775808 ≤ (iOf v2)) ∧ ((iOf v2) ≤ 9223372036854775807) ∧ (-9223372036854775808 ≤ (iOf v3)) ∧ ((iOf v3) ≤ 9223372036854775807), .tup [.int .i64 (yg_ (iOf v1) (iOf v2) (iOf v3)), .int .i64 (ye_ (iOf v1) (iOf v3))], [], []) else none
 | _ => none
theorem sRAp_ok : zj_ Try.prog 131 sRAp := by
 refine ⟨zi_ (by kernel_rfl), fun args h m c v rd wr hs hm hc w0 M β h' w R hrd hwr hst => ?_⟩
 unfold sRAp at hs
 split at hs
 ·rename_i v1 v2 v3
  obtain ⟨hb, hs⟩ := zl_ hs
  simp only [Option.some.injEq, Prod.mk.injEq] at hs
  obtain ⟨rfl, rfl, rfl, rfl⟩ := hs
  simp only [Bool.and_eq_true] at hb
  obtain ⟨⟨b1, b2⟩, b3⟩ := hb
  obtain ⟨y1, y2, y3, y4⟩ := hc
  refine yf_ (views := []) (apply_lit (iOf v1) (iOf v2) (iOf v3) y1 y2 y3 y4) ?_ R hm hwr ?_ ?_ ?_
  ·intro x hx; cases hx
  ·intro β1 hv
   simp only [denL, z2_, z0_, z6_, zq_, zb_, zd_ b1, zd_ b2, zd_ b3]
  ·exact ya_
  ·exact ya_
 ·cases hs
def zF (x n : Nat) : Nat := x ^^^ x / 2 ^ n
def zV (x n j : Nat) : Nat := zF x n % 2 ^ j
def b2 (b : Bool) : Nat := if b then 1 else 0
theorem bit_div (x j : Nat) : x / 2 ^ j % 2 = b2 (x.testBit j) := by
 rw [Nat.testBit_eq_decide_div_mod_eq, b2]
 have h := Nat.mod_two_eq_zero_or_one (x / 2 ^ j)
 rcases h with h | h <;> simp [h]
theorem zF_bit (x n j : Nat) : (zF x n).testBit j = (x.testBit j ^^ x.testBit (j + n)) := by
 rw [zF, Nat.testBit_xor, Nat.testBit_div_two_pow]
theorem zV_next (x n j : Nat) : zV x n (j + 1) = zV x n j + (if (x.testBit j ^^ x.testBit (j + n)) then 2 ^ j else 0) := by
 rw [zV, mod_next, zF_bit]; rfl
theorem fold_lit (x n : Nat) (hx : x < 18446744073709551616) (hn : n ≤ 64) : zo_ Try.prog 174 [.nat .u64 x, .nat .i64 n] [.gone] (.nat .u64 (zF x n)) [.gone] := by
 have hz0 : zV x n 0 = 0 := Nat.mod_one _
 refine zf_ (fn := Try.f174) 1 35 0 rfl rfl rfl rfl rfl (by simp only [ze_, zc_, hp, i64S]; simp [HB.born]) rfl fun w0 M E hro => ?_
 repeat' (first | refine Ctl.h ?_ | ((with_reducible intro hif); first | (focus (cases hif; done)) | ((try simp only [JH] at hif); try (exfalso; omega))) | ((with_reducible first | apply J22 zt_ za_ | apply J23 fol zt_ za_ | apply J24); (·rfl); (· exact k20_); (try kernel_rfl); try exact y6_) | fail)
 refine WF.loopAt (fun (j : Nat) => j ≤ 64) (fun (j : Nat) => [(0, .nat .u64 x), (1, .nat .i64 n), (5, .nat .u64 (zV x n j)), (6, .nat .i64 j)]) (fun (j : Nat) => [.gone]) (fun (j : Nat) => 64 - j) 0 (Nat.zero_le _) ?_ ?_ rfl ?_ ?_ rfl ?_
 ·exact k18_
 ·exact k5_
 ·exact k52_
 ·exact k52_
 intro j hj
 by_cases hjl : j < 64
 ·have hpl : 2 ^ j ≤ 2 ^ 63 := Nat.pow_le_pow_right (by decide) (by omega)
  have h63 : (2 : Nat) ^ 63 = 9223372036854775808 := by decide
  rw [h63] at hpl
  have hmd : zV x n j < 2 ^ j := Nat.mod_lt _ (Nat.pow_pos (by decide))
  have hmn := zV_next x n j
  have hb1 := bit_div x j
  have hb2 := bit_div x (j + n)
  have hm1 : min j 64 = j := by omega
  by_cases hjn : j + n < 64
  ·have hm2 : min (j + n) 64 = j + n := by omega
   cases hc : x.testBit j <;> cases hd : x.testBit (j + n)
   all_goals
    rw [hc, hd] at hmn
    rw [hc] at hb1
    rw [hd] at hb2
    simp only [b2, Bool.xor_true, Bool.xor_false, Bool.not_true, Bool.not_false, if_true, Bool.false_eq_true, if_false, Nat.add_zero] at hmn hb1 hb2
    repeat' (first | refine Ctl.h ?_ | ((with_reducible intro hif); first | (focus (cases hif; done)) | ((try simp only [JH] at hif); try (exfalso; omega))) | ((with_reducible first | apply J22 zt_ za_ | apply J23 fol zt_ za_ | apply J24); (·rfl); (· (simp only [push_cast, ↓JP, Nat.reduceAdd, Nat.reduceEqDiff, Nat.reduceLT, Nat.reduceMul, Nat.reduceLeDiff, reduceCtorEq, reduceIte, hjl, hjn, hm1, hm2, hb1, hb2, inR, inN, IntKind.bits, Nat.reduceMod, Nat.zero_mul, Nat.one_mul, Nat.add_zero]; rfl)); (try kernel_rfl); try exact k27_) | fail)
    refine At.next (j + 1) ?_ ?_ ?_ rfl ?_ ?_ rfl
    ·exact ⟨by omega, by omega⟩
    ·exact k53_
    ·exact k5_
    ·exact k52_
    ·exact k52_
  ·have hd : x.testBit (j + n) = false := Nat.testBit_lt_two_pow (Nat.lt_of_lt_of_le hx (by rw [show 18446744073709551616 = 2 ^ 64 by decide]; exact Nat.pow_le_pow_right (by decide) (by omega)))
   cases hc : x.testBit j
   all_goals
    rw [hc, hd] at hmn
    rw [hc] at hb1
    simp only [b2, Bool.xor_true, Bool.xor_false, Bool.not_true, Bool.not_false, if_true, Bool.false_eq_true, if_false, Nat.add_zero] at hmn hb1
    repeat' (first | refine Ctl.h ?_ | ((with_reducible intro hif); first | (focus (cases hif; done)) | ((try simp only [JH] at hif); try (exfalso; omega))) | ((with_reducible first | apply J22 zt_ za_ | apply J23 fol zt_ za_ | apply J24); (·rfl); (· (simp only [push_cast, ↓JP, Nat.reduceAdd, Nat.reduceEqDiff, Nat.reduceLT, Nat.reduceMul, Nat.reduceLeDiff, reduceCtorEq, reduceIte, hjl, hjn, hm1, hb1, inR, inN, IntKind.bits, Nat.reduceMod, Nat.zero_mul, Nat.one_mul, Nat.add_zero]; rfl)); (try kernel_rfl); try exact k27_) | fail)
    refine At.next (j + 1) ?_ ?_ ?_ rfl ?_ ?_ rfl
    ·exact ⟨by omega, by omega⟩
    ·exact k53_
    ·exact k5_
    ·exact k52_
    ·exact k52_
 ·obtain rfl : j = 64 := by omega
  have hz : zV x n 64 = zF x n := Nat.mod_eq_of_lt (Nat.xor_lt_two_pow hx (Nat.lt_of_le_of_lt (Nat.div_le_self ..) hx))
  repeat' (first | refine Ctl.h ?_ | ((with_reducible intro hif); first | (focus (cases hif; done)) | ((try simp only [JH] at hif); try (exfalso; omega))) | ((with_reducible first | apply J22 zt_ za_ | apply J23 fol zt_ za_ | apply J24); (·rfl); (· exact k23_); (try kernel_rfl); try exact y6_) | fail)
  apply At.endsRet za_ (fn := Try.f174) (rs := [.tmp 4]) Anc.refl hro (lb_ rfl) rfl
  ·exact k3_
  ·exact k4_
  ·exact k5_
  ·rfl
  ·exact k52_
  ·exact k7_
  ·(intro β; first | rfl | (rw [hz]; rfl))
  ·exact k52_
theorem calls_of_lit {f : FuncId} {args : List SV} {W : World} {v : SV} (H : zo_ Try.prog f args [.gone] v [.gone]) (hv : ∀ β, v.den β = v.den (fun _ => (none, 0))) :
  Calls Try.prog f (denL (fun _ => (none, 0)) args).toArray W fun e W' => e = .returned (v.den fun _ => (none, 0)) ∧ Below W.heap.size W W' :=
 (H W _ _ W (start W)).mono fun e W' ⟨β', _, R', _, he⟩ => ⟨by rw [he, hv], R'.os, R'.tape, R'.output, R'.size, fun k hk => R'.frame k hk id⟩
theorem rfold_c (x n : Int) (w : World) (h0 : 0 ≤ x) (h1 : x < 18446744073709551616) (hn0 : 0 ≤ n) (hn : n ≤ 64) : Calls Try.prog 174 #[.int .u64 x, .int .i64 n] w fun e w' => e = .returned (.int .u64 (bits .xor .u64 x (x / 2 ^ n.toNat))) ∧ Below w.heap.size w w' := by
 obtain ⟨X, rfl⟩ : ∃ X : Nat, x = (X : Int) := ⟨x.toNat, by omega⟩
 obtain ⟨k, rfl⟩ : ∃ k : Nat, n = (k : Int) := ⟨n.toNat, by omega⟩
 have h := calls_of_lit (W := w) (fold_lit X k (by omega) (by omega)) fun β => rfl
 have e : bits .xor .u64 (X : Int) ((X : Int) / 2 ^ (k : Int).toNat) = ((zF X k : Nat) : Int) := by
  have h := xorShift_u64 X (2 ^ k) (by omega)
  have e2 : ((2 ^ k : Nat) : Int) = (2 : Int) ^ k := by simp
  rw [e2] at h
  exact h
 rw [e]
 exact h
end Go.Proofs.Ytmljmabbopkpiaa.Vm
end
section
namespace Go.Proofs.Ytmljmabbopkpiaa
open Go.RowKit
def foldI (x n : Int) : Int := bits .xor .u64 x (x / 2 ^ n.toNat)
theorem fold_c (x n : Int) (w : World) (h0 : 0 ≤ n) (h1 : n ≤ 64) : Calls Try.prog 150 #[.int .u64 x, .int .i64 n] w fun e w' => e = .returned (.int .u64 (foldI x n)) ∧ w = w' := by
 go_enter Try.func150, Try.ntmps150
 go_wp2
 go_ret
 exact ⟨rfl, rfl⟩
def mixI (x : Int) : Int := foldI (IntKind.u64.wrap (foldI (IntKind.u64.wrap (foldI x 30 * 13787848793156543929)) 27 * 10723151780598845931)) 31
theorem mix_c (x : Int) (w : World) : Calls Try.prog 128 #[.int .u64 x] w fun e w' => e = .returned (.int .u64 (mixI x)) ∧ w = w' := by
 go_enter Try.func128, Try.ntmps128
 go_wp2_with (go_at_call 150; refine (fold_c _ _ _ (by omega) (by omega)).mono ?_; rintro e w' ⟨rfl, rfl⟩)
 go_ret
 exact ⟨rfl, rfl⟩
def atI (key index : Int) : Int := mixI (IntKind.u64.wrap (key + IntKind.u64.wrap (IntKind.u64.wrap (IntKind.u64.wrap index + 1) * 11400714819323198485)))
theorem at_c (key index : Int) (w : World) : Calls Try.prog 105 #[.int .u64 key, .int .i64 index] w fun e w' => e = .returned (.int .u64 (atI key index)) ∧ w = w' := by
 go_enter Try.func105, Try.ntmps105
 go_wp2_with (go_at_call 128; refine (mix_c _ _).mono ?_; rintro e w' ⟨rfl, rfl⟩)
 go_ret
 exact ⟨rfl, rfl⟩
def lo32 (z : Int) : Int := bits .and .u64 z 4294967295
def upP (v n : Int) : Int := IntKind.u64.wrap (lo32 v * lo32 n)
def upQ (v n : Int) : Int := IntKind.u64.wrap (IntKind.u64.wrap (v / 4294967296 * lo32 n) + upP v n / 4294967296)
def upR (v n : Int) : Int := IntKind.u64.wrap (IntKind.u64.wrap (lo32 v * (n / 4294967296)) + lo32 (upQ v n))
def upperI (v n : Int) : Int := IntKind.u64.wrap (IntKind.u64.wrap (IntKind.u64.wrap (v / 4294967296 * (n / 4294967296)) + upQ v n / 4294967296) + upR v n / 4294967296)
theorem upper_c (v n : Int) (w : World) : Calls Try.prog 106 #[.int .u64 v, .int .u64 n] w fun e w' => e = .returned (.int .u64 (upperI v n)) ∧ w = w' := by
 go_enter Try.func106, Try.ntmps106
 go_wp2
 go_ret
 exact ⟨rfl, rfl⟩
theorem wrapU64 (z : Int) : IntKind.u64.wrap z = z % 18446744073709551616 := by simp [IntKind.wrap, IntKind.bits, IntKind.signed]
theorem lo32_eq (z : Int) (h0 : 0 ≤ z) (h1 : z < 18446744073709551616) : lo32 z = z % 4294967296 := and_low32 z h0 h1
theorem mul_bd (a b : Int) (a0 : 0 ≤ a) (a1 : a ≤ 4294967295) (b0 : 0 ≤ b) (b1 : b ≤ 4294967295) : 0 ≤ a * b ∧ a * b ≤ 18446744065119617025 :=
 ⟨Int.mul_nonneg a0 b0, Int.le_trans (Int.mul_le_mul a1 b1 b0 (by decide)) (by decide)⟩
theorem upper_eq (v n : Int) (v0 : 0 ≤ v) (v1 : v < 18446744073709551616) (n0 : 0 ≤ n) (n1 : n < 18446744073709551616) : upperI v n = v * n / 18446744073709551616 := by
 have ev := Int.emod_add_mul_ediv v 4294967296
 have en := Int.emod_add_mul_ediv n 4294967296
 have hlv := lo32_eq v v0 v1
 have hln := lo32_eq n n0 n1
 have a0 : 0 ≤ v / 4294967296 := by omega
 have a1 : v / 4294967296 ≤ 4294967295 := by omega
 have b0 : 0 ≤ v % 4294967296 := by omega
 have b1 : v % 4294967296 ≤ 4294967295 := by omega
 have c0 : 0 ≤ n / 4294967296 := by omega
 have c1 : n / 4294967296 ≤ 4294967295 := by omega
 have d0 : 0 ≤ n % 4294967296 := by omega
 have d1 : n % 4294967296 ≤ 4294967295 := by omega
 generalize ha : v / 4294967296 = a at *
 generalize hb : v % 4294967296 = b at *
 generalize hc : n / 4294967296 = c at *
 generalize hd : n % 4294967296 = d at *
 have hX := mul_bd a c a0 a1 c0 c1
 have hY := mul_bd a d a0 a1 d0 d1
 have hZ := mul_bd b c b0 b1 c0 c1
 have hW := mul_bd b d b0 b1 d0 d1
 have hvn : v * n = a * c * 18446744073709551616 + (a * d + b * c) * 4294967296 + b * d := by
  rw [← ev, ← en, Int.add_mul, Int.mul_add, Int.mul_add]
  rw [show b * (4294967296 * c) = b * c * 4294967296 by rw [Int.mul_comm 4294967296 c, Int.mul_assoc], show 4294967296 * a * d = a * d * 4294967296 by rw [Int.mul_comm 4294967296 a, Int.mul_assoc, Int.mul_comm 4294967296 d, Int.mul_assoc],
   show 4294967296 * a * (4294967296 * c) = a * c * 18446744073709551616 by rw [Int.mul_comm 4294967296 a, Int.mul_comm 4294967296 c, Int.mul_assoc, ← Int.mul_assoc 4294967296 c, Int.mul_comm 4294967296 c, Int.mul_assoc c, Int.mul_assoc]; rfl]
  omega
 have hp : upP v n = b * d := by
  rw [upP, hlv, hln, wrapU64]; omega
 have hq : upQ v n = a * d + b * d / 4294967296 := by
  rw [upQ, hp, hln, ha, wrapU64, wrapU64]; omega
 have hlq : lo32 (upQ v n) = (a * d + b * d / 4294967296) % 4294967296 := by
  rw [hq]; exact lo32_eq _ (by omega) (by omega)
 have hr : upR v n = b * c + (a * d + b * d / 4294967296) % 4294967296 := by
  rw [upR, hlq, hlv, hc, wrapU64, wrapU64]; omega
 rw [upperI, hq, hr, ha, hc, hvn, wrapU64, wrapU64, wrapU64]
 generalize a * c = X at *
 generalize a * d = Y at *
 generalize b * c = Z at *
 generalize b * d = U at *
 omega
def belowI (v n : Int) : Int := wrap64 (upperI v (IntKind.u64.wrap n))
theorem below_ok (v n : Int) (w : World) (h : 1 ≤ n) : Calls Try.prog 64 #[.int .u64 v, .int .i64 n] w fun e w' => e = .returned (.tuple #[.int .i64 (belowI v n), .int .i64 0]) ∧ w = w' := by
 go_enter Try.func64, Try.ntmps64
 go_wp2_with (go_at_call 106; refine (upper_c _ _ _).mono ?_; rintro e w' ⟨rfl, rfl⟩)
 go_ret2
 exact ⟨rfl, rfl⟩
def join2 (x y : Int) : Int := mixI (IntKind.u64.wrap (IntKind.u64.wrap (11400714819323198485 + y) + IntKind.u64.wrap (mixI (IntKind.u64.wrap (IntKind.u64.wrap (11400714819323198485 + x))) * 11400714819323198485)))
set_option maxRecDepth 100000 in
set_option maxHeartbeats 1000000 in
theorem join2_c (b : Nat) (x y : Int) (w : World) (h0 : w.cell? ⟨b, 0, none⟩ = some (.int .u64 x)) (h1 : w.cell? ⟨b, 1, none⟩ = some (.int .u64 y)) :
  Calls Try.prog 127 #[.slice (some ⟨b, 0, none⟩) 2 2] w fun e w' => e = .returned (.int .u64 (join2 x y)) ∧ w = w' := by
 go_enter Try.func127, Try.ntmps127
 go_wp2
 refine wp_loop_rounds 3 ?_
 rw [rounds_succ]
 go_wp2_with (go_at_call 128; refine (mix_c _ _).mono ?_; rintro e w' ⟨rfl, rfl⟩)
 rw [rounds_succ]
 go_wp2_with (go_at_call 128; refine (mix_c _ _).mono ?_; rintro e w' ⟨rfl, rfl⟩)
 rw [rounds_succ]
 go_wp2_with (go_at_call 128; refine (mix_c _ _).mono ?_; rintro e w' ⟨rfl, rfl⟩)
 go_ret
 exact ⟨rfl, rfl⟩
def keyI (seed process : Int) : Int := join2 seed process
theorem key_ok (seed process : Int) (w : World) (h0 : 0 ≤ process) (h1 : process ≤ 65536) : Calls Try.prog 104 #[.int .u64 seed, .int .i64 process] w fun e w' => e = .returned (.tuple #[.int .u64 (keyI seed process), .int .i64 0]) ∧ Below w.heap.size w w' := by
 go_enter Try.func104, Try.ntmps104
 go_wp2_with fail
 refine (join2_c w.heap.size seed process _ ?_ ?_).mono ?_
 ·exact cell_of_row _ _ _ _ _ _ (heap_alloc_new w _)
 ·exact cell_of_row _ _ _ _ _ _ (heap_alloc_new w _)
 rintro e w' ⟨rfl, rfl⟩
 go_wp2
 go_ret2
 exact ⟨rfl, (Below.refl _ _).alloc (Nat.le_refl _) _⟩
def valueI (seed process index : Int) : Int := atI (keyI seed process) index
set_option maxHeartbeats 1000000 in
theorem value_ok (seed process index : Int) (w : World) (h0 : 0 ≤ process) (h1 : process ≤ 65536) (h2 : 0 ≤ index) (h3 : index ≤ 281474976710656) :
  Calls Try.prog 63 #[.int .u64 seed, .int .i64 process, .int .i64 index] w fun e w' => e = .returned (.tuple #[.int .u64 (valueI seed process index), .int .i64 0]) ∧ Below w.heap.size w w' := by
 go_enter Try.func63, Try.ntmps63
 go_wp2_with fail
 refine (key_ok _ _ _ h0 h1).mono ?_
 rintro e w' ⟨rfl, hb⟩
 go_wp2_with (go_at_call 105; refine (at_c _ _ _).mono ?_; rintro e w' ⟨rfl, rfl⟩)
 go_ret2
 exact ⟨rfl, hb⟩
def drawI (seed process index n : Int) : Int := belowI (valueI seed process index) n
set_option maxHeartbeats 1000000 in
theorem draw_ok (seed process index n : Int) (w : World) (h0 : 0 ≤ process) (h1 : process ≤ 65536) (h2 : 0 ≤ index) (h3 : index ≤ 281474976710656) (hn : 1 ≤ n) :
  Calls Try.prog 27 #[.int .u64 seed, .int .i64 process, .int .i64 index, .int .i64 n] w fun e w' => e = .returned (.tuple #[.int .i64 (drawI seed process index n), .int .i64 0]) ∧ Below w.heap.size w w' := by
 go_enter Try.func27, Try.ntmps27
 go_wp2_with fail
 refine (value_ok _ _ _ _ h0 h1 h2 h3).mono ?_
 rintro e w' ⟨rfl, hb⟩
 go_wp2_with (go_at_call 64; refine (below_ok _ _ _ hn).mono ?_; rintro e w' ⟨rfl, rfl⟩)
 go_ret2
 exact ⟨rfl, hb⟩
theorem u64_bd (z : Int) : 0 ≤ IntKind.u64.wrap z ∧ IntKind.u64.wrap z < 18446744073709551616 := by rw [wrapU64]; omega
theorem foldI_bd (x n : Int) (h : 0 ≤ x) (h1 : x < 18446744073709551616) (hn : 0 ≤ n) : 0 ≤ foldI x n ∧ foldI x n < 18446744073709551616 := by
 unfold foldI
 have : bits .xor .u64 x (x / 2 ^ n.toNat) = IntKind.u64.wrap (bits .xor .u64 x (x / 2 ^ n.toNat)) := by
  simp only [bits, wrapU64]
  omega
 rw [this]; exact u64_bd _
theorem mixI_bd (x : Int) : 0 ≤ mixI x ∧ mixI x < 18446744073709551616 := foldI_bd _ _ (u64_bd _).1 (u64_bd _).2 (by decide)
theorem valueI_bd (s p i : Int) : 0 ≤ valueI s p i ∧ valueI s p i < 18446744073709551616 := mixI_bd _
theorem drawI_bd (s p i n : Int) (hn : 1 ≤ n) (hn1 : n ≤ 9223372036854775807) : 0 ≤ drawI s p i n ∧ drawI s p i n < n := by
 unfold drawI belowI
 have hv := valueI_bd s p i
 have hw : IntKind.u64.wrap n = n := by rw [wrapU64]; omega
 rw [hw, upper_eq _ _ hv.1 hv.2 (by omega) (by omega)]
 have h0 : 0 ≤ valueI s p i * n / 18446744073709551616 := Int.ediv_nonneg (Int.mul_nonneg hv.1 (by omega)) (by decide)
 have h1 : valueI s p i * n / 18446744073709551616 < n := by
  apply Int.ediv_lt_of_lt_mul (by decide)
  rw [Int.mul_comm n]
  exact Int.mul_lt_mul_of_pos_right hv.2 (by omega)
 have hz : wrap64 (valueI s p i * n / 18446744073709551616) = valueI s p i * n / 18446744073709551616 := by
  unfold wrap64; omega
 rw [hz]; exact ⟨h0, h1⟩
end Go.Proofs.Ytmljmabbopkpiaa
end
section
namespace Go.Proofs.Ytmljmabbopkpiaa.Vm
open Go.RowKit
def u64S (l : List Int) : Nat → SV := fun q => .int .u64 (l.getD q 0)
theorem u64S_stable {h : HM} {l : List Int} (q : Nat) : zc_ h (u64S l q) := trivial
def uwV (l : List Int) : List Value := l.map fun x => .int .u64 x
theorem elems_u64 {β : Env} {n : Nat} {f : Nat → SV} (hf : ∀ q, q < n → isI .u64 (f q) = true) : zw_ β 1 n f = uwV (ls iOf n f) := by
 rw [elems_ls (cells := fun x => [.int .u64 x]) isI_cl (fun _ => rfl) hf]
 unfold uwV
 rw [List.flatMap_def]
 induction ls iOf n f with
 | nil => rfl
 | cons x l ih => simp [ih]
theorem elems_u64S {β : Env} (l : List Int) : zw_ β 1 l.length (u64S l) = uwV l := by
 rw [elems_u64 (fun q _ => rfl), show ls iOf l.length (u64S l) = l from ls_of (g := iOf) (e := fun x => .int .u64 x) (fun _ => rfl) l 0]
theorem viewU64 {w : World} {β : Env} {A : Option Addr} {n cap : Nat} {f : Nat → SV} (hr : yk_ w w.heap.size 1 A n (zw_ β 1 n f)) (hn : n ≤ cap) (hf : ∀ q, q < n → isI .u64 (f q) = true) : (View.mk 1 (ls iOf n f).length (u64S (ls iOf n f)) A cap).Ok w :=
 ⟨fun β' => by rw [elems_u64S, zb_]; rwa [elems_u64 hf] at hr, by rw [zb_]; exact hn, fun h q => u64S_stable q, Nat.succ_pos _⟩
def sRFold : yq_ := fun args _ _ => match args with
 | [a, b] => bif isI .u64 a && isI .i64 b then some ((0 ≤ iOf a ∧ iOf a < 18446744073709551616) ∧ 0 ≤ iOf b ∧ iOf b ≤ 64, .int .u64 (foldI (iOf a) (iOf b)), [], []) else none
 | _ => none
theorem sRFold_ok : zj_ Try.prog 174 sRFold := by
 refine ⟨zi_ (by kernel_rfl), fun args h m c v rd wr hs hm hc w0 M β h' w R hrd hwr hst => ?_⟩
 unfold sRFold at hs
 split at hs
 ·rename_i a b
  obtain ⟨hb, hs⟩ := zl_ hs
  simp only [Option.some.injEq, Prod.mk.injEq] at hs
  obtain ⟨rfl, rfl, rfl, rfl⟩ := hs
  simp only [Bool.and_eq_true] at hb
  obtain ⟨b1, b2⟩ := hb
  obtain ⟨⟨c1, c2⟩, c3, c4⟩ := hc
  simp only [denL, zd_ b1, zd_ b2]
  exact (rfold_c (iOf a) (iOf b) w c1 c2 c3 c4).mono fun e w' he => post_read R trivial rfl he.1 he.2
 ·cases hs
def cMx : FuncId → Option yq_ := yz_ [(174, sRFold)]
theorem cMx_ok : ∀ f S, cMx f = some S → zj_ Try.prog f S := zp_ ⟨sRFold_ok, trivial⟩
theorem mix_lit (x : Int) (h0 : 0 ≤ x) (h1 : x < 18446744073709551616) : zo_ Try.prog 151 [.int .u64 x] [.gone] (.int .u64 (mixI x)) [.gone] := by
 obtain ⟨m1, hm1⟩ : ∃ m, IntKind.u64.wrap (foldI x 30 * 13787848793156543929) = m := ⟨_, rfl⟩
 obtain ⟨m2, hm2⟩ : ∃ m, IntKind.u64.wrap (foldI m1 27 * 10723151780598845931) = m := ⟨_, rfl⟩
 have e : mixI x = foldI m2 31 := by rw [mixI, hm1, hm2]
 have b1 := u64_bd (foldI x 30 * 13787848793156543929)
 have b2 := u64_bd (foldI m1 27 * 10723151780598845931)
 rw [hm1] at b1
 rw [hm2] at b2
 rw [e]
 refine zf_ (fn := Try.f151) 1 11 0 rfl rfl rfl rfl rfl u5_ rfl fun w0 M E hro => ?_
 repeat' (first | refine Ctl.h ?_ | ((with_reducible intro hif); first | (focus (cases hif; done)) | ((try simp only [JH] at hif); try (exfalso; omega))) | ((with_reducible first | apply J22 cMx_ok za_ | apply J23 fol cMx_ok za_ | apply J24); (·rfl); (· (simp only [push_cast, ↓JP, Nat.reduceAdd, Nat.reduceEqDiff, Nat.reduceLT, Nat.reduceMul, Nat.reduceLeDiff, reduceCtorEq, reduceIte, cMx, sRFold, yd_, yc_, iOf, Int.cast_ofNat_Int, hm1, hm2, inR, inN]; rfl)); (try kernel_rfl); try exact k25_) | fail)
 apply At.endsRet za_ (fn := Try.f151) (rs := [.tmp 2]) Anc.refl hro (lb_ rfl) rfl
 ·exact k3_
 ·exact k4_
 ·exact k5_
 ·rfl
 ·exact k54_
 ·exact k7_
 ·exact fun β => rfl
 ·exact k54_
def sRMix : yq_ := fun args h m => match args with
 | [v1] => bif isI .u64 v1 then some ((0 ≤ (iOf v1)) ∧ ((iOf v1) < 18446744073709551616), .int .u64 (mixI (iOf v1)), [], []) else none
 | _ => none
theorem sRMix_ok : zj_ Try.prog 151 sRMix := by
 refine ⟨zi_ (by kernel_rfl), fun args h m c v rd wr hs hm hc w0 M β h' w R hrd hwr hst => ?_⟩
 unfold sRMix at hs
 split at hs
 ·rename_i v1
  obtain ⟨hb, hs⟩ := zl_ hs
  simp only [Option.some.injEq, Prod.mk.injEq] at hs
  obtain ⟨rfl, rfl, rfl, rfl⟩ := hs
  have b1 := hb
  obtain ⟨y1, y2⟩ := hc
  refine yf_ (views := []) (mix_lit (iOf v1) y1 y2) ?_ R hm hwr ?_ ?_ ?_
  ·intro x hx; cases hx
  ·intro β1 hv
   simp only [denL, z2_, z0_, z6_, zq_, zb_, zd_ b1]
  ·exact k54_
  ·exact k54_
 ·cases hs
def jn1 (x : Int) : Int := mixI (IntKind.u64.wrap (IntKind.u64.wrap (11400714819323198485 + x) + IntKind.u64.wrap (0 * 11400714819323198485)))
def jn2 (x y : Int) : Int := mixI (IntKind.u64.wrap (IntKind.u64.wrap (11400714819323198485 + y) + IntKind.u64.wrap (jn1 x * 11400714819323198485)))
theorem jn2_key (x y : Int) : jn2 x y = keyI x y := by
 have e : jn1 x = mixI (IntKind.u64.wrap (IntKind.u64.wrap (11400714819323198485 + x))) := by
  rw [jn1]
  simp only [wrapU64]
  congr 1
  omega
 rw [jn2, e]; rfl
theorem ls1U (f : Nat → SV) : ls iOf 1 f = [iOf (f 0)] := rfl
theorem ls2U (f : Nat → SV) : ls iOf 2 f = [iOf (f 0), iOf (f 1)] := rfl
theorem ls0U (f : Nat → SV) : ls iOf 0 f = [] := rfl
theorem join0_lit (p1 : Nat) : zo_ Try.prog 175 [.sl 1 2 [] 1 0 0 (some p1)] [.gone, .gone, .ro (.arr 0 1 (u64S []))] (.int .u64 0) [.gone] := by
 refine zf_ (fn := Try.f175) 3 22 0 rfl rfl rfl rfl rfl u5_ rfl fun w0 M E hro => ?_
 repeat' (first | refine Ctl.h ?_ | ((with_reducible intro hif); first | (focus (cases hif; done)) | ((try simp only [JH] at hif); try (exfalso; omega))) | ((with_reducible first | apply J22 cMx_ok za_ | apply J23 fol cMx_ok za_ | apply J24); (·rfl); (· (simp only [push_cast, ↓JP, Nat.reduceAdd, Nat.reduceEqDiff, Nat.reduceLT, Nat.reduceMul, Nat.reduceLeDiff, reduceCtorEq, reduceIte, inR, inN]; rfl)); (try kernel_rfl); try exact k26_) | fail)
 apply At.endsRet za_ (fn := Try.f175) (rs := [.tmp 2]) Anc.refl hro (lb_ rfl) rfl
 ·exact k3_
 ·exact k4_
 ·exact k5_
 ·rfl
 ·exact k54_
 ·exact k7_
 ·exact fun β => rfl
 ·exact k54_
theorem join0_ok (l : List Int) (p1 : Nat) (h : l.length = 0) : zo_ Try.prog 175 [.sl 1 2 [] 1 0 l.length (some p1)] [.gone, .gone, .ro (.arr l.length 1 (u64S l))] (.int .u64 0) [.gone] := by
 obtain rfl := List.length_eq_zero_iff.mp h
 exact join0_lit p1
def sRJ0 : yq_ := fun args h m => match args with
 | [v1] => match y2_ h 1 (.tup []) v1 with
  | some (c1, n1, f1, r1) => some (c1 ∧ (∀ q, q < n1 → isI .u64 (f1 q) = true) ∧ ((ls iOf n1 f1).length = 0), .int .u64 0, r1, [])
  | _ => none
 | _ => none
theorem sRJ0_ok : zj_ Try.prog 175 sRJ0 := by
 refine ⟨zi_ (by kernel_rfl), fun args h m c v rd wr hs hm hc w0 M β h' w R hrd hwr hst => ?_⟩
 unfold sRJ0 at hs
 split at hs
 ·rename_i v1
  split at hs
  ·rename_i c1 n1 f1 r1 a1
   simp only [Option.some.injEq, Prod.mk.injEq] at hs
   obtain ⟨rfl, rfl, rfl, rfl⟩ := hs
   obtain ⟨k1, g1, y1⟩ := hc
   obtain ⟨A1, p1, d1, e1, t1⟩ := zg_ R a1 k1 (fun i hi => hrd i hi) (by omega)
   refine yf_ (views := [⟨1, (ls iOf n1 f1).length, u64S (ls iOf n1 f1), A1, p1⟩]) (join0_ok (ls iOf n1 f1) p1 y1) ?_ R hm hwr ?_ ?_ ?_
   ·intro x hx
    simp only [List.mem_cons, List.not_mem_nil, or_false] at hx
    subst hx
    ·exact viewU64 t1 e1 g1
   ·intro β1 hv
    simp only [Vd, zb_, and_true] at hv
    have z1 := hv
    simp only [denL, z2_, z0_, z6_, zq_, zb_, z1, d1]
   ·exact k54_
   ·exact k54_
  ·cases hs
 ·cases hs
def cJ0 : FuncId → Option yq_ := yz_ [(151, sRMix), (175, sRJ0)]
theorem cJ0_ok : ∀ f S, cJ0 f = some S → zj_ Try.prog f S := zp_ ⟨sRMix_ok, sRJ0_ok, trivial⟩
theorem join1_lit (x : Int) (p1 : Nat) : zo_ Try.prog 175 [.sl 1 2 [] 1 0 1 (some p1)] [.gone, .gone, .ro (.arr 1 1 (u64S [x]))] (.int .u64 (jn1 x)) [.gone] := by
 obtain ⟨m, hm⟩ : ∃ m, IntKind.u64.wrap (IntKind.u64.wrap (11400714819323198485 + x) + IntKind.u64.wrap (0 * 11400714819323198485)) = m := ⟨_, rfl⟩
 have b1 := u64_bd (IntKind.u64.wrap (11400714819323198485 + x) + IntKind.u64.wrap (0 * 11400714819323198485))
 rw [hm] at b1
 rw [jn1, hm]
 refine zf_ (fn := Try.f175) 3 22 0 rfl rfl rfl rfl rfl u5_ rfl fun w0 M E hro => ?_
 repeat' (first | refine Ctl.h ?_ | ((with_reducible intro hif); first | (focus (cases hif; done)) | ((try simp only [JH] at hif); try (exfalso; omega))) | ((with_reducible first | apply J22 cJ0_ok za_ | apply J23 fol cJ0_ok za_ | apply J24); (·rfl); (· (simp only [push_cast, ↓JP, Nat.reduceAdd, Nat.reduceEqDiff, Nat.reduceLT, Nat.reduceMul, Nat.reduceLeDiff, reduceCtorEq, reduceIte, cJ0, sRMix, sRJ0, yd_, yc_, iOf, u64S, ls0U, ls1U, Int.cast_ofNat_Int, Int.reduceSub, Int.reduceToNat, Nat.sub_zero, Nat.sub_self, List.getD_cons_zero, List.getD_cons_succ, hm, inR, inN]; rfl)); (try kernel_rfl); try exact k55_) | fail)
 apply At.endsRet za_ (fn := Try.f175) (rs := [.tmp 2]) Anc.refl hro (lb_ rfl) rfl
 ·exact k3_
 ·exact k4_
 ·exact k5_
 ·rfl
 ·exact k54_
 ·exact k7_
 ·exact fun β => rfl
 ·exact k54_
theorem join1_ok (l : List Int) (p1 : Nat) (h : l.length = 1) : zo_ Try.prog 175 [.sl 1 2 [] 1 0 l.length (some p1)] [.gone, .gone, .ro (.arr l.length 1 (u64S l))] (.int .u64 (jn1 (l.getD 0 0))) [.gone] := by
 obtain ⟨x, rfl⟩ := List.length_eq_one_iff.mp h
 exact join1_lit x p1
def sRJ1 : yq_ := fun args h m => match args with
 | [v1] => match y2_ h 1 (.tup []) v1 with
  | some (c1, n1, f1, r1) => some (c1 ∧ (∀ q, q < n1 → isI .u64 (f1 q) = true) ∧ ((ls iOf n1 f1).length = 1), .int .u64 (jn1 ((ls iOf n1 f1).getD 0 0)), r1, [])
  | _ => none
 | _ => none
theorem sRJ1_ok : zj_ Try.prog 175 sRJ1 := by
 refine ⟨zi_ (by kernel_rfl), fun args h m c v rd wr hs hm hc w0 M β h' w R hrd hwr hst => ?_⟩
 unfold sRJ1 at hs
 split at hs
 ·rename_i v1
  split at hs
  ·rename_i c1 n1 f1 r1 a1
   simp only [Option.some.injEq, Prod.mk.injEq] at hs
   obtain ⟨rfl, rfl, rfl, rfl⟩ := hs
   obtain ⟨k1, g1, y1⟩ := hc
   obtain ⟨A1, p1, d1, e1, t1⟩ := zg_ R a1 k1 (fun i hi => hrd i hi) (by omega)
   refine yf_ (views := [⟨1, (ls iOf n1 f1).length, u64S (ls iOf n1 f1), A1, p1⟩]) (join1_ok (ls iOf n1 f1) p1 y1) ?_ R hm hwr ?_ ?_ ?_
   ·intro x hx
    simp only [List.mem_cons, List.not_mem_nil, or_false] at hx
    subst hx
    ·exact viewU64 t1 e1 g1
   ·intro β1 hv
    simp only [Vd, zb_, and_true] at hv
    have z1 := hv
    simp only [denL, z2_, z0_, z6_, zq_, zb_, z1, d1]
   ·exact k54_
   ·exact k54_
  ·cases hs
 ·cases hs
def cJ1 : FuncId → Option yq_ := yz_ [(151, sRMix), (175, sRJ1)]
theorem cJ1_ok : ∀ f S, cJ1 f = some S → zj_ Try.prog f S := zp_ ⟨sRMix_ok, sRJ1_ok, trivial⟩
theorem join2_lit (x y : Int) (p1 : Nat) : zo_ Try.prog 175 [.sl 1 2 [] 1 0 2 (some p1)] [.gone, .gone, .ro (.arr 2 1 (u64S [x, y]))] (.int .u64 (jn2 x y)) [.gone] := by
 obtain ⟨m, hm⟩ : ∃ m, IntKind.u64.wrap (IntKind.u64.wrap (11400714819323198485 + y) + IntKind.u64.wrap (jn1 x * 11400714819323198485)) = m := ⟨_, rfl⟩
 have b1 := u64_bd (IntKind.u64.wrap (11400714819323198485 + y) + IntKind.u64.wrap (jn1 x * 11400714819323198485))
 rw [hm] at b1
 rw [jn2, hm]
 refine zf_ (fn := Try.f175) 3 22 0 rfl rfl rfl rfl rfl u5_ rfl fun w0 M E hro => ?_
 repeat' (first | refine Ctl.h ?_ | ((with_reducible intro hif); first | (focus (cases hif; done)) | ((try simp only [JH] at hif); try (exfalso; omega))) | ((with_reducible first | apply J22 cJ1_ok za_ | apply J23 fol cJ1_ok za_ | apply J24); (·rfl); (· (simp only [push_cast, ↓JP, Nat.reduceAdd, Nat.reduceEqDiff, Nat.reduceLT, Nat.reduceMul, Nat.reduceLeDiff, reduceCtorEq, reduceIte, cJ1, sRMix, sRJ1, yd_, yc_, iOf, u64S, ls0U, ls1U, Int.cast_ofNat_Int, Int.reduceSub, Int.reduceToNat, Nat.sub_zero, Nat.sub_self, List.getD_cons_zero, List.getD_cons_succ, hm, inR, inN]; rfl)); (try kernel_rfl); try exact k55_) | fail)
 apply At.endsRet za_ (fn := Try.f175) (rs := [.tmp 2]) Anc.refl hro (lb_ rfl) rfl
 ·exact k3_
 ·exact k4_
 ·exact k5_
 ·rfl
 ·exact k54_
 ·exact k7_
 ·exact fun β => rfl
 ·exact k54_
theorem join2_ok (l : List Int) (p1 : Nat) (h : l.length = 2) : zo_ Try.prog 175 [.sl 1 2 [] 1 0 l.length (some p1)] [.gone, .gone, .ro (.arr l.length 1 (u64S l))] (.int .u64 (jn2 (l.getD 0 0) (l.getD 1 0))) [.gone] := by
 match l, h with
 | [x, y], _ => exact join2_lit x y p1
def sRJ2 : yq_ := fun args h m => match args with
 | [v1] => match y2_ h 1 (.tup []) v1 with
  | some (c1, n1, f1, r1) => some (c1 ∧ (∀ q, q < n1 → isI .u64 (f1 q) = true) ∧ ((ls iOf n1 f1).length = 2), .int .u64 (jn2 ((ls iOf n1 f1).getD 0 0) ((ls iOf n1 f1).getD 1 0)), r1, [])
  | _ => none
 | _ => none
theorem sRJ2_ok : zj_ Try.prog 175 sRJ2 := by
 refine ⟨zi_ (by kernel_rfl), fun args h m c v rd wr hs hm hc w0 M β h' w R hrd hwr hst => ?_⟩
 unfold sRJ2 at hs
 split at hs
 ·rename_i v1
  split at hs
  ·rename_i c1 n1 f1 r1 a1
   simp only [Option.some.injEq, Prod.mk.injEq] at hs
   obtain ⟨rfl, rfl, rfl, rfl⟩ := hs
   obtain ⟨k1, g1, y1⟩ := hc
   obtain ⟨A1, p1, d1, e1, t1⟩ := zg_ R a1 k1 (fun i hi => hrd i hi) (by omega)
   refine yf_ (views := [⟨1, (ls iOf n1 f1).length, u64S (ls iOf n1 f1), A1, p1⟩]) (join2_ok (ls iOf n1 f1) p1 y1) ?_ R hm hwr ?_ ?_ ?_
   ·intro x hx
    simp only [List.mem_cons, List.not_mem_nil, or_false] at hx
    subst hx
    ·exact viewU64 t1 e1 g1
   ·intro β1 hv
    simp only [Vd, zb_, and_true] at hv
    have z1 := hv
    simp only [denL, z2_, z0_, z6_, zq_, zb_, z1, d1]
   ·exact k54_
   ·exact k54_
  ·cases hs
 ·cases hs
def cKy : FuncId → Option yq_ := yz_ [(175, sRJ2)]
theorem cKy_ok : ∀ f S, cKy f = some S → zj_ Try.prog f S := zp_ ⟨sRJ2_ok, trivial⟩
theorem rkey_lit (s p : Int) (h0 : 0 ≤ p) (h1 : p ≤ 65536) : zo_ Try.prog 152 [.int .u64 s, .int .i64 p] [.gone] (.int .u64 (keyI s p)) [.gone] := by
 rw [← jn2_key]
 refine zf_ (fn := Try.f152) 1 10 0 rfl rfl rfl rfl rfl u5_ rfl fun w0 M E hro => ?_
 repeat' (first | refine Ctl.h ?_ | ((with_reducible intro hif); first | (focus (cases hif; done)) | ((try simp only [JH] at hif); try (exfalso; omega))) | ((with_reducible first | apply J22 cKy_ok za_ | apply J23 fol cKy_ok za_ | apply J24); (·rfl); (· (simp only [push_cast, ↓JP, Nat.reduceAdd, Nat.reduceEqDiff, Nat.reduceLT, Nat.reduceMul, Nat.reduceLeDiff, reduceCtorEq, reduceIte, cKy, sRJ2, yd_, yc_, iOf, ls2U, Int.cast_ofNat_Int, inR, inN, List.all_cons, List.all_nil]; rfl)); (try kernel_rfl); (try (focus (first | exact True.intro | ((repeat' (first | exact True.intro | apply And.intro | rfl | omega | decide | (intro q hq; match q, hq with | 0, _ => rfl | 1, _ => rfl))); done) | ((try simp only [JS, implies_true, forall_const, z7_, z5_, kndOf, inR, inN]); (repeat' (first | assumption | exact True.intro | omega | apply And.intro)); done))))) | fail)
 apply At.endsRet za_ (fn := Try.f152) (rs := [.tmp 4]) Anc.refl hro (lb_ rfl) rfl
 ·exact k3_
 ·exact k4_
 ·exact k5_
 ·rfl
 ·exact k54_
 ·exact k7_
 ·exact fun β => rfl
 ·exact k54_
def sRKey : yq_ := fun args h m => match args with
 | [v1, v2] => bif isI .u64 v1 && isI .i64 v2 then some ((0 ≤ (iOf v2)) ∧ ((iOf v2) ≤ 65536), .int .u64 (keyI (iOf v1) (iOf v2)), [], []) else none
 | _ => none
theorem sRKey_ok : zj_ Try.prog 152 sRKey := by
 refine ⟨zi_ (by kernel_rfl), fun args h m c v rd wr hs hm hc w0 M β h' w R hrd hwr hst => ?_⟩
 unfold sRKey at hs
 split at hs
 ·rename_i v1 v2
  obtain ⟨hb, hs⟩ := zl_ hs
  simp only [Option.some.injEq, Prod.mk.injEq] at hs
  obtain ⟨rfl, rfl, rfl, rfl⟩ := hs
  simp only [Bool.and_eq_true] at hb
  obtain ⟨b1, b2⟩ := hb
  obtain ⟨y1, y2⟩ := hc
  refine yf_ (views := []) (rkey_lit (iOf v1) (iOf v2) y1 y2) ?_ R hm hwr ?_ ?_ ?_
  ·intro x hx; cases hx
  ·intro β1 hv
   simp only [denL, z2_, z0_, z6_, zq_, zb_, zd_ b1, zd_ b2]
  ·exact k54_
  ·exact k54_
 ·cases hs
def cVa : FuncId → Option yq_ := yz_ [(152, sRKey), (151, sRMix)]
theorem cVa_ok : ∀ f S, cVa f = some S → zj_ Try.prog f S := zp_ ⟨sRKey_ok, sRMix_ok, trivial⟩
theorem rval_lit (s p i : Int) (h0 : 0 ≤ p) (h1 : p ≤ 65536) (h2 : 0 ≤ i) (h3 : i ≤ 281474976710656) : zo_ Try.prog 130 [.int .u64 s, .int .i64 p, .int .i64 i] [.gone] (.int .u64 (valueI s p i)) [.gone] := by
 obtain ⟨m, hm⟩ : ∃ m, IntKind.u64.wrap (keyI s p + IntKind.u64.wrap ((i + 1) * 11400714819323198485)) = m := ⟨_, rfl⟩
 have b1 := u64_bd (keyI s p + IntKind.u64.wrap ((i + 1) * 11400714819323198485))
 rw [hm] at b1
 have e : valueI s p i = mixI m := by
  rw [valueI, atI, ← hm]
  have e1 : IntKind.u64.wrap (IntKind.u64.wrap i + 1) = i + 1 := by simp only [wrapU64]; omega
  rw [e1]
 rw [e]
 refine zf_ (fn := Try.f130) 1 16 0 rfl rfl rfl rfl rfl u5_ rfl fun w0 M E hro => ?_
 repeat' (first | refine Ctl.h ?_ | ((with_reducible intro hif); first | (focus (cases hif; done)) | ((try simp only [JH] at hif); try (exfalso; omega))) | ((with_reducible first | apply J22 cVa_ok za_ | apply J23 fol cVa_ok za_ | apply J24); (·rfl); (· (simp only [push_cast, ↓JP, Nat.reduceAdd, Nat.reduceEqDiff, Nat.reduceLT, Nat.reduceMul, Nat.reduceLeDiff, reduceCtorEq, reduceIte, cVa, sRKey, sRMix, yd_, yc_, iOf, nat_one_i, Int.cast_ofNat_Int, hm, inR, inN]; rfl)); (try kernel_rfl); try exact k55_) | fail)
 apply At.endsRet za_ (fn := Try.f130) (rs := [.tmp 6]) Anc.refl hro (lb_ rfl) rfl
 ·exact k3_
 ·exact k4_
 ·exact k5_
 ·rfl
 ·exact k54_
 ·exact k7_
 ·exact fun β => rfl
 ·exact k54_
def sRVal : yq_ := fun args h m => match args with
 | [v1, v2, v3] => bif isI .u64 v1 && isI .i64 v2 && isI .i64 v3 then some ((0 ≤ (iOf v2)) ∧ ((iOf v2) ≤ 65536) ∧ (0 ≤ (iOf v3)) ∧ ((iOf v3) ≤ 281474976710656), .int .u64 (valueI (iOf v1) (iOf v2) (iOf v3)), [], []) else none
 | _ => none
theorem sRVal_ok : zj_ Try.prog 130 sRVal := by
 refine ⟨zi_ (by kernel_rfl), fun args h m c v rd wr hs hm hc w0 M β h' w R hrd hwr hst => ?_⟩
 unfold sRVal at hs
 split at hs
 ·rename_i v1 v2 v3
  obtain ⟨hb, hs⟩ := zl_ hs
  simp only [Option.some.injEq, Prod.mk.injEq] at hs
  obtain ⟨rfl, rfl, rfl, rfl⟩ := hs
  simp only [Bool.and_eq_true] at hb
  obtain ⟨⟨b1, b2⟩, b3⟩ := hb
  obtain ⟨y1, y2, y3, y4⟩ := hc
  refine yf_ (views := []) (rval_lit (iOf v1) (iOf v2) (iOf v3) y1 y2 y3 y4) ?_ R hm hwr ?_ ?_ ?_
  ·intro x hx; cases hx
  ·intro β1 hv
   simp only [denL, z2_, z0_, z6_, zq_, zb_, zd_ b1, zd_ b2, zd_ b3]
  ·exact k54_
  ·exact k54_
 ·cases hs
def sbV (v n j : Nat) : Nat := v % 2 ^ j * n / 2 ^ j
theorem sbV_zero (v n : Nat) : sbV v n 0 = 0 := by simp [sbV, Nat.mod_one]
theorem sbV_next (v n j : Nat) : sbV v n (j + 1) = (sbV v n j + (if v.testBit j then n else 0)) / 2 := by
 have hp : 0 < 2 ^ j := Nat.pow_pos (by decide)
 unfold sbV
 rw [mod_next, Nat.add_mul, Nat.pow_succ, ← Nat.div_div_eq_div_mul]
 cases v.testBit j
 ·simp
 ·simp only [if_true]
  rw [Nat.add_mul_div_left _ _ hp]
theorem sbV_lt (v n j : Nat) (hn : 0 < n) : sbV v n j < n := by
 have hp : 0 < 2 ^ j := Nat.pow_pos (by decide)
 unfold sbV
 rw [Nat.div_lt_iff_lt_mul hp, Nat.mul_comm n]
 exact Nat.mul_lt_mul_of_pos_right (Nat.mod_lt _ hp) hn
theorem below_lit (v n : Nat) (hv : v < 18446744073709551616) (hn0 : 0 < n) (hn : n ≤ 9223372036854775807) : zo_ Try.prog 129 [.nat .u64 v, .nat .i64 n] [.gone] (.nat .i64 (sbV v n 64)) [.gone] := by
 have hz0 := sbV_zero v n
 refine zf_ (fn := Try.f129) 1 24 0 rfl rfl rfl rfl rfl (by simp only [ze_, zc_, hp, i64S]; simp [HB.born]) rfl fun w0 M E hro => ?_
 repeat' (first | refine Ctl.h ?_ | ((with_reducible intro hif); first | (focus (cases hif; done)) | ((try simp only [JH] at hif); try (exfalso; omega))) | ((with_reducible first | apply J22 zt_ za_ | apply J23 fol zt_ za_ | apply J24); (·rfl); (· exact k20_); (try kernel_rfl); try exact y6_) | fail)
 refine WF.loopAt (fun (j : Nat) => j ≤ 64) (fun (j : Nat) => [(0, .nat .u64 v), (1, .nat .i64 n), (5, .nat .u64 (sbV v n j)), (6, .nat .i64 j)]) (fun (j : Nat) => [.gone]) (fun (j : Nat) => 64 - j) 0 (Nat.zero_le _) ?_ ?_ rfl ?_ ?_ rfl ?_
 ·exact k18_
 ·exact k5_
 ·exact k52_
 ·exact k52_
 intro j hj
 have hlt := sbV_lt v n j hn0
 by_cases hjl : j < 64
 ·have hmn := sbV_next v n j
  have hb1 := bit_div v j
  have hm1 : min j 64 = j := by omega
  cases hc : v.testBit j
  all_goals
   rw [hc] at hmn hb1
   simp only [b2, if_true, Bool.false_eq_true, if_false, Nat.add_zero] at hmn hb1
   repeat' (first | refine Ctl.h ?_ | ((with_reducible intro hif); first | (focus (cases hif; done)) | ((try simp only [JH] at hif); try (exfalso; omega))) | ((with_reducible first | apply J22 zt_ za_ | apply J23 fol zt_ za_ | apply J24); (·rfl); (· (simp only [push_cast, ↓JP, Nat.reduceAdd, Nat.reduceEqDiff, Nat.reduceLT, Nat.reduceMul, Nat.reduceLeDiff, reduceCtorEq, reduceIte, hjl, hm1, hb1, inR, inN, IntKind.bits]; rfl)); (try kernel_rfl); try exact k27_) | fail)
   refine At.next (j + 1) ?_ ?_ ?_ rfl ?_ ?_ rfl
   ·exact ⟨by omega, by omega⟩
   ·exact k53_
   ·exact k5_
   ·exact k52_
   ·exact k52_
 ·obtain rfl : j = 64 := by omega
  repeat' (first | refine Ctl.h ?_ | ((with_reducible intro hif); first | (focus (cases hif; done)) | ((try simp only [JH] at hif); try (exfalso; omega))) | ((with_reducible first | apply J22 zt_ za_ | apply J23 fol zt_ za_ | apply J24); (·rfl); (· (simp only [push_cast, ↓JP, Nat.reduceAdd, Nat.reduceEqDiff, Nat.reduceLT, Nat.reduceMul, Nat.reduceLeDiff, reduceCtorEq, reduceIte, hjl, inR, inN]; rfl)); (try kernel_rfl); (try (focus (first | exact True.intro | ((repeat' (first | exact True.intro | apply And.intro | omega | decide | (simp only [inN]; omega))); done) | ((try simp only [JS, implies_true, forall_const, z7_, z5_, kndOf, inR, inN]); (repeat' (first | assumption | exact True.intro | omega | apply And.intro)); done))))) | fail)
  apply At.endsRet za_ (fn := Try.f129) (rs := [.tmp 4]) Anc.refl hro (lb_ rfl) rfl
  ·exact k3_
  ·exact k4_
  ·exact k5_
  ·rfl
  ·exact k52_
  ·exact k7_
  ·exact fun β => rfl
  ·exact k52_
theorem rbelow_ok (v n : Int) (h0 : 0 ≤ v) (h1 : v < 18446744073709551616) (h2 : 1 ≤ n) (h3 : n ≤ 9223372036854775807) : zo_ Try.prog 129 [.int .u64 v, .int .i64 n] [.gone] (.int .i64 (belowI v n)) [.gone] := by
 obtain ⟨V, rfl⟩ : ∃ V : Nat, v = (V : Int) := ⟨v.toNat, by omega⟩
 obtain ⟨k, rfl⟩ : ∃ k : Nat, n = (k : Int) := ⟨n.toNat, by omega⟩
 have e : belowI (V : Int) (k : Int) = ((sbV V k 64 : Nat) : Int) := by
  have hw : IntKind.u64.wrap (k : Int) = (k : Int) := by rw [wrapU64]; omega
  have hs : sbV V k 64 = V * k / 18446744073709551616 := by
   have h64 : (2 : Nat) ^ 64 = 18446744073709551616 := by decide
   unfold sbV
   rw [h64, Nat.mod_eq_of_lt (by omega)]
  have hl := sbV_lt V k 64 (by omega)
  have hu : upperI (V : Int) (k : Int) = ((sbV V k 64 : Nat) : Int) := by
   rw [upper_eq _ _ (by omega) (by omega) (by omega) (by omega), hs]
   simp
  rw [belowI, hw, hu, wrap64]
  omega
 rw [e]
 exact below_lit V k (by omega) (by omega) (by omega)
def sRBel : yq_ := fun args h m => match args with
 | [v1, v2] => bif isI .u64 v1 && isI .i64 v2 then some ((0 ≤ (iOf v1)) ∧ ((iOf v1) < 18446744073709551616) ∧ (1 ≤ (iOf v2)) ∧ ((iOf v2) ≤ 9223372036854775807), .int .i64 (belowI (iOf v1) (iOf v2)), [], []) else none
 | _ => none
theorem sRBel_ok : zj_ Try.prog 129 sRBel := by
 refine ⟨zi_ (by kernel_rfl), fun args h m c v rd wr hs hm hc w0 M β h' w R hrd hwr hst => ?_⟩
 unfold sRBel at hs
 split at hs
 ·rename_i v1 v2
  obtain ⟨hb, hs⟩ := zl_ hs
  simp only [Option.some.injEq, Prod.mk.injEq] at hs
  obtain ⟨rfl, rfl, rfl, rfl⟩ := hs
  simp only [Bool.and_eq_true] at hb
  obtain ⟨b1, b2⟩ := hb
  obtain ⟨y1, y2, y3, y4⟩ := hc
  refine yf_ (views := []) (rbelow_ok (iOf v1) (iOf v2) y1 y2 y3 y4) ?_ R hm hwr ?_ ?_ ?_
  ·intro x hx; cases hx
  ·intro β1 hv
   simp only [denL, z2_, z0_, z6_, zq_, zb_, zd_ b1, zd_ b2]
  ·exact k52_
  ·exact k52_
 ·cases hs
end Go.Proofs.Ytmljmabbopkpiaa.Vm
end
end
section
namespace Go.Proofs.Ytmljmabbopkpiaa.Vm
open Go.RowKit
def oldB (ρ : Nat → Nat) : List HB → List HB → List Nat → List (Nat × HB)
 | [], _, _ => []
 | b :: L0, L1, l => match L1, l with
  | c :: L1, j :: l => bif b.mine then (j, c.ren ρ) :: oldB ρ L0 L1 l else oldB ρ L0 L1 l
  | _, _ => []
def mrgL : List HB → List HB → List HB
 | [], L1 => L1
 | b :: L0, L1 => match L1 with
  | c :: L1 => (bif b.mine then c else b) :: mrgL L0 L1
  | [] => []
def noRo2 : List HB → List HB → Bool
 | [], L1 => L1.all fun c => !c.isRo
 | b :: L0, L1 => match L1 with
  | c :: L1 => (!b.mine || (c.born && !c.isRo)) && noRo2 L0 L1
  | [] => true
theorem hp_cons (b : HB) (L : List HB) (i : Nat) : hp (b :: L) (i + 1) = hp L i := by unfold hp; simp
theorem hp_zero (b : HB) (L : List HB) : hp (b :: L) 0 = b := by unfold hp; simp
theorem noRo2_old : ∀ {L0 L1 : List HB}, noRo2 L0 L1 = true → L0.length ≤ L1.length → ∀ i, i < L0.length → (hp L0 i).mine = true → (hp L1 i).born = true ∧ (hp L1 i).isRo = false
 | [], _, _, _, i, hi, _ => by simp at hi
 | b :: L0, [], _, hl, _, _, _ => by simp at hl
 | b :: L0, c :: L1, h, hl, i, hi, hm => by
  simp only [noRo2, Bool.and_eq_true, Bool.or_eq_true, Bool.not_eq_true'] at h
  cases i with
  | zero =>
   rw [hp_zero] at hm
   rw [hp_zero]
   rcases h.1 with h1 | h1
   ·rw [hm] at h1; cases h1
   ·exact h1
  | succ i =>
   rw [hp_cons] at hm
   rw [hp_cons]
   exact noRo2_old h.2 (by simpa using hl) i (by simpa using hi) hm
theorem noRo2_new : ∀ {L0 L1 : List HB}, noRo2 L0 L1 = true → L0.length ≤ L1.length → ∀ i, L0.length ≤ i → (hp L1 i).isRo = false
 | [], L1, h, _, i, _ => by
  simp only [noRo2, List.all_eq_true] at h
  unfold hp
  rw [List.getD_eq_getElem?_getD]
  cases hh : L1[i]? with
  | none => rfl
  | some x => simpa using h x (List.mem_of_getElem? hh)
 | b :: L0, [], _, hl, _, _ => by simp at hl
 | b :: L0, c :: L1, h, hl, i, hi => by
  simp only [noRo2, Bool.and_eq_true] at h
  cases i with
  | zero => simp at hi
  | succ i =>
   rw [hp_cons]
   exact noRo2_new h.2 (by simpa using hl) i (by simpa using hi)
theorem mrgL_get : ∀ {L0 L1 : List HB}, L0.length ≤ L1.length → ∀ i, hp (mrgL L0 L1) i = if i < L0.length then (bif (hp L0 i).mine then hp L1 i else hp L0 i) else hp L1 i
 | [], L1, _, i => by simp [mrgL]
 | b :: L0, [], hl, _ => by simp at hl
 | b :: L0, c :: L1, hl, i => by
  cases i with
  | zero => simp [mrgL, hp_zero]
  | succ i =>
   simp only [mrgL, hp_cons]
   rw [mrgL_get (by simpa using hl) i]
   simp
theorem wrs_oldB_ne {ρ : Nat → Nat} : ∀ {L0 L1 : List HB} {l : List Nat} {h : HM} {j : Nat}, (∀ i, i < L0.length → (hp L0 i).mine = true → l.getD i 0 ≠ j) → wrs h (oldB ρ L0 L1 l) j = h j
 | [], _, _, h, j, _ => rfl
 | b :: L0, [], l, h, j, _ => rfl
 | b :: L0, c :: L1, [], h, j, _ => rfl
 | b :: L0, c :: L1, k :: l, h, j, hn => by
  have ih := fun h' => wrs_oldB_ne (ρ := ρ) (L0 := L0) (L1 := L1) (l := l) (h := h') (j := j) (fun i hi hm => by
   have := hn (i + 1) (by simpa using hi) (by rw [hp_cons]; exact hm)
   simpa using this)
  cases hb : b.mine with
  | false => simp only [oldB, hb, cond_false]; exact ih h
  | true =>
   simp only [oldB, hb, cond_true]
   show wrs (upd h k (c.ren ρ)) (oldB ρ L0 L1 l) j = h j
   rw [ih, z3_ (fun e => hn 0 (by simp) (by rw [hp_zero]; exact hb) (by simpa using e.symm))]
theorem wrs_oldB {ρ : Nat → Nat} : ∀ {L0 L1 : List HB} {l : List Nat} {h : HM}, L0.length ≤ L1.length → l.length = L0.length → (∀ i j, i < j → j < L0.length → (hp L0 i).mine = true → (hp L0 j).mine = true → l.getD i 0 ≠ l.getD j 0) → ∀ i, i < L0.length → (hp L0 i).mine = true → wrs h (oldB ρ L0 L1 l) (l.getD i 0) = (hp L1 i).ren ρ
 | [], _, _, h, _, _, _, i, hi, _ => by simp at hi
 | b :: L0, [], l, h, hl, _, _, _, _, _ => by simp at hl
 | b :: L0, c :: L1, [], h, _, hl, _, _, _, _ => by simp at hl
 | b :: L0, c :: L1, k :: l, h, hle, hln, hn, i, hi, hm => by
  cases i with
  | zero =>
   rw [hp_zero] at hm
   simp only [oldB, hm, cond_true, List.getD_cons_zero]
   show wrs (upd h k (c.ren ρ)) (oldB ρ L0 L1 l) k = _
   rw [wrs_oldB_ne (fun i hi hm' e => hn 0 (i + 1) (by omega) (by simpa using hi) (by rw [hp_zero]; exact hm) (by rw [hp_cons]; exact hm') (by simpa using e.symm)), zr_, hp_zero]
  | succ i =>
   rw [hp_cons] at hm
   have ih := fun h' => wrs_oldB (ρ := ρ) (L0 := L0) (L1 := L1) (l := l) (h := h') (by simpa using hle) (by simpa using hln) (fun a b hab hb ha hb' => by
    have := hn (a + 1) (b + 1) (by omega) (by simpa using hb) (by rw [hp_cons]; exact ha) (by rw [hp_cons]; exact hb')
    simpa using this) i (by simpa using hi) hm
   rw [List.getD_cons_succ, hp_cons]
   cases hb : b.mine with
   | false => simp only [oldB, hb, cond_false]; exact ih h
   | true =>
    simp only [oldB, hb, cond_true]
    exact ih (upd h k (c.ren ρ))
theorem wrs_app : ∀ (l : List (Nat × HB)) {m : List (Nat × HB)} {h : HM}, wrs h (l ++ m) = wrs (wrs h l) m
 | [], _, _ => rfl
 | p :: l, m, h => wrs_app l
theorem laid_rw {L0 L1 : List HB} {h : HM} {l : List Nat} {m : Nat} {v : SV} (hlen : l.length = L0.length) (hpos : 0 < L0.length) (h00 : l.getD 0 0 = 0) (hz : hp L0 0 = .gone) (hfit : FitL (rhoL l m) h L0 l) (hinj : ∀ i j, i < L0.length → j < L0.length → i ≠ j → (hp L0 i).mine = true → (hp L0 j).mine = true ∨ (hp L0 j).isRo = true → l.getD i 0 ≠ l.getD j 0)
  (hm : ∀ i, m ≤ i → i < m + (L1.length - L0.length) → h i = .dead) (hle : L0.length ≤ L1.length) (hno : noRo2 L0 L1 = true)
  (hst0 : y1_ (hp L0) L0) (hstb : ∀ j, (h j).stable h) (hst1 : y1_ (hp (mrgL L0 L1)) (mrgL L0 L1)) (hv : zc_ (hp (mrgL L0 L1)) v) :
  Laid L0 L1 h (wrs h (oldB (rhoL l m) L0 L1 l ++ newB (rhoL l m) m (L1.drop L0.length))) (rhoL l m) m v := by
 rw [wrs_app]
 obtain ⟨k, hk⟩ : ∃ k, k = L1.length - L0.length := ⟨_, rfl⟩
 have hdl : (L1.drop L0.length).length = k := by rw [List.length_drop, hk]
 have hrl : ∀ i, i < L0.length → rhoL l m i = l.getD i 0 := fun i hi => if_pos (by omega)
 have hrn : ∀ i, L0.length ≤ i → rhoL l m i = m + (i - L0.length) := fun i hi => by
  unfold rhoL; rw [if_neg (by omega), hlen]
 have hget : ∀ j, m ≤ j → (L1.drop L0.length).getD (j - m) .dead = hp L1 (L0.length + (j - m)) := fun j hj => by
  unfold hp
  rw [List.getD_eq_getElem?_getD, List.getD_eq_getElem?_getD, List.getElem?_drop]
 have hmr := mrgL_get hle
 generalize hh1 : wrs h (oldB (rhoL l m) L0 L1 l) = h1
 have hnewj : ∀ j, m ≤ j → j < m + k → wrs h1 (newB (rhoL l m) m (L1.drop L0.length)) j = (hp L1 (L0.length + (j - m))).ren (rhoL l m) := fun j h1 h3 => by
  rw [wrs_newB, if_pos ⟨h1, by omega⟩, hget j h1]
 have holdj : ∀ j, ¬ (m ≤ j ∧ j < m + k) → wrs h1 (newB (rhoL l m) m (L1.drop L0.length)) j = h1 j := fun j hj => by
  rw [wrs_newB, if_neg (by rw [hdl]; exact hj)]
 have bornold : ∀ j, (h j).born = true → ¬ (m ≤ j ∧ j < m + k) := fun j hj hc => by
  rw [hm j hc.1 (by omega)] at hj; cases hj
 have hfit' : ∀ i, i < L0.length → Fit (rhoL l m) (hp L0 i) (h (rhoL l m i)) := fun i hi => by rw [hrl i hi]; exact fitL_get hfit i hi
 have hborn : ∀ i, i < L0.length → (h (l.getD i 0)).born = true := fun i hi => by rw [← hrl i hi]; exact (hfit' i hi).born
 have him : ∀ i, i < L0.length → (hp L0 i).mine = true → h1 (l.getD i 0) = (hp L1 i).ren (rhoL l m) := fun i hi hmi => by
  rw [← hh1]
  exact wrs_oldB hle hlen (fun a b hab hb ha hb' => hinj a b (by omega) hb (by omega) ha (.inl hb')) i hi hmi
 have hne : ∀ j, (∀ i, i < L0.length → (hp L0 i).mine = true → l.getD i 0 ≠ j) → h1 j = h j := fun j hj => by
  rw [← hh1]
  exact wrs_oldB_ne hj
 have born_ren : ∀ {b : HB}, b.born = true → (b.ren (rhoL l m)).born = true := fun {b} hb => by
  cases b <;> first | rfl | (cases hb; done)
 have more1 : ∀ j, (h j).born = true → (h1 j).born = true := fun j hj => by
  by_cases hc : ∃ i, i < L0.length ∧ (hp L0 i).mine = true ∧ l.getD i 0 = j
  ·obtain ⟨i, hi, hmi, rfl⟩ := hc
   rw [him i hi hmi]
   exact born_ren (noRo2_old hno hle i hi hmi).1
  ·rw [hne j (fun i hi hmi e => hc ⟨i, hi, hmi, e⟩)]; exact hj
 have more : ∀ i, (h i).born = true → (wrs h1 (newB (rhoL l m) m (L1.drop L0.length)) i).born = true := fun i hi => by rw [holdj i (bornold i hi)]; exact more1 i hi
 have moreG : ∀ i, (hp (mrgL L0 L1) i).born = true → (wrs h1 (newB (rhoL l m) m (L1.drop L0.length)) (rhoL l m i)).born = true := fun i hi => by
  rw [hmr i] at hi
  split at hi
  ·rename_i hlt
   exact more _ (hfit' i hlt).born
  ·rename_i hge
   have hlt : i < L1.length := by
    rcases Nat.lt_or_ge i L1.length with h' | h'
    ·exact h'
    ·rw [yw_ h'] at hi; cases hi
   rw [hrn i (by omega), hnewj _ (by omega) (by omega), show L0.length + (m + (i - L0.length) - m) = i by omega]
   exact born_ren hi
 have stG := y7_ hst1
 have ren_st : ∀ {b : HB}, b.stable (hp (mrgL L0 L1)) → (b.ren (rhoL l m)).stable (wrs h1 (newB (rhoL l m) m (L1.drop L0.length))) := fun {b} hs => by
  cases b with
  | own t u ex => exact zc_.ren moreG hs
  | ro u => exact zc_.ren moreG hs
  | raw o => trivial
  | gone => trivial
  | dead => trivial
 refine { z := by rw [hrl 0 hpos, h00], z0 := hz, new := fun i hi => hrn i hi, pre := hfit', inj := fun i j hi hj hne hmi hmj => by rw [hrl i hi, hrl j hj]; exact hinj i j hi hj hne hmi hmj, img := fun i hi hmi => ?_, old := fun j hj hno => ?_, fresh := fun j hj => ?_, un := fun i hi hb => ?_, st0 := y7_ hst0, st2 := fun j => ?_, stv := hv.ren moreG }
 ·rw [hrl i hi, holdj _ (bornold _ (hborn i hi)), him i hi hmi]
  exact ⟨rfl, (noRo2_old hno hle i hi hmi).2⟩
 ·rw [holdj j (bornold j hj)]
  exact hne j fun i hi hmi => by rw [← hrl i hi]; exact hno i hi hmi
 ·by_cases hc : m ≤ j ∧ j < m + k
  ·exact .inr ⟨hc.1, hnewj j hc.1 hc.2, noRo2_new hno hle _ (by omega)⟩
  ·left
   rw [holdj j hc, hne j (fun i hi hmi e => by rw [← e, hborn i hi] at hj; cases hj)]
   cases hh : h j <;> rw [hh] at hj <;> first | rfl | (cases hj; done)
 ·have hlt : i < L1.length := by
   rcases Nat.lt_or_ge i L1.length with h' | h'
   ·exact h'
   ·rw [yw_ h'] at hb; cases hb
  rw [hrn i hi, hm _ (by omega) (by omega)]
  rfl
 ·by_cases hc : m ≤ j ∧ j < m + k
  ·rw [hnewj j hc.1 hc.2]
   have hs := stG (L0.length + (j - m))
   rw [hmr, if_neg (by omega)] at hs
   exact ren_st hs
  ·rw [holdj j hc]
   by_cases hc2 : ∃ i, i < L0.length ∧ (hp L0 i).mine = true ∧ l.getD i 0 = j
   ·obtain ⟨i, hi, hmi, rfl⟩ := hc2
    rw [him i hi hmi]
    have hs := stG i
    rw [hmr, if_pos hi, hmi] at hs
    exact ren_st hs
   ·rw [hne j (fun i hi hmi e => hc2 ⟨i, hi, hmi, e⟩)]
    exact HB.stable_more (hstb j) more
theorem callRW {P : Program} {f : FuncId} {args : List SV} {L0 L1 : List HB} {v : SV} {w0 w : World} {M : Nat → Prop} {β : Env} {h h' : HM} {m : Nat} (l : List Nat) (H : zo_ P f args L0 v L1) (R : Rep w0 M β h' w) (hlen : l.length = L0.length) (hpos : 0 < L0.length) (h00 : l.getD 0 0 = 0) (hz : hp L0 0 = .gone) (hfit : FitL (rhoL l m) h' L0 l)
  (hinj : ∀ i j, i < L0.length → j < L0.length → i ≠ j → (hp L0 i).mine = true → (hp L0 j).mine = true ∨ (hp L0 j).isRo = true → l.getD i 0 ≠ l.getD j 0)
  (hm : ∀ i, m ≤ i → h i = .dead) (hwr : ∀ p ∈ newB (rhoL l m) m (L1.drop L0.length), h' p.1 = h p.1) (hle : L0.length ≤ L1.length) (hno : noRo2 L0 L1 = true)
  (hst0 : y1_ (hp L0) L0) (hsta : ze_ (hp L0) args) (hst1 : y1_ (hp (mrgL L0 L1)) (mrgL L0 L1)) (hv : zc_ (hp (mrgL L0 L1)) v) :
  Calls P f (denL β (renL (rhoL l m) args)).toArray w fun e w' => ∃ β', (∀ i, (h' i).born = true → β i = β' i) ∧ Rep w0 M β' (wrs h' (oldB (rhoL l m) L0 L1 l ++ newB (rhoL l m) m (L1.drop L0.length))) w' ∧ zc_ (wrs h' (oldB (rhoL l m) L0 L1 l ++ newB (rhoL l m) m (L1.drop L0.length))) (v.ren (rhoL l m)) ∧ e = .returned ((v.ren (rhoL l m)).den β') :=
 call_lit H R (laid_rw hlen hpos h00 hz hfit hinj (fun i hi hlt => by
  obtain ⟨b, hb⟩ := newB_mem (ρ := rhoL l m) (l := L1.drop L0.length) hi (by rw [List.length_drop]; exact hlt)
  exact (hwr _ hb).trans (hm i hi)) hle hno hst0 R.st hst1 hv) hsta
end Go.Proofs.Ytmljmabbopkpiaa.Vm
end
