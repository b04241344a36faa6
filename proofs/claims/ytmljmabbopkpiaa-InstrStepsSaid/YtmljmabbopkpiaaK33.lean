import Derived.Test.YtmljmabbopkpiaaK1
import Derived.Test.YtmljmabbopkpiaaK9
import Derived.Test.YtmljmabbopkpiaaK22
import Derived.Test.YtmljmabbopkpiaaK23
set_option linter.unusedSimpArgs false
set_option linter.unusedVariables false
set_option maxRecDepth 100000
set_option maxHeartbeats 4000000
section
namespace Go.Proofs.Ytmljmabbopkpiaa.Vm
open Go.RowKit
theorem strDen {β : Env} {s : ByteArray} : (SV.str s).den β = .string s := rfl
def cntB (s : ByteArray) (c : Int) : Nat → Nat
 | 0 => 0
 | j + 1 => cntB s c j + if bat s j = c then 1 else 0
theorem cntB_le (s : ByteArray) (c : Int) : ∀ j, cntB s c j ≤ j
 | 0 => Nat.le_refl 0
 | j + 1 => by
  have := cntB_le s c j
  unfold cntB
  split <;> omega
theorem cnt_lit (s : ByteArray) (c : Int) (hs : s.size ≤ 1000000) : zo_ Try.prog 173 [.str s, .int .u8 c] [.gone] (.nat .i64 (cntB s c s.size)) [.gone] := by
 refine zf_ (fn := Try.f173) 1 21 0 rfl rfl rfl rfl rfl u9_ rfl fun w0 M E hro => ?_
 repeat' (first | refine Ctl.h ?_ | ((with_reducible intro hif); first | (focus (cases hif; done)) | ((try simp only [JH] at hif); try (exfalso; omega))) | ((with_reducible first | apply J22 zv_ za_ | apply J23 fol zv_ za_ | apply J24); (·rfl); (· exact k16_); (try kernel_rfl); try exact xd_) | fail)
 refine WF.loopAt (fun (j : Nat) => j ≤ s.size) (fun (j : Nat) => [(0, .str s), (1, .int .u8 c), (5, .nat .i64 (cntB s c j)), (6, .nat .i64 j)]) (fun (j : Nat) => [.gone]) (fun (j : Nat) => s.size - j) 0 (Nat.zero_le _) ?_ ?_ rfl ?_ ?_ rfl ?_
 ·exact k8_
 ·exact k5_
 ·exact k6_
 ·exact k6_
 intro j hj
 have hcj := cntB_le s c j
 by_cases hjl : j < s.size
 ·by_cases hc : bat s j = c
  ·have e : cntB s c (j + 1) = cntB s c j + 1 := by rw [cntB, if_pos hc]
   repeat' (first | refine Ctl.h ?_ | ((with_reducible intro hif); first | (focus (cases hif; done)) | ((try simp only [JH] at hif); try (exfalso; omega))) | ((with_reducible first | apply J22 zv_ za_ | apply J23 fol zv_ za_ | apply J24); (·rfl); (· exact k91_); (try kernel_rfl); try exact k26_) | fail)
   refine At.next (j + 1) ?_ ?_ ?_ rfl ?_ ?_ rfl
   ·exact ⟨hjl, by omega⟩
   ·((repeat' (first | exact trivial | apply And.intro)) <;> (first | rfl | (rw [e]; rfl)))
   ·exact k5_
   ·exact k6_
   ·exact k6_
  ·have e : cntB s c (j + 1) = cntB s c j := by rw [cntB, if_neg hc]; rfl
   repeat' (first | refine Ctl.h ?_ | ((with_reducible intro hif); first | (focus (cases hif; done)) | ((try simp only [JH] at hif); try (exfalso; omega))) | ((with_reducible first | apply J22 zv_ za_ | apply J23 fol zv_ za_ | apply J24); (·rfl); (· exact k91_); (try kernel_rfl); try exact k26_) | fail)
   refine At.next (j + 1) ?_ ?_ ?_ rfl ?_ ?_ rfl
   ·exact ⟨hjl, by omega⟩
   ·((repeat' (first | exact trivial | apply And.intro)) <;> (first | rfl | (rw [e]; rfl)))
   ·exact k5_
   ·exact k6_
   ·exact k6_
 ·obtain rfl : j = s.size := by omega
  repeat' (first | refine Ctl.h ?_ | ((with_reducible intro hif); first | (focus (cases hif; done)) | ((try simp only [JH] at hif); try (exfalso; omega))) | ((with_reducible first | apply J22 zv_ za_ | apply J23 fol zv_ za_ | apply J24); (·rfl); (· exact k19_); (try kernel_rfl); try exact xd_) | fail)
  apply At.endsRet za_ (fn := Try.f173) (rs := [.tmp 4]) Anc.refl hro (lb_ rfl) rfl
  ·exact k3_
  ·exact k4_
  ·exact k5_
  ·rfl
  ·exact k6_
  ·exact k7_
  ·exact fun β => rfl
  ·exact k6_
def sRCnt : yp_ := fun args h m => match args with
 | [.str v1, v2] => bif isI .u8 v2 then some ((v1.size ≤ 1000000), .nat .i64 (cntB v1 (iOf v2) v1.size), [], []) else none
 | _ => none
theorem sRCnt_ok : zj_ Try.prog 173 sRCnt := by
 refine ⟨zg_ (by kernel_rfl), fun args h m c v rd wr hs hm hc w0 M β h' w R hrd hwr hst => ?_⟩
 unfold sRCnt at hs
 split at hs
 ·rename_i v1 v2
  obtain ⟨hb, hs⟩ := zk_ hs
  simp only [Option.some.injEq, Prod.mk.injEq] at hs
  obtain ⟨rfl, rfl, rfl, rfl⟩ := hs
  have b2 := hb
  have y1 := hc
  refine yj_ (views := []) (cnt_lit v1 (iOf v2) y1) ?_ R hm hwr ?_ ?_ ?_
  ·intro x hx; cases hx
  ·intro β1 hv
   simp only [denL, z8_, z6_, z9_, zs_, zc_, strDen, zd_ b2]
  ·exact k6_
  ·exact k6_
 ·cases hs
theorem formC_cases (op : Int) : (32 < op ∧ op ≤ 49 ∧ formC op = 1) ∨ ((op = 1 ∨ op = 2) ∧ formC op = 2) ∨ (op = 3 ∧ formC op = 3) ∨ (4 ≤ op ∧ op ≤ 7 ∧ formC op = 4) ∨ (op = 8 ∧ formC op = 5) ∨ (op = 9 ∧ formC op = 6) ∨ ((op = 10 ∨ op = 11) ∧ formC op = 7) ∨ (¬ (32 < op ∧ op ≤ 49) ∧ ¬ (1 ≤ op ∧ op ≤ 11) ∧ formC op = 0) := by
 unfold formC
 repeat' split
 all_goals omega
theorem rform_lit (op : Int) (h0 : 0 ≤ op ∧ op ≤ 255) : zo_ Try.prog 172 [.int .u8 op] [.gone] (.tup [.str (yv_ (formC op)), .bool (decide (formC op ≠ 0))]) [.gone] := by
 rcases formC_cases op with ⟨h1, h2, hk⟩ | ⟨h1, hk⟩ | ⟨h1, hk⟩ | ⟨h1, h2, hk⟩ | ⟨h1, hk⟩ | ⟨h1, hk⟩ | ⟨h1, hk⟩ | ⟨h1, h2, hk⟩
 all_goals
  rw [hk]
  refine zf_ (fn := Try.f172) 1 28 0 rfl rfl rfl rfl rfl u9_ rfl fun w0 M E hro => ?_
  repeat' (first | refine Ctl.h ?_ | ((with_reducible intro hif); first | (focus (cases hif; done)) | ((try simp only [JH] at hif); try (exfalso; omega))) | ((with_reducible first | apply J22 zv_ za_ | apply J23 fol zv_ za_ | apply J24); (·rfl); (· exact k16_); (try kernel_rfl); try exact xd_) | fail)
 all_goals
  apply At.endsRet za_ (fn := Try.f172) (rs := [.tmp 2, .tmp 3]) Anc.refl hro (lb_ rfl) rfl
  ·exact k3_
  ·exact k4_
  ·exact k5_
  ·rfl
  ·exact k6_
  ·exact k7_
  ·(intro β; first | rfl | (exfalso; simp only [Bool.and_eq_false_iff, decide_eq_false_iff_not] at hif; omega))
  ·exact k6_
def sRForm : yp_ := fun args h m => match args with
 | [v1] => bif isI .u8 v1 then some ((0 ≤ (iOf v1) ∧ (iOf v1) ≤ 255), .tup [.str (yv_ (formC (iOf v1))), .bool (decide (formC (iOf v1) ≠ 0))], [], []) else none
 | _ => none
theorem sRForm_ok : zj_ Try.prog 172 sRForm := by
 refine ⟨zg_ (by kernel_rfl), fun args h m c v rd wr hs hm hc w0 M β h' w R hrd hwr hst => ?_⟩
 unfold sRForm at hs
 split at hs
 ·rename_i v1
  obtain ⟨hb, hs⟩ := zk_ hs
  simp only [Option.some.injEq, Prod.mk.injEq] at hs
  obtain ⟨rfl, rfl, rfl, rfl⟩ := hs
  have b1 := hb
  have y1 := hc
  refine yj_ (views := []) (rform_lit (iOf v1) y1) ?_ R hm hwr ?_ ?_ ?_
  ·intro x hx; cases hx
  ·intro β1 hv
   simp only [denL, z8_, z6_, z9_, zs_, zc_, zd_ b1]
  ·exact k6_
  ·exact k6_
 ·cases hs
end Go.Proofs.Ytmljmabbopkpiaa.Vm
end
section
open Go.Proofs.Ytmljmabbopkpiaa.Vm Go.RowKit
attribute [local push_cast] prS sndsS i64S nav_ins xa_ y9_ y8_ y7_ y6_ nav_snd y5_ y4_ y3_ zq_ z1_ ya_ z5_ zx_ zw_ iOf
section
namespace Go.Proofs.Ytmljmabbopkpiaa.Vm
open Go.RowKit
theorem cf1r : cntB (yv_ 1) 114 (yv_ 1).size = 3 := by decide
theorem cf1n : cntB (yv_ 1) 110 (yv_ 1).size = 0 := by decide
theorem cf1p : cntB (yv_ 1) 112 (yv_ 1).size = 0 := by decide
theorem cf1t : cntB (yv_ 1) 116 (yv_ 1).size = 0 := by decide
theorem cf2r : cntB (yv_ 2) 114 (yv_ 2).size = 0 := by decide
theorem cf2n : cntB (yv_ 2) 110 (yv_ 2).size = 0 := by decide
theorem cf2p : cntB (yv_ 2) 112 (yv_ 2).size = 0 := by decide
theorem cf2t : cntB (yv_ 2) 116 (yv_ 2).size = 0 := by decide
theorem cf3r : cntB (yv_ 3) 114 (yv_ 3).size = 1 := by decide
theorem cf3n : cntB (yv_ 3) 110 (yv_ 3).size = 1 := by decide
theorem cf4r : cntB (yv_ 4) 114 (yv_ 4).size = 2 := by decide
theorem cf4n : cntB (yv_ 4) 110 (yv_ 4).size = 0 := by decide
theorem cf4p : cntB (yv_ 4) 112 (yv_ 4).size = 0 := by decide
theorem cf4t : cntB (yv_ 4) 116 (yv_ 4).size = 0 := by decide
theorem cf5r : cntB (yv_ 5) 114 (yv_ 5).size = 2 := by decide
theorem cf5n : cntB (yv_ 5) 110 (yv_ 5).size = 0 := by decide
theorem cf5p : cntB (yv_ 5) 112 (yv_ 5).size = 1 := by decide
theorem cf5t : cntB (yv_ 5) 116 (yv_ 5).size = 0 := by decide
theorem cf6r : cntB (yv_ 6) 114 (yv_ 6).size = 0 := by decide
theorem cf6n : cntB (yv_ 6) 110 (yv_ 6).size = 0 := by decide
theorem cf6p : cntB (yv_ 6) 112 (yv_ 6).size = 0 := by decide
theorem cf6t : cntB (yv_ 6) 116 (yv_ 6).size = 1 := by decide
theorem cf7r : cntB (yv_ 7) 114 (yv_ 7).size = 1 := by decide
theorem cf7n : cntB (yv_ 7) 110 (yv_ 7).size = 0 := by decide
theorem cf7p : cntB (yv_ 7) 112 (yv_ 7).size = 0 := by decide
theorem cf7t : cntB (yv_ 7) 116 (yv_ 7).size = 1 := by decide
theorem formS_size (k : Nat) : (yv_ k).size ≤ 1000000 := by
 unfold yv_; split <;> decide
def cROne : FuncId → Option yp_ := yx_ [(172, sRForm), (173, sRCnt)]
theorem cROne_ok : ∀ f S, cROne f = some S → zj_ Try.prog f S := zn_ ⟨sRForm_ok, sRCnt_ok, trivial⟩
theorem rone_lit (i : Ins) (hi : i.ok) : zo_ Try.prog 144 [ym_ i] [.gone] (.int .i64 (oneE i)) [.gone] := by
 obtain ⟨op, a, b, c, n⟩ := i
 have o0 := hi.op0
 have o1 := hi.op1
 have a0 := hi.a0
 have a1 := hi.a1
 have b0 := hi.b0
 have b1 := hi.b1
 have c0 := hi.c0
 have c1 := hi.c1
 have hfs := formS_size
 dsimp only at o0 o1 a0 a1 b0 b1 c0 c1
 show zo_ Try.prog 144 [.agg [.int .u8 op, .int .u8 a, .int .u8 b, .int .u8 c, .int .i64 n]] [.gone] (.int .i64 (if formC op = 0 then 140 else oneK (formC op) a b c n)) [.gone]
 rcases formC_cases op with ⟨h1, h2, hk⟩ | ⟨h1, hk⟩ | ⟨h1, hk⟩ | ⟨h1, h2, hk⟩ | ⟨h1, hk⟩ | ⟨h1, hk⟩ | ⟨h1, hk⟩ | ⟨h1, h2, hk⟩
 all_goals
  rw [hk]
  refine zf_ (fn := Try.f144) 1 75 0 rfl rfl rfl rfl rfl u9_ rfl fun w0 M E hro => ?_
  repeat' (first | refine Ctl.h ?_ | ((with_reducible intro hif); first | (focus (cases hif; done)) | ((try simp only [JH] at hif); try (exfalso; omega))) | ((with_reducible first | apply J22 cROne_ok za_ | apply J23 fol cROne_ok za_ | apply J24); (·rfl); (· (simp only [push_cast, ↓JP, Nat.reduceAdd, Nat.reduceEqDiff, Nat.reduceLT, Nat.reduceMul, Nat.reduceLeDiff, reduceCtorEq, reduceIte, ↓JK, cROne, sRForm, sRCnt, hk, cf1r, cf1n, cf1p, cf1t, cf2r, cf2n, cf2p, cf2t, cf3r, cf3n, cf4r, cf4n, cf4p, cf4t, cf5r, cf5n, cf5p, cf5t, cf6r, cf6n, cf6p, cf6t, cf7r, cf7n, cf7p, cf7t, zx_, zw_, iOf]; rfl)); (try kernel_rfl); (try (focus (first | exact True.intro | ((try simp only [JS, implies_true, forall_const, yd_, yc_, kndOf]); (first | first | omega | exact hfs _ | (repeat' (first | assumption | exact True.intro | omega | apply And.intro))); done))))) | fail)
 all_goals
  apply At.endsRet za_ (fn := Try.f144) (rs := [.tmp 2]) Anc.refl hro (lb_ rfl) rfl
  ·exact yo_
  ·exact k4_
  ·exact k5_
  ·rfl
  ·exact k6_
  ·exact k7_
  ·(intro β; first | rfl | (refine congrArg (fun x => Value.int .i64 x) (Eq.symm ?_); first | exact oneK_pos (by simp only [xe_]; simp at *; omega) | exact ys_ (by simp only [xe_]; simp at *; omega)))
  ·exact k6_
def sROne : yp_ := fun args h m => match args with
 | [v1] => bif isIns v1 then some (((zr_ v1).ok), .int .i64 (oneE (zr_ v1)), [], []) else none
 | _ => none
theorem sROne_ok : zj_ Try.prog 144 sROne := by
 refine ⟨zg_ (by kernel_rfl), fun args h m c v rd wr hs hm hc w0 M β h' w R hrd hwr hst => ?_⟩
 unfold sROne at hs
 split at hs
 ·rename_i v1
  obtain ⟨hb, hs⟩ := zk_ hs
  simp only [Option.some.injEq, Prod.mk.injEq] at hs
  obtain ⟨rfl, rfl, rfl, rfl⟩ := hs
  have b1 := hb
  have y1 := hc
  refine yj_ (views := []) (rone_lit (zr_ v1) y1) ?_ R hm hwr ?_ ?_ ?_
  ·intro x hx; cases hx
  ·intro β1 hv
   simp only [denL, z8_, z6_, z9_, zs_, zc_, den_insOf b1, den_insS]
  ·exact k6_
  ·exact k6_
 ·cases hs
theorem evm_in1 (i : Ins) (a : Bool → SV → Option (Prop × SV)) (b : SV → Option (Prop × SV)) (c : Unit → Option (Prop × SV)) : ev.match_1 (fun _ => Option (Prop × SV)) (some (ym_ i)) a b c = b (ym_ i) := rfl
def cRG : FuncId → Option yp_ := yx_ [(144, sROne)]
theorem cRG_ok : ∀ f S, cRG f = some S → zj_ Try.prog f S := zn_ ⟨sROne_ok, trivial⟩
theorem rgoes_lit (i : Ins) (hi : i.ok) : zo_ Try.prog 146 [ym_ i] [.gone] (.bool (goesB i)) [.gone] := by
 by_cases he : oneE i = 0 <;> by_cases h1 : i.op = 1 <;> by_cases h2 : i.op = 2 <;> by_cases h9 : i.op = 9
 all_goals
  refine zf_ (fn := Try.f146) 1 21 0 rfl rfl rfl rfl rfl u9_ rfl fun w0 M E hro => ?_
  repeat' (first | refine Ctl.h ?_ | ((with_reducible intro hif); first | (focus (cases hif; done)) | ((try simp only [JH] at hif); try (exfalso; omega))) | ((with_reducible first | apply J22 cRG_ok za_ | apply J23 fol cRG_ok za_ | apply J24); (·rfl); (· (simp only [push_cast, ↓JP, Nat.reduceAdd, Nat.reduceEqDiff, Nat.reduceLT, Nat.reduceMul, Nat.reduceLeDiff, reduceCtorEq, reduceIte, ↓JK, evm_in1, cRG, sROne, he, h1, h2, h9]; rfl)); (try kernel_rfl); (try (focus (first | exact True.intro | ((try simp only [JS, implies_true, forall_const, yd_, yc_, kndOf]); (first | assumption | (repeat' (first | assumption | exact True.intro | omega | apply And.intro))); done))))) | fail)
 all_goals
  apply At.endsRet za_ (fn := Try.f146) (rs := [.tmp 2]) Anc.refl hro (lb_ rfl) rfl
  ·exact yo_
  ·exact k4_
  ·exact k5_
  ·rfl
  ·exact k6_
  ·exact k7_
  ·(intro β; simp [resS, SV.den, goesB, he, h1, h2, h9])
  ·exact k6_
def sRGoes : yp_ := fun args h m => match args with
 | [v1] => bif isIns v1 then some (((zr_ v1).ok), .bool (goesB (zr_ v1)), [], []) else none
 | _ => none
theorem sRGoes_ok : zj_ Try.prog 146 sRGoes := by
 refine ⟨zg_ (by kernel_rfl), fun args h m c v rd wr hs hm hc w0 M β h' w R hrd hwr hst => ?_⟩
 unfold sRGoes at hs
 split at hs
 ·rename_i v1
  obtain ⟨hb, hs⟩ := zk_ hs
  simp only [Option.some.injEq, Prod.mk.injEq] at hs
  obtain ⟨rfl, rfl, rfl, rfl⟩ := hs
  have b1 := hb
  have y1 := hc
  refine yj_ (views := []) (rgoes_lit (zr_ v1) y1) ?_ R hm hwr ?_ ?_ ?_
  ·intro x hx; cases hx
  ·intro β1 hv
   simp only [denL, z8_, z6_, z9_, zs_, zc_, den_insOf b1, den_insS]
  ·exact k6_
  ·exact k6_
 ·cases hs
theorem targB_of {i : Ins} (he : oneE i = 0) : targB i = decide (9 ≤ i.op ∧ i.op ≤ 11) := by
 unfold targB
 rw [he, Bool.eq_iff_iff]
 simp
 omega
theorem targB_no {i : Ins} (he : oneE i ≠ 0) : targB i = false := by
 unfold targB
 simp [he]
theorem rtarg_lit (i : Ins) (hi : i.ok) : zo_ Try.prog 145 [ym_ i] [.gone] (.tup [.int .i64 (targV i), .bool (targB i)]) [.gone] := by
 by_cases he : oneE i = 0 <;> by_cases h1 : i.op < 9 <;> by_cases h2 : 11 < i.op
 all_goals
  refine zf_ (fn := Try.f145) 1 19 0 rfl rfl rfl rfl rfl u9_ rfl fun w0 M E hro => ?_
  repeat' (first | refine Ctl.h ?_ | ((with_reducible intro hif); first | (focus (cases hif; done)) | ((try simp only [JH] at hif); try (exfalso; omega))) | ((with_reducible first | apply J22 cRG_ok za_ | apply J23 fol cRG_ok za_ | apply J24); (·rfl); (· (simp only [push_cast, ↓JP, Nat.reduceAdd, Nat.reduceEqDiff, Nat.reduceLT, Nat.reduceMul, Nat.reduceLeDiff, reduceCtorEq, reduceIte, ↓JK, evm_in1, cRG, sROne, he, h1, h2, inR, inN]; rfl)); (try kernel_rfl); (try (focus (first | exact True.intro | ((try simp only [JS, implies_true, forall_const, yd_, yc_, kndOf, inR, inN]); (first | assumption | (repeat' (first | assumption | exact True.intro | omega | apply And.intro))); done))))) | fail)
 all_goals
  apply At.endsRet za_ (fn := Try.f145) (rs := [.tmp 2, .tmp 3]) Anc.refl hro (lb_ rfl) rfl
  ·exact yo_
  ·exact k4_
  ·exact k5_
  ·rfl
  ·exact k6_
  ·exact k7_
  ·(intro β; first | (have e : targB i = false := (by first | exact targB_no he | (rw [targB_of he]; exact decide_eq_false (by omega))); simp only [resS, SV.den, denL, targV, e]; rfl) | (have e : targB i = true := (by rw [targB_of he]; exact decide_eq_true (by omega)); simp only [resS, SV.den, denL, targV, e]; rfl))
  ·exact k6_
def sRTarg : yp_ := fun args h m => match args with
 | [v1] => bif isIns v1 then some (((zr_ v1).ok), .tup [.int .i64 (targV (zr_ v1)), .bool (targB (zr_ v1))], [], []) else none
 | _ => none
theorem sRTarg_ok : zj_ Try.prog 145 sRTarg := by
 refine ⟨zg_ (by kernel_rfl), fun args h m c v rd wr hs hm hc w0 M β h' w R hrd hwr hst => ?_⟩
 unfold sRTarg at hs
 split at hs
 ·rename_i v1
  obtain ⟨hb, hs⟩ := zk_ hs
  simp only [Option.some.injEq, Prod.mk.injEq] at hs
  obtain ⟨rfl, rfl, rfl, rfl⟩ := hs
  have b1 := hb
  have y1 := hc
  refine yj_ (views := []) (rtarg_lit (zr_ v1) y1) ?_ R hm hwr ?_ ?_ ?_
  ·intro x hx; cases hx
  ·intro β1 hv
   simp only [denL, z8_, z6_, z9_, zs_, zc_, den_insOf b1, den_insS]
  ·exact k6_
  ·exact k6_
 ·cases hs
def cRCk : FuncId → Option yp_ := yx_ [(144, sROne), (145, sRTarg), (146, sRGoes)]
theorem cRCk_ok : ∀ f S, cRCk f = some S → zj_ Try.prog f S := zn_ ⟨sROne_ok, sRTarg_ok, sRGoes_ok, trivial⟩
theorem rcheck_lit (P : List Ins) (p1 : Nat) (hok : ∀ x ∈ P, x.ok) : zo_ Try.prog 112 [.sl 1 2 [] 5 0 P.length (some p1)] [.gone, .gone, .ro (.arr P.length 5 (prS P))] (.tup [.int .i64 (checkI P).1, .int .i64 (checkI P).2]) [.gone] := by
 have hgo : ∀ j, j < P.length → ∃ x, P.getD j ⟨0, 0, 0, 0, 0⟩ = x ∧ P[j]? = some x ∧ x.ok := fun j hj => ⟨P[j], by rw [List.getD_eq_getElem?_getD, List.getElem?_eq_getElem hj]; rfl, List.getElem?_eq_getElem hj, hok _ (List.getElem_mem _)⟩
 by_cases h0 : P.length = 0
 ·obtain rfl := List.eq_nil_of_length_eq_zero h0
  have e : checkI [] = (-1, 6) := rfl
  rw [e]
  refine zf_ (fn := Try.f112) 3 55 0 rfl rfl rfl rfl rfl u9_ rfl fun w0 M E hro => ?_
  repeat' (first | refine Ctl.h ?_ | ((with_reducible intro hif); first | (focus (cases hif; done)) | ((try simp only [JH] at hif); try (exfalso; omega))) | ((with_reducible first | apply J22 cRCk_ok za_ | apply J23 fol cRCk_ok za_ | apply J24); (·rfl); (· exact k92_); (try kernel_rfl); try exact xd_) | fail)
  apply At.endsRet za_ (fn := Try.f112) (rs := [.tmp 2, .tmp 3]) Anc.refl hro (lb_ rfl) rfl
  ·exact yo_
  ·exact k4_
  ·exact k5_
  ·rfl
  ·exact k6_
  ·exact k7_
  ·exact fun β => rfl
  ·exact k6_
 by_cases h256 : 256 < P.length
 ·have e : checkI P = (-1, 5) := by unfold checkI; rw [if_neg h0, if_pos h256]
  rw [e]
  refine zf_ (fn := Try.f112) 3 55 0 rfl rfl rfl rfl rfl u9_ rfl fun w0 M E hro => ?_
  repeat' (first | refine Ctl.h ?_ | ((with_reducible intro hif); first | (focus (cases hif; done)) | ((try simp only [JH] at hif); try (exfalso; omega))) | ((with_reducible first | apply J22 cRCk_ok za_ | apply J23 fol cRCk_ok za_ | apply J24); (·rfl); (· exact k93_); (try kernel_rfl); try exact xd_) | fail)
  apply At.endsRet za_ (fn := Try.f112) (rs := [.tmp 2, .tmp 3]) Anc.refl hro (lb_ rfl) rfl
  ·exact yo_
  ·exact k4_
  ·exact k5_
  ·rfl
  ·exact k6_
  ·exact k7_
  ·exact fun β => rfl
  ·exact k6_
 have eC : checkI P = checkK P := by unfold checkI; rw [if_neg h0, if_neg h256]
 rw [eC]
 refine zf_ (fn := Try.f112) 3 55 0 rfl rfl rfl rfl rfl u9_ rfl fun w0 M E hro => ?_
 repeat' (first | refine Ctl.h ?_ | ((with_reducible intro hif); first | (focus (cases hif; done)) | ((try simp only [JH] at hif); try (exfalso; omega))) | ((with_reducible first | apply J22 cRCk_ok za_ | apply J23 fol cRCk_ok za_ | apply J24); (·rfl); (· exact k93_); (try kernel_rfl); try exact xd_) | fail)
 refine WF.loopAt (fun (k : Nat) => k ≤ P.length ∧ ∀ i, i < k → ∀ y, P[i]? = some y → badAt P.length y = 0) (fun (k : Nat) => [(0, .sl 1 2 [] 5 0 P.length (some p1)), (4, .nat .i64 k)]) (fun (k : Nat) => [.gone, .gone, .ro (.arr P.length 5 (prS P))]) (fun (k : Nat) => P.length - k) 0 ⟨Nat.zero_le _, fun i hi => absurd hi (Nat.not_lt_zero i)⟩ ?_ ?_ rfl ?_ ?_ rfl ?_
 ·exact k8_
 ·exact k5_
 ·exact k6_
 ·exact k6_
 rintro k ⟨hk, hB⟩
 by_cases hkl : k < P.length
 ·obtain ⟨x, hx, hx2, hxo⟩ := hgo k hkl
  by_cases he : oneE x = 0
  ·by_cases ht : targB x = true
   ·by_cases hv : (P.length : Int) ≤ targV x
    ·have eb : badAt P.length x = 142 := by unfold badAt; rw [if_neg (fun h => h he), if_pos ⟨ht, hv⟩]
     have e := checkK_bad hB hx2 eb (by decide)
     rw [e]
     repeat' (first | refine Ctl.h ?_ | ((with_reducible intro hif); first | (focus (cases hif; done)) | ((try simp only [JH] at hif); try (exfalso; omega))) | ((with_reducible first | apply J22 cRCk_ok za_ | apply J23 fol cRCk_ok za_ | apply J24); (·rfl); (· exact k95_); (try kernel_rfl); try exact k94_) | fail)
     apply At.endsRet za_ (fn := Try.f112) (rs := [.tmp 2, .tmp 3]) Anc.refl hro (lb_ rfl) rfl
     ·exact yo_
     ·exact k4_
     ·exact k5_
     ·rfl
     ·exact k6_
     ·exact k7_
     ·exact fun β => rfl
     ·exact k6_
    ·have eb : badAt P.length x = 0 := by unfold badAt; rw [if_neg (fun h => h he), if_neg (fun h => hv h.2)]
     repeat' (first | refine Ctl.h ?_ | ((with_reducible intro hif); first | (focus (cases hif; done)) | ((try simp only [JH] at hif); try (exfalso; omega))) | ((with_reducible first | apply J22 cRCk_ok za_ | apply J23 fol cRCk_ok za_ | apply J24); (·rfl); (· exact k95_); (try kernel_rfl); try exact k94_) | fail)
     refine At.next (k + 1) ?_ ?_ ?_ rfl ?_ ?_ rfl
     ·exact k90_
     ·exact k8_
     ·exact k5_
     ·exact k6_
     ·exact k6_
   ·have eb : badAt P.length x = 0 := by unfold badAt; rw [if_neg (fun h => h he), if_neg (fun h => ht h.1)]
    repeat' (first | refine Ctl.h ?_ | ((with_reducible intro hif); first | (focus (cases hif; done)) | ((try simp only [JH] at hif); try (exfalso; omega))) | ((with_reducible first | apply J22 cRCk_ok za_ | apply J23 fol cRCk_ok za_ | apply J24); (·rfl); (· (simp only [push_cast, ↓JP, Nat.reduceAdd, Nat.reduceEqDiff, Nat.reduceLT, Nat.reduceMul, Nat.reduceLeDiff, reduceCtorEq, reduceIte, ↓JK, evm_in1, cRCk, sROne, sRTarg, sRGoes, hkl, hx, he, ht, inR, inN]; rfl)); (try kernel_rfl); try exact k94_) | fail)
    refine At.next (k + 1) ?_ ?_ ?_ rfl ?_ ?_ rfl
    ·exact k90_
    ·exact k8_
    ·exact k5_
    ·exact k6_
    ·exact k6_
  ·have eb : badAt P.length x = oneE x := if_pos he
   have e := checkK_bad hB hx2 eb he
   rw [e]
   repeat' (first | refine Ctl.h ?_ | ((with_reducible intro hif); first | (focus (cases hif; done)) | ((try simp only [JH] at hif); try (exfalso; omega))) | ((with_reducible first | apply J22 cRCk_ok za_ | apply J23 fol cRCk_ok za_ | apply J24); (·rfl); (· (simp only [push_cast, ↓JP, Nat.reduceAdd, Nat.reduceEqDiff, Nat.reduceLT, Nat.reduceMul, Nat.reduceLeDiff, reduceCtorEq, reduceIte, ↓JK, evm_in1, cRCk, sROne, sRTarg, sRGoes, hkl, hx, he, inR, inN]; rfl)); (try kernel_rfl); try exact k94_) | fail)
   apply At.endsRet za_ (fn := Try.f112) (rs := [.tmp 2, .tmp 3]) Anc.refl hro (lb_ rfl) rfl
   ·exact yo_
   ·exact k4_
   ·exact k5_
   ·rfl
   ·exact k6_
   ·exact k7_
   ·exact fun β => rfl
   ·exact k6_
 ·obtain rfl : k = P.length := by omega
  have e := checkK_none (p := P) (fun i hi y hy => hB i hi y hy)
  obtain ⟨x, hx, hx2, hxo⟩ := hgo (P.length - 1) (by omega)
  rw [e, hx]
  have hlm : ((P.length : Int) - 1).toNat = P.length - 1 := by omega
  by_cases hg : goesB x = true
  ·rw [if_pos hg]
   repeat' (first | refine Ctl.h ?_ | ((with_reducible intro hif); first | (focus (cases hif; done)) | ((try simp only [JH] at hif); try (exfalso; omega))) | ((with_reducible first | apply J22 cRCk_ok za_ | apply J23 fol cRCk_ok za_ | apply J24); (·rfl); (· exact k96_); (try kernel_rfl); try exact k94_) | fail)
   apply At.endsRet za_ (fn := Try.f112) (rs := [.tmp 2, .tmp 3]) Anc.refl hro (lb_ rfl) rfl
   ·exact yo_
   ·exact k4_
   ·exact k5_
   ·rfl
   ·exact k6_
   ·exact k7_
   ·exact fun β => rfl
   ·exact k6_
  ·rw [if_neg hg]
   repeat' (first | refine Ctl.h ?_ | ((with_reducible intro hif); first | (focus (cases hif; done)) | ((try simp only [JH] at hif); try (exfalso; omega))) | ((with_reducible first | apply J22 cRCk_ok za_ | apply J23 fol cRCk_ok za_ | apply J24); (·rfl); (· exact k96_); (try kernel_rfl); try exact k94_) | fail)
   apply At.endsRet za_ (fn := Try.f112) (rs := [.tmp 2, .tmp 3]) Anc.refl hro (lb_ rfl) rfl
   ·exact yo_
   ·exact k4_
   ·exact k5_
   ·rfl
   ·exact k6_
   ·exact k7_
   ·exact fun β => rfl
   ·exact k6_
def sRCheck : yp_ := fun args h m => match args with
 | [v1] => match y2_ h 5 (.tup []) v1 with
  | some (c1, n1, f1, r1) => some (c1 ∧ (∀ q, q < n1 → isIns (f1 q) = true) ∧ ((∀ x ∈ (ls zr_ n1 f1), x.ok)), .tup [.int .i64 (checkI (ls zr_ n1 f1)).1, .int .i64 (checkI (ls zr_ n1 f1)).2], r1, [])
  | _ => none
 | _ => none
theorem sRCheck_ok : zj_ Try.prog 112 sRCheck := by
 refine ⟨zg_ (by kernel_rfl), fun args h m c v rd wr hs hm hc w0 M β h' w R hrd hwr hst => ?_⟩
 unfold sRCheck at hs
 split at hs
 ·rename_i v1
  split at hs
  ·rename_i c1 n1 f1 r1 a1
   simp only [Option.some.injEq, Prod.mk.injEq] at hs
   obtain ⟨rfl, rfl, rfl, rfl⟩ := hs
   obtain ⟨k1, g1, y1⟩ := hc
   obtain ⟨A1, p1, d1, e1, t1⟩ := zi_ R a1 k1 (fun i hi => hrd i hi) (by omega)
   refine yj_ (views := [⟨5, (ls zr_ n1 f1).length, prS (ls zr_ n1 f1), A1, p1⟩]) (rcheck_lit (ls zr_ n1 f1) p1 y1) ?_ R hm hwr ?_ ?_ ?_
   ·intro x hx
    simp only [List.mem_cons, List.not_mem_nil, or_false] at hx
    subst hx
    ·exact viewIns t1 e1 g1
   ·intro β1 hv
    simp only [Vd, zc_, and_true] at hv
    have z1 := hv
    simp only [denL, z8_, z6_, z9_, zs_, zc_, z1, d1]
   ·exact k6_
   ·exact k6_
  ·cases hs
 ·cases hs
end Go.Proofs.Ytmljmabbopkpiaa.Vm
end
end
