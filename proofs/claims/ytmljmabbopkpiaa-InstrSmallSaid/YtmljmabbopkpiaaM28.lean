import Derived.Test.YtmljmabbopkpiaaM1
import Derived.Test.YtmljmabbopkpiaaM20
import Derived.Test.YtmljmabbopkpiaaM27
set_option linter.unusedSimpArgs false
set_option linter.unusedVariables false
set_option maxRecDepth 100000
set_option maxHeartbeats 4000000
section
namespace Go.Proofs.Ytmljmabbopkpiaa.Vm
open Go.RowKit
attribute [local push_cast] prS zm_ zo_ nav_ins xe_ xd_ xc_ xb_ xa_ nav_snd y9_ y8_ y7_ zu_ z7_ yf_ z5_ ya_ z9_ iOf
theorem cf1r : cntB (z1_ 1) 114 (z1_ 1).size = 3 := by decide
theorem cf1n : cntB (z1_ 1) 110 (z1_ 1).size = 0 := by decide
theorem cf1p : cntB (z1_ 1) 112 (z1_ 1).size = 0 := by decide
theorem cf1t : cntB (z1_ 1) 116 (z1_ 1).size = 0 := by decide
theorem cf2r : cntB (z1_ 2) 114 (z1_ 2).size = 0 := by decide
theorem cf2n : cntB (z1_ 2) 110 (z1_ 2).size = 0 := by decide
theorem cf2p : cntB (z1_ 2) 112 (z1_ 2).size = 0 := by decide
theorem cf2t : cntB (z1_ 2) 116 (z1_ 2).size = 0 := by decide
theorem cf3r : cntB (z1_ 3) 114 (z1_ 3).size = 1 := by decide
theorem cf3n : cntB (z1_ 3) 110 (z1_ 3).size = 1 := by decide
theorem cf4r : cntB (z1_ 4) 114 (z1_ 4).size = 2 := by decide
theorem cf4n : cntB (z1_ 4) 110 (z1_ 4).size = 0 := by decide
theorem cf4p : cntB (z1_ 4) 112 (z1_ 4).size = 0 := by decide
theorem cf4t : cntB (z1_ 4) 116 (z1_ 4).size = 0 := by decide
theorem cf5r : cntB (z1_ 5) 114 (z1_ 5).size = 2 := by decide
theorem cf5n : cntB (z1_ 5) 110 (z1_ 5).size = 0 := by decide
theorem cf5p : cntB (z1_ 5) 112 (z1_ 5).size = 1 := by decide
theorem cf5t : cntB (z1_ 5) 116 (z1_ 5).size = 0 := by decide
theorem cf6r : cntB (z1_ 6) 114 (z1_ 6).size = 0 := by decide
theorem cf6n : cntB (z1_ 6) 110 (z1_ 6).size = 0 := by decide
theorem cf6p : cntB (z1_ 6) 112 (z1_ 6).size = 0 := by decide
theorem cf6t : cntB (z1_ 6) 116 (z1_ 6).size = 1 := by decide
theorem cf7r : cntB (z1_ 7) 114 (z1_ 7).size = 1 := by decide
theorem cf7n : cntB (z1_ 7) 110 (z1_ 7).size = 0 := by decide
theorem cf7p : cntB (z1_ 7) 112 (z1_ 7).size = 0 := by decide
theorem cf7t : cntB (z1_ 7) 116 (z1_ 7).size = 1 := by decide
theorem formS_size (k : Nat) : (z1_ k).size ≤ 1000000 := by
 unfold z1_; split <;> decide
def cROne : FuncId → Option yp_ := yy_ [(172, sRForm), (173, sRCnt)]
theorem cROne_ok : ∀ f S, cROne f = some S → zj_ Try.prog f S := zq_ ⟨sRForm_ok, sRCnt_ok, trivial⟩
theorem rone_lit (i : Ins) (hi : i.ok) : zp_ Try.prog 144 [yo_ i] [.gone] (.int .i64 (oneE i)) [.gone] := by
 obtain ⟨op, a, b, c, n⟩ := i
 have o0 := hi.op0
 have o1 := hi.op1
 have a0 := hi.a0
 have a1 := hi.a1
 have b0 := hi.b0
 have b1 := hi.b1
 have c0 := hi.c0
 have c1 := hi.c1
 have hfs := formS_size
 dsimp only at o0 o1 a0 a1 b0 b1 c0 c1
 show zp_ Try.prog 144 [.agg [.int .u8 op, .int .u8 a, .int .u8 b, .int .u8 c, .int .i64 n]] [.gone] (.int .i64 (if y0_ op = 0 then 140 else oneK (y0_ op) a b c n)) [.gone]
 rcases formC_cases op with ⟨h1, h2, hk⟩ | ⟨h1, hk⟩ | ⟨h1, hk⟩ | ⟨h1, h2, hk⟩ | ⟨h1, hk⟩ | ⟨h1, hk⟩ | ⟨h1, hk⟩ | ⟨h1, h2, hk⟩
 all_goals
  rw [hk]
  refine zf_ (fn := Try.f144) 1 75 0 rfl rfl rfl rfl rfl u10_ rfl fun w0 M E hro => ?_
  repeat' (first | refine Ctl.h ?_ | ((with_reducible intro hif); first | (focus (cases hif; done)) | ((try simp only [JH] at hif); try (exfalso; omega))) | ((with_reducible first | apply J22 cROne_ok za_ | apply J23 fol cROne_ok za_ | apply J24); (·rfl); (· (simp only [push_cast, ↓JP, Nat.reduceAdd, Nat.reduceEqDiff, Nat.reduceLT, Nat.reduceMul, Nat.reduceLeDiff, reduceCtorEq, reduceIte, ↓JK, cROne, sRForm, sRCnt, hk, cf1r, cf1n, cf1p, cf1t, cf2r, cf2n, cf2p, cf2t, cf3r, cf3n, cf4r, cf4n, cf4p, cf4t, cf5r, cf5n, cf5p, cf5t, cf6r, cf6n, cf6p, cf6t, cf7r, cf7n, cf7p, cf7t, ya_, z9_, iOf]; rfl)); (try kernel_rfl); (try (focus (first | exact True.intro | ((try simp only [JS, implies_true, forall_const, yc_, z6_, kndOf]); (first | first | omega | exact hfs _ | (repeat' (first | assumption | exact True.intro | omega | apply And.intro))); done))))) | fail)
 all_goals
  apply At.endsRet za_ (fn := Try.f144) (rs := [.tmp 2]) Anc.refl hro (lb_ rfl) rfl
  ·exact yq_
  ·exact k4_
  ·exact k5_
  ·rfl
  ·exact k6_
  ·exact k7_
  ·(intro β; first | rfl | (refine congrArg (fun x => Value.int .i64 x) (Eq.symm ?_); first | exact oneK_pos (by simp only [xh_]; simp at *; omega) | exact yt_ (by simp only [xh_]; simp at *; omega)))
  ·exact k6_
def sROne : yp_ := fun args h m => match args with
 | [v1] => bif isIns v1 then some (((zt_ v1).ok), .int .i64 (oneE (zt_ v1)), [], []) else none
 | _ => none
theorem sROne_ok : zj_ Try.prog 144 sROne := by
 refine ⟨zi_ (by kernel_rfl), fun args h m c v rd wr hs hm hc w0 M β h' w R hrd hwr hst => ?_⟩
 unfold sROne at hs
 split at hs
 ·rename_i v1
  obtain ⟨hb, hs⟩ := zl_ hs
  simp only [Option.some.injEq, Prod.mk.injEq] at hs
  obtain ⟨rfl, rfl, rfl, rfl⟩ := hs
  have b1 := hb
  have y1 := hc
  refine yl_ (views := []) (rone_lit (zt_ v1) y1) ?_ R hm hwr ?_ ?_ ?_
  ·intro x hx; cases hx
  ·exact d40_
  ·exact k6_
  ·exact k6_
 ·cases hs
end Go.Proofs.Ytmljmabbopkpiaa.Vm
end
