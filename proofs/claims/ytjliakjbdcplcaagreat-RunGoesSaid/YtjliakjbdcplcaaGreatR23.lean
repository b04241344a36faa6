import Derived.Test.YtjliakjbdcplcaaGreatR1
import Derived.Test.YtjliakjbdcplcaaGreatR11
import Derived.Test.YtjliakjbdcplcaaGreatR19
import Derived.Test.YtjliakjbdcplcaaGreatR22
set_option linter.unusedSimpArgs false
set_option linter.unusedVariables false
set_option maxRecDepth 100000
set_option maxHeartbeats 4000000
section
open Go.Proofs.YtjliakjbdcplcaaGreat.Vm Go.RowKit
attribute [local push_cast] prS zm_ i64S xm_ y4_ y3_ y2_ y1_ y0_ xl_ yz_ yy_ yx_ zl_ zz_ z2_ zy_ zq_ zr_ iOf
section
namespace Go.Proofs.YtjliakjbdcplcaaGreat.Vm
open Go.RowKit
theorem cf1r : cntB (y9_ 1) 114 (y9_ 1).size = 3 := by decide
theorem cf1n : cntB (y9_ 1) 110 (y9_ 1).size = 0 := by decide
theorem cf1p : cntB (y9_ 1) 112 (y9_ 1).size = 0 := by decide
theorem cf1t : cntB (y9_ 1) 116 (y9_ 1).size = 0 := by decide
theorem cf2r : cntB (y9_ 2) 114 (y9_ 2).size = 0 := by decide
theorem cf2n : cntB (y9_ 2) 110 (y9_ 2).size = 0 := by decide
theorem cf2p : cntB (y9_ 2) 112 (y9_ 2).size = 0 := by decide
theorem cf2t : cntB (y9_ 2) 116 (y9_ 2).size = 0 := by decide
theorem cf3r : cntB (y9_ 3) 114 (y9_ 3).size = 1 := by decide
theorem cf3n : cntB (y9_ 3) 110 (y9_ 3).size = 1 := by decide
theorem cf4r : cntB (y9_ 4) 114 (y9_ 4).size = 2 := by decide
theorem cf4n : cntB (y9_ 4) 110 (y9_ 4).size = 0 := by decide
theorem cf4p : cntB (y9_ 4) 112 (y9_ 4).size = 0 := by decide
theorem cf4t : cntB (y9_ 4) 116 (y9_ 4).size = 0 := by decide
theorem cf5r : cntB (y9_ 5) 114 (y9_ 5).size = 2 := by decide
theorem cf5n : cntB (y9_ 5) 110 (y9_ 5).size = 0 := by decide
theorem cf5p : cntB (y9_ 5) 112 (y9_ 5).size = 1 := by decide
theorem cf5t : cntB (y9_ 5) 116 (y9_ 5).size = 0 := by decide
theorem cf6r : cntB (y9_ 6) 114 (y9_ 6).size = 0 := by decide
theorem cf6n : cntB (y9_ 6) 110 (y9_ 6).size = 0 := by decide
theorem cf6p : cntB (y9_ 6) 112 (y9_ 6).size = 0 := by decide
theorem cf6t : cntB (y9_ 6) 116 (y9_ 6).size = 1 := by decide
theorem cf7r : cntB (y9_ 7) 114 (y9_ 7).size = 1 := by decide
theorem cf7n : cntB (y9_ 7) 110 (y9_ 7).size = 0 := by decide
theorem cf7p : cntB (y9_ 7) 112 (y9_ 7).size = 0 := by decide
theorem cf7t : cntB (y9_ 7) 116 (y9_ 7).size = 1 := by decide
theorem formS_size (k : Nat) : (y9_ k).size ≤ 1000000 := by
 unfold y9_; split <;> decide
def cROne : FuncId → Option yt_ := y6_ [(140, sRForm), (141, sRCnt)]
theorem cROne_ok : ∀ f S, cROne f = some S → zh_ Tryz.prog f S := zn_ ⟨sRForm_ok, sRCnt_ok, trivial⟩
theorem rone_lit (i : Ins) (hi : i.ok) : zp_ Tryz.prog 116 [yr_ i] [.gone] (.int .i64 (oneE i)) [.gone] := by
 obtain ⟨op, a, b, c, n⟩ := i
 have o0 := hi.op0
 have o1 := hi.op1
 have a0 := hi.a0
 have a1 := hi.a1
 have b0 := hi.b0
 have b1 := hi.b1
 have c0 := hi.c0
 have c1 := hi.c1
 have hfs := formS_size
 dsimp only at o0 o1 a0 a1 b0 b1 c0 c1
 show zp_ Tryz.prog 116 [.agg [.int .u8 op, .int .u8 a, .int .u8 b, .int .u8 c, .int .i64 n]] [.gone] (.int .i64 (if xo_ op = 0 then 140 else oneK (xo_ op) a b c n)) [.gone]
 rcases formC_cases op with ⟨h1, h2, hk⟩ | ⟨h1, hk⟩ | ⟨h1, hk⟩ | ⟨h1, h2, hk⟩ | ⟨h1, hk⟩ | ⟨h1, hk⟩ | ⟨h1, hk⟩ | ⟨h1, h2, hk⟩
 all_goals
  rw [hk]
  refine ze_ (fn := Tryz.f116) 1 75 0 rfl rfl rfl rfl rfl u6_ rfl fun w0 M E hro => ?_
  repeat' (first | refine Ctl.h ?_ | ((with_reducible intro hif); first | (focus (cases hif; done)) | ((try simp only [JH] at hif); try (exfalso; omega))) | ((with_reducible first | apply J22 cROne_ok za_ | apply J23 fol cROne_ok za_ | apply J24); (·rfl); (· (simp only [push_cast, ↓JP, Nat.reduceAdd, Nat.reduceEqDiff, Nat.reduceLT, Nat.reduceMul, Nat.reduceLeDiff, reduceCtorEq, reduceIte, ↓JK, cROne, sRForm, sRCnt, hk, cf1r, cf1n, cf1p, cf1t, cf2r, cf2n, cf2p, cf2t, cf3r, cf3n, cf4r, cf4n, cf4p, cf4t, cf5r, cf5n, cf5p, cf5t, cf6r, cf6n, cf6p, cf6t, cf7r, cf7n, cf7p, cf7t, zq_, zr_, iOf]; rfl)); (try kernel_rfl); (try (focus (first | exact True.intro | ((try simp only [JS, implies_true, forall_const, yd_, z9_, kndOf]); (first | first | omega | exact hfs _ | (repeat' (first | assumption | exact True.intro | omega | apply And.intro))); done))))) | fail)
 all_goals
  apply At.endsRet za_ (fn := Tryz.f116) (rs := [.tmp 2]) Anc.refl hro (lb_ rfl) rfl
  ·exact yq_
  ·exact ys_
  ·exact k6_
  ·rfl
  ·exact k65_
  ·exact zx_
  ·(intro β; first | rfl | (refine congrArg (fun x => Value.int .i64 x) (Eq.symm ?_); first | exact oneK_pos (by simp only [xt_]; simp at *; omega) | exact y7_ (by simp only [xt_]; simp at *; omega)))
  ·exact k65_
def sROne : yt_ := fun args h m => match args with
 | [v1] => bif isIns v1 then some (((zo_ v1).ok), .int .i64 (oneE (zo_ v1)), [], []) else none
 | _ => none
theorem sROne_ok : zh_ Tryz.prog 116 sROne := by
 refine ⟨zf_ (by kernel_rfl), fun args h m c v rd wr hs hm hc w0 M β h' w R hrd hwr hst => ?_⟩
 unfold sROne at hs
 split at hs
 ·rename_i v1
  obtain ⟨hb, hs⟩ := zj_ hs
  simp only [Option.some.injEq, Prod.mk.injEq] at hs
  obtain ⟨rfl, rfl, rfl, rfl⟩ := hs
  have b1 := hb
  have y1 := hc
  refine ym_ (views := []) (rone_lit (zo_ v1) y1) ?_ R hm hwr ?_ ?_ ?_
  ·intro x hx; cases hx
  ·exact d36_
  ·exact k65_
  ·exact k65_
 ·cases hs
theorem evm_in1 (i : Ins) (a : Bool → SV → Option (Prop × SV)) (b : SV → Option (Prop × SV)) (c : Unit → Option (Prop × SV)) : ev.match_1 (fun _ => Option (Prop × SV)) (some (yr_ i)) a b c = b (yr_ i) := rfl
def cRG : FuncId → Option yt_ := y6_ [(116, sROne)]
theorem cRG_ok : ∀ f S, cRG f = some S → zh_ Tryz.prog f S := zn_ ⟨sROne_ok, trivial⟩
theorem rgoes_lit (i : Ins) (hi : i.ok) : zp_ Tryz.prog 118 [yr_ i] [.gone] (.bool (goesB i)) [.gone] := by
 by_cases he : oneE i = 0 <;> by_cases h1 : i.op = 1 <;> by_cases h2 : i.op = 2 <;> by_cases h9 : i.op = 9
 all_goals
  refine ze_ (fn := Tryz.f118) 1 21 0 rfl rfl rfl rfl rfl u6_ rfl fun w0 M E hro => ?_
  repeat' (first | refine Ctl.h ?_ | ((with_reducible intro hif); first | (focus (cases hif; done)) | ((try simp only [JH] at hif); try (exfalso; omega))) | ((with_reducible first | apply J22 cRG_ok za_ | apply J23 fol cRG_ok za_ | apply J24); (·rfl); (· (simp only [push_cast, ↓JP, Nat.reduceAdd, Nat.reduceEqDiff, Nat.reduceLT, Nat.reduceMul, Nat.reduceLeDiff, reduceCtorEq, reduceIte, ↓JK, evm_in1, cRG, sROne, he, h1, h2, h9]; rfl)); (try kernel_rfl); (try (focus (first | exact True.intro | ((try simp only [JS, implies_true, forall_const, yd_, z9_, kndOf]); (first | assumption | (repeat' (first | assumption | exact True.intro | omega | apply And.intro))); done))))) | fail)
 all_goals
  apply At.endsRet za_ (fn := Tryz.f118) (rs := [.tmp 2]) Anc.refl hro (lb_ rfl) rfl
  ·exact yq_
  ·exact ys_
  ·exact k6_
  ·rfl
  ·exact k65_
  ·exact zx_
  ·(intro β; simp [resS, SV.den, goesB, he, h1, h2, h9])
  ·exact k65_
def sRGoes : yt_ := fun args h m => match args with
 | [v1] => bif isIns v1 then some (((zo_ v1).ok), .bool (goesB (zo_ v1)), [], []) else none
 | _ => none
theorem sRGoes_ok : zh_ Tryz.prog 118 sRGoes := by
 refine ⟨zf_ (by kernel_rfl), fun args h m c v rd wr hs hm hc w0 M β h' w R hrd hwr hst => ?_⟩
 unfold sRGoes at hs
 split at hs
 ·rename_i v1
  obtain ⟨hb, hs⟩ := zj_ hs
  simp only [Option.some.injEq, Prod.mk.injEq] at hs
  obtain ⟨rfl, rfl, rfl, rfl⟩ := hs
  have b1 := hb
  have y1 := hc
  refine ym_ (views := []) (rgoes_lit (zo_ v1) y1) ?_ R hm hwr ?_ ?_ ?_
  ·intro x hx; cases hx
  ·exact d36_
  ·exact k65_
  ·exact k65_
 ·cases hs
theorem targB_of {i : Ins} (he : oneE i = 0) : targB i = decide (9 ≤ i.op ∧ i.op ≤ 11) := by
 unfold targB
 rw [he, Bool.eq_iff_iff]
 simp
 omega
theorem targB_no {i : Ins} (he : oneE i ≠ 0) : targB i = false := by
 unfold targB
 simp [he]
theorem rtarg_lit (i : Ins) (hi : i.ok) : zp_ Tryz.prog 117 [yr_ i] [.gone] (.tup [.int .i64 (targV i), .bool (targB i)]) [.gone] := by
 by_cases he : oneE i = 0 <;> by_cases h1 : i.op < 9 <;> by_cases h2 : 11 < i.op
 all_goals
  refine ze_ (fn := Tryz.f117) 1 19 0 rfl rfl rfl rfl rfl u6_ rfl fun w0 M E hro => ?_
  repeat' (first | refine Ctl.h ?_ | ((with_reducible intro hif); first | (focus (cases hif; done)) | ((try simp only [JH] at hif); try (exfalso; omega))) | ((with_reducible first | apply J22 cRG_ok za_ | apply J23 fol cRG_ok za_ | apply J24); (·rfl); (· (simp only [push_cast, ↓JP, Nat.reduceAdd, Nat.reduceEqDiff, Nat.reduceLT, Nat.reduceMul, Nat.reduceLeDiff, reduceCtorEq, reduceIte, ↓JK, evm_in1, cRG, sROne, he, h1, h2, inR, inN]; rfl)); (try kernel_rfl); (try (focus (first | exact True.intro | ((try simp only [JS, implies_true, forall_const, yd_, z9_, kndOf, inR, inN]); (first | assumption | (repeat' (first | assumption | exact True.intro | omega | apply And.intro))); done))))) | fail)
 all_goals
  apply At.endsRet za_ (fn := Tryz.f117) (rs := [.tmp 2, .tmp 3]) Anc.refl hro (lb_ rfl) rfl
  ·exact yq_
  ·exact ys_
  ·exact k6_
  ·rfl
  ·exact k65_
  ·exact zx_
  ·(intro β; first | (have e : targB i = false := (by first | exact targB_no he | (rw [targB_of he]; exact decide_eq_false (by omega))); simp only [resS, SV.den, denL, targV, e]; rfl) | (have e : targB i = true := (by rw [targB_of he]; exact decide_eq_true (by omega)); simp only [resS, SV.den, denL, targV, e]; rfl))
  ·exact k65_
def sRTarg : yt_ := fun args h m => match args with
 | [v1] => bif isIns v1 then some (((zo_ v1).ok), .tup [.int .i64 (targV (zo_ v1)), .bool (targB (zo_ v1))], [], []) else none
 | _ => none
theorem sRTarg_ok : zh_ Tryz.prog 117 sRTarg := by
 refine ⟨zf_ (by kernel_rfl), fun args h m c v rd wr hs hm hc w0 M β h' w R hrd hwr hst => ?_⟩
 unfold sRTarg at hs
 split at hs
 ·rename_i v1
  obtain ⟨hb, hs⟩ := zj_ hs
  simp only [Option.some.injEq, Prod.mk.injEq] at hs
  obtain ⟨rfl, rfl, rfl, rfl⟩ := hs
  have b1 := hb
  have y1 := hc
  refine ym_ (views := []) (rtarg_lit (zo_ v1) y1) ?_ R hm hwr ?_ ?_ ?_
  ·intro x hx; cases hx
  ·exact d36_
  ·exact k65_
  ·exact k65_
 ·cases hs
def cRCk : FuncId → Option yt_ := y6_ [(116, sROne), (117, sRTarg), (118, sRGoes)]
theorem cRCk_ok : ∀ f S, cRCk f = some S → zh_ Tryz.prog f S := zn_ ⟨sROne_ok, sRTarg_ok, sRGoes_ok, trivial⟩
theorem rcheck_lit (P : List Ins) (p1 : Nat) (hok : ∀ x ∈ P, x.ok) : zp_ Tryz.prog 85 [.sl 1 2 [] 5 0 P.length (some p1)] [.gone, .gone, .ro (.arr P.length 5 (prS P))] (.tup [.int .i64 (checkI P).1, .int .i64 (checkI P).2]) [.gone] := by
 have hgo : ∀ j, j < P.length → ∃ x, P.getD j ⟨0, 0, 0, 0, 0⟩ = x ∧ P[j]? = some x ∧ x.ok := fun j hj => ⟨P[j], by rw [List.getD_eq_getElem?_getD, List.getElem?_eq_getElem hj]; rfl, List.getElem?_eq_getElem hj, hok _ (List.getElem_mem _)⟩
 by_cases h0 : P.length = 0
 ·obtain rfl := List.eq_nil_of_length_eq_zero h0
  have e : checkI [] = (-1, 6) := rfl
  rw [e]
  refine ze_ (fn := Tryz.f85) 3 55 0 rfl rfl rfl rfl rfl u6_ rfl fun w0 M E hro => ?_
  repeat' (first | refine Ctl.h ?_ | ((with_reducible intro hif); first | (focus (cases hif; done)) | ((try simp only [JH] at hif); try (exfalso; omega))) | ((with_reducible first | apply J22 cRCk_ok za_ | apply J23 fol cRCk_ok za_ | apply J24); (·rfl); (· exact k68_); (try kernel_rfl); try exact y5_) | fail)
  apply At.endsRet za_ (fn := Tryz.f85) (rs := [.tmp 2, .tmp 3]) Anc.refl hro (lb_ rfl) rfl
  ·exact yq_
  ·exact ys_
  ·exact k6_
  ·rfl
  ·exact k65_
  ·exact zx_
  ·exact fun β => rfl
  ·exact k65_
 by_cases h256 : 256 < P.length
 ·have e : checkI P = (-1, 5) := by unfold checkI; rw [if_neg h0, if_pos h256]
  rw [e]
  refine ze_ (fn := Tryz.f85) 3 55 0 rfl rfl rfl rfl rfl u6_ rfl fun w0 M E hro => ?_
  repeat' (first | refine Ctl.h ?_ | ((with_reducible intro hif); first | (focus (cases hif; done)) | ((try simp only [JH] at hif); try (exfalso; omega))) | ((with_reducible first | apply J22 cRCk_ok za_ | apply J23 fol cRCk_ok za_ | apply J24); (·rfl); (· exact k69_); (try kernel_rfl); try exact y5_) | fail)
  apply At.endsRet za_ (fn := Tryz.f85) (rs := [.tmp 2, .tmp 3]) Anc.refl hro (lb_ rfl) rfl
  ·exact yq_
  ·exact ys_
  ·exact k6_
  ·rfl
  ·exact k65_
  ·exact zx_
  ·exact fun β => rfl
  ·exact k65_
 have eC : checkI P = checkK P := by unfold checkI; rw [if_neg h0, if_neg h256]
 rw [eC]
 refine ze_ (fn := Tryz.f85) 3 55 0 rfl rfl rfl rfl rfl u6_ rfl fun w0 M E hro => ?_
 repeat' (first | refine Ctl.h ?_ | ((with_reducible intro hif); first | (focus (cases hif; done)) | ((try simp only [JH] at hif); try (exfalso; omega))) | ((with_reducible first | apply J22 cRCk_ok za_ | apply J23 fol cRCk_ok za_ | apply J24); (·rfl); (· exact k69_); (try kernel_rfl); try exact y5_) | fail)
 refine WF.loopAt (fun (k : Nat) => k ≤ P.length ∧ ∀ i, i < k → ∀ y, P[i]? = some y → badAt P.length y = 0) (fun (k : Nat) => [(0, .sl 1 2 [] 5 0 P.length (some p1)), (4, .nat .i64 k)]) (fun (k : Nat) => [.gone, .gone, .ro (.arr P.length 5 (prS P))]) (fun (k : Nat) => P.length - k) 0 ⟨Nat.zero_le _, fun i hi => absurd hi (Nat.not_lt_zero i)⟩ ?_ ?_ rfl ?_ ?_ rfl ?_
 ·exact k5_
 ·exact k6_
 ·exact k65_
 ·exact k65_
 rintro k ⟨hk, hB⟩
 by_cases hkl : k < P.length
 ·obtain ⟨x, hx, hx2, hxo⟩ := hgo k hkl
  by_cases he : oneE x = 0
  ·by_cases ht : targB x = true
   ·by_cases hv : (P.length : Int) ≤ targV x
    ·have eb : badAt P.length x = 142 := by unfold badAt; rw [if_neg (fun h => h he), if_pos ⟨ht, hv⟩]
     have e := checkK_bad hB hx2 eb (by decide)
     rw [e]
     repeat' (first | refine Ctl.h ?_ | ((with_reducible intro hif); first | (focus (cases hif; done)) | ((try simp only [JH] at hif); try (exfalso; omega))) | ((with_reducible first | apply J22 cRCk_ok za_ | apply J23 fol cRCk_ok za_ | apply J24); (·rfl); (· exact k71_); (try kernel_rfl); try exact k70_) | fail)
     apply At.endsRet za_ (fn := Tryz.f85) (rs := [.tmp 2, .tmp 3]) Anc.refl hro (lb_ rfl) rfl
     ·exact yq_
     ·exact ys_
     ·exact k6_
     ·rfl
     ·exact k65_
     ·exact zx_
     ·exact fun β => rfl
     ·exact k65_
    ·have eb : badAt P.length x = 0 := by unfold badAt; rw [if_neg (fun h => h he), if_neg (fun h => hv h.2)]
     repeat' (first | refine Ctl.h ?_ | ((with_reducible intro hif); first | (focus (cases hif; done)) | ((try simp only [JH] at hif); try (exfalso; omega))) | ((with_reducible first | apply J22 cRCk_ok za_ | apply J23 fol cRCk_ok za_ | apply J24); (·rfl); (· exact k71_); (try kernel_rfl); try exact k70_) | fail)
     refine At.next (k + 1) ?_ ?_ ?_ rfl ?_ ?_ rfl
     ·exact k67_
     ·exact k5_
     ·exact k6_
     ·exact k65_
     ·exact k65_
   ·have eb : badAt P.length x = 0 := by unfold badAt; rw [if_neg (fun h => h he), if_neg (fun h => ht h.1)]
    repeat' (first | refine Ctl.h ?_ | ((with_reducible intro hif); first | (focus (cases hif; done)) | ((try simp only [JH] at hif); try (exfalso; omega))) | ((with_reducible first | apply J22 cRCk_ok za_ | apply J23 fol cRCk_ok za_ | apply J24); (·rfl); (· (simp only [push_cast, ↓JP, Nat.reduceAdd, Nat.reduceEqDiff, Nat.reduceLT, Nat.reduceMul, Nat.reduceLeDiff, reduceCtorEq, reduceIte, ↓JK, evm_in1, cRCk, sROne, sRTarg, sRGoes, hkl, hx, he, ht, inR, inN]; rfl)); (try kernel_rfl); try exact k70_) | fail)
    refine At.next (k + 1) ?_ ?_ ?_ rfl ?_ ?_ rfl
    ·exact k67_
    ·exact k5_
    ·exact k6_
    ·exact k65_
    ·exact k65_
  ·have eb : badAt P.length x = oneE x := if_pos he
   have e := checkK_bad hB hx2 eb he
   rw [e]
   repeat' (first | refine Ctl.h ?_ | ((with_reducible intro hif); first | (focus (cases hif; done)) | ((try simp only [JH] at hif); try (exfalso; omega))) | ((with_reducible first | apply J22 cRCk_ok za_ | apply J23 fol cRCk_ok za_ | apply J24); (·rfl); (· (simp only [push_cast, ↓JP, Nat.reduceAdd, Nat.reduceEqDiff, Nat.reduceLT, Nat.reduceMul, Nat.reduceLeDiff, reduceCtorEq, reduceIte, ↓JK, evm_in1, cRCk, sROne, sRTarg, sRGoes, hkl, hx, he, inR, inN]; rfl)); (try kernel_rfl); try exact k70_) | fail)
   apply At.endsRet za_ (fn := Tryz.f85) (rs := [.tmp 2, .tmp 3]) Anc.refl hro (lb_ rfl) rfl
   ·exact yq_
   ·exact ys_
   ·exact k6_
   ·rfl
   ·exact k65_
   ·exact zx_
   ·exact fun β => rfl
   ·exact k65_
 ·obtain rfl : k = P.length := by omega
  have e := checkK_none (p := P) (fun i hi y hy => hB i hi y hy)
  obtain ⟨x, hx, hx2, hxo⟩ := hgo (P.length - 1) (by omega)
  rw [e, hx]
  have hlm : ((P.length : Int) - 1).toNat = P.length - 1 := by omega
  by_cases hg : goesB x = true
  ·rw [if_pos hg]
   repeat' (first | refine Ctl.h ?_ | ((with_reducible intro hif); first | (focus (cases hif; done)) | ((try simp only [JH] at hif); try (exfalso; omega))) | ((with_reducible first | apply J22 cRCk_ok za_ | apply J23 fol cRCk_ok za_ | apply J24); (·rfl); (· exact k72_); (try kernel_rfl); try exact k70_) | fail)
   apply At.endsRet za_ (fn := Tryz.f85) (rs := [.tmp 2, .tmp 3]) Anc.refl hro (lb_ rfl) rfl
   ·exact yq_
   ·exact ys_
   ·exact k6_
   ·rfl
   ·exact k65_
   ·exact zx_
   ·exact fun β => rfl
   ·exact k65_
  ·rw [if_neg hg]
   repeat' (first | refine Ctl.h ?_ | ((with_reducible intro hif); first | (focus (cases hif; done)) | ((try simp only [JH] at hif); try (exfalso; omega))) | ((with_reducible first | apply J22 cRCk_ok za_ | apply J23 fol cRCk_ok za_ | apply J24); (·rfl); (· exact k72_); (try kernel_rfl); try exact k70_) | fail)
   apply At.endsRet za_ (fn := Tryz.f85) (rs := [.tmp 2, .tmp 3]) Anc.refl hro (lb_ rfl) rfl
   ·exact yq_
   ·exact ys_
   ·exact k6_
   ·rfl
   ·exact k65_
   ·exact zx_
   ·exact fun β => rfl
   ·exact k65_
def sRCheck : yt_ := fun args h m => match args with
 | [v1] => match xv_ h 5 (.tup []) v1 with
  | some (c1, n1, f1, r1) => some (c1 ∧ (∀ q, q < n1 → isIns (f1 q) = true) ∧ ((∀ x ∈ (ls zo_ n1 f1), x.ok)), .tup [.int .i64 (checkI (ls zo_ n1 f1)).1, .int .i64 (checkI (ls zo_ n1 f1)).2], r1, [])
  | _ => none
 | _ => none
theorem sRCheck_ok : zh_ Tryz.prog 85 sRCheck := by
 refine ⟨zf_ (by kernel_rfl), fun args h m c v rd wr hs hm hc w0 M β h' w R hrd hwr hst => ?_⟩
 unfold sRCheck at hs
 split at hs
 ·rename_i v1
  split at hs
  ·rename_i c1 n1 f1 r1 a1
   simp only [Option.some.injEq, Prod.mk.injEq] at hs
   obtain ⟨rfl, rfl, rfl, rfl⟩ := hs
   obtain ⟨k1, g1, y1⟩ := hc
   obtain ⟨A1, p1, d1, e1, t1⟩ := zi_ R a1 k1 (fun i hi => hrd i hi) (by omega)
   refine ym_ (views := [⟨5, (ls zo_ n1 f1).length, prS (ls zo_ n1 f1), A1, p1⟩]) (rcheck_lit (ls zo_ n1 f1) p1 y1) ?_ R hm hwr ?_ ?_ ?_
   ·intro x hx
    simp only [List.mem_cons, List.not_mem_nil, or_false] at hx
    subst hx
    ·exact viewIns t1 e1 g1
   ·exact d28_
   ·exact k65_
   ·exact k65_
  ·cases hs
 ·cases hs
def regsB (r q : Nat → Int) : Bool := r 0 == q 0 && (r 1 == q 1 && (r 2 == q 2 && (r 3 == q 3 && (r 4 == q 4 && (r 5 == q 5 && (r 6 == q 6 && r 7 == q 7))))))
def sameB (a b : Sta) : Bool := a.at_ == b.at_ && (a.ended == b.ended && (regsB a.regs b.regs && (a.cells == b.cells && (a.draws == b.draws && decide (a.sends = b.sends)))))
def cR18 : FuncId → Option yt_ := y6_ []
theorem cR18_ok : ∀ f S, cR18 f = some S → zh_ Tryz.prog f S := fun f S h => by cases h
theorem regsB_iff {f g : Nat → Int} : regsB f g = true ↔ f 0 = g 0 ∧ f 1 = g 1 ∧ f 2 = g 2 ∧ f 3 = g 3 ∧ f 4 = g 4 ∧ f 5 = g 5 ∧ f 6 = g 6 ∧ f 7 = g 7 := by
 unfold regsB
 simp
theorem rsame_lit (s t : Sta) (p1 p2 p3 p4 : Nat) (hm : s.cells.length ≤ 1000000) (hn : s.sends.length ≤ 1000000) : zp_ Tryz.prog 41
    [.agg [.int .i64 s.at_, .bool s.ended, .arr 8 1 (fun q => .int .i64 (s.regs q)), .sl 1 2 [] 1 0 s.cells.length (some p1), .int .i64 s.draws, .sl 3 4 [] 3 0 s.sends.length (some p2)],
     .agg [.int .i64 t.at_, .bool t.ended, .arr 8 1 (fun q => .int .i64 (t.regs q)), .sl 5 6 [] 1 0 t.cells.length (some p3), .int .i64 t.draws, .sl 7 8 [] 3 0 t.sends.length (some p4)]]
    [.gone, .gone, .ro (.arr s.cells.length 1 (i64S s.cells)), .gone, .ro (.arr s.sends.length 3 (zm_ s.sends)), .gone, .ro (.arr t.cells.length 1 (i64S t.cells)), .gone, .ro (.arr t.sends.length 3 (zm_ t.sends))] (.bool (sameB s t)) [.gone] := by
  refine ze_ (fn := Tryz.f41) 9 87 0 rfl rfl rfl rfl rfl (by simp only [zd_, Stable, hp]; simp [HB.born]) rfl fun w0 M E hro => ?_
  obtain ⟨a, e, r, c, d, x⟩ := s
  obtain ⟨a', e', r', c', d', x'⟩ := t
  dsimp only at hm hn hro ⊢
  by_cases H : a = a' ∧ e = e' ∧ regsB r r' = true ∧ d = d' ∧ c.length = c'.length ∧ x.length = x'.length
  · obtain ⟨h1, h2, h3, h4, h5, h6⟩ := H
    obtain ⟨r0, r1, r2, r3, r4, r5, r6, r7⟩ := regsB_iff.1 h3
    subst h1 h2 h4
    rw [h5, h6] at hro
    have hsame : ∀ b, (b = true ↔ c = c' ∧ x = x') → b = sameB ⟨a, e, r, c, d, x⟩ ⟨a, e, r', c', d, x'⟩ := fun b hb => by
      rw [Bool.eq_iff_iff, hb]
      simp [sameB, h3]
    repeat' (first | refine Ctl.h ?_ | ((with_reducible intro hif); first | (focus (cases hif; done)) | ((try simp only [JH] at hif); try (exfalso; omega))) | ((with_reducible first | apply J22 cR18_ok za_ | apply J23 fol cR18_ok za_ | apply J24); (·rfl); (· (simp only [push_cast, ↓JP, Nat.reduceAdd, Nat.reduceEqDiff, Nat.reduceLT, Nat.reduceMul, Nat.reduceLeDiff, reduceCtorEq, reduceIte, ↓JK, h5, h6, r0, r1, r2, r3, r4, r5, r6, r7, eq_self]; rfl)); (try kernel_rfl); try exact y5_) | fail)
    refine WF.loopAt (fun j => j ≤ c'.length ∧ ∀ q, q < j → c.getD q 0 = c'.getD q 0) (fun j => [(2, .ptr 9 []), (3, .ptr 10 []), (5, .nat .i64 j)]) (fun j => [.gone, .gone, .ro (.arr c'.length 1 (i64S c)), .gone, .ro (.arr x'.length 3 (zm_ x)), .gone, .ro (.arr c'.length 1 (i64S c')), .gone, .ro (.arr x'.length 3 (zm_ x')), .own 105 (.agg [.int .i64 a, .bool e, .arr 8 1 (fun q => .int .i64 (r q)), .sl 1 2 [] 1 0 c'.length (some p1), .int .i64 d, .sl 3 4 [] 3 0 x'.length (some p2)]) true, .own 105 (.agg [.int .i64 a, .bool e, .arr 8 1 (fun q => .int .i64 (r' q)), .sl 5 6 [] 1 0 c'.length (some p3), .int .i64 d, .sl 7 8 [] 3 0 x'.length (some p4)]) true]) (fun j => c'.length - j) 0 ⟨Nat.zero_le _, fun q hq => absurd hq (Nat.not_lt_zero q)⟩ ?_ ?_ rfl ?_ ?_ rfl ?_
    · exact k5_
    · exact k6_
    · exact k65_
    · exact k65_
    rintro j ⟨hj, heq⟩
    repeat' (first | refine Ctl.h ?_ | ((with_reducible intro hif); first | (focus (cases hif; done)) | ((try simp only [JH] at hif); try (exfalso; omega))) | ((with_reducible first | apply J22 cR18_ok za_ | apply J23 fol cR18_ok za_ | apply J24); (·rfl); (· (simp only [push_cast, ↓JP, Nat.reduceAdd, Nat.reduceEqDiff, Nat.reduceLT, Nat.reduceMul, Nat.reduceLeDiff, reduceCtorEq, reduceIte, ↓JK, h5, h6, r0, r1, r2, r3, r4, r5, r6, r7, eq_self, inN]; rfl)); (try kernel_rfl); try exact k73_) | fail)
    · have hne : c ≠ c' := fun e => hif (by rw [e])
      apply At.endsRet za_ (fn := Tryz.f41) (rs := [.tmp 4]) Anc.refl hro (lb_ rfl) rfl
      · exact yq_
      · exact ys_
      · exact k6_
      · rfl
      · exact k65_
      · exact zx_
      · rw [← hsame false (by simp [hne])]; exact fun β => rfl
      · exact k65_
    · have hjl : j < c'.length := by assumption
      refine At.next (j + 1) ?_ ?_ ?_ rfl ?_ ?_ rfl
      · refine ⟨⟨by omega, fun q hq' => ?_⟩, by omega⟩; by_cases e : q = j; (rw [e]; exact hif); exact heq q (by omega)
      · exact k5_
      · exact k6_
      · exact k65_
      · exact k65_
    · have hjn : j = c'.length := by omega
      have hcc : c = c' := ext_getD 0 h5 (fun q hq => heq q (by omega))
      refine WF.loopAt (fun k => k ≤ x'.length ∧ ∀ q, q < k → x.getD q ⟨0, 0, 0⟩ = x'.getD q ⟨0, 0, 0⟩) (fun k => [(2, .ptr 9 []), (3, .ptr 10 []), (6, .nat .i64 k)]) (fun k => [.gone, .gone, .ro (.arr c'.length 1 (i64S c)), .gone, .ro (.arr x'.length 3 (zm_ x)), .gone, .ro (.arr c'.length 1 (i64S c')), .gone, .ro (.arr x'.length 3 (zm_ x')), .own 105 (.agg [.int .i64 a, .bool e, .arr 8 1 (fun q => .int .i64 (r q)), .sl 1 2 [] 1 0 c'.length (some p1), .int .i64 d, .sl 3 4 [] 3 0 x'.length (some p2)]) true, .own 105 (.agg [.int .i64 a, .bool e, .arr 8 1 (fun q => .int .i64 (r' q)), .sl 5 6 [] 1 0 c'.length (some p3), .int .i64 d, .sl 7 8 [] 3 0 x'.length (some p4)]) true]) (fun k => x'.length - k) 0 ⟨Nat.zero_le _, fun q hq => absurd hq (Nat.not_lt_zero q)⟩ ?_ ?_ rfl ?_ ?_ rfl ?_
      · exact k5_
      · exact k6_
      · exact k65_
      · exact k65_
      rintro k ⟨hk, hxq⟩
      repeat' (first | refine Ctl.h ?_ | ((with_reducible intro hif); first | (focus (cases hif; done)) | ((try simp only [JH] at hif); try (exfalso; omega))) | ((with_reducible first | apply J22 cR18_ok za_ | apply J23 fol cR18_ok za_ | apply J24); (·rfl); (· (simp only [push_cast, ↓JP, Nat.reduceAdd, Nat.reduceEqDiff, Nat.reduceLT, Nat.reduceMul, Nat.reduceLeDiff, reduceCtorEq, reduceIte, ↓JK, h5, h6, r0, r1, r2, r3, r4, r5, r6, r7, eq_self, inN, sndS]; rfl)); (try kernel_rfl); try exact k73_) | fail)
      · have hne : x ≠ x' := by
          rintro rfl
          simp at hif
        apply At.endsRet za_ (fn := Tryz.f41) (rs := [.tmp 4]) Anc.refl hro (lb_ rfl) rfl
        · exact yq_
        · exact ys_
        · exact k6_
        · rfl
        · exact k65_
        · exact zx_
        · rw [← hsame false (by simp [hne])]; exact fun β => rfl
        · exact k65_
      · have hq : x.getD k ⟨0, 0, 0⟩ = x'.getD k ⟨0, 0, 0⟩ := snd_ext (of_decide_eq_true hif.1) (of_decide_eq_true hif.2.1) (of_decide_eq_true hif.2.2)
        have hkl : k < x'.length := by assumption
        refine At.next (k + 1) ?_ ?_ ?_ rfl ?_ ?_ rfl
        · refine ⟨⟨by omega, fun q hq' => ?_⟩, by omega⟩; by_cases e : q = k; (rw [e]; exact hq); exact hxq q (by omega)
        · exact k5_
        · exact k6_
        · exact k65_
        · exact k65_
      · have hkn : k = x'.length := by omega
        have hxx : x = x' := ext_getD ⟨0, 0, 0⟩ h6 (fun q hq => hxq q (by omega))
        apply At.endsRet za_ (fn := Tryz.f41) (rs := [.tmp 4]) Anc.refl hro (lb_ rfl) rfl
        · exact yq_
        · exact ys_
        · exact k6_
        · rfl
        · exact k65_
        · exact zx_
        · rw [← hsame true (by simp [hcc, hxx])]; exact fun β => rfl
        · exact k65_
  · have hF : sameB ⟨a, e, r, c, d, x⟩ ⟨a', e', r', c', d', x'⟩ = false := by
      rw [Bool.eq_false_iff]
      intro hs
      simp only [sameB, Bool.and_eq_true, beq_iff_eq, decide_eq_true_eq] at hs
      obtain ⟨q1, q2, q3, q4, q5, q6⟩ := hs
      exact H ⟨q1, q2, q3, q5, by rw [q4], by rw [q6]⟩
    rw [hF]
    repeat' (first | refine Ctl.h ?_ | ((with_reducible intro hif); first | (focus (cases hif; done)) | ((try simp only [JH] at hif); try (exfalso; omega))) | ((with_reducible first | apply J22 cR18_ok za_ | apply J23 fol cR18_ok za_ | apply J24); (·rfl); (· (simp only [push_cast, ↓JP, Nat.reduceAdd, Nat.reduceEqDiff, Nat.reduceLT, Nat.reduceMul, Nat.reduceLeDiff, reduceCtorEq, reduceIte, ↓JK, eq_self]; rfl)); (try kernel_rfl); try exact y5_) | fail)
    · apply At.endsRet za_ (fn := Tryz.f41) (rs := [.tmp 4]) Anc.refl hro (lb_ rfl) rfl
      · exact yq_
      · exact ys_
      · exact k6_
      · rfl
      · exact k65_
      · exact zx_
      · exact fun β => rfl
      · exact k65_
    · exfalso
      apply H
      have e0 := hif
      simp only [Bool.or_eq_false_iff, Bool.not_eq_false', decide_eq_true_eq, Bool.and_eq_true] at e0
      obtain ⟨⟨⟨⟨⟨q1, q2⟩, ⟨⟨⟨⟨⟨⟨⟨u0, u1⟩, u2⟩, u3⟩, u4⟩, u5⟩, u6⟩, u7⟩⟩, q4⟩, q5⟩, q6⟩ := e0
      exact ⟨q1, eq_of_beq q2, regsB_iff.2 ⟨of_decide_eq_true u0, of_decide_eq_true u1, of_decide_eq_true u2, of_decide_eq_true u3, of_decide_eq_true u4, of_decide_eq_true u5, of_decide_eq_true u6, of_decide_eq_true u7⟩, q4, q5, q6⟩
def sRSame : yt_ := fun args h m => match args with
 | [.agg [v1, .bool v2, .arr 8 1 v3, v4, v5, v6], .agg [v7, .bool v8, .arr 8 1 v9, v10, v11, v12]] => match xv_ h 1 (.tup []) v4, xv_ h 3 (.tup []) v6, xv_ h 1 (.tup []) v10, xv_ h 3 (.tup []) v12 with
  | some (c4, n4, f4, r4), some (c6, n6, f6, r6), some (c10, n10, f10, r10), some (c12, n12, f12, r12) => bif isI .i64 v1 && isI .i64 v5 && isI .i64 v7 && isI .i64 v11 then some (c4 ∧ c6 ∧ c10 ∧ c12 ∧ (∀ q, q < n4 → isI .i64 (f4 q) = true) ∧ (∀ q, q < n6 → isSnd (f6 q) = true) ∧ (∀ q, q < n10 → isI .i64 (f10 q) = true) ∧ (∀ q, q < n12 → isSnd (f12 q) = true) ∧ (∀ q, q < 8 → isI .i64 (v3 q) = true) ∧ (∀ q, q < 8 → isI .i64 (v9 q) = true) ∧ (n4 ≤ 1000000) ∧ (n6 ≤ 1000000), .bool (sameB ⟨(iOf v1), v2, (fun q => iOf (v3 q)), (ls iOf n4 f4), (iOf v5), (ls zw_ n6 f6)⟩ ⟨(iOf v7), v8, (fun q => iOf (v9 q)), (ls iOf n10 f10), (iOf v11), (ls zw_ n12 f12)⟩), r4 ++ r6 ++ r10 ++ r12, []) else none
  | _, _, _, _ => none
 | _ => none
theorem sRSame_ok : zh_ Tryz.prog 41 sRSame := by
 refine ⟨zf_ (by kernel_rfl), fun args h m c v rd wr hs hm hc w0 M β h' w R hrd hwr hst => ?_⟩
 unfold sRSame at hs
 split at hs
 ·rename_i v1 v2 v3 v4 v5 v6 v7 v8 v9 v10 v11 v12
  split at hs
  ·rename_i c4 n4 f4 r4 c6 n6 f6 r6 c10 n10 f10 r10 c12 n12 f12 r12 a4 a6 a10 a12
   obtain ⟨hb, hs⟩ := zj_ hs
   simp only [Option.some.injEq, Prod.mk.injEq] at hs
   obtain ⟨rfl, rfl, rfl, rfl⟩ := hs
   simp only [Bool.and_eq_true] at hb
   obtain ⟨⟨⟨b1, b5⟩, b7⟩, b11⟩ := hb
   obtain ⟨k4, k6, k10, k12, g4, g6, g10, g12, g3, g9, y1, y2⟩ := hc
   obtain ⟨A4, p4, d4, e4, t4⟩ := zi_ R a4 k4 (fun i hi => hrd i (List.mem_append_left _ (List.mem_append_left _ (List.mem_append_left _ hi)))) (by omega)
   obtain ⟨A6, p6, d6, e6, t6⟩ := zi_ R a6 k6 (fun i hi => hrd i (List.mem_append_left _ (List.mem_append_left _ (List.mem_append_right _ hi)))) (by omega)
   obtain ⟨A10, p10, d10, e10, t10⟩ := zi_ R a10 k10 (fun i hi => hrd i (List.mem_append_left _ (List.mem_append_right _ hi))) (by omega)
   obtain ⟨A12, p12, d12, e12, t12⟩ := zi_ R a12 k12 (fun i hi => hrd i (List.mem_append_right _ hi)) (by omega)
   refine ym_ (views := [⟨1, (ls iOf n4 f4).length, i64S (ls iOf n4 f4), A4, p4⟩, ⟨3, (ls zw_ n6 f6).length, zm_ (ls zw_ n6 f6), A6, p6⟩, ⟨1, (ls iOf n10 f10).length, i64S (ls iOf n10 f10), A10, p10⟩, ⟨3, (ls zw_ n12 f12).length, zm_ (ls zw_ n12 f12), A12, p12⟩]) (rsame_lit ⟨(iOf v1), v2, (fun q => iOf (v3 q)), (ls iOf n4 f4), (iOf v5), (ls zw_ n6 f6)⟩ ⟨(iOf v7), v8, (fun q => iOf (v9 q)), (ls iOf n10 f10), (iOf v11), (ls zw_ n12 f12)⟩ p4 p6 p10 p12 (by rw [zb_]; exact y1) (by rw [zb_]; exact y2)) ?_ R hm hwr ?_ ?_ ?_
   ·intro x hx
    simp only [List.mem_cons, List.not_mem_nil, or_false] at hx
    rcases hx with rfl | rfl | rfl | rfl
    ·exact yi_ t4 e4 g4
    ·exact viewSnd t6 e6 g6
    ·exact yi_ t10 e10 g10
    ·exact viewSnd t12 e12 g12
   ·intro β1 hv
    simp only [Vd, zb_, and_true] at hv
    obtain ⟨z4, z6, z10, z12⟩ := hv
    simp only [denL, yh_, yg_, yf_, zv_, zb_, z4, z6, z10, z12, d4, d6, d10, d12, zc_ b1, zc_ b5, zc_ b7, zc_ b11, ← r8Den (β := β) (β1 := β1) g3, ← r8Den (β := β) (β1 := β1) g9]
   ·exact k65_
   ·exact k65_
  ·cases hs
 ·cases hs
end Go.Proofs.YtjliakjbdcplcaaGreat.Vm
end
end
