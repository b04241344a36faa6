import Derived.Test.YtjliakjbdcplcaaGreatT5
import Derived.Test.YtjliakjbdcplcaaGreatT8
set_option linter.unusedSimpArgs false
set_option linter.unusedVariables false
set_option maxRecDepth 100000
set_option maxHeartbeats 4000000
section
namespace Go.Proofs.YtjliakjbdcplcaaGreat.Vm
theorem u7_ {P : Prop} (h : P := by simp only [zd_, Stable, hp]; simp [HB.born]) : P := h
theorem u8_ {P : Prop} (h : P := by simp only [zd_, Stable, hp, i64S, prS, yo_, zn_, sndS, evS, sr]; simp [HB.born]) : P := h
theorem u9_ {P : Prop} (h : P := by rw [Evi.rightB]; exact decide_eq_false (by omega)) : P := h
theorem u10_ {P : Prop} (h : P := by rw [Evi.rightB, decide_eq_true (by omega)]; decide) : P := h
theorem u11_ {P : Prop} (h : P := by rw [Sta.rightB]; exact decide_eq_false (by omega)) : P := h
theorem u12_ {P : Prop} (h : P := by simp only [zd_, Stable, hp, i64S, prS, yo_, zn_, sndS, stS, evS, macS]; simp [HB.born, mB, cB, sB]) : P := h
theorem k67_ {P : Prop} (h : P := by refine ⟨⟨hkl, fun i hi y hy => ?_⟩, by omega⟩; by_cases h : i = k; (subst h; rw [hx2] at hy; cases hy; exact eb); exact hB i (by omega) y hy) : P := h
theorem k68_ {P : Prop} (h : P := by (repeat' (first | exact trivial | exact rfl | assumption | apply Stable.ite | apply And.intro | intro _ | (simp only [Stable, zd_, i64S, prS, yo_, zn_, sndS, evS, sr, csl, ssl, y2_, nilS]; done)))) : P := h
theorem k69_ {P : Prop} (h : P := by (repeat' (first | exact trivial | exact rfl | assumption | apply Stable.ite | apply And.intro | intro _ | (simp only [Stable, zd_, i64S, prS, yo_, zn_, sndS, evS, sr]; done)))) : P := h
theorem yz_ {P : Prop} (h : P := by (repeat' (first | exact trivial | exact rfl | assumption | apply Stable.ite | apply And.intro | intro _ | (simp only [Stable, zd_, i64S, prS, yo_, zn_, sndS, stS, evS, macS]; done)))) : P := h
theorem k71_ {P : Prop} (h : P := by (simp only [push_cast, ↓JP, Nat.reduceAdd, Nat.reduceEqDiff, Nat.reduceLT, Nat.reduceMul, Nat.reduceLeDiff, reduceCtorEq, reduceIte, ↓JK]; rfl)) : P := h
theorem k72_ {P : Prop} (h : P := by (simp only [push_cast, ↓JP, Nat.reduceAdd, Nat.reduceEqDiff, Nat.reduceLT, Nat.reduceMul, Nat.reduceLeDiff, reduceCtorEq, reduceIte, ↓JK, h0, h256]; rfl)) : P := h
theorem k73_ {P : Prop} (h : P := by (first | exact True.intro | ((try simp only [JS, implies_true, forall_const, z9_, z2_, kndOf, inR, inN]); (first | first | omega | assumption | (repeat' (first | assumption | exact True.intro | omega | apply And.intro))); done))) : P := h
theorem k74_ {P : Prop} (h : P := by (simp only [push_cast, ↓JP, Nat.reduceAdd, Nat.reduceEqDiff, Nat.reduceLT, Nat.reduceMul, Nat.reduceLeDiff, reduceCtorEq, reduceIte, ↓JK, evm_in1, cRCk, sROne, sRTarg, sRGoes, hkl, hx, he, ht, hv, inR, inN]; rfl)) : P := h
theorem k75_ {P : Prop} (h : P := by (simp only [push_cast, ↓JP, Nat.reduceAdd, Nat.reduceEqDiff, Nat.reduceLT, Nat.reduceMul, Nat.reduceLeDiff, reduceCtorEq, reduceIte, ↓JK, evm_in1, cRCk, sROne, sRTarg, sRGoes, hkl, hx, hg, hlm, inR, inN]; rfl)) : P := h
theorem k76_ {P : Prop} (h : P := by (first | exact True.intro | ((try simp only [JS, implies_true, forall_const, z9_, z2_, kndOf, inN]); (repeat' (first | assumption | exact True.intro | omega | apply And.intro)); done))) : P := h
theorem k77_ {P : Prop} (h : P := by (first | exact True.intro | ((try simp only [lsI_raw]); (repeat' (first | exact True.intro | apply And.intro | rfl | omega | assumption | decide | (exact fun q hq => rfl) | intro _)); done) | ((try simp only [JS, implies_true, forall_const, z9_, z2_, kndOf]); (repeat' (first | assumption | exact True.intro | omega | apply And.intro)); done))) : P := h
theorem k78_ {P : Prop} (h : P := by (simp only [push_cast, ↓JP, Nat.reduceAdd, Nat.reduceEqDiff, Nat.reduceLT, Nat.reduceMul, Nat.reduceLeDiff, reduceCtorEq, reduceIte, ↓JK, cRt, lsI_raw, Int.cast_ofNat_Int, (eq_true h0), h1, h2, h3, h4, h5, h6, h7, h8, h9, h10, h11]; rfl)) : P := h
theorem k79_ {P : Prop} (h : P := by (first | exact True.intro | ((try simp only [JS, implies_true, forall_const, z9_, z2_, kndOf, inR]); (repeat' (first | assumption | exact True.intro | omega | apply And.intro)); done))) : P := h
theorem k80_ {P : Prop} (h : P := by (simp only [push_cast, ↓JP, Nat.reduceAdd, Nat.reduceEqDiff, Nat.reduceLT, Nat.reduceMul, Nat.reduceLeDiff, reduceCtorEq, reduceIte, ↓JK, JM, inR]; rfl)) : P := h
theorem k81_ {P : Prop} (h : P := by (simp only [push_cast, ↓JP, Nat.reduceAdd, Nat.reduceEqDiff, Nat.reduceLT, Nat.reduceMul, Nat.reduceLeDiff, reduceCtorEq, reduceIte, ↓JK, JM, inR, inN, Bool.cond_decide]; rfl)) : P := h
end Go.Proofs.YtjliakjbdcplcaaGreat.Vm
end
section
open Go.Proofs.YtjliakjbdcplcaaGreat.Vm Go.RowKit
attribute [local push_cast] prS zn_ i64S nav_ins xz_ xy_ xx_ xw_ xv_ nav_snd xu_ xt_ xs_ z4_ yh_ yn_ yg_ zw_ zy_ iOf
section
namespace Go.Proofs.YtjliakjbdcplcaaGreat.Vm
open Go.RowKit
theorem evm_in1 (i : Ins) (a : Bool → SV → Option (Prop × SV)) (b : SV → Option (Prop × SV)) (c : Unit → Option (Prop × SV)) : ev.match_1 (fun _ => Option (Prop × SV)) (some (yo_ i)) a b c = b (yo_ i) := rfl
def cRG : FuncId → Option yq_ := y3_ [(116, sROne)]
theorem cRG_ok : ∀ f S, cRG f = some S → zj_ Tryz.prog f S := zp_ ⟨sROne_ok, trivial⟩
theorem rgoes_lit (i : Ins) (hi : i.ok) : zo_ Tryz.prog 118 [yo_ i] [.gone] (.bool (goesB i)) [.gone] := by
 by_cases he : oneE i = 0 <;> by_cases h1 : i.op = 1 <;> by_cases h2 : i.op = 2 <;> by_cases h9 : i.op = 9
 all_goals
  refine ze_ (fn := Tryz.f118) 1 21 0 rfl rfl rfl rfl rfl u6_ rfl fun w0 M E hro => ?_
  repeat' (first | refine Ctl.h ?_ | ((with_reducible intro hif); first | (focus (cases hif; done)) | ((try simp only [JH] at hif); try (exfalso; omega))) | ((with_reducible first | apply J22 cRG_ok za_ | apply J23 fol cRG_ok za_ | apply J24); (·rfl); (· (simp only [push_cast, ↓JP, Nat.reduceAdd, Nat.reduceEqDiff, Nat.reduceLT, Nat.reduceMul, Nat.reduceLeDiff, reduceCtorEq, reduceIte, ↓JK, evm_in1, cRG, sROne, he, h1, h2, h9]; rfl)); (try kernel_rfl); (try (focus (first | exact True.intro | ((try simp only [JS, implies_true, forall_const, z9_, z2_, kndOf]); (first | assumption | (repeat' (first | assumption | exact True.intro | omega | apply And.intro))); done))))) | fail)
 all_goals
  apply At.endsRet za_ (fn := Tryz.f118) (rs := [.tmp 2]) Anc.refl hro (lb_ rfl) rfl
  ·exact yi_
  ·exact yl_
  ·exact k6_
  ·rfl
  ·exact xb_
  ·exact zs_
  ·(intro β; simp [resS, SV.den, goesB, he, h1, h2, h9])
  ·exact xb_
def sRGoes : yq_ := fun args h m => match args with
 | [v1] => bif isIns v1 then some (((zl_ v1).ok), .bool (goesB (zl_ v1)), [], []) else none
 | _ => none
theorem sRGoes_ok : zj_ Tryz.prog 118 sRGoes := by
 refine ⟨zf_ (by kernel_rfl), fun args h m c v rd wr hs hm hc w0 M β h' w R hrd hwr hst => ?_⟩
 unfold sRGoes at hs
 split at hs
 ·rename_i v1
  obtain ⟨hb, hs⟩ := zk_ hs
  simp only [Option.some.injEq, Prod.mk.injEq] at hs
  obtain ⟨rfl, rfl, rfl, rfl⟩ := hs
  have b1 := hb
  have y1 := hc
  refine yf_ (views := []) (rgoes_lit (zl_ v1) y1) ?_ R hm hwr ?_ ?_ ?_
  ·intro x hx; cases hx
  ·intro β1 hv
   simp only [denL, z7_, z6_, z5_, zr_, zb_, den_insOf b1, den_insS]
  ·exact xb_
  ·exact xb_
 ·cases hs
theorem targB_of {i : Ins} (he : oneE i = 0) : targB i = decide (9 ≤ i.op ∧ i.op ≤ 11) := by
 unfold targB
 rw [he, Bool.eq_iff_iff]
 simp
 omega
theorem targB_no {i : Ins} (he : oneE i ≠ 0) : targB i = false := by
 unfold targB
 simp [he]
theorem rtarg_lit (i : Ins) (hi : i.ok) : zo_ Tryz.prog 117 [yo_ i] [.gone] (.tup [.int .i64 (targV i), .bool (targB i)]) [.gone] := by
 by_cases he : oneE i = 0 <;> by_cases h1 : i.op < 9 <;> by_cases h2 : 11 < i.op
 all_goals
  refine ze_ (fn := Tryz.f117) 1 19 0 rfl rfl rfl rfl rfl u6_ rfl fun w0 M E hro => ?_
  repeat' (first | refine Ctl.h ?_ | ((with_reducible intro hif); first | (focus (cases hif; done)) | ((try simp only [JH] at hif); try (exfalso; omega))) | ((with_reducible first | apply J22 cRG_ok za_ | apply J23 fol cRG_ok za_ | apply J24); (·rfl); (· (simp only [push_cast, ↓JP, Nat.reduceAdd, Nat.reduceEqDiff, Nat.reduceLT, Nat.reduceMul, Nat.reduceLeDiff, reduceCtorEq, reduceIte, ↓JK, evm_in1, cRG, sROne, he, h1, h2, inR, inN]; rfl)); (try kernel_rfl); (try (focus (first | exact True.intro | ((try simp only [JS, implies_true, forall_const, z9_, z2_, kndOf, inR, inN]); (first | assumption | (repeat' (first | assumption | exact True.intro | omega | apply And.intro))); done))))) | fail)
 all_goals
  apply At.endsRet za_ (fn := Tryz.f117) (rs := [.tmp 2, .tmp 3]) Anc.refl hro (lb_ rfl) rfl
  ·exact yi_
  ·exact yl_
  ·exact k6_
  ·rfl
  ·exact xb_
  ·exact zs_
  ·(intro β; first | (have e : targB i = false := (by first | exact targB_no he | (rw [targB_of he]; exact decide_eq_false (by omega))); simp only [resS, SV.den, denL, targV, e]; rfl) | (have e : targB i = true := (by rw [targB_of he]; exact decide_eq_true (by omega)); simp only [resS, SV.den, denL, targV, e]; rfl))
  ·exact xb_
def sRTarg : yq_ := fun args h m => match args with
 | [v1] => bif isIns v1 then some (((zl_ v1).ok), .tup [.int .i64 (targV (zl_ v1)), .bool (targB (zl_ v1))], [], []) else none
 | _ => none
theorem sRTarg_ok : zj_ Tryz.prog 117 sRTarg := by
 refine ⟨zf_ (by kernel_rfl), fun args h m c v rd wr hs hm hc w0 M β h' w R hrd hwr hst => ?_⟩
 unfold sRTarg at hs
 split at hs
 ·rename_i v1
  obtain ⟨hb, hs⟩ := zk_ hs
  simp only [Option.some.injEq, Prod.mk.injEq] at hs
  obtain ⟨rfl, rfl, rfl, rfl⟩ := hs
  have b1 := hb
  have y1 := hc
  refine yf_ (views := []) (rtarg_lit (zl_ v1) y1) ?_ R hm hwr ?_ ?_ ?_
  ·intro x hx; cases hx
  ·intro β1 hv
   simp only [denL, z7_, z6_, z5_, zr_, zb_, den_insOf b1, den_insS]
  ·exact xb_
  ·exact xb_
 ·cases hs
def cRCk : FuncId → Option yq_ := y3_ [(116, sROne), (117, sRTarg), (118, sRGoes)]
theorem cRCk_ok : ∀ f S, cRCk f = some S → zj_ Tryz.prog f S := zp_ ⟨sROne_ok, sRTarg_ok, sRGoes_ok, trivial⟩
theorem rcheck_lit (P : List Ins) (p1 : Nat) (hok : ∀ x ∈ P, x.ok) : zo_ Tryz.prog 85 [.sl 1 2 [] 5 0 P.length (some p1)] [.gone, .gone, .ro (.arr P.length 5 (prS P))] (.tup [.int .i64 (checkI P).1, .int .i64 (checkI P).2]) [.gone] := by
 have hgo : ∀ j, j < P.length → ∃ x, P.getD j ⟨0, 0, 0, 0, 0⟩ = x ∧ P[j]? = some x ∧ x.ok := fun j hj => ⟨P[j], by rw [List.getD_eq_getElem?_getD, List.getElem?_eq_getElem hj]; rfl, List.getElem?_eq_getElem hj, hok _ (List.getElem_mem _)⟩
 by_cases h0 : P.length = 0
 ·obtain rfl := List.eq_nil_of_length_eq_zero h0
  have e : checkI [] = (-1, 6) := rfl
  rw [e]
  refine ze_ (fn := Tryz.f85) 3 55 0 rfl rfl rfl rfl rfl u6_ rfl fun w0 M E hro => ?_
  repeat' (first | refine Ctl.h ?_ | ((with_reducible intro hif); first | (focus (cases hif; done)) | ((try simp only [JH] at hif); try (exfalso; omega))) | ((with_reducible first | apply J22 cRCk_ok za_ | apply J23 fol cRCk_ok za_ | apply J24); (·rfl); (· exact k71_); (try kernel_rfl); try exact yk_) | fail)
  apply At.endsRet za_ (fn := Tryz.f85) (rs := [.tmp 2, .tmp 3]) Anc.refl hro (lb_ rfl) rfl
  ·exact yi_
  ·exact yl_
  ·exact k6_
  ·rfl
  ·exact xb_
  ·exact zs_
  ·exact fun β => rfl
  ·exact xb_
 by_cases h256 : 256 < P.length
 ·have e : checkI P = (-1, 5) := by unfold checkI; rw [if_neg h0, if_pos h256]
  rw [e]
  refine ze_ (fn := Tryz.f85) 3 55 0 rfl rfl rfl rfl rfl u6_ rfl fun w0 M E hro => ?_
  repeat' (first | refine Ctl.h ?_ | ((with_reducible intro hif); first | (focus (cases hif; done)) | ((try simp only [JH] at hif); try (exfalso; omega))) | ((with_reducible first | apply J22 cRCk_ok za_ | apply J23 fol cRCk_ok za_ | apply J24); (·rfl); (· exact k72_); (try kernel_rfl); try exact yk_) | fail)
  apply At.endsRet za_ (fn := Tryz.f85) (rs := [.tmp 2, .tmp 3]) Anc.refl hro (lb_ rfl) rfl
  ·exact yi_
  ·exact yl_
  ·exact k6_
  ·rfl
  ·exact xb_
  ·exact zs_
  ·exact fun β => rfl
  ·exact xb_
 have eC : checkI P = checkK P := by unfold checkI; rw [if_neg h0, if_neg h256]
 rw [eC]
 refine ze_ (fn := Tryz.f85) 3 55 0 rfl rfl rfl rfl rfl u6_ rfl fun w0 M E hro => ?_
 repeat' (first | refine Ctl.h ?_ | ((with_reducible intro hif); first | (focus (cases hif; done)) | ((try simp only [JH] at hif); try (exfalso; omega))) | ((with_reducible first | apply J22 cRCk_ok za_ | apply J23 fol cRCk_ok za_ | apply J24); (·rfl); (· exact k72_); (try kernel_rfl); try exact yk_) | fail)
 refine WF.loopAt (fun (k : Nat) => k ≤ P.length ∧ ∀ i, i < k → ∀ y, P[i]? = some y → badAt P.length y = 0) (fun (k : Nat) => [(0, .sl 1 2 [] 5 0 P.length (some p1)), (4, .nat .i64 k)]) (fun (k : Nat) => [.gone, .gone, .ro (.arr P.length 5 (prS P))]) (fun (k : Nat) => P.length - k) 0 ⟨Nat.zero_le _, fun i hi => absurd hi (Nat.not_lt_zero i)⟩ ?_ ?_ rfl ?_ ?_ rfl ?_
 ·exact k5_
 ·exact k6_
 ·exact xb_
 ·exact xb_
 rintro k ⟨hk, hB⟩
 by_cases hkl : k < P.length
 ·obtain ⟨x, hx, hx2, hxo⟩ := hgo k hkl
  by_cases he : oneE x = 0
  ·by_cases ht : targB x = true
   ·by_cases hv : (P.length : Int) ≤ targV x
    ·have eb : badAt P.length x = 142 := by unfold badAt; rw [if_neg (fun h => h he), if_pos ⟨ht, hv⟩]
     have e := checkK_bad hB hx2 eb (by decide)
     rw [e]
     repeat' (first | refine Ctl.h ?_ | ((with_reducible intro hif); first | (focus (cases hif; done)) | ((try simp only [JH] at hif); try (exfalso; omega))) | ((with_reducible first | apply J22 cRCk_ok za_ | apply J23 fol cRCk_ok za_ | apply J24); (·rfl); (· exact k74_); (try kernel_rfl); try exact k73_) | fail)
     apply At.endsRet za_ (fn := Tryz.f85) (rs := [.tmp 2, .tmp 3]) Anc.refl hro (lb_ rfl) rfl
     ·exact yi_
     ·exact yl_
     ·exact k6_
     ·rfl
     ·exact xb_
     ·exact zs_
     ·exact fun β => rfl
     ·exact xb_
    ·have eb : badAt P.length x = 0 := by unfold badAt; rw [if_neg (fun h => h he), if_neg (fun h => hv h.2)]
     repeat' (first | refine Ctl.h ?_ | ((with_reducible intro hif); first | (focus (cases hif; done)) | ((try simp only [JH] at hif); try (exfalso; omega))) | ((with_reducible first | apply J22 cRCk_ok za_ | apply J23 fol cRCk_ok za_ | apply J24); (·rfl); (· exact k74_); (try kernel_rfl); try exact k73_) | fail)
     refine At.next (k + 1) ?_ ?_ ?_ rfl ?_ ?_ rfl
     ·exact k67_
     ·exact k5_
     ·exact k6_
     ·exact xb_
     ·exact xb_
   ·have eb : badAt P.length x = 0 := by unfold badAt; rw [if_neg (fun h => h he), if_neg (fun h => ht h.1)]
    repeat' (first | refine Ctl.h ?_ | ((with_reducible intro hif); first | (focus (cases hif; done)) | ((try simp only [JH] at hif); try (exfalso; omega))) | ((with_reducible first | apply J22 cRCk_ok za_ | apply J23 fol cRCk_ok za_ | apply J24); (·rfl); (· (simp only [push_cast, ↓JP, Nat.reduceAdd, Nat.reduceEqDiff, Nat.reduceLT, Nat.reduceMul, Nat.reduceLeDiff, reduceCtorEq, reduceIte, ↓JK, evm_in1, cRCk, sROne, sRTarg, sRGoes, hkl, hx, he, ht, inR, inN]; rfl)); (try kernel_rfl); try exact k73_) | fail)
    refine At.next (k + 1) ?_ ?_ ?_ rfl ?_ ?_ rfl
    ·exact k67_
    ·exact k5_
    ·exact k6_
    ·exact xb_
    ·exact xb_
  ·have eb : badAt P.length x = oneE x := if_pos he
   have e := checkK_bad hB hx2 eb he
   rw [e]
   repeat' (first | refine Ctl.h ?_ | ((with_reducible intro hif); first | (focus (cases hif; done)) | ((try simp only [JH] at hif); try (exfalso; omega))) | ((with_reducible first | apply J22 cRCk_ok za_ | apply J23 fol cRCk_ok za_ | apply J24); (·rfl); (· (simp only [push_cast, ↓JP, Nat.reduceAdd, Nat.reduceEqDiff, Nat.reduceLT, Nat.reduceMul, Nat.reduceLeDiff, reduceCtorEq, reduceIte, ↓JK, evm_in1, cRCk, sROne, sRTarg, sRGoes, hkl, hx, he, inR, inN]; rfl)); (try kernel_rfl); try exact k73_) | fail)
   apply At.endsRet za_ (fn := Tryz.f85) (rs := [.tmp 2, .tmp 3]) Anc.refl hro (lb_ rfl) rfl
   ·exact yi_
   ·exact yl_
   ·exact k6_
   ·rfl
   ·exact xb_
   ·exact zs_
   ·exact fun β => rfl
   ·exact xb_
 ·obtain rfl : k = P.length := by omega
  have e := checkK_none (p := P) (fun i hi y hy => hB i hi y hy)
  obtain ⟨x, hx, hx2, hxo⟩ := hgo (P.length - 1) (by omega)
  rw [e, hx]
  have hlm : ((P.length : Int) - 1).toNat = P.length - 1 := by omega
  by_cases hg : goesB x = true
  ·rw [if_pos hg]
   repeat' (first | refine Ctl.h ?_ | ((with_reducible intro hif); first | (focus (cases hif; done)) | ((try simp only [JH] at hif); try (exfalso; omega))) | ((with_reducible first | apply J22 cRCk_ok za_ | apply J23 fol cRCk_ok za_ | apply J24); (·rfl); (· exact k75_); (try kernel_rfl); try exact k73_) | fail)
   apply At.endsRet za_ (fn := Tryz.f85) (rs := [.tmp 2, .tmp 3]) Anc.refl hro (lb_ rfl) rfl
   ·exact yi_
   ·exact yl_
   ·exact k6_
   ·rfl
   ·exact xb_
   ·exact zs_
   ·exact fun β => rfl
   ·exact xb_
  ·rw [if_neg hg]
   repeat' (first | refine Ctl.h ?_ | ((with_reducible intro hif); first | (focus (cases hif; done)) | ((try simp only [JH] at hif); try (exfalso; omega))) | ((with_reducible first | apply J22 cRCk_ok za_ | apply J23 fol cRCk_ok za_ | apply J24); (·rfl); (· exact k75_); (try kernel_rfl); try exact k73_) | fail)
   apply At.endsRet za_ (fn := Tryz.f85) (rs := [.tmp 2, .tmp 3]) Anc.refl hro (lb_ rfl) rfl
   ·exact yi_
   ·exact yl_
   ·exact k6_
   ·rfl
   ·exact xb_
   ·exact zs_
   ·exact fun β => rfl
   ·exact xb_
def sRCheck : yq_ := fun args h m => match args with
 | [v1] => match xa_ h 5 (.tup []) v1 with
  | some (c1, n1, f1, r1) => some (c1 ∧ (∀ q, q < n1 → isIns (f1 q) = true) ∧ ((∀ x ∈ (ls zl_ n1 f1), x.ok)), .tup [.int .i64 (checkI (ls zl_ n1 f1)).1, .int .i64 (checkI (ls zl_ n1 f1)).2], r1, [])
  | _ => none
 | _ => none
theorem sRCheck_ok : zj_ Tryz.prog 85 sRCheck := by
 refine ⟨zf_ (by kernel_rfl), fun args h m c v rd wr hs hm hc w0 M β h' w R hrd hwr hst => ?_⟩
 unfold sRCheck at hs
 split at hs
 ·rename_i v1
  split at hs
  ·rename_i c1 n1 f1 r1 a1
   simp only [Option.some.injEq, Prod.mk.injEq] at hs
   obtain ⟨rfl, rfl, rfl, rfl⟩ := hs
   obtain ⟨k1, g1, y1⟩ := hc
   obtain ⟨A1, p1, d1, e1, t1⟩ := zg_ R a1 k1 (fun i hi => hrd i hi) (by omega)
   refine yf_ (views := [⟨5, (ls zl_ n1 f1).length, prS (ls zl_ n1 f1), A1, p1⟩]) (rcheck_lit (ls zl_ n1 f1) p1 y1) ?_ R hm hwr ?_ ?_ ?_
   ·intro x hx
    simp only [List.mem_cons, List.not_mem_nil, or_false] at hx
    subst hx
    ·exact xn_ t1 e1 g1
   ·intro β1 hv
    simp only [Vd, zb_, and_true] at hv
    have z1 := hv
    simp only [denL, z7_, z6_, z5_, zr_, zb_, z1, d1]
   ·exact xb_
   ·exact xb_
  ·cases hs
 ·cases hs
def regsB (r q : Nat → Int) : Bool := r 0 == q 0 && (r 1 == q 1 && (r 2 == q 2 && (r 3 == q 3 && (r 4 == q 4 && (r 5 == q 5 && (r 6 == q 6 && r 7 == q 7))))))
def sameB (a b : Sta) : Bool := a.at_ == b.at_ && (a.ended == b.ended && (regsB a.regs b.regs && (a.cells == b.cells && (a.draws == b.draws && decide (a.sends = b.sends)))))
def cR18 : FuncId → Option yq_ := y3_ []
theorem cR18_ok : ∀ f S, cR18 f = some S → zj_ Tryz.prog f S := fun f S h => by cases h
theorem regsB_iff {f g : Nat → Int} : regsB f g = true ↔ f 0 = g 0 ∧ f 1 = g 1 ∧ f 2 = g 2 ∧ f 3 = g 3 ∧ f 4 = g 4 ∧ f 5 = g 5 ∧ f 6 = g 6 ∧ f 7 = g 7 := by
 unfold regsB
 simp
theorem rsame_lit (s t : Sta) (p1 p2 p3 p4 : Nat) (hm : s.cells.length ≤ 1000000) (hn : s.sends.length ≤ 1000000) : zo_ Tryz.prog 41
    [.agg [.int .i64 s.at_, .bool s.ended, .arr 8 1 (fun q => .int .i64 (s.regs q)), .sl 1 2 [] 1 0 s.cells.length (some p1), .int .i64 s.draws, .sl 3 4 [] 3 0 s.sends.length (some p2)],
     .agg [.int .i64 t.at_, .bool t.ended, .arr 8 1 (fun q => .int .i64 (t.regs q)), .sl 5 6 [] 1 0 t.cells.length (some p3), .int .i64 t.draws, .sl 7 8 [] 3 0 t.sends.length (some p4)]]
    [.gone, .gone, .ro (.arr s.cells.length 1 (i64S s.cells)), .gone, .ro (.arr s.sends.length 3 (zn_ s.sends)), .gone, .ro (.arr t.cells.length 1 (i64S t.cells)), .gone, .ro (.arr t.sends.length 3 (zn_ t.sends))] (.bool (sameB s t)) [.gone] := by
  refine ze_ (fn := Tryz.f41) 9 87 0 rfl rfl rfl rfl rfl u7_ rfl fun w0 M E hro => ?_
  obtain ⟨a, e, r, c, d, x⟩ := s
  obtain ⟨a', e', r', c', d', x'⟩ := t
  dsimp only at hm hn hro ⊢
  by_cases H : a = a' ∧ e = e' ∧ regsB r r' = true ∧ d = d' ∧ c.length = c'.length ∧ x.length = x'.length
  · obtain ⟨h1, h2, h3, h4, h5, h6⟩ := H
    obtain ⟨r0, r1, r2, r3, r4, r5, r6, r7⟩ := regsB_iff.1 h3
    subst h1 h2 h4
    rw [h5, h6] at hro
    have hsame : ∀ b, (b = true ↔ c = c' ∧ x = x') → b = sameB ⟨a, e, r, c, d, x⟩ ⟨a, e, r', c', d, x'⟩ := fun b hb => by
      rw [Bool.eq_iff_iff, hb]
      simp [sameB, h3]
    repeat' (first | refine Ctl.h ?_ | ((with_reducible intro hif); first | (focus (cases hif; done)) | ((try simp only [JH] at hif); try (exfalso; omega))) | ((with_reducible first | apply J22 cR18_ok za_ | apply J23 fol cR18_ok za_ | apply J24); (·rfl); (· (simp only [push_cast, ↓JP, Nat.reduceAdd, Nat.reduceEqDiff, Nat.reduceLT, Nat.reduceMul, Nat.reduceLeDiff, reduceCtorEq, reduceIte, ↓JK, h5, h6, r0, r1, r2, r3, r4, r5, r6, r7, eq_self]; rfl)); (try kernel_rfl); try exact yk_) | fail)
    refine WF.loopAt (fun j => j ≤ c'.length ∧ ∀ q, q < j → c.getD q 0 = c'.getD q 0) (fun j => [(2, .ptr 9 []), (3, .ptr 10 []), (5, .nat .i64 j)]) (fun j => [.gone, .gone, .ro (.arr c'.length 1 (i64S c)), .gone, .ro (.arr x'.length 3 (zn_ x)), .gone, .ro (.arr c'.length 1 (i64S c')), .gone, .ro (.arr x'.length 3 (zn_ x')), .own 105 (.agg [.int .i64 a, .bool e, .arr 8 1 (fun q => .int .i64 (r q)), .sl 1 2 [] 1 0 c'.length (some p1), .int .i64 d, .sl 3 4 [] 3 0 x'.length (some p2)]) true, .own 105 (.agg [.int .i64 a, .bool e, .arr 8 1 (fun q => .int .i64 (r' q)), .sl 5 6 [] 1 0 c'.length (some p3), .int .i64 d, .sl 7 8 [] 3 0 x'.length (some p4)]) true]) (fun j => c'.length - j) 0 ⟨Nat.zero_le _, fun q hq => absurd hq (Nat.not_lt_zero q)⟩ ?_ ?_ rfl ?_ ?_ rfl ?_
    · exact k5_
    · exact k6_
    · exact xb_
    · exact xb_
    rintro j ⟨hj, heq⟩
    repeat' (first | refine Ctl.h ?_ | ((with_reducible intro hif); first | (focus (cases hif; done)) | ((try simp only [JH] at hif); try (exfalso; omega))) | ((with_reducible first | apply J22 cR18_ok za_ | apply J23 fol cR18_ok za_ | apply J24); (·rfl); (· (simp only [push_cast, ↓JP, Nat.reduceAdd, Nat.reduceEqDiff, Nat.reduceLT, Nat.reduceMul, Nat.reduceLeDiff, reduceCtorEq, reduceIte, ↓JK, h5, h6, r0, r1, r2, r3, r4, r5, r6, r7, eq_self, inN]; rfl)); (try kernel_rfl); try exact k76_) | fail)
    · have hne : c ≠ c' := fun e => hif (by rw [e])
      apply At.endsRet za_ (fn := Tryz.f41) (rs := [.tmp 4]) Anc.refl hro (lb_ rfl) rfl
      · exact yi_
      · exact yl_
      · exact k6_
      · rfl
      · exact xb_
      · exact zs_
      · rw [← hsame false (by simp [hne])]; exact fun β => rfl
      · exact xb_
    · have hjl : j < c'.length := by assumption
      refine At.next (j + 1) ?_ ?_ ?_ rfl ?_ ?_ rfl
      · refine ⟨⟨by omega, fun q hq' => ?_⟩, by omega⟩; by_cases e : q = j; (rw [e]; exact hif); exact heq q (by omega)
      · exact k5_
      · exact k6_
      · exact xb_
      · exact xb_
    · have hjn : j = c'.length := by omega
      have hcc : c = c' := ext_getD 0 h5 (fun q hq => heq q (by omega))
      refine WF.loopAt (fun k => k ≤ x'.length ∧ ∀ q, q < k → x.getD q ⟨0, 0, 0⟩ = x'.getD q ⟨0, 0, 0⟩) (fun k => [(2, .ptr 9 []), (3, .ptr 10 []), (6, .nat .i64 k)]) (fun k => [.gone, .gone, .ro (.arr c'.length 1 (i64S c)), .gone, .ro (.arr x'.length 3 (zn_ x)), .gone, .ro (.arr c'.length 1 (i64S c')), .gone, .ro (.arr x'.length 3 (zn_ x')), .own 105 (.agg [.int .i64 a, .bool e, .arr 8 1 (fun q => .int .i64 (r q)), .sl 1 2 [] 1 0 c'.length (some p1), .int .i64 d, .sl 3 4 [] 3 0 x'.length (some p2)]) true, .own 105 (.agg [.int .i64 a, .bool e, .arr 8 1 (fun q => .int .i64 (r' q)), .sl 5 6 [] 1 0 c'.length (some p3), .int .i64 d, .sl 7 8 [] 3 0 x'.length (some p4)]) true]) (fun k => x'.length - k) 0 ⟨Nat.zero_le _, fun q hq => absurd hq (Nat.not_lt_zero q)⟩ ?_ ?_ rfl ?_ ?_ rfl ?_
      · exact k5_
      · exact k6_
      · exact xb_
      · exact xb_
      rintro k ⟨hk, hxq⟩
      repeat' (first | refine Ctl.h ?_ | ((with_reducible intro hif); first | (focus (cases hif; done)) | ((try simp only [JH] at hif); try (exfalso; omega))) | ((with_reducible first | apply J22 cR18_ok za_ | apply J23 fol cR18_ok za_ | apply J24); (·rfl); (· (simp only [push_cast, ↓JP, Nat.reduceAdd, Nat.reduceEqDiff, Nat.reduceLT, Nat.reduceMul, Nat.reduceLeDiff, reduceCtorEq, reduceIte, ↓JK, h5, h6, r0, r1, r2, r3, r4, r5, r6, r7, eq_self, inN, sndS]; rfl)); (try kernel_rfl); try exact k76_) | fail)
      · have hne : x ≠ x' := by
          rintro rfl
          simp at hif
        apply At.endsRet za_ (fn := Tryz.f41) (rs := [.tmp 4]) Anc.refl hro (lb_ rfl) rfl
        · exact yi_
        · exact yl_
        · exact k6_
        · rfl
        · exact xb_
        · exact zs_
        · rw [← hsame false (by simp [hne])]; exact fun β => rfl
        · exact xb_
      · have hq : x.getD k ⟨0, 0, 0⟩ = x'.getD k ⟨0, 0, 0⟩ := snd_ext (of_decide_eq_true hif.1) (of_decide_eq_true hif.2.1) (of_decide_eq_true hif.2.2)
        have hkl : k < x'.length := by assumption
        refine At.next (k + 1) ?_ ?_ ?_ rfl ?_ ?_ rfl
        · refine ⟨⟨by omega, fun q hq' => ?_⟩, by omega⟩; by_cases e : q = k; (rw [e]; exact hq); exact hxq q (by omega)
        · exact k5_
        · exact k6_
        · exact xb_
        · exact xb_
      · have hkn : k = x'.length := by omega
        have hxx : x = x' := ext_getD ⟨0, 0, 0⟩ h6 (fun q hq => hxq q (by omega))
        apply At.endsRet za_ (fn := Tryz.f41) (rs := [.tmp 4]) Anc.refl hro (lb_ rfl) rfl
        · exact yi_
        · exact yl_
        · exact k6_
        · rfl
        · exact xb_
        · exact zs_
        · rw [← hsame true (by simp [hcc, hxx])]; exact fun β => rfl
        · exact xb_
  · have hF : sameB ⟨a, e, r, c, d, x⟩ ⟨a', e', r', c', d', x'⟩ = false := by
      rw [Bool.eq_false_iff]
      intro hs
      simp only [sameB, Bool.and_eq_true, beq_iff_eq, decide_eq_true_eq] at hs
      obtain ⟨q1, q2, q3, q4, q5, q6⟩ := hs
      exact H ⟨q1, q2, q3, q5, by rw [q4], by rw [q6]⟩
    rw [hF]
    repeat' (first | refine Ctl.h ?_ | ((with_reducible intro hif); first | (focus (cases hif; done)) | ((try simp only [JH] at hif); try (exfalso; omega))) | ((with_reducible first | apply J22 cR18_ok za_ | apply J23 fol cR18_ok za_ | apply J24); (·rfl); (· (simp only [push_cast, ↓JP, Nat.reduceAdd, Nat.reduceEqDiff, Nat.reduceLT, Nat.reduceMul, Nat.reduceLeDiff, reduceCtorEq, reduceIte, ↓JK, eq_self]; rfl)); (try kernel_rfl); try exact yk_) | fail)
    · apply At.endsRet za_ (fn := Tryz.f41) (rs := [.tmp 4]) Anc.refl hro (lb_ rfl) rfl
      · exact yi_
      · exact yl_
      · exact k6_
      · rfl
      · exact xb_
      · exact zs_
      · exact fun β => rfl
      · exact xb_
    · exfalso
      apply H
      have e0 := hif
      simp only [Bool.or_eq_false_iff, Bool.not_eq_false', decide_eq_true_eq, Bool.and_eq_true] at e0
      obtain ⟨⟨⟨⟨⟨q1, q2⟩, ⟨⟨⟨⟨⟨⟨⟨u0, u1⟩, u2⟩, u3⟩, u4⟩, u5⟩, u6⟩, u7⟩⟩, q4⟩, q5⟩, q6⟩ := e0
      exact ⟨q1, eq_of_beq q2, regsB_iff.2 ⟨of_decide_eq_true u0, of_decide_eq_true u1, of_decide_eq_true u2, of_decide_eq_true u3, of_decide_eq_true u4, of_decide_eq_true u5, of_decide_eq_true u6, of_decide_eq_true u7⟩, q4, q5, q6⟩
def sRSame : yq_ := fun args h m => match args with
 | [.agg [v1, .bool v2, .arr 8 1 v3, v4, v5, v6], .agg [v7, .bool v8, .arr 8 1 v9, v10, v11, v12]] => match xa_ h 1 (.tup []) v4, xa_ h 3 (.tup []) v6, xa_ h 1 (.tup []) v10, xa_ h 3 (.tup []) v12 with
  | some (c4, n4, f4, r4), some (c6, n6, f6, r6), some (c10, n10, f10, r10), some (c12, n12, f12, r12) => bif isI .i64 v1 && isI .i64 v5 && isI .i64 v7 && isI .i64 v11 then some (c4 ∧ c6 ∧ c10 ∧ c12 ∧ (∀ q, q < n4 → isI .i64 (f4 q) = true) ∧ (∀ q, q < n6 → isSnd (f6 q) = true) ∧ (∀ q, q < n10 → isI .i64 (f10 q) = true) ∧ (∀ q, q < n12 → isSnd (f12 q) = true) ∧ (∀ q, q < 8 → isI .i64 (v3 q) = true) ∧ (∀ q, q < 8 → isI .i64 (v9 q) = true) ∧ (n4 ≤ 1000000) ∧ (n6 ≤ 1000000), .bool (sameB ⟨(iOf v1), v2, (fun q => iOf (v3 q)), (ls iOf n4 f4), (iOf v5), (ls zv_ n6 f6)⟩ ⟨(iOf v7), v8, (fun q => iOf (v9 q)), (ls iOf n10 f10), (iOf v11), (ls zv_ n12 f12)⟩), r4 ++ r6 ++ r10 ++ r12, []) else none
  | _, _, _, _ => none
 | _ => none
theorem sRSame_ok : zj_ Tryz.prog 41 sRSame := by
 refine ⟨zf_ (by kernel_rfl), fun args h m c v rd wr hs hm hc w0 M β h' w R hrd hwr hst => ?_⟩
 unfold sRSame at hs
 split at hs
 ·rename_i v1 v2 v3 v4 v5 v6 v7 v8 v9 v10 v11 v12
  split at hs
  ·rename_i c4 n4 f4 r4 c6 n6 f6 r6 c10 n10 f10 r10 c12 n12 f12 r12 a4 a6 a10 a12
   obtain ⟨hb, hs⟩ := zk_ hs
   simp only [Option.some.injEq, Prod.mk.injEq] at hs
   obtain ⟨rfl, rfl, rfl, rfl⟩ := hs
   simp only [Bool.and_eq_true] at hb
   obtain ⟨⟨⟨b1, b5⟩, b7⟩, b11⟩ := hb
   obtain ⟨k4, k6, k10, k12, g4, g6, g10, g12, g3, g9, y1, y2⟩ := hc
   obtain ⟨A4, p4, d4, e4, t4⟩ := zg_ R a4 k4 (fun i hi => hrd i (List.mem_append_left _ (List.mem_append_left _ (List.mem_append_left _ hi)))) (by omega)
   obtain ⟨A6, p6, d6, e6, t6⟩ := zg_ R a6 k6 (fun i hi => hrd i (List.mem_append_left _ (List.mem_append_left _ (List.mem_append_right _ hi)))) (by omega)
   obtain ⟨A10, p10, d10, e10, t10⟩ := zg_ R a10 k10 (fun i hi => hrd i (List.mem_append_left _ (List.mem_append_right _ hi))) (by omega)
   obtain ⟨A12, p12, d12, e12, t12⟩ := zg_ R a12 k12 (fun i hi => hrd i (List.mem_append_right _ hi)) (by omega)
   refine yf_ (views := [⟨1, (ls iOf n4 f4).length, i64S (ls iOf n4 f4), A4, p4⟩, ⟨3, (ls zv_ n6 f6).length, zn_ (ls zv_ n6 f6), A6, p6⟩, ⟨1, (ls iOf n10 f10).length, i64S (ls iOf n10 f10), A10, p10⟩, ⟨3, (ls zv_ n12 f12).length, zn_ (ls zv_ n12 f12), A12, p12⟩]) (rsame_lit ⟨(iOf v1), v2, (fun q => iOf (v3 q)), (ls iOf n4 f4), (iOf v5), (ls zv_ n6 f6)⟩ ⟨(iOf v7), v8, (fun q => iOf (v9 q)), (ls iOf n10 f10), (iOf v11), (ls zv_ n12 f12)⟩ p4 p6 p10 p12 (by rw [zb_]; exact y1) (by rw [zb_]; exact y2)) ?_ R hm hwr ?_ ?_ ?_
   ·intro x hx
    simp only [List.mem_cons, List.not_mem_nil, or_false] at hx
    rcases hx with rfl | rfl | rfl | rfl
    ·exact z0_ t4 e4 g4
    ·exact viewSnd t6 e6 g6
    ·exact z0_ t10 e10 g10
    ·exact viewSnd t12 e12 g12
   ·intro β1 hv
    simp only [Vd, zb_, and_true] at hv
    obtain ⟨z4, z6, z10, z12⟩ := hv
    simp only [denL, z7_, z6_, z5_, zr_, zb_, z4, z6, z10, z12, d4, d6, d10, d12, zc_ b1, zc_ b5, zc_ b7, zc_ b11, ← r8Den (β := β) (β1 := β1) g3, ← r8Den (β := β) (β1 := β1) g9]
   ·exact xb_
   ·exact xb_
  ·cases hs
 ·cases hs
theorem den_sr {β β' : Env} {s : Sta} {x y x' y' : SV} {e : Int} (hx : x.den β = x'.den β') (hy : y.den β = y'.den β') : (SV.tup [sr s x y, .int .i64 e]).den β = (SV.tup [sr s x' y', .int .i64 e]).den β' := by
 simp only [sr, SV.den, denL, hx, hy]
theorem stable_sr {h : HM} {s : Sta} {x y : SV} {e : Int} (hx : Stable h x) (hy : Stable h y) : Stable h (.tup [sr s x y, .int .i64 e]) := by
 simp only [sr, Stable, zd_, hx, hy, and_self, implies_true]
def sROneE : yq_ := fun args h m => match args with
 | [.agg [v1, v2, v3, v4, v5], .agg [v6, v7, v8, v9, v10], .agg [v11, .bool v12, .arr 8 1 v13, v14, v15, v16]] => match xa_ h 1 (.tup []) v14, xa_ h 3 (.tup []) v16 with
  | some (c14, n14, f14, r14), some (c16, n16, f16, r16) => bif isI .u8 v1 && isI .u8 v2 && isI .u8 v3 && isI .u8 v4 && isI .i64 v5 && isI .u64 v6 && isI .i64 v7 && isI .i64 v8 && isI .i64 v9 && isI .i64 v10 && isI .i64 v11 && isI .i64 v15 then some (c14 ∧ c16 ∧ (∀ q, q < n14 → isI .i64 (f14 q) = true) ∧ (∀ q, q < n16 → isSnd (f16 q) = true) ∧ (∀ q, q < 8 → isI .i64 (v13 q) = true) ∧ (OOk ⟨(iOf v11), v12, (fun q => iOf (v13 q)), (ls iOf n14 f14), (iOf v15), (ls zv_ n16 f16)⟩ ⟨(iOf v6), (iOf v7), (iOf v8), (iOf v9), (iOf v10)⟩ ⟨(iOf v1), (iOf v2), (iOf v3), (iOf v4), (iOf v5)⟩) ∧ (doE ⟨(iOf v11), v12, (fun q => iOf (v13 q)), (ls iOf n14 f14), (iOf v15), (ls zv_ n16 f16)⟩ ⟨(iOf v6), (iOf v7), (iOf v8), (iOf v9), (iOf v10)⟩ ⟨(iOf v1), (iOf v2), (iOf v3), (iOf v4), (iOf v5)⟩ ≠ 0), .tup [y2_, .int .i64 (doE ⟨(iOf v11), v12, (fun q => iOf (v13 q)), (ls iOf n14 f14), (iOf v15), (ls zv_ n16 f16)⟩ ⟨(iOf v6), (iOf v7), (iOf v8), (iOf v9), (iOf v10)⟩ ⟨(iOf v1), (iOf v2), (iOf v3), (iOf v4), (iOf v5)⟩)], r14 ++ r16, []) else none
  | _, _ => none
 | _ => none
theorem sROneE_ok : zj_ Tryz.prog 86 sROneE := by
 refine ⟨zf_ (by kernel_rfl), fun args h m c v rd wr hs hm hc w0 M β h' w R hrd hwr hst => ?_⟩
 unfold sROneE at hs
 split at hs
 ·rename_i v1 v2 v3 v4 v5 v6 v7 v8 v9 v10 v11 v12 v13 v14 v15 v16
  split at hs
  ·rename_i c14 n14 f14 r14 c16 n16 f16 r16 a14 a16
   obtain ⟨hb, hs⟩ := zk_ hs
   simp only [Option.some.injEq, Prod.mk.injEq] at hs
   obtain ⟨rfl, rfl, rfl, rfl⟩ := hs
   simp only [Bool.and_eq_true] at hb
   obtain ⟨⟨⟨⟨⟨⟨⟨⟨⟨⟨⟨b1, b2⟩, b3⟩, b4⟩, b5⟩, b6⟩, b7⟩, b8⟩, b9⟩, b10⟩, b11⟩, b15⟩ := hb
   obtain ⟨k14, k16, g14, g16, g13, y1, y2⟩ := hc
   obtain ⟨A14, p14, d14, e14, t14⟩ := zg_ R a14 k14 (fun i hi => hrd i (List.mem_append_left _ hi)) (by omega)
   obtain ⟨A16, p16, d16, e16, t16⟩ := zg_ R a16 k16 (fun i hi => hrd i (List.mem_append_right _ hi)) (by omega)
   refine yf_ (views := [⟨1, (ls iOf n14 f14).length, i64S (ls iOf n14 f14), A14, p14⟩, ⟨3, (ls zv_ n16 f16).length, zn_ (ls zv_ n16 f16), A16, p16⟩]) (oneE_lit ⟨(iOf v11), v12, (fun q => iOf (v13 q)), (ls iOf n14 f14), (iOf v15), (ls zv_ n16 f16)⟩ ⟨(iOf v6), (iOf v7), (iOf v8), (iOf v9), (iOf v10)⟩ ⟨(iOf v1), (iOf v2), (iOf v3), (iOf v4), (iOf v5)⟩ p14 p16 y1 y2) ?_ R hm hwr ?_ ?_ ?_
   ·intro x hx
    simp only [List.mem_cons, List.not_mem_nil, or_false] at hx
    rcases hx with rfl | rfl
    ·exact z0_ t14 e14 g14
    ·exact viewSnd t16 e16 g16
   ·intro β1 hv
    simp only [Vd, zb_, and_true] at hv
    obtain ⟨z14, z16⟩ := hv
    simp only [denL, z7_, z6_, z5_, zr_, zb_, yo_, evS, sr, csl, ssl, z14, z16, d14, d16, zc_ b1, zc_ b2, zc_ b3, zc_ b4, zc_ b5, zc_ b6, zc_ b7, zc_ b8, zc_ b9, zc_ b10, zc_ b11, zc_ b15, ← r8Den (β := β) (β1 := β1) g13]
   ·exact k68_
   ·exact k68_
  ·cases hs
 ·cases hs
def sROneX : yq_ := fun args h m => match args with
 | [.agg [v1, v2, v3, v4, v5], .agg [v6, v7, v8, v9, v10], .agg [v11, .bool v12, .arr 8 1 v13, v14, v15, v16]] => match xa_ h 1 (.tup []) v14, xa_ h 3 (.tup []) v16 with
  | some (c14, n14, f14, r14), some (c16, n16, f16, r16) => bif isI .u8 v1 && isI .u8 v2 && isI .u8 v3 && isI .u8 v4 && isI .i64 v5 && isI .u64 v6 && isI .i64 v7 && isI .i64 v8 && isI .i64 v9 && isI .i64 v10 && isI .i64 v11 && isI .i64 v15 then some (c14 ∧ c16 ∧ (∀ q, q < n14 → isI .i64 (f14 q) = true) ∧ (∀ q, q < n16 → isSnd (f16 q) = true) ∧ (∀ q, q < 8 → isI .i64 (v13 q) = true) ∧ (OOk ⟨iOf v11, v12, fun q => iOf (v13 q), ls iOf n14 f14, iOf v15, ls zv_ n16 f16⟩ ⟨iOf v6, iOf v7, iOf v8, iOf v9, iOf v10⟩ ⟨iOf v1, iOf v2, iOf v3, iOf v4, iOf v5⟩) ∧ (doE ⟨iOf v11, v12, fun q => iOf (v13 q), ls iOf n14 f14, iOf v15, ls zv_ n16 f16⟩ ⟨iOf v6, iOf v7, iOf v8, iOf v9, iOf v10⟩ ⟨iOf v1, iOf v2, iOf v3, iOf v4, iOf v5⟩ = 0) ∧ (iOf v1 ≠ 6) ∧ (iOf v1 ≠ 8), .tup [sr (doS ⟨iOf v11, v12, fun q => iOf (v13 q), ls iOf n14 f14, iOf v15, ls zv_ n16 f16⟩ ⟨iOf v6, iOf v7, iOf v8, iOf v9, iOf v10⟩ ⟨iOf v1, iOf v2, iOf v3, iOf v4, iOf v5⟩) v14 v16, .int .i64 0], r14 ++ r16, []) else none
  | _, _ => none
 | _ => none
theorem sROneX_ok : zj_ Tryz.prog 86 sROneX := by
 refine ⟨zf_ (by kernel_rfl), fun args h m c v rd wr hs hm hc w0 M β h' w R hrd hwr hst => ?_⟩
 unfold sROneX at hs
 split at hs
 ·rename_i v1 v2 v3 v4 v5 v6 v7 v8 v9 v10 v11 v12 v13 v14 v15 v16
  split at hs
  ·rename_i c14 n14 f14 r14 c16 n16 f16 r16 a14 a16
   obtain ⟨hb, hs⟩ := zk_ hs
   simp only [Option.some.injEq, Prod.mk.injEq] at hs
   obtain ⟨rfl, rfl, rfl, rfl⟩ := hs
   simp only [Bool.and_eq_true] at hb
   obtain ⟨⟨⟨⟨⟨⟨⟨⟨⟨⟨⟨b1, b2⟩, b3⟩, b4⟩, b5⟩, b6⟩, b7⟩, b8⟩, b9⟩, b10⟩, b11⟩, b15⟩ := hb
   obtain ⟨k14, k16, g14, g16, g13, y1, y2, y3, y4⟩ := hc
   have s14 : Stable h' v14 := by simp only [zd_, Stable] at hst; exact hst.2.2.1.2.2.2.1
   have s16 : Stable h' v16 := by simp only [zd_, Stable] at hst; exact hst.2.2.1.2.2.2.2.2.1
   obtain ⟨A14, p14, d14, e14, t14⟩ := zg_ R a14 k14 (fun i hi => hrd i (List.mem_append_left _ hi)) (by omega)
   obtain ⟨A16, p16, d16, e16, t16⟩ := zg_ R a16 k16 (fun i hi => hrd i (List.mem_append_right _ hi)) (by omega)
   refine callRoV (v' := .nilp) (views := [⟨1, (ls iOf n14 f14).length, i64S (ls iOf n14 f14), A14, p14⟩, ⟨3, (ls zv_ n16 f16).length, zn_ (ls zv_ n16 f16), A16, p16⟩]) (oneX_lit ⟨iOf v11, v12, fun q => iOf (v13 q), ls iOf n14 f14, iOf v15, ls zv_ n16 f16⟩ ⟨iOf v6, iOf v7, iOf v8, iOf v9, iOf v10⟩ ⟨iOf v1, iOf v2, iOf v3, iOf v4, iOf v5⟩ p14 p16 y1 y2 y3 y4) ?_ R hm hwr ?_ ?_ ?_ ?_ ?_
   ·intro x hx
    simp only [List.mem_cons, List.not_mem_nil, or_false] at hx
    rcases hx with rfl | rfl
    ·exact z0_ t14 e14 g14
    ·exact viewSnd t16 e16 g16
   ·intro β1 hv
    simp only [Vd, zb_, and_true] at hv
    obtain ⟨z14, z16⟩ := hv
    simp only [denL, z7_, z6_, z5_, zr_, zb_, yo_, evS, sr, csl, ssl, z14, z16, d14, d16, zc_ b1, zc_ b2, zc_ b3, zc_ b4, zc_ b5, zc_ b6, zc_ b7, zc_ b8, zc_ b9, zc_ b10, zc_ b11, zc_ b15, ← r8Den (β := β) (β1 := β1) g13]
   ·exact k68_
   ·exact k68_
   ·intro h2 hb2 hp2
    exact stable_sr (s14.more hb2) (s16.more hb2)
   ·intro β2 β' hv he hbo
    simp only [Vd, zb_, and_true] at hv
    obtain ⟨z14, z16⟩ := hv
    have u14 := (Stable.den hbo s14).symm.trans d14
    have u16 := (Stable.den hbo s16).symm.trans d16
    refine den_sr (by rw [u14]; simp only [csl, zb_]; exact z14) (by rw [u16]; simp only [ssl, zb_]; exact z16)
  ·cases hs
 ·cases hs
def sROne6 : yq_ := fun args h m => match args with
 | [.agg [v1, v2, v3, v4, v5], .agg [v6, v7, v8, v9, v10], .agg [v11, .bool v12, .arr 8 1 v13, v14, v15, v16]] => match xa_ h 1 (.tup []) v14, xa_ h 3 (.tup []) v16 with
  | some (c14, n14, f14, r14), some (c16, n16, f16, r16) => bif isI .u8 v1 && isI .u8 v2 && isI .u8 v3 && isI .u8 v4 && isI .i64 v5 && isI .u64 v6 && isI .i64 v7 && isI .i64 v8 && isI .i64 v9 && isI .i64 v10 && isI .i64 v11 && isI .i64 v15 then some (c14 ∧ c16 ∧ (∀ q, q < n14 → isI .i64 (f14 q) = true) ∧ (∀ q, q < n16 → isSnd (f16 q) = true) ∧ (∀ q, q < 8 → isI .i64 (v13 q) = true) ∧ (OOk ⟨iOf v11, v12, fun q => iOf (v13 q), ls iOf n14 f14, iOf v15, ls zv_ n16 f16⟩ ⟨iOf v6, iOf v7, iOf v8, iOf v9, iOf v10⟩ ⟨iOf v1, iOf v2, iOf v3, iOf v4, iOf v5⟩) ∧ (doE ⟨iOf v11, v12, fun q => iOf (v13 q), ls iOf n14 f14, iOf v15, ls zv_ n16 f16⟩ ⟨iOf v6, iOf v7, iOf v8, iOf v9, iOf v10⟩ ⟨iOf v1, iOf v2, iOf v3, iOf v4, iOf v5⟩ = 0) ∧ (iOf v1 = 6), .tup [sr (doS ⟨iOf v11, v12, fun q => iOf (v13 q), ls iOf n14 f14, iOf v15, ls zv_ n16 f16⟩ ⟨iOf v6, iOf v7, iOf v8, iOf v9, iOf v10⟩ ⟨iOf v1, iOf v2, iOf v3, iOf v4, iOf v5⟩) (.sl m m [] 1 0 (ls iOf n14 f14).length none) v16, .int .i64 0], r14 ++ r16, [(m, .own 2 (.arr (ls iOf n14 f14).length 1 (i64S (doS ⟨iOf v11, v12, fun q => iOf (v13 q), ls iOf n14 f14, iOf v15, ls zv_ n16 f16⟩ ⟨iOf v6, iOf v7, iOf v8, iOf v9, iOf v10⟩ ⟨iOf v1, iOf v2, iOf v3, iOf v4, iOf v5⟩).cells)) false)]) else none
  | _, _ => none
 | _ => none
theorem sROne6_ok : zj_ Tryz.prog 86 sROne6 := by
 refine ⟨zf_ (by kernel_rfl), fun args h m c v rd wr hs hm hc w0 M β h' w R hrd hwr hst => ?_⟩
 unfold sROne6 at hs
 split at hs
 ·rename_i v1 v2 v3 v4 v5 v6 v7 v8 v9 v10 v11 v12 v13 v14 v15 v16
  split at hs
  ·rename_i c14 n14 f14 r14 c16 n16 f16 r16 a14 a16
   obtain ⟨hb, hs⟩ := zk_ hs
   simp only [Option.some.injEq, Prod.mk.injEq] at hs
   obtain ⟨rfl, rfl, rfl, rfl⟩ := hs
   simp only [Bool.and_eq_true] at hb
   obtain ⟨⟨⟨⟨⟨⟨⟨⟨⟨⟨⟨b1, b2⟩, b3⟩, b4⟩, b5⟩, b6⟩, b7⟩, b8⟩, b9⟩, b10⟩, b11⟩, b15⟩ := hb
   obtain ⟨k14, k16, g14, g16, g13, y1, y2, y3⟩ := hc
   have s14 : Stable h' v14 := by simp only [zd_, Stable] at hst; exact hst.2.2.1.2.2.2.1
   have s16 : Stable h' v16 := by simp only [zd_, Stable] at hst; exact hst.2.2.1.2.2.2.2.2.1
   obtain ⟨A14, p14, d14, e14, t14⟩ := zg_ R a14 k14 (fun i hi => hrd i (List.mem_append_left _ hi)) (by omega)
   obtain ⟨A16, p16, d16, e16, t16⟩ := zg_ R a16 k16 (fun i hi => hrd i (List.mem_append_right _ hi)) (by omega)
   refine callRoV (v' := .sl 5 5 [] 1 0 (ls iOf n14 f14).length none) (views := [⟨1, (ls iOf n14 f14).length, i64S (ls iOf n14 f14), A14, p14⟩, ⟨3, (ls zv_ n16 f16).length, zn_ (ls zv_ n16 f16), A16, p16⟩]) (one6_lit ⟨iOf v11, v12, fun q => iOf (v13 q), ls iOf n14 f14, iOf v15, ls zv_ n16 f16⟩ ⟨iOf v6, iOf v7, iOf v8, iOf v9, iOf v10⟩ ⟨iOf v1, iOf v2, iOf v3, iOf v4, iOf v5⟩ p14 p16 y1 y2 y3) ?_ R hm hwr ?_ ?_ ?_ ?_ ?_
   ·intro x hx
    simp only [List.mem_cons, List.not_mem_nil, or_false] at hx
    rcases hx with rfl | rfl
    ·exact z0_ t14 e14 g14
    ·exact viewSnd t16 e16 g16
   ·intro β1 hv
    simp only [Vd, zb_, and_true] at hv
    obtain ⟨z14, z16⟩ := hv
    simp only [denL, z7_, z6_, z5_, zr_, zb_, yo_, evS, sr, csl, ssl, z14, z16, d14, d16, zc_ b1, zc_ b2, zc_ b3, zc_ b4, zc_ b5, zc_ b6, zc_ b7, zc_ b8, zc_ b9, zc_ b10, zc_ b11, zc_ b15, ← r8Den (β := β) (β1 := β1) g13]
   ·exact k68_
   ·exact k68_
   ·intro h2 hb2 hp2
    exact stable_sr hp2 (s16.more hb2)
   ·intro β2 β' hv he hbo
    simp only [Vd, zb_, and_true] at hv
    obtain ⟨z14, z16⟩ := hv
    have u14 := (Stable.den hbo s14).symm.trans d14
    have u16 := (Stable.den hbo s16).symm.trans d16
    refine den_sr he (by rw [u16]; simp only [ssl, zb_]; exact z16)
  ·cases hs
 ·cases hs
def sROne8 : yq_ := fun args h m => match args with
 | [.agg [v1, v2, v3, v4, v5], .agg [v6, v7, v8, v9, v10], .agg [v11, .bool v12, .arr 8 1 v13, v14, v15, v16]] => match xa_ h 1 (.tup []) v14, xa_ h 3 (.tup []) v16 with
  | some (c14, n14, f14, r14), some (c16, n16, f16, r16) => bif isI .u8 v1 && isI .u8 v2 && isI .u8 v3 && isI .u8 v4 && isI .i64 v5 && isI .u64 v6 && isI .i64 v7 && isI .i64 v8 && isI .i64 v9 && isI .i64 v10 && isI .i64 v11 && isI .i64 v15 then some (c14 ∧ c16 ∧ (∀ q, q < n14 → isI .i64 (f14 q) = true) ∧ (∀ q, q < n16 → isSnd (f16 q) = true) ∧ (∀ q, q < 8 → isI .i64 (v13 q) = true) ∧ (OOk ⟨iOf v11, v12, fun q => iOf (v13 q), ls iOf n14 f14, iOf v15, ls zv_ n16 f16⟩ ⟨iOf v6, iOf v7, iOf v8, iOf v9, iOf v10⟩ ⟨iOf v1, iOf v2, iOf v3, iOf v4, iOf v5⟩) ∧ (doE ⟨iOf v11, v12, fun q => iOf (v13 q), ls iOf n14 f14, iOf v15, ls zv_ n16 f16⟩ ⟨iOf v6, iOf v7, iOf v8, iOf v9, iOf v10⟩ ⟨iOf v1, iOf v2, iOf v3, iOf v4, iOf v5⟩ = 0) ∧ (iOf v1 = 8), .tup [sr (doS ⟨iOf v11, v12, fun q => iOf (v13 q), ls iOf n14 f14, iOf v15, ls zv_ n16 f16⟩ ⟨iOf v6, iOf v7, iOf v8, iOf v9, iOf v10⟩ ⟨iOf v1, iOf v2, iOf v3, iOf v4, iOf v5⟩) v14 (.sl m m [] 3 0 ((ls zv_ n16 f16).length + 1) none), .int .i64 0], r14 ++ r16, [(m, .own 177 (.arr ((ls zv_ n16 f16).length + 1) 3 (zn_ (doS ⟨iOf v11, v12, fun q => iOf (v13 q), ls iOf n14 f14, iOf v15, ls zv_ n16 f16⟩ ⟨iOf v6, iOf v7, iOf v8, iOf v9, iOf v10⟩ ⟨iOf v1, iOf v2, iOf v3, iOf v4, iOf v5⟩).sends)) false)]) else none
  | _, _ => none
 | _ => none
theorem sROne8_ok : zj_ Tryz.prog 86 sROne8 := by
 refine ⟨zf_ (by kernel_rfl), fun args h m c v rd wr hs hm hc w0 M β h' w R hrd hwr hst => ?_⟩
 unfold sROne8 at hs
 split at hs
 ·rename_i v1 v2 v3 v4 v5 v6 v7 v8 v9 v10 v11 v12 v13 v14 v15 v16
  split at hs
  ·rename_i c14 n14 f14 r14 c16 n16 f16 r16 a14 a16
   obtain ⟨hb, hs⟩ := zk_ hs
   simp only [Option.some.injEq, Prod.mk.injEq] at hs
   obtain ⟨rfl, rfl, rfl, rfl⟩ := hs
   simp only [Bool.and_eq_true] at hb
   obtain ⟨⟨⟨⟨⟨⟨⟨⟨⟨⟨⟨b1, b2⟩, b3⟩, b4⟩, b5⟩, b6⟩, b7⟩, b8⟩, b9⟩, b10⟩, b11⟩, b15⟩ := hb
   obtain ⟨k14, k16, g14, g16, g13, y1, y2, y3⟩ := hc
   have s14 : Stable h' v14 := by simp only [zd_, Stable] at hst; exact hst.2.2.1.2.2.2.1
   have s16 : Stable h' v16 := by simp only [zd_, Stable] at hst; exact hst.2.2.1.2.2.2.2.2.1
   obtain ⟨A14, p14, d14, e14, t14⟩ := zg_ R a14 k14 (fun i hi => hrd i (List.mem_append_left _ hi)) (by omega)
   obtain ⟨A16, p16, d16, e16, t16⟩ := zg_ R a16 k16 (fun i hi => hrd i (List.mem_append_right _ hi)) (by omega)
   refine callRoV (v' := .sl 5 5 [] 3 0 ((ls zv_ n16 f16).length + 1) none) (views := [⟨1, (ls iOf n14 f14).length, i64S (ls iOf n14 f14), A14, p14⟩, ⟨3, (ls zv_ n16 f16).length, zn_ (ls zv_ n16 f16), A16, p16⟩]) (one8_lit ⟨iOf v11, v12, fun q => iOf (v13 q), ls iOf n14 f14, iOf v15, ls zv_ n16 f16⟩ ⟨iOf v6, iOf v7, iOf v8, iOf v9, iOf v10⟩ ⟨iOf v1, iOf v2, iOf v3, iOf v4, iOf v5⟩ p14 p16 y1 y2 y3) ?_ R hm hwr ?_ ?_ ?_ ?_ ?_
   ·intro x hx
    simp only [List.mem_cons, List.not_mem_nil, or_false] at hx
    rcases hx with rfl | rfl
    ·exact z0_ t14 e14 g14
    ·exact viewSnd t16 e16 g16
   ·intro β1 hv
    simp only [Vd, zb_, and_true] at hv
    obtain ⟨z14, z16⟩ := hv
    simp only [denL, z7_, z6_, z5_, zr_, zb_, yo_, evS, sr, csl, ssl, z14, z16, d14, d16, zc_ b1, zc_ b2, zc_ b3, zc_ b4, zc_ b5, zc_ b6, zc_ b7, zc_ b8, zc_ b9, zc_ b10, zc_ b11, zc_ b15, ← r8Den (β := β) (β1 := β1) g13]
   ·exact k68_
   ·exact k68_
   ·intro h2 hb2 hp2
    exact stable_sr (s14.more hb2) hp2
   ·intro β2 β' hv he hbo
    simp only [Vd, zb_, and_true] at hv
    obtain ⟨z14, z16⟩ := hv
    have u14 := (Stable.den hbo s14).symm.trans d14
    have u16 := (Stable.den hbo s16).symm.trans d16
    refine den_sr (by rw [u14]; simp only [csl, zb_]; exact z14) he
  ·cases hs
 ·cases hs
def beginR (a b c : Int) (j : Nat) : Int := match j with
 | 0 => a
 | 1 => b
 | 2 => c
 | _ => 0
theorem rbegin_lit (v tm_ src : Int) (cs : List Int) (p1 : Nat) (d : Int) (hm : cs.length ≤ 1000000) : zo_ Tryz.prog 38
  [.int .i64 v, .int .i64 tm_, .int .i64 src, .sl 1 2 [] 1 0 cs.length (some p1), .int .i64 d] [.gone, .gone, .ro (.arr cs.length 1 (i64S cs))]
  (.agg [.nat .i64 0, .bool false, .arr 8 1 (fun j => .int .i64 (beginR v tm_ src j)), .sl 3 3 [] 1 0 cs.length none, .int .i64 d, .sl 0 0 [] 0 0 0 (some 0)])
  [.gone, .gone, .gone, .own 2 (.arr cs.length 1 (i64S cs)) false] := by
 refine ze_ (fn := Tryz.f38) 3 27 0 rfl rfl rfl rfl rfl u7_ rfl fun w0 M E hro => ?_
 repeat' (first | refine Ctl.h ?_ | ((with_reducible intro hif); first | (focus (cases hif; done)) | ((try simp only [JH] at hif); try (exfalso; omega))) | ((with_reducible first | apply J22 cR18_ok za_ | apply J23 fol cR18_ok za_ | apply J24); (·rfl); (· (simp only [push_cast, ↓JP, Nat.reduceAdd, Nat.reduceEqDiff, Nat.reduceLT, Nat.reduceMul, Nat.reduceLeDiff, reduceCtorEq, reduceIte, ↓JK, inN, inR, eq_self, List.all_nil]; rfl)); (try kernel_rfl); (try (focus (first | exact True.intro | ((try simp only [JS, implies_true, forall_const, z9_, z2_, kndOf, inN, inR]); (repeat' (first | assumption | exact True.intro | omega | apply And.intro)); done))))) | fail)
 apply At.endsPick [0, 1, 2, 5] za_ (fn := Tryz.f38) (rs := [.cell 10 105]) Anc.refl hro (lb_ rfl) rfl
 ·exact yi_
 ·exact xf_
 ·rfl
 ·rfl
 ·rfl
 ·(repeat' (first | exact trivial | exact .inl rfl | exact .inr (.same _) | exact .inr .loose | exact .inr (.arr (by assumption)) | apply And.intro | exact .inr (.arr fun q hq => rfl)))
 ·rfl
 ·exact xb_
 ·exact zs_
 ·exact fun β => rfl
 ·exact xb_
def sRBegin : yq_ := fun args h m => match args with
 | [v1, v2, v3, v4, v5] => match xa_ h 1 (.tup []) v4 with
  | some (c4, n4, f4, r4) => bif isI .i64 v1 && isI .i64 v2 && isI .i64 v3 && isI .i64 v5 then some (c4 ∧ (∀ q, q < n4 → isI .i64 (f4 q) = true) ∧ (n4 ≤ 1000000), .agg [.nat .i64 0, .bool false, .arr 8 1 (fun j => .int .i64 (beginR (iOf v1) (iOf v2) (iOf v3) j)), .sl m m [] 1 0 (ls iOf n4 f4).length none, .int .i64 (iOf v5), .sl 0 0 [] 0 0 0 (some 0)], r4, [(m, .own 2 (.arr (ls iOf n4 f4).length 1 (i64S (ls iOf n4 f4))) false)]) else none
  | _ => none
 | _ => none
theorem sRBegin_ok : zj_ Tryz.prog 38 sRBegin := by
 refine ⟨zf_ (by kernel_rfl), fun args h m c v rd wr hs hm hc w0 M β h' w R hrd hwr hst => ?_⟩
 unfold sRBegin at hs
 split at hs
 ·rename_i v1 v2 v3 v4 v5
  split at hs
  ·rename_i c4 n4 f4 r4 a4
   obtain ⟨hb, hs⟩ := zk_ hs
   simp only [Option.some.injEq, Prod.mk.injEq] at hs
   obtain ⟨rfl, rfl, rfl, rfl⟩ := hs
   simp only [Bool.and_eq_true] at hb
   obtain ⟨⟨⟨b1, b2⟩, b3⟩, b5⟩ := hb
   obtain ⟨k4, g4, y1⟩ := hc
   obtain ⟨A4, p4, d4, e4, t4⟩ := zg_ R a4 k4 (fun i hi => hrd i hi) (by omega)
   refine yf_ (views := [⟨1, (ls iOf n4 f4).length, i64S (ls iOf n4 f4), A4, p4⟩]) (rbegin_lit (iOf v1) (iOf v2) (iOf v3) (ls iOf n4 f4) p4 (iOf v5) (by rw [zb_]; exact y1)) ?_ R hm hwr ?_ ?_ ?_
   ·intro x hx
    simp only [List.mem_cons, List.not_mem_nil, or_false] at hx
    subst hx
    ·exact z0_ t4 e4 g4
   ·intro β1 hv
    simp only [Vd, zb_, and_true] at hv
    have z4 := hv
    simp only [denL, z7_, z6_, z5_, zr_, zb_, z4, d4, zc_ b1, zc_ b2, zc_ b3, zc_ b5]
   ·exact xb_
   ·exact xb_
  ·cases hs
 ·cases hs
end Go.Proofs.YtjliakjbdcplcaaGreat.Vm
end
section
namespace Go.Proofs.YtjliakjbdcplcaaGreat.Vm
open Go.RowKit
attribute [local push_cast] prS zn_ i64S nav_ins xz_ xy_ xx_ xw_ xv_ nav_snd xu_ xt_ xs_ z4_ yh_ yn_ yg_ zw_ zy_ iOf sRCheck ls_prS ls_prS' inR inN
theorem lsI_raw (p : List Ins) : ls zl_ p.length (fun q => yo_ (p.getD q ⟨0, 0, 0, 0, 0⟩)) = p := ls_prS p
def cRt : FuncId → Option yq_ := y3_ [(85, sRCheck)]
theorem cRt_ok : ∀ f S, cRt f = some S → zj_ Tryz.prog f S := zp_ ⟨sRCheck_ok, trivial⟩
theorem right18_lit (p : List Ins) (v : Evi) (s : Sta) (p1 p2 p3 : Nat) (hok : ∀ x ∈ p, x.ok) (hl : p.length ≤ 1000000) (hc : s.cells.length ≤ 1000000) : zo_ Tryz.prog 39 [.sl 1 2 [] 5 0 p.length (some p1), evS v, sr s (.sl 3 4 [] 1 0 s.cells.length (some p2)) (.sl 5 6 [] 3 0 s.sends.length (some p3))] [.gone, .gone, .ro (.arr p.length 5 (prS p)), .gone, .ro (.arr s.cells.length 1 (i64S s.cells)), .gone, .ro (.arr s.sends.length 3 (zn_ s.sends))] (.int .i64 (yt_ p v s)) [.gone] := by
 simp only [evS, sr]
 by_cases h0 : (checkI p).2 = 0
 case neg =>
  rw [show yt_ p v s = 180 by rw [yt_, if_pos h0]]
  refine ze_ (fn := Tryz.f39) 7 70 0 rfl rfl rfl rfl rfl u8_ rfl fun w0 M E hro => ?_
  repeat' (first | refine Ctl.h ?_ | ((with_reducible intro hif); first | (focus (cases hif; done)) | ((try simp only [JH] at hif); try (exfalso; omega))) | ((with_reducible first | apply J22 cRt_ok za_ | apply J23 fol cRt_ok za_ | apply J24); (·rfl); (· (simp only [push_cast, ↓JP, Nat.reduceAdd, Nat.reduceEqDiff, Nat.reduceLT, Nat.reduceMul, Nat.reduceLeDiff, reduceCtorEq, reduceIte, ↓JK, cRt, lsI_raw, Int.cast_ofNat_Int, h0]; rfl)); (try kernel_rfl); try exact k77_) | fail)
  apply At.endsRet za_ (fn := Tryz.f39) (rs := [.tmp 6]) Anc.refl hro (lb_ rfl) rfl
  ·exact yi_
  ·exact yl_
  ·exact k6_
  ·rfl
  ·exact k69_
  ·exact zs_
  ·exact fun β => rfl
  ·exact k69_
 by_cases h1 : v.process < 0
 case pos =>
  rw [show yt_ p v s = 181 by rw [yt_, if_neg (by simp [h0]), if_pos u9_]]
  refine ze_ (fn := Tryz.f39) 7 70 0 rfl rfl rfl rfl rfl u8_ rfl fun w0 M E hro => ?_
  repeat' (first | refine Ctl.h ?_ | ((with_reducible intro hif); first | (focus (cases hif; done)) | ((try simp only [JH] at hif); try (exfalso; omega))) | ((with_reducible first | apply J22 cRt_ok za_ | apply J23 fol cRt_ok za_ | apply J24); (·rfl); (· (simp only [push_cast, ↓JP, Nat.reduceAdd, Nat.reduceEqDiff, Nat.reduceLT, Nat.reduceMul, Nat.reduceLeDiff, reduceCtorEq, reduceIte, ↓JK, cRt, lsI_raw, Int.cast_ofNat_Int, (eq_true h0), h1]; rfl)); (try kernel_rfl); try exact k77_) | fail)
  apply At.endsRet za_ (fn := Tryz.f39) (rs := [.tmp 6]) Anc.refl hro (lb_ rfl) rfl
  ·exact yi_
  ·exact yl_
  ·exact k6_
  ·rfl
  ·exact k69_
  ·exact zs_
  ·exact fun β => rfl
  ·exact k69_
 by_cases h2 : 65536 < v.process
 case pos =>
  rw [show yt_ p v s = 181 by rw [yt_, if_neg (by simp [h0]), if_pos u9_]]
  refine ze_ (fn := Tryz.f39) 7 70 0 rfl rfl rfl rfl rfl u8_ rfl fun w0 M E hro => ?_
  repeat' (first | refine Ctl.h ?_ | ((with_reducible intro hif); first | (focus (cases hif; done)) | ((try simp only [JH] at hif); try (exfalso; omega))) | ((with_reducible first | apply J22 cRt_ok za_ | apply J23 fol cRt_ok za_ | apply J24); (·rfl); (· (simp only [push_cast, ↓JP, Nat.reduceAdd, Nat.reduceEqDiff, Nat.reduceLT, Nat.reduceMul, Nat.reduceLeDiff, reduceCtorEq, reduceIte, ↓JK, cRt, lsI_raw, Int.cast_ofNat_Int, (eq_true h0), h1, h2]; rfl)); (try kernel_rfl); try exact k77_) | fail)
  apply At.endsRet za_ (fn := Tryz.f39) (rs := [.tmp 6]) Anc.refl hro (lb_ rfl) rfl
  ·exact yi_
  ·exact yl_
  ·exact k6_
  ·rfl
  ·exact k69_
  ·exact zs_
  ·exact fun β => rfl
  ·exact k69_
 by_cases h3 : v.ports < 0
 case pos =>
  rw [show yt_ p v s = 181 by rw [yt_, if_neg (by simp [h0]), if_pos u9_]]
  refine ze_ (fn := Tryz.f39) 7 70 0 rfl rfl rfl rfl rfl u8_ rfl fun w0 M E hro => ?_
  repeat' (first | refine Ctl.h ?_ | ((with_reducible intro hif); first | (focus (cases hif; done)) | ((try simp only [JH] at hif); try (exfalso; omega))) | ((with_reducible first | apply J22 cRt_ok za_ | apply J23 fol cRt_ok za_ | apply J24); (·rfl); (· (simp only [push_cast, ↓JP, Nat.reduceAdd, Nat.reduceEqDiff, Nat.reduceLT, Nat.reduceMul, Nat.reduceLeDiff, reduceCtorEq, reduceIte, ↓JK, cRt, lsI_raw, Int.cast_ofNat_Int, (eq_true h0), h1, h2, h3]; rfl)); (try kernel_rfl); try exact k77_) | fail)
  apply At.endsRet za_ (fn := Tryz.f39) (rs := [.tmp 6]) Anc.refl hro (lb_ rfl) rfl
  ·exact yi_
  ·exact yl_
  ·exact k6_
  ·rfl
  ·exact k69_
  ·exact zs_
  ·exact fun β => rfl
  ·exact k69_
 by_cases h4 : v.look ≤ 0
 case pos =>
  rw [show yt_ p v s = 181 by rw [yt_, if_neg (by simp [h0]), if_pos u9_]]
  refine ze_ (fn := Tryz.f39) 7 70 0 rfl rfl rfl rfl rfl u8_ rfl fun w0 M E hro => ?_
  repeat' (first | refine Ctl.h ?_ | ((with_reducible intro hif); first | (focus (cases hif; done)) | ((try simp only [JH] at hif); try (exfalso; omega))) | ((with_reducible first | apply J22 cRt_ok za_ | apply J23 fol cRt_ok za_ | apply J24); (·rfl); (· (simp only [push_cast, ↓JP, Nat.reduceAdd, Nat.reduceEqDiff, Nat.reduceLT, Nat.reduceMul, Nat.reduceLeDiff, reduceCtorEq, reduceIte, ↓JK, cRt, lsI_raw, Int.cast_ofNat_Int, (eq_true h0), h1, h2, h3, h4]; rfl)); (try kernel_rfl); try exact k77_) | fail)
  apply At.endsRet za_ (fn := Tryz.f39) (rs := [.tmp 6]) Anc.refl hro (lb_ rfl) rfl
  ·exact yi_
  ·exact yl_
  ·exact k6_
  ·rfl
  ·exact k69_
  ·exact zs_
  ·exact fun β => rfl
  ·exact k69_
 by_cases h5 : v.now < 0
 case pos =>
  rw [show yt_ p v s = 181 by rw [yt_, if_neg (by simp [h0]), if_pos u9_]]
  refine ze_ (fn := Tryz.f39) 7 70 0 rfl rfl rfl rfl rfl u8_ rfl fun w0 M E hro => ?_
  repeat' (first | refine Ctl.h ?_ | ((with_reducible intro hif); first | (focus (cases hif; done)) | ((try simp only [JH] at hif); try (exfalso; omega))) | ((with_reducible first | apply J22 cRt_ok za_ | apply J23 fol cRt_ok za_ | apply J24); (·rfl); (· (simp only [push_cast, ↓JP, Nat.reduceAdd, Nat.reduceEqDiff, Nat.reduceLT, Nat.reduceMul, Nat.reduceLeDiff, reduceCtorEq, reduceIte, ↓JK, cRt, lsI_raw, Int.cast_ofNat_Int, (eq_true h0), h1, h2, h3, h4, h5]; rfl)); (try kernel_rfl); try exact k77_) | fail)
  apply At.endsRet za_ (fn := Tryz.f39) (rs := [.tmp 6]) Anc.refl hro (lb_ rfl) rfl
  ·exact yi_
  ·exact yl_
  ·exact k6_
  ·rfl
  ·exact k69_
  ·exact zs_
  ·exact fun β => rfl
  ·exact k69_
 by_cases h6 : 281474976710656 < v.now
 case pos =>
  rw [show yt_ p v s = 181 by rw [yt_, if_neg (by simp [h0]), if_pos u9_]]
  refine ze_ (fn := Tryz.f39) 7 70 0 rfl rfl rfl rfl rfl u8_ rfl fun w0 M E hro => ?_
  repeat' (first | refine Ctl.h ?_ | ((with_reducible intro hif); first | (focus (cases hif; done)) | ((try simp only [JH] at hif); try (exfalso; omega))) | ((with_reducible first | apply J22 cRt_ok za_ | apply J23 fol cRt_ok za_ | apply J24); (·rfl); (· (simp only [push_cast, ↓JP, Nat.reduceAdd, Nat.reduceEqDiff, Nat.reduceLT, Nat.reduceMul, Nat.reduceLeDiff, reduceCtorEq, reduceIte, ↓JK, cRt, lsI_raw, Int.cast_ofNat_Int, (eq_true h0), h1, h2, h3, h4, h5, h6]; rfl)); (try kernel_rfl); try exact k77_) | fail)
  apply At.endsRet za_ (fn := Tryz.f39) (rs := [.tmp 6]) Anc.refl hro (lb_ rfl) rfl
  ·exact yi_
  ·exact yl_
  ·exact k6_
  ·rfl
  ·exact k69_
  ·exact zs_
  ·exact fun β => rfl
  ·exact k69_
 by_cases h7 : s.at_ < 0
 case pos =>
  rw [show yt_ p v s = 182 by rw [yt_, if_neg (by simp [h0]), if_neg u10_, if_pos u11_]]
  refine ze_ (fn := Tryz.f39) 7 70 0 rfl rfl rfl rfl rfl u8_ rfl fun w0 M E hro => ?_
  repeat' (first | refine Ctl.h ?_ | ((with_reducible intro hif); first | (focus (cases hif; done)) | ((try simp only [JH] at hif); try (exfalso; omega))) | ((with_reducible first | apply J22 cRt_ok za_ | apply J23 fol cRt_ok za_ | apply J24); (·rfl); (· (simp only [push_cast, ↓JP, Nat.reduceAdd, Nat.reduceEqDiff, Nat.reduceLT, Nat.reduceMul, Nat.reduceLeDiff, reduceCtorEq, reduceIte, ↓JK, cRt, lsI_raw, Int.cast_ofNat_Int, (eq_true h0), h1, h2, h3, h4, h5, h6, h7]; rfl)); (try kernel_rfl); try exact k77_) | fail)
  apply At.endsRet za_ (fn := Tryz.f39) (rs := [.tmp 6]) Anc.refl hro (lb_ rfl) rfl
  ·exact yi_
  ·exact yl_
  ·exact k6_
  ·rfl
  ·exact k69_
  ·exact zs_
  ·exact fun β => rfl
  ·exact k69_
 by_cases h8 : (p.length : Int) ≤ s.at_
 case pos =>
  rw [show yt_ p v s = 182 by rw [yt_, if_neg (by simp [h0]), if_neg u10_, if_pos u11_]]
  refine ze_ (fn := Tryz.f39) 7 70 0 rfl rfl rfl rfl rfl u8_ rfl fun w0 M E hro => ?_
  repeat' (first | refine Ctl.h ?_ | ((with_reducible intro hif); first | (focus (cases hif; done)) | ((try simp only [JH] at hif); try (exfalso; omega))) | ((with_reducible first | apply J22 cRt_ok za_ | apply J23 fol cRt_ok za_ | apply J24); (·rfl); (· (simp only [push_cast, ↓JP, Nat.reduceAdd, Nat.reduceEqDiff, Nat.reduceLT, Nat.reduceMul, Nat.reduceLeDiff, reduceCtorEq, reduceIte, ↓JK, cRt, lsI_raw, Int.cast_ofNat_Int, (eq_true h0), h1, h2, h3, h4, h5, h6, h7, h8]; rfl)); (try kernel_rfl); try exact k77_) | fail)
  apply At.endsRet za_ (fn := Tryz.f39) (rs := [.tmp 6]) Anc.refl hro (lb_ rfl) rfl
  ·exact yi_
  ·exact yl_
  ·exact k6_
  ·rfl
  ·exact k69_
  ·exact zs_
  ·exact fun β => rfl
  ·exact k69_
 by_cases h9 : 1024 < s.cells.length
 case pos =>
  rw [show yt_ p v s = 182 by rw [yt_, if_neg (by simp [h0]), if_neg u10_, if_pos u11_]]
  refine ze_ (fn := Tryz.f39) 7 70 0 rfl rfl rfl rfl rfl u8_ rfl fun w0 M E hro => ?_
  repeat' (first | refine Ctl.h ?_ | ((with_reducible intro hif); first | (focus (cases hif; done)) | ((try simp only [JH] at hif); try (exfalso; omega))) | ((with_reducible first | apply J22 cRt_ok za_ | apply J23 fol cRt_ok za_ | apply J24); (·rfl); (· (simp only [push_cast, ↓JP, Nat.reduceAdd, Nat.reduceEqDiff, Nat.reduceLT, Nat.reduceMul, Nat.reduceLeDiff, reduceCtorEq, reduceIte, ↓JK, cRt, lsI_raw, Int.cast_ofNat_Int, (eq_true h0), h1, h2, h3, h4, h5, h6, h7, h8, h9]; rfl)); (try kernel_rfl); try exact k77_) | fail)
  apply At.endsRet za_ (fn := Tryz.f39) (rs := [.tmp 6]) Anc.refl hro (lb_ rfl) rfl
  ·exact yi_
  ·exact yl_
  ·exact k6_
  ·rfl
  ·exact k69_
  ·exact zs_
  ·exact fun β => rfl
  ·exact k69_
 by_cases h10 : s.draws < 0
 case pos =>
  rw [show yt_ p v s = 182 by rw [yt_, if_neg (by simp [h0]), if_neg u10_, if_pos u11_]]
  refine ze_ (fn := Tryz.f39) 7 70 0 rfl rfl rfl rfl rfl u8_ rfl fun w0 M E hro => ?_
  repeat' (first | refine Ctl.h ?_ | ((with_reducible intro hif); first | (focus (cases hif; done)) | ((try simp only [JH] at hif); try (exfalso; omega))) | ((with_reducible first | apply J22 cRt_ok za_ | apply J23 fol cRt_ok za_ | apply J24); (·rfl); (· (simp only [push_cast, ↓JP, Nat.reduceAdd, Nat.reduceEqDiff, Nat.reduceLT, Nat.reduceMul, Nat.reduceLeDiff, reduceCtorEq, reduceIte, ↓JK, cRt, lsI_raw, Int.cast_ofNat_Int, (eq_true h0), h1, h2, h3, h4, h5, h6, h7, h8, h9, h10]; rfl)); (try kernel_rfl); try exact k77_) | fail)
  apply At.endsRet za_ (fn := Tryz.f39) (rs := [.tmp 6]) Anc.refl hro (lb_ rfl) rfl
  ·exact yi_
  ·exact yl_
  ·exact k6_
  ·rfl
  ·exact k69_
  ·exact zs_
  ·exact fun β => rfl
  ·exact k69_
 by_cases h11 : 1099511627776 < s.draws
 case pos =>
  rw [show yt_ p v s = 182 by rw [yt_, if_neg (by simp [h0]), if_neg u10_, if_pos u11_]]
  refine ze_ (fn := Tryz.f39) 7 70 0 rfl rfl rfl rfl rfl u8_ rfl fun w0 M E hro => ?_
  repeat' (first | refine Ctl.h ?_ | ((with_reducible intro hif); first | (focus (cases hif; done)) | ((try simp only [JH] at hif); try (exfalso; omega))) | ((with_reducible first | apply J22 cRt_ok za_ | apply J23 fol cRt_ok za_ | apply J24); (·rfl); (· exact k78_); (try kernel_rfl); try exact k77_) | fail)
  apply At.endsRet za_ (fn := Tryz.f39) (rs := [.tmp 6]) Anc.refl hro (lb_ rfl) rfl
  ·exact yi_
  ·exact yl_
  ·exact k6_
  ·rfl
  ·exact k69_
  ·exact zs_
  ·exact fun β => rfl
  ·exact k69_
 rw [show yt_ p v s = 0 by rw [yt_, if_neg (by simp [h0]), if_neg u10_, if_neg (by rw [Sta.rightB, decide_eq_true (by omega)]; decide)]]
 refine ze_ (fn := Tryz.f39) 7 70 0 rfl rfl rfl rfl rfl u8_ rfl fun w0 M E hro => ?_
 repeat' (first | refine Ctl.h ?_ | ((with_reducible intro hif); first | (focus (cases hif; done)) | ((try simp only [JH] at hif); try (exfalso; omega))) | ((with_reducible first | apply J22 cRt_ok za_ | apply J23 fol cRt_ok za_ | apply J24); (·rfl); (· exact k78_); (try kernel_rfl); try exact k77_) | fail)
 apply At.endsRet za_ (fn := Tryz.f39) (rs := [.tmp 6]) Anc.refl hro (lb_ rfl) rfl
 ·exact yi_
 ·exact yl_
 ·exact k6_
 ·rfl
 ·exact k69_
 ·exact zs_
 ·exact fun β => rfl
 ·exact k69_
end Go.Proofs.YtjliakjbdcplcaaGreat.Vm
end
section
namespace Go.Proofs.YtjliakjbdcplcaaGreat.Vm
open Go.RowKit
structure PG (P : List Ins) : Prop where
 ok : ∀ x ∈ P, x.ok
 chk : (checkI P).2 = 0
structure SG (P : List Ins) (s : Sta) : Prop where
 a0 : 0 ≤ s.at_
 a1 : s.at_ < P.length
 d0 : 0 ≤ s.draws
 d1 : s.draws ≤ 1099511627776
 c1 : s.cells.length ≤ 1024
 n1 : s.sends.length ≤ 1000000
theorem PG.len {P : List Ins} (h : PG P) : P.length ≤ 256 := (right_last' h.chk).2.1
theorem SG.sok {P : List Ins} {s : Sta} (h : SG P s) (hP : PG P) : SOk s := ⟨h.a0, by have := h.a1; have := hP.len; omega, h.d0, h.d1, h.c1, h.n1⟩
theorem SG.ri {P : List Ins} {s : Sta} (h : SG P s) (hP : PG P) : RI (insAt P s.at_) := ri_at hP.ok hP.chk (by have := h.a0; have := h.a1; omega)
theorem SG.of {P : List Ins} {s : Sta} (h : s.rightB P.length = true) (hn : s.sends.length ≤ 1000000) : SG P s := by
 have := of_decide_eq_true (show decide _ = true from h)
 exact ⟨by omega, by omega, by omega, by omega, by omega, hn⟩
theorem doS_good {P : List Ins} {s : Sta} {v : Evi} (h : SG P s) (hP : PG P) : SG P (doS s v (insAt P s.at_)) := by
 by_cases he : doE s v (insAt P s.at_) ≠ 0
 ·rw [doS_bad he]; exact h
 ·have hR := right_at hP.ok hP.chk (k := s.at_.toNat) (by have := h.a0; have := h.a1; omega)
  have hx : P.getD s.at_.toNat ⟨0, 0, 0, 0, 0⟩ = insAt P s.at_ := rfl
  rw [hx] at hR
  generalize insAt P s.at_ = x at *
  obtain ⟨a0, a1, d0, d1, c1, n1⟩ := h
  have hg := goesB_of hR.one
  have ht := targB_of hR.one
  have hgo : x.op ≠ 1 → x.op ≠ 2 → x.op ≠ 9 → s.at_ + 1 < P.length := fun h1 h2 h9 => by
   have := hR.goes (by rw [hg]; simp [h1, h2, h9])
   omega
  have hta : (x.op = 9 ∨ x.op = 10 ∨ x.op = 11) → 0 ≤ x.n ∧ x.n < P.length := fun hj => by
   have hb : targB x = true := by rw [ht]; rcases hj with e | e | e <;> simp [e]
   have := hR.targ hb
   unfold targV at this
   rwa [if_pos hb] at this
  have h2 : x.op ≠ 2 := fun e => he (by simp [doE, e])
  have hE : doE s v x = 0 := by omega
  have hP : ∀ k y, s.at_ + 1 < P.length → SG P (s.put k y) := fun k y h => ⟨by show 0 ≤ s.at_ + 1; omega, h, d0, d1, c1, n1⟩
  rcases hR.cls with q | q | q | q | q | q | q | q | q | q | q | q
  ·rw [show doS s v x = { s with ended := true } by simp [doS, hE, q]]; exact ⟨a0, a1, d0, d1, c1, n1⟩
  ·exact absurd q h2
  ·rw [show doS s v x = s.put x.a.toNat x.n by simp [doS, hE, q]]; exact hP _ _ (hgo (by omega) h2 (by omega))
  ·rw [show doS s v x = s.put x.a.toNat (s.regs x.b.toNat) by simp [doS, hE, q]]; exact hP _ _ (hgo (by omega) h2 (by omega))
  ·rw [show doS s v x = s.put x.a.toNat (s.cells.getD (s.regs x.b.toNat).toNat 0) by simp [doS, hE, q]]; exact hP _ _ (hgo (by omega) h2 (by omega))
  ·rw [show doS s v x = { s with cells := s.cells.set (s.regs x.b.toNat).toNat (s.regs x.a.toNat), at_ := s.at_ + 1 } by simp [doS, hE, q]]
   exact ⟨by show 0 ≤ s.at_ + 1; omega, hgo (by omega) h2 (by omega), d0, d1, by simpa using c1, n1⟩
  ·rw [show doS s v x = { s.put x.a.toNat (drawI v.seed v.process s.draws (s.regs x.b.toNat)) with draws := s.draws + 1 } by simp [doS, hE, q]]
   have hd : s.draws ≠ 1099511627776 := fun e => by
    have h3 : doE s v x = if s.regs x.b.toNat < 1 then 186 else if s.draws = 1099511627776 then 187 else 0 := by simp [doE, q]
    rw [hE, if_pos e] at h3
    split at h3 <;> omega
   exact ⟨by show 0 ≤ s.at_ + 1; omega, hgo (by omega) h2 (by omega), by show 0 ≤ s.draws + 1; omega, by show s.draws + 1 ≤ _; omega, c1, n1⟩
  ·rw [show doS s v x = { s with at_ := s.at_ + 1, sends := s.sends ++ [⟨x.n, s.regs x.a.toNat, s.regs x.b.toNat⟩] } by simp [doS, hE, q]]
   have hs : s.sends.length < 256 := by
    rcases Nat.lt_or_ge s.sends.length 256 with h' | h'
    ·exact h'
    ·exfalso
     have h3 : doE s v x = sendE s v x := by simp [doE, q]
     unfold sendE at h3
     rw [hE, if_pos h'] at h3
     split at h3
     ·omega
     ·split at h3
      ·omega
      ·split at h3 <;> omega
   exact ⟨by show 0 ≤ s.at_ + 1; omega, hgo (by omega) h2 (by omega), d0, d1, c1, by simp; omega⟩
  ·rw [show doS s v x = { s with at_ := x.n } by simp [doS, hE, q]]
   have := hta (.inl q); exact ⟨this.1, this.2, d0, d1, c1, n1⟩
  ·rw [show doS s v x = { s with at_ := if s.regs x.a.toNat = 0 then x.n else s.at_ + 1 } by simp [doS, hE, q]]
   have h3 := hta (.inr (.inl q))
   have h4 := hgo (by omega) h2 (by omega)
   refine ⟨?_, ?_, d0, d1, c1, n1⟩ <;> dsimp only <;> split <;> omega
  ·rw [show doS s v x = { s with at_ := if s.regs x.a.toNat < 0 then x.n else s.at_ + 1 } by simp [doS, hE, q]]
   have h3 := hta (.inr (.inr q))
   have h4 := hgo (by omega) h2 (by omega)
   refine ⟨?_, ?_, d0, d1, c1, n1⟩ <;> dsimp only <;> split <;> omega
  ·rw [show doS s v x = s.put x.a.toNat (yp_ (x.op - 32) (s.regs x.b.toNat) (s.regs x.c.toNat)) by
    unfold doS
    rw [hE]
    simp [show ¬ x.op = 1 by omega, show ¬ x.op = 3 by omega, show ¬ x.op = 4 by omega, show ¬ x.op = 5 by omega, show ¬ x.op = 6 by omega, show ¬ x.op = 7 by omega, show ¬ x.op = 8 by omega, show ¬ x.op = 9 by omega, show ¬ x.op = 10 by omega, show ¬ x.op = 11 by omega]]
   exact hP _ _ (hgo (by omega) h2 (by omega))
theorem stepS_good {P : List Ins} {s : Sta} {v : Evi} (h : SG P s) (hP : PG P) : SG P (xp_ P v s) := by
 unfold xp_
 split
 ·exact h
 ·exact doS_good h hP
def stepX (P : List Ins) (s : Sta) (x : Ins) : Ins := if s.ended = true then x else insAt P s.at_
structure RR where
 tr : List Int
 at_ : Int
 bad : Int
 s : Sta
 x : Ins
def xj_ (P : List Ins) (v : Evi) : Nat → Sta → Ins → List Int → Int → RR
 | 0, s, x, tr, a => if s.ended = true then ⟨tr, a, 0, s, x⟩ else ⟨tr, s.at_, 190, s, x⟩
 | n + 1, s, x, tr, a => if s.ended = true then ⟨tr, a, 0, s, x⟩ else
  if xg_ P v s = 0 then xj_ P v n (xp_ P v s) (stepX P s x) (tr ++ [s.at_]) s.at_ else ⟨tr ++ [s.at_], s.at_, xg_ P v s, xp_ P v s, stepX P s x⟩
theorem xk_ {P : List Ins} {v : Evi} {n : Nat} {s : Sta} {x : Ins} {tr : List Int} {a : Int} (h : s.ended = true) : xj_ P v n s x tr a = ⟨tr, a, 0, s, x⟩ := by
 cases n <;> simp [xj_, h]
theorem xr_ {P : List Ins} {v : Evi} {s : Sta} {x : Ins} {tr : List Int} {a : Int} (h : s.ended = false) : xj_ P v 0 s x tr a = ⟨tr, s.at_, 190, s, x⟩ := by simp [xj_, h]
theorem runA_go {P : List Ins} {v : Evi} {n : Nat} {s : Sta} {x : Ins} {tr : List Int} {a : Int} (h : s.ended = false) (hn : 0 < n) (he : xg_ P v s = 0) : xj_ P v n s x tr a = xj_ P v (n - 1) (xp_ P v s) (stepX P s x) (tr ++ [s.at_]) s.at_ := by
 obtain ⟨n, rfl⟩ : ∃ k, n = k + 1 := ⟨n - 1, by omega⟩
 simp [xj_, h, he]
theorem runA_bad {P : List Ins} {v : Evi} {n : Nat} {s : Sta} {x : Ins} {tr : List Int} {a : Int} (h : s.ended = false) (hn : 0 < n) (he : xg_ P v s ≠ 0) : xj_ P v n s x tr a = ⟨tr ++ [s.at_], s.at_, xg_ P v s, xp_ P v s, stepX P s x⟩ := by
 obtain ⟨n, rfl⟩ : ∃ k, n = k + 1 := ⟨n - 1, by omega⟩
 simp [xj_, h, he]
theorem wrongE_vals (op b : Int) : yj_ op b = 0 ∨ yj_ op b = 130 ∨ yj_ op b = 131 := by
 unfold yj_
 split
 ·omega
 ·split <;> omega
theorem doE_ne190 (s : Sta) (v : Evi) (x : Ins) : doE s v x ≠ 190 := by
 unfold doE sendE
 have := wrongE_vals (x.op - 32) (s.regs x.c.toNat)
 repeat' split
 all_goals omega
theorem stepE_ne190 (P : List Ins) (v : Evi) (s : Sta) : xg_ P v s ≠ 190 := by
 unfold xg_
 split
 ·omega
 ·exact doE_ne190 _ _ _
def rrE (f : Int) : Int := if f < 0 ∨ 4096 < f then 2 else 0
def begR (value time source : Int) : Nat → Int := fun q => if q = 2 then source else if q = 1 then time else if q = 0 then value else 0
def ys_ (value time source : Int) (cells : List Int) (draws : Int) : Sta := ⟨0, false, begR value time source, cells, draws, []⟩
def ropE (P : List Ins) (v : Evi) (s : Sta) (f : Int) : Int := if rrE f = 0 then yt_ P v s else rrE f
def y9_ (P : List Ins) (v : Evi) (s : Sta) (f : Int) : RR := if ropE P v s f = 0 then xj_ P v f.toNat s Ins0 [] 0 else ⟨[], 0, ropE P v s f, zeroSt, Ins0⟩
theorem ropE_zero {P : List Ins} {v : Evi} {s : Sta} {f : Int} (h : ropE P v s f = 0) : (0 ≤ f ∧ f ≤ 4096) ∧ yt_ P v s = 0 := by
 unfold ropE at h
 by_cases q : rrE f = 0
 ·rw [if_pos q] at h
  refine ⟨?_, h⟩
  unfold rrE at q
  split at q <;> omega
 ·rw [if_neg q] at h; exact absurd h q
theorem openE_zero {P : List Ins} {v : Evi} {s : Sta} (h : yt_ P v s = 0) : (checkI P).2 = 0 ∧ v.rightB = true ∧ s.rightB P.length = true := by
 unfold yt_ at h
 have q1 : (checkI P).2 = 0 := by
  by_cases q : (checkI P).2 = 0
  ·exact q
  ·rw [if_pos q] at h; cases h
 rw [if_neg (fun h => h q1)] at h
 have q2 : v.rightB = true := by
  cases q : v.rightB
  ·rw [if_pos q] at h; cases h
  ·rfl
 rw [if_neg (by rw [q2]; exact Bool.noConfusion)] at h
 refine ⟨q1, q2, ?_⟩
 cases q : s.rightB P.length
 ·rw [if_pos q] at h; cases h
 ·rfl
theorem ls_i64S2 (l : List Int) : ls iOf l.length (fun q => .int .i64 (l.getD q 0)) = l := y6_ l
theorem ls_sndsS2 (l : List Snd) : ls zv_ l.length (fun q => sndS (l.getD q ⟨0, 0, 0⟩)) = l := ls_sndsS l
theorem ls_prS2 (l : List Ins) : ls zl_ l.length (fun q => yo_ (l.getD q ⟨0, 0, 0, 0, 0⟩)) = l := ls_prS l
def cM0 : FuncId → Option yq_ := y3_ []
theorem cM0_ok : ∀ f S, cM0 f = some S → zj_ Tryz.prog f S := fun f S h => by cases h
def aF : RF := fun s v x => some (0 ≤ x.a ∧ x.a < 8, .int .i64 (s.regs x.a.toNat))
def bF : RF := fun s v x => some (0 ≤ x.b ∧ x.b < 8, .int .i64 (s.regs x.b.toNat))
def cF : RF := fun s v x => some (0 ≤ x.c ∧ x.c < 8, .int .i64 (s.regs x.c.toNat))
theorem a_ok : zj_ Tryz.prog 177 (rS aF) := rS_ok (by kernel_rfl) fun s v x cond val hF hc => by
 cases hF
 obtain ⟨h0, h8⟩ := hc
 have hn : x.a.toNat < 8 := by omega
 refine ⟨fun _ => rfl, fun _ => trivial, ?_⟩
 refine ze_ (fn := Tryz.f177) 4 14 0 rfl rfl rfl rfl rfl u12_ rfl fun w0 M E hro => ?_
 repeat' (first | refine Ctl.h ?_ | ((with_reducible intro hif); first | (focus (cases hif; done)) | ((try simp only [JH] at hif); try (exfalso; omega))) | ((with_reducible first | apply J22 cM0_ok za_ | apply J23 fol cM0_ok za_ | apply J24); (·rfl); (· exact k80_); (try kernel_rfl); try exact k79_) | fail)
 apply At.endsRet za_ (fn := Tryz.f177) (rs := [.tmp 2]) Anc.refl hro (lb_ rfl) rfl
 ·exact yi_
 ·exact yl_
 ·exact k6_
 ·rfl
 ·exact yz_
 ·exact zs_
 ·exact fun β => rfl
 ·exact yz_
theorem b_ok : zj_ Tryz.prog 175 (rS bF) := rS_ok (by kernel_rfl) fun s v x cond val hF hc => by
 cases hF
 obtain ⟨h0, h8⟩ := hc
 have hn : x.b.toNat < 8 := by omega
 refine ⟨fun _ => rfl, fun _ => trivial, ?_⟩
 refine ze_ (fn := Tryz.f175) 4 14 0 rfl rfl rfl rfl rfl u12_ rfl fun w0 M E hro => ?_
 repeat' (first | refine Ctl.h ?_ | ((with_reducible intro hif); first | (focus (cases hif; done)) | ((try simp only [JH] at hif); try (exfalso; omega))) | ((with_reducible first | apply J22 cM0_ok za_ | apply J23 fol cM0_ok za_ | apply J24); (·rfl); (· exact k80_); (try kernel_rfl); try exact k79_) | fail)
 apply At.endsRet za_ (fn := Tryz.f175) (rs := [.tmp 2]) Anc.refl hro (lb_ rfl) rfl
 ·exact yi_
 ·exact yl_
 ·exact k6_
 ·rfl
 ·exact yz_
 ·exact zs_
 ·exact fun β => rfl
 ·exact yz_
theorem c_ok : zj_ Tryz.prog 181 (rS cF) := rS_ok (by kernel_rfl) fun s v x cond val hF hc => by
 cases hF
 obtain ⟨h0, h8⟩ := hc
 have hn : x.c.toNat < 8 := by omega
 refine ⟨fun _ => rfl, fun _ => trivial, ?_⟩
 refine ze_ (fn := Tryz.f181) 4 14 0 rfl rfl rfl rfl rfl u12_ rfl fun w0 M E hro => ?_
 repeat' (first | refine Ctl.h ?_ | ((with_reducible intro hif); first | (focus (cases hif; done)) | ((try simp only [JH] at hif); try (exfalso; omega))) | ((with_reducible first | apply J22 cM0_ok za_ | apply J23 fol cM0_ok za_ | apply J24); (·rfl); (· exact k80_); (try kernel_rfl); try exact k79_) | fail)
 apply At.endsRet za_ (fn := Tryz.f181) (rs := [.tmp 2]) Anc.refl hro (lb_ rfl) rfl
 ·exact yi_
 ·exact yl_
 ·exact k6_
 ·rfl
 ·exact yz_
 ·exact zs_
 ·exact fun β => rfl
 ·exact yz_
def putF : MF := fun ar s v x => match ar with
 | [.int .i64 n] => some (0 ≤ x.a ∧ x.a < 8 ∧ 0 ≤ s.at_ ∧ s.at_ ≤ 256, fun _ => .int .i64 0, s.put x.a.toNat n, x, false)
 | _ => none
theorem put_ok : zj_ Tryz.prog 174 (mS putF) := mS_ok (by kernel_rfl) fun ar s v x cond val s' x' mv hF hc => by
 unfold putF at hF
 split at hF
 ·cases hF
  obtain ⟨h0, h8, a0, a1⟩ := hc
  have hn : x.a.toNat < 8 := by omega
  refine ⟨fun _ => rfl, fun _ => ⟨trivial, trivial⟩, fun _ _ => rfl, fun _ _ _ => trivial, ?_⟩
  refine ze_ (fn := Tryz.f174) 4 25 0 rfl rfl rfl rfl rfl u12_ rfl fun w0 M E hro => ?_
  repeat' (first | refine Ctl.h ?_ | ((with_reducible intro hif); first | (focus (cases hif; done)) | ((try simp only [JH] at hif); try (exfalso; omega))) | ((with_reducible first | apply J22 cM0_ok za_ | apply J23 fol cM0_ok za_ | apply J24); (·rfl); (· exact k81_); (try kernel_rfl); try exact k25_) | fail)
  apply At.endsRet za_ (fn := Tryz.f174) (rs := [.tmp 4]) Anc.refl hro (lb_ rfl) rfl
  ·exact yi_
  ·exact yl_
  ·exact k6_
  ·rfl
  ·exact yz_
  ·exact zs_
  ·exact fun β => rfl
  ·exact yz_
 ·cases hF
def jumpIfF : MF := fun ar s v x => match ar with
 | [.bool is] => some (0 ≤ s.at_ ∧ s.at_ ≤ 256 ∧ 0 ≤ x.n ∧ x.n < 256, fun _ => .int .i64 0, { s with at_ := if is = true then x.n else s.at_ + 1 }, x, false)
 | _ => none
theorem jumpIf_ok : zj_ Tryz.prog 179 (mS jumpIfF) := mS_ok (by kernel_rfl) fun ar s v x cond val s' x' mv hF hc => by
 unfold jumpIfF at hF
 split at hF
 ·rename_i is
  cases hF
  obtain ⟨a0, a1, n0, n1⟩ := hc
  refine ⟨fun _ => rfl, fun _ => ⟨trivial, trivial⟩, fun _ _ => rfl, fun _ _ _ => trivial, ?_⟩
  cases is
  ·refine ze_ (fn := Tryz.f179) 4 24 0 rfl rfl rfl rfl rfl u12_ rfl fun w0 M E hro => ?_
   repeat' (first | refine Ctl.h ?_ | ((with_reducible intro hif); first | (focus (cases hif; done)) | ((try simp only [JH] at hif); try (exfalso; omega))) | ((with_reducible first | apply J22 cM0_ok za_ | apply J23 fol cM0_ok za_ | apply J24); (·rfl); (· exact k81_); (try kernel_rfl); try exact k25_) | fail)
   apply At.endsRet za_ (fn := Tryz.f179) (rs := [.tmp 4]) Anc.refl hro (lb_ rfl) rfl
   ·exact yi_
   ·exact yl_
   ·exact k6_
   ·rfl
   ·exact yz_
   ·exact zs_
   ·exact fun β => rfl
   ·exact yz_
  ·refine ze_ (fn := Tryz.f179) 4 24 0 rfl rfl rfl rfl rfl u12_ rfl fun w0 M E hro => ?_
   repeat' (first | refine Ctl.h ?_ | ((with_reducible intro hif); first | (focus (cases hif; done)) | ((try simp only [JH] at hif); try (exfalso; omega))) | ((with_reducible first | apply J22 cM0_ok za_ | apply J23 fol cM0_ok za_ | apply J24); (·rfl); (· exact k81_); (try kernel_rfl); try exact k25_) | fail)
   apply At.endsRet za_ (fn := Tryz.f179) (rs := [.tmp 4]) Anc.refl hro (lb_ rfl) rfl
   ·exact yi_
   ·exact yl_
   ·exact k6_
   ·rfl
   ·exact yz_
   ·exact zs_
   ·exact fun β => rfl
   ·exact yz_
 ·cases hF
end Go.Proofs.YtjliakjbdcplcaaGreat.Vm
end
end
