import Derived.Test.YtmljmabbopkpiaaM1
import Derived.Test.YtmljmabbopkpiaaM12
import Derived.Test.YtmljmabbopkpiaaProg
section
namespace Go.Proofs.Ytmljmabbopkpiaa.Vm
theorem d2_ {P : Prop} (h : P := by
 have HW := Lib.hid hw
 clear hw
 go_enter Try.func29, Try.ntmps29
 go_wp2_with fail
 refine (HW.out _).mono ?_
 rintro e w' ⟨rfl, hb⟩
 go_wp2_with (first
  | (go_at_call 74; refine (truth_c _ _).mono ?_; rintro e w' ⟨rfl, rfl⟩)
  | (go_at_call 73; refine (mod_c _ _ _ (by assumption)).mono ?_; rintro e w' ⟨rfl, rfl⟩))
 all_goals (go_ret2; refine ⟨?_, hb⟩)
 all_goals first | rfl | (show Ending.returned (.tuple #[.int .i64 _, _]) = .returned (.tuple #[.int .i64 _, _]); congr 4; simp [yj_]; done) | (show Ending.returned (.tuple #[.int .i64 _, _]) = .returned (.tuple #[.int .i64 _, _]); congr 4; simp [yj_]; omega)) : P := h
theorem d3_ {P : Prop} (h : P := by
 have HW := Lib.hid hw
 clear hw
 have hs := shB_bd b
 have hs0 : 0 ≤ bits BinOp.and IntKind.u64 (IntKind.u64.wrap b) 63 := hs.1
 have hs1 : bits BinOp.and IntKind.u64 (IntKind.u64.wrap b) 63 ≤ 64 := Int.le_trans hs.2 (by decide)
 clear hs
 go_enter Try.func29, Try.ntmps29
 go_wp2_with fail
 refine (HW.out _).mono ?_
 rintro e w' ⟨rfl, hb⟩
 go_wp2_with (first
  | (go_at_call 74; refine (truth_c _ _).mono ?_; rintro e w' ⟨rfl, rfl⟩)
  | (go_at_call 73; refine (mod_c _ _ _ (by assumption)).mono ?_; rintro e w' ⟨rfl, rfl⟩))
 all_goals (go_ret2; refine ⟨?_, hb⟩)
 all_goals first | rfl | (show Ending.returned (.tuple #[.int .i64 _, _]) = .returned (.tuple #[.int .i64 _, _]); congr 4; simp [yj_]; done) | (show Ending.returned (.tuple #[.int .i64 _, _]) = .returned (.tuple #[.int .i64 _, _]); congr 4; simp [yj_]; omega)) : P := h
end Go.Proofs.Ytmljmabbopkpiaa.Vm
end
set_option linter.unusedSimpArgs false
set_option linter.unusedVariables false
set_option maxRecDepth 100000
set_option maxHeartbeats 4000000
section
namespace Go.Proofs.Ytmljmabbopkpiaa.Vm
open Go.RowKit
def dR (a b : BitVec 64) (k : Nat) : BitVec 64 := BitVec.ofNat 64 ((a.toNat / 2 ^ (64 - k)) % b.toNat)
def qS (z : BitVec 64) (k : Nat) : Nat → SV := fun q => .int .i64 (if 64 - k ≤ q then bI (z.getLsbD q) else 0)
theorem qS_size (z : BitVec 64) (k q : Nat) : (qS z k q).size = 1 := rfl
theorem less_q0 {t : Nat} {b : Bool} (z : BitVec 64) : Less (.own t (.arr 64 1 fun _ => .nat .i64 0) b) (.own t (.arr 64 1 (qS z 0)) b) :=
 .val (fun β => arrCl fun q hq => by unfold qS; rw [if_neg (by omega)]; rfl) (fun n1 k1 f1 e => by injection e with e1 e2 e3; subst e1 e2; exact ⟨_, rfl⟩) (fun n1 k1 f1 e => by injection e with e1 e2 e3; subst e1 e2; exact ⟨_, rfl⟩)
theorem less_q1 {t : Nat} {σ : Nat → Nat} {b : Bool} (z : BitVec 64) (k : Nat) (hk : k < 64) (h1 : z.getLsbD (63 - k) = true) {g : Nat → SV} {xv : SV} (hg : g = fun q => SV.ite (decide (q = 63 - k)) xv (qS z k q)) (hx : ∀ β, xv.cl β = [.int .i64 1]) : Less (.own t (.arr 64 1 g) b) ((HB.own t (.arr 64 1 (qS z (k + 1))) b).ren σ) := by
 have e : (HB.own t (.arr 64 1 (qS z (k + 1))) b).ren σ = .own t (.arr 64 1 (qS z (k + 1))) b := rfl
 rw [e]
 subst hg
 refine .val (fun β => arrCl fun q hq => ?_) (fun n1 k1 f1 e => by injection e with e1 e2 e3; subst e1 e2; exact ⟨_, rfl⟩) (fun n1 k1 f1 e => by injection e with e1 e2 e3; subst e1 e2; exact ⟨_, rfl⟩)
 rw [ite_eq]
 by_cases h : q = 63 - k
 ·simp only [h, decide_true, cond_true, hx, qS]
  rw [if_pos (by omega), h1]; rfl
 ·have h2 : (64 - (k + 1) ≤ q) ↔ (64 - k ≤ q) := by omega
  simp only [h, decide_false, cond_false, qS, h2]
theorem less_q2 {t : Nat} {σ : Nat → Nat} {b : Bool} (z : BitVec 64) (k : Nat) (hk : k < 64) (h1 : z.getLsbD (63 - k) = false) : Less (.own t (.arr 64 1 (qS z k)) b) ((HB.own t (.arr 64 1 (qS z (k + 1))) b).ren σ) := by
 have e : (HB.own t (.arr 64 1 (qS z (k + 1))) b).ren σ = .own t (.arr 64 1 (qS z (k + 1))) b := rfl
 rw [e]
 refine .val (fun β => arrCl fun q hq => ?_) (fun n1 k1 f1 e => by injection e with e1 e2 e3; subst e1 e2; exact ⟨_, rfl⟩) (fun n1 k1 f1 e => by injection e with e1 e2 e3; subst e1 e2; exact ⟨_, rfl⟩)
 unfold qS
 by_cases h : q = 63 - k
 ·rw [if_neg (by omega), if_pos (by omega), h, h1]; rfl
 ·have h2 : (64 - (k + 1) ≤ q) ↔ (64 - k ≤ q) := by omega
  simp only [h2]
theorem it_one : Int.toNat 1 = 1 := rfl
theorem ls_i64U (l : List Int) : ls iOf l.length (fun q => SV.int .i64 (l.getD q 0)) = l := xj_ l
theorem ls_gB {n q : Nat} {f : Nat → SV} (h : q < n) : (ls iOf n f).getD q 0 = iOf (f q) := by
 unfold ls; simp [h]
theorem ls_eqB {n : Nat} {f : Nat → SV} {z : BitVec 64} (hn : n = 64) (h : ∀ q, q < 64 → iOf (f q) = bI (z.getLsbD q)) : ls iOf n f = bl z := by
 subst hn
 exact bl_ext (zc_ ..) fun i hi => by rw [ls_gB hi]; exact h i hi
theorem less_arB2 {t n : Nat} {σ : Nat → Nat} {b : Bool} {f : Nat → SV} (z : BitVec 64) (hn : n = 64) (h : ∀ β q, q < 64 → (f q).cl β = [.int .i64 (bI (z.getLsbD q))]) : Less (.own t (.arr n 1 f) b) ((HB.own t (.arr (bl z).length 1 (zo_ (bl z))) b).ren σ) := by
 subst hn
 exact less_arB z h
def cDiv : FuncId → Option yp_ := yy_ [(162, sRUp), (155, sRSum), (156, sRNot), (165, sRLess)]
theorem cDiv_ok : ∀ f S, cDiv f = some S → zj_ Try.prog f S := zq_ ⟨sRUp_ok, sRSum_ok, sRNot_ok, sRLess_ok, trivial⟩
theorem div_lit (a b : BitVec 64) (p1 p2 : Nat) (hb : 0 < b.toNat) : zp_ Try.prog 158 [.sl 1 2 [] 1 0 (bl a).length (some p1), .sl 3 4 [] 1 0 (bl b).length (some p2)] [.gone, .gone, .ro (.arr (bl a).length 1 (zo_ (bl a))), .gone, .ro (.arr (bl b).length 1 (zo_ (bl b)))] (.tup [.sl 5 5 [] 1 0 (bl (a / b)).length none, .sl 6 6 [] 1 0 (bl (a % b)).length none]) [.gone, .gone, .gone, .gone, .gone, bO (bl (a / b)), bO (bl (a % b))] := by
 have l1 := yb_ a
 have l2 := yb_ b
 have hal := a.isLt
 refine zf_ (fn := Try.f158) 5 44 0 rfl rfl rfl rfl rfl u3_ rfl fun w0 M E hro => ?_
 repeat' (first | refine Ctl.h ?_ | ((with_reducible intro hif); first | (focus (cases hif; done)) | ((try simp only [JH] at hif); try (exfalso; omega))) | ((with_reducible first | apply J22 cDiv_ok za_ | apply J23 fol cDiv_ok za_ | apply J24); (·rfl); (· exact k16_); (try kernel_rfl); try exact xi_) | fail)
 refine WF.put 5 (.own 3 (.arr 64 1 fun _ => .nat .i64 0) false) .loose (fun q => trivial) rfl rfl ?_
 refine WF.put 6 (.own 3 (.arr 64 1 fun _ => .nat .i64 0) false) .loose (fun q => trivial) rfl rfl ?_
 simp only [setH]
 have hR0 : dR a b 0 = 0#64 := by
  unfold dR
  rw [Nat.div_eq_of_lt hal, Nat.zero_mod]
 refine At.pick (L2 := [.gone, .gone, .ro (.arr (bl a).length 1 (zo_ (bl a))), .gone, .ro (.arr (bl b).length 1 (zo_ (bl b))), .own 3 (.arr 64 1 (qS (a / b) 0)) false, bO (bl (dR a b 0))]) (φ2 := [(0, .sl 1 2 [] 1 0 (bl a).length (some p1)), (1, .sl 3 4 [] 1 0 (bl b).length (some p2)), (6, .sl 5 5 [] 1 0 64 none), (7, .sl 6 6 [] 1 0 (bl (dR a b 0)).length none), (8, .int .i64 (63 - ((0 : Nat) : Int)))]) [0, 1, 2, 3, 4, 5, 6] rfl rfl rfl ?_ rfl ?_ ?_ ?_ rfl ?_
 ·(repeat' (first | exact trivial | exact .inl rfl | exact .inr (.same _) | exact .inr .loose | exact .inr (.arr (by assumption)) | apply And.intro | (exact .inr (less_q0 _)) | (rw [hR0]; exact .inr (less_arB 0#64 fun β q hq => by simp [bI]; rfl))))
 ·exact k37_
 ·(repeat' (first | exact trivial | exact ⟨_, rfl, fun β => rfl⟩ | apply And.intro | (rw [hR0, yb_]; exact ⟨_, rfl, fun β => rfl⟩)))
 ·exact k37_
 refine WF.loopAt (fun (k : Nat) => k ≤ 64) (fun (k : Nat) => [(0, .sl 1 2 [] 1 0 (bl a).length (some p1)), (1, .sl 3 4 [] 1 0 (bl b).length (some p2)), (6, .sl 5 5 [] 1 0 64 none), (7, .sl 6 6 [] 1 0 (bl (dR a b k)).length none), (8, .int .i64 (63 - (k : Int)))]) (fun (k : Nat) => [.gone, .gone, .ro (.arr (bl a).length 1 (zo_ (bl a))), .gone, .ro (.arr (bl b).length 1 (zo_ (bl b))), .own 3 (.arr 64 1 (qS (a / b) k)) false, bO (bl (dR a b k))]) (fun (k : Nat) => 64 - k) 0 (Nat.zero_le _) ?_ ?_ rfl ?_ ?_ rfl ?_
 ·exact k8_
 ·exact k5_
 ·exact k37_
 ·exact k37_
 intro k hk
 have l3 := yb_ (dR a b k)
 by_cases hkl : k < 64
 ·have hk0 : (0 : Int) ≤ 63 - (k : Int) := by omega
  have hkt : (63 - (k : Int)).toNat = 63 - k := by omega
  have hden : ∀ β, (SV.int .i64 (63 - (k : Int) - 1)).den β = (SV.int .i64 (63 - ((k + 1 : Nat) : Int))).den β := fun β => by rw [show 63 - (k : Int) - 1 = 63 - ((k + 1 : Nat) : Int) by omega]
  have hst := div_step a.toNat b.toNat (63 - k) hb
  rw [show 63 - k + 1 = 64 - k by omega] at hst
  obtain ⟨r, hr⟩ : ∃ r, a.toNat / 2 ^ (64 - k) % b.toNat = r := ⟨_, rfl⟩
  obtain ⟨c, hc⟩ : ∃ c, a.toNat / 2 ^ (63 - k) % 2 = c := ⟨_, rfl⟩
  have hc2 : c < 2 := by rw [← hc]; exact Nat.mod_lt _ (by decide)
  have hrb : r < b.toNat := by rw [← hr]; exact Nat.mod_lt _ hb
  have hr64 : r < 2 ^ 64 := Nat.lt_trans hrb b.isLt
  rw [hr, hc] at hst
  obtain ⟨s1, s2⟩ := hst
  have eR : dR a b k = BitVec.ofNat 64 r := by rw [← hr]; rfl
  have eR2 : dR a b (k + 1) = BitVec.ofNat 64 (if b.toNat ≤ 2 * r + c then 2 * r + c - b.toNat else 2 * r + c) := by rw [← s1]; unfold dR; rw [show 64 - (k + 1) = 63 - k by omega]
  have eq : (a / b).getLsbD (63 - k) = decide (b.toNat ≤ 2 * r + c) := by rw [← s2, ← BitVec.testBit_toNat, BitVec.toNat_udiv]
  have ea : a.getLsbD (63 - k) = decide (c = 1) := by rw [← BitVec.testBit_toNat, Nat.testBit_eq_decide_div_mod_eq, hc]
  have hx : (bl a).getD (63 - k) 0 = bI (decide (c = 1)) := by rw [zh_ (by omega), ea]
  have ht : (bl (dR a b k)).getD 63 0 = bI (decide (2 ^ 63 ≤ r)) := by rw [zh_ (by decide), eR, top_bit hr64]
  have l4 := yb_ (BitVec.ofNat 64 r <<< 1)
  have htst := div_test (c := c) hrb hc2
  obtain ⟨R1, hR1e⟩ : ∃ x, BitVec.ofNat 64 (2 * r + c) = x := ⟨_, rfl⟩
  have hR1b : ∀ q, q < 64 → R1.getLsbD q = if q = 0 then decide (c = 1) else (BitVec.ofNat 64 r <<< 1).getLsbD q := fun q hq => by rw [← hR1e]; exact dbl_bit r c q hc2 hq
  have hR1 : ls iOf (bl (BitVec.ofNat 64 r <<< 1)).length (fun q => SV.ite (decide (q = 0)) (.int .i64 (bI (decide (c = 1)))) (zo_ (bl (BitVec.ofNat 64 r <<< 1)) q)) = bl R1 := ls_eqB l4 fun q hq => by
   rw [ite_eq, hR1b q hq]
   by_cases h : q = 0
   ·simp [h, iOf]
   ·simp only [h, decide_false, cond_false, if_false]
    show (bl (BitVec.ofNat 64 r <<< 1)).getD q 0 = _
    rw [zh_ hq]
  have hR1u : ls iOf (bl (BitVec.ofNat 64 r <<< 1)).length (fun j => SV.int .i64 (bif decide (j = 0) then bI (decide (c = 1)) else (bl (BitVec.ofNat 64 r <<< 1)).getD j 0)) = bl R1 := ls_eqB l4 fun q hq => by
   rw [hR1b q hq]
   show (bif decide (q = 0) then bI (decide (c = 1)) else (bl (BitVec.ofNat 64 r <<< 1)).getD q 0) = _
   by_cases h : q = 0
   ·simp [h]
   ·simp only [h, decide_false, cond_false, if_false]
    rw [zh_ hq]
  rw [hR1e] at htst
  rw [eR] at l3 ht ⊢
  have ed : decide ((1 : Int) = 1) = true := rfl
  by_cases hov : 2 ^ 63 ≤ r
  ·rw [decide_eq_true hov] at ht htst
   have hge : b.toNat ≤ 2 * r + c := of_decide_eq_true htst.symm
   rw [decide_eq_true hge] at eq
   rw [if_pos hge, ← div_sub hrb hc2 hge, hR1e] at eR2
   have ht1 : (bl (BitVec.ofNat 64 r)).getD 63 0 = 1 := ht
   repeat' (first | refine Ctl.h ?_ | ((with_reducible intro hif); first | (focus (cases hif; done)) | ((try simp only [JH] at hif); try (exfalso; omega))) | ((with_reducible first | apply J22 cDiv_ok za_ | apply J23 fol cDiv_ok za_ | apply J24); (·rfl); (· (simp only [push_cast, ↓JP, Nat.reduceAdd, Nat.reduceEqDiff, Nat.reduceLT, Nat.reduceMul, Nat.reduceLeDiff, reduceCtorEq, reduceIte, cDiv, sRUp, sRSum, sRNot, sRLess, bO, hk0, hkt, hx, ht1, hR1, hR1u, ya_, z9_, iOf, xj_, xm_, ls_i64B, ls_i64U, vb_bl, sumV_sub, ed, zo_, qS_size, it_one, Int.toNat_natCast, nat_one_i, inR, inN]; rfl)); (try kernel_rfl); try exact k40_) | fail)
   refine At.nextPick [0, 1, 2, 3, 4, 5, 9] (k + 1) ?_ rfl rfl rfl ?_ rfl ?_ ?_ ?_ rfl
   ·omega
   ·exact k38_
   ·exact k37_
   ·exact k39_
   ·exact k37_
  ·rw [decide_eq_false hov] at ht htst
   have ht1 : (bl (BitVec.ofNat 64 r)).getD 63 0 = 0 := ht
   by_cases hlt : R1.toNat < b.toNat
   ·rw [decide_eq_true hlt] at htst
    have hge : ¬ b.toNat ≤ 2 * r + c := of_decide_eq_false htst.symm
    rw [decide_eq_false hge] at eq
    rw [if_neg hge, hR1e] at eR2
    repeat' (first | refine Ctl.h ?_ | ((with_reducible intro hif); first | (focus (cases hif; done)) | ((try simp only [JH] at hif); try (exfalso; omega))) | ((with_reducible first | apply J22 cDiv_ok za_ | apply J23 fol cDiv_ok za_ | apply J24); (·rfl); (· exact k41_); (try kernel_rfl); try exact k40_) | fail)
    refine At.nextPick [0, 1, 2, 3, 4, 5, 7] (k + 1) ?_ rfl rfl rfl ?_ rfl ?_ ?_ ?_ rfl
    ·omega
    ·(repeat' (first | exact trivial | exact .inl rfl | exact .inr (.same _) | exact .inr .loose | exact .inr (.arr (by assumption)) | apply And.intro | (exact .inr (less_q2 _ k hkl eq)) | (rw [eR2]; exact .inr (less_arB2 R1 l4 fun β q hq => by rw [hR1b q hq]; by_cases h : q = 0; (subst h; rfl); (simp only [h, decide_false, cond_false, if_false]; rw [← zh_ hq]; rfl)))))
    ·exact k37_
    ·(repeat' (first | exact trivial | exact ⟨_, rfl, fun β => rfl⟩ | apply And.intro | (first | exact ⟨_, rfl, hden⟩ | (rw [eR2, yb_, l4]; exact ⟨_, rfl, fun β => rfl⟩))))
    ·exact k37_
   ·rw [decide_eq_false hlt] at htst
    have hge : b.toNat ≤ 2 * r + c := of_decide_eq_true htst.symm
    rw [decide_eq_true hge] at eq
    rw [if_pos hge, ← div_sub hrb hc2 hge, hR1e] at eR2
    repeat' (first | refine Ctl.h ?_ | ((with_reducible intro hif); first | (focus (cases hif; done)) | ((try simp only [JH] at hif); try (exfalso; omega))) | ((with_reducible first | apply J22 cDiv_ok za_ | apply J23 fol cDiv_ok za_ | apply J24); (·rfl); (· exact k41_); (try kernel_rfl); try exact k40_) | fail)
    refine At.nextPick [0, 1, 2, 3, 4, 5, 9] (k + 1) ?_ rfl rfl rfl ?_ rfl ?_ ?_ ?_ rfl
    ·omega
    ·exact k38_
    ·exact k37_
    ·exact k39_
    ·exact k37_
 ·obtain rfl : k = 64 := by omega
  have hk0 : ¬ (0 : Int) ≤ 63 - ((64 : Nat) : Int) := by omega
  have hRm : dR a b 64 = a % b := by
   unfold dR
   apply BitVec.eq_of_toNat_eq
   rw [BitVec.toNat_ofNat, BitVec.toNat_umod, Nat.sub_self, Nat.pow_zero, Nat.div_one]
   exact Nat.mod_eq_of_lt (Nat.lt_trans (Nat.mod_lt _ hb) b.isLt)
  have hlQ := yb_ (a / b)
  repeat' (first | refine Ctl.h ?_ | ((with_reducible intro hif); first | (focus (cases hif; done)) | ((try simp only [JH] at hif); try (exfalso; omega))) | ((with_reducible first | apply J22 cDiv_ok za_ | apply J23 fol cDiv_ok za_ | apply J24); (·rfl); (· exact k35_); (try kernel_rfl); try exact xi_) | fail)
  apply At.endsPick [0, 1, 2, 3, 4, 5, 6] za_ (fn := Try.f158) (rs := [.tmp 4, .tmp 5]) Anc.refl hro (lb_ rfl) rfl
  ·exact k3_
  ·exact k14_
  ·rfl
  ·rfl
  ·rfl
  ·(repeat' (first | exact trivial | exact .inl rfl | exact .inr (.same _) | exact .inr .loose | exact .inr (.arr (by assumption)) | apply And.intro | (exact .inr (less_arB _ fun β q hq => by unfold qS; rw [if_pos (by omega)]; rfl)) | (rw [← hRm]; exact .inr (.same _))))
  ·rfl
  ·exact k37_
  ·exact k7_
  ·(intro β; rw [hlQ, ← hRm]; rfl)
  ·exact k37_
theorem div_ok (k l : List Int) (p1 p2 : Nat) (h1 : k = bl (vb k)) (h2 : l = bl (vb l)) (hb : 0 < (vb l).toNat) : zp_ Try.prog 158 [.sl 1 2 [] 1 0 k.length (some p1), .sl 3 4 [] 1 0 l.length (some p2)] [.gone, .gone, .ro (.arr k.length 1 (zo_ k)), .gone, .ro (.arr l.length 1 (zo_ l))] (.tup [.sl 5 5 [] 1 0 (bl (vb k / vb l)).length none, .sl 6 6 [] 1 0 (bl (vb k % vb l)).length none]) [.gone, .gone, .gone, .gone, .gone, bO (bl (vb k / vb l)), bO (bl (vb k % vb l))] := by
 have h := div_lit (vb k) (vb l) p1 p2 hb
 rw [← h1, ← h2] at h
 exact h
def sRDiv : yp_ := fun args h m => match args with
 | [v1, v2] => match y6_ h 1 (.tup []) v1, y6_ h 1 (.tup []) v2 with
  | some (c1, n1, f1, r1), some (c2, n2, f2, r2) => some (c1 ∧ c2 ∧ (∀ q, q < n1 → isI .i64 (f1 q) = true) ∧ (∀ q, q < n2 → isI .i64 (f2 q) = true) ∧ ((ls iOf n1 f1) = bl (vb (ls iOf n1 f1))) ∧ ((ls iOf n2 f2) = bl (vb (ls iOf n2 f2))) ∧ (0 < (vb (ls iOf n2 f2)).toNat), .tup [.sl m m [] 1 0 (bl (vb (ls iOf n1 f1) / vb (ls iOf n2 f2))).length none, .sl (m + 1) (m + 1) [] 1 0 (bl (vb (ls iOf n1 f1) % vb (ls iOf n2 f2))).length none], r1 ++ r2, [(m, bO (bl (vb (ls iOf n1 f1) / vb (ls iOf n2 f2)))), (m + 1, bO (bl (vb (ls iOf n1 f1) % vb (ls iOf n2 f2))))])
  | _, _ => none
 | _ => none
theorem sRDiv_ok : zj_ Try.prog 158 sRDiv := by
 refine ⟨zi_ (by kernel_rfl), fun args h m c v rd wr hs hm hc w0 M β h' w R hrd hwr hst => ?_⟩
 unfold sRDiv at hs
 split at hs
 ·rename_i v1 v2
  split at hs
  ·rename_i c1 n1 f1 r1 c2 n2 f2 r2 a1 a2
   simp only [Option.some.injEq, Prod.mk.injEq] at hs
   obtain ⟨rfl, rfl, rfl, rfl⟩ := hs
   obtain ⟨k1, k2, g1, g2, y1, y2, y3⟩ := hc
   obtain ⟨A1, p1, d1, e1, t1⟩ := zg_ R a1 k1 (fun i hi => hrd i (List.mem_append_left _ hi)) (by omega)
   obtain ⟨A2, p2, d2, e2, t2⟩ := zg_ R a2 k2 (fun i hi => hrd i (List.mem_append_right _ hi)) (by omega)
   refine yl_ (views := [⟨1, (ls iOf n1 f1).length, zo_ (ls iOf n1 f1), A1, p1⟩, ⟨1, (ls iOf n2 f2).length, zo_ (ls iOf n2 f2), A2, p2⟩]) (div_ok (ls iOf n1 f1) (ls iOf n2 f2) p1 p2 y1 y2 y3) ?_ R hm hwr ?_ ?_ ?_
   ·exact d28_
   ·exact d26_
   ·exact k37_
   ·exact k37_
  ·cases hs
 ·cases hs
end Go.Proofs.Ytmljmabbopkpiaa.Vm
end
section
namespace Go.Proofs.Ytmljmabbopkpiaa
open Go.RowKit
def yk_ (op b : Int) : Int := if op < 1 ∨ 17 < op then 130 else if b = 0 ∧ 4 ≤ op ∧ op ≤ 6 then 131 else 0
def allL : List Value := [.string ⟨#[]⟩, .bool false, .string ⟨#[97, 100, 100]⟩, .bool false, .string ⟨#[115, 117, 98]⟩, .bool false, .string ⟨#[109, 117, 108]⟩, .bool false,
 .string ⟨#[100, 105, 118]⟩, .bool true, .string ⟨#[114, 101, 109]⟩, .bool true, .string ⟨#[109, 111, 100]⟩, .bool true, .string ⟨#[97, 110, 100]⟩, .bool false, .string ⟨#[111, 114]⟩, .bool false,
 .string ⟨#[120, 111, 114]⟩, .bool false, .string ⟨#[115, 104, 108]⟩, .bool false, .string ⟨#[115, 104, 114]⟩, .bool false, .string ⟨#[115, 97, 114]⟩, .bool false, .string ⟨#[108, 101, 115, 115]⟩, .bool false,
 .string ⟨#[98, 101, 108, 111, 119]⟩, .bool false, .string ⟨#[101, 113, 117, 97, 108]⟩, .bool false, .string ⟨#[109, 105, 110]⟩, .bool false, .string ⟨#[109, 97, 120]⟩, .bool false]
theorem truth_t (w : World) : Calls Try.prog 74 #[.bool true] w fun e w' => e = .returned (.int .i64 1) ∧ w = w' := by
 go_enter Try.func74, Try.ntmps74
 go_wp2
 go_ret
 exact ⟨rfl, rfl⟩
theorem truth_f (w : World) : Calls Try.prog 74 #[.bool false] w fun e w' => e = .returned (.int .i64 0) ∧ w = w' := by
 go_enter Try.func74, Try.ntmps74
 go_wp2
 go_ret
 exact ⟨rfl, rfl⟩
def truthI (b : Bool) : Int := if b then 1 else 0
theorem truth_c (b : Bool) (w : World) : Calls Try.prog 74 #[.bool b] w fun e w' => e = .returned (.int .i64 (truthI b)) ∧ w = w' := by
 cases b
 ·exact truth_f w
 ·exact truth_t w
def modI (a b : Int) : Int := if 0 ≤ a.tmod b then a.tmod b else if b < 0 then wrap64 (a.tmod b - b) else wrap64 (a.tmod b + b)
theorem mod_c (a b : Int) (w : World) (hb : b ≠ 0) : Calls Try.prog 73 #[.int .i64 a, .int .i64 b] w fun e w' => e = .returned (.int .i64 (modI a b)) ∧ w = w' := by
 go_enter Try.func73, Try.ntmps73
 go_wp2
 all_goals go_ret
 all_goals refine ⟨ret_i64 ?_, rfl⟩
 ·rw [modI, if_pos (by assumption)]
 ·rw [modI, if_neg (by omega), if_pos (by assumption)]
 ·rw [modI, if_neg (by omega), if_neg (by omega)]
set_option maxRecDepth 100000 in
set_option maxHeartbeats 4000000 in
theorem all_c (w : World) : Calls Try.prog 108 #[] w fun e w' => e = .returned (.agg allL.toArray) ∧ Below w.heap.size w w' := by
 go_enter Try.func108, Try.ntmps108
 go_wp2_with (refine wpList_store_row rfl 205 (.tmp 0) (.tmp 19) rfl w.heap.size allL.toArray rfl rfl 205 _ (heap_alloc_new w _) (by kernel_rfl) rfl (by kernel_rfl) ?_)
 exact bodyPost_ret (v := .agg allL.toArray) (results_cell_row (P := Try.prog) (p := 0) (ty := 205) rfl _ _ w.heap.size 205 allL.toArray (0, 0) _ rfl (setRow_heap _ _ _ _ _ _ (heap_alloc_new w _)) Try.underlying205 rfl (by kernel_rfl)) rfl
  ⟨rfl, below_setRow ((Below.refl _ _).alloc (Nat.le_refl _) _) (Nat.le_refl _) _⟩
def nmB : Value → ByteArray
 | .string s => s
 | _ => ⟨#[]⟩
def nm (op : Int) : ByteArray := nmB (allL.getD (2 * op).toNat undef)
theorem allIx1 (w : World) : (Instr.index 205 (.agg allL.toArray) (.int .u8 1)).run Try.prog w = .ok (.agg #[.string (nm 1), .bool (decide ((4:Int) ≤ 1 ∧ (1:Int) ≤ 6))]) w := by kernel_rfl
theorem allIx2 (w : World) : (Instr.index 205 (.agg allL.toArray) (.int .u8 2)).run Try.prog w = .ok (.agg #[.string (nm 2), .bool (decide ((4:Int) ≤ 2 ∧ (2:Int) ≤ 6))]) w := by kernel_rfl
theorem allIx3 (w : World) : (Instr.index 205 (.agg allL.toArray) (.int .u8 3)).run Try.prog w = .ok (.agg #[.string (nm 3), .bool (decide ((4:Int) ≤ 3 ∧ (3:Int) ≤ 6))]) w := by kernel_rfl
theorem allIx4 (w : World) : (Instr.index 205 (.agg allL.toArray) (.int .u8 4)).run Try.prog w = .ok (.agg #[.string (nm 4), .bool (decide ((4:Int) ≤ 4 ∧ (4:Int) ≤ 6))]) w := by kernel_rfl
theorem allIx5 (w : World) : (Instr.index 205 (.agg allL.toArray) (.int .u8 5)).run Try.prog w = .ok (.agg #[.string (nm 5), .bool (decide ((4:Int) ≤ 5 ∧ (5:Int) ≤ 6))]) w := by kernel_rfl
theorem allIx6 (w : World) : (Instr.index 205 (.agg allL.toArray) (.int .u8 6)).run Try.prog w = .ok (.agg #[.string (nm 6), .bool (decide ((4:Int) ≤ 6 ∧ (6:Int) ≤ 6))]) w := by kernel_rfl
theorem allIx7 (w : World) : (Instr.index 205 (.agg allL.toArray) (.int .u8 7)).run Try.prog w = .ok (.agg #[.string (nm 7), .bool (decide ((4:Int) ≤ 7 ∧ (7:Int) ≤ 6))]) w := by kernel_rfl
theorem allIx8 (w : World) : (Instr.index 205 (.agg allL.toArray) (.int .u8 8)).run Try.prog w = .ok (.agg #[.string (nm 8), .bool (decide ((4:Int) ≤ 8 ∧ (8:Int) ≤ 6))]) w := by kernel_rfl
theorem allIx9 (w : World) : (Instr.index 205 (.agg allL.toArray) (.int .u8 9)).run Try.prog w = .ok (.agg #[.string (nm 9), .bool (decide ((4:Int) ≤ 9 ∧ (9:Int) ≤ 6))]) w := by kernel_rfl
theorem allIx10 (w : World) : (Instr.index 205 (.agg allL.toArray) (.int .u8 10)).run Try.prog w = .ok (.agg #[.string (nm 10), .bool (decide ((4:Int) ≤ 10 ∧ (10:Int) ≤ 6))]) w := by kernel_rfl
theorem allIx11 (w : World) : (Instr.index 205 (.agg allL.toArray) (.int .u8 11)).run Try.prog w = .ok (.agg #[.string (nm 11), .bool (decide ((4:Int) ≤ 11 ∧ (11:Int) ≤ 6))]) w := by kernel_rfl
theorem allIx12 (w : World) : (Instr.index 205 (.agg allL.toArray) (.int .u8 12)).run Try.prog w = .ok (.agg #[.string (nm 12), .bool (decide ((4:Int) ≤ 12 ∧ (12:Int) ≤ 6))]) w := by kernel_rfl
theorem allIx13 (w : World) : (Instr.index 205 (.agg allL.toArray) (.int .u8 13)).run Try.prog w = .ok (.agg #[.string (nm 13), .bool (decide ((4:Int) ≤ 13 ∧ (13:Int) ≤ 6))]) w := by kernel_rfl
theorem allIx14 (w : World) : (Instr.index 205 (.agg allL.toArray) (.int .u8 14)).run Try.prog w = .ok (.agg #[.string (nm 14), .bool (decide ((4:Int) ≤ 14 ∧ (14:Int) ≤ 6))]) w := by kernel_rfl
theorem allIx15 (w : World) : (Instr.index 205 (.agg allL.toArray) (.int .u8 15)).run Try.prog w = .ok (.agg #[.string (nm 15), .bool (decide ((4:Int) ≤ 15 ∧ (15:Int) ≤ 6))]) w := by kernel_rfl
theorem allIx16 (w : World) : (Instr.index 205 (.agg allL.toArray) (.int .u8 16)).run Try.prog w = .ok (.agg #[.string (nm 16), .bool (decide ((4:Int) ≤ 16 ∧ (16:Int) ≤ 6))]) w := by kernel_rfl
theorem allIx17 (w : World) : (Instr.index 205 (.agg allL.toArray) (.int .u8 17)).run Try.prog w = .ok (.agg #[.string (nm 17), .bool (decide ((4:Int) ≤ 17 ∧ (17:Int) ≤ 6))]) w := by kernel_rfl
theorem allIxAt (op : Int) (h1 : 1 ≤ op) (h2 : op ≤ 17) (w : World) : (Instr.index 205 (.agg allL.toArray) (.int .u8 op)).run Try.prog w = .ok (.agg #[.string (nm op), .bool (decide (4 ≤ op ∧ op ≤ 6))]) w := by
 have h : op = 1 ∨ op = 2 ∨ op = 3 ∨ op = 4 ∨ op = 5 ∨ op = 6 ∨ op = 7 ∨ op = 8 ∨ op = 9 ∨ op = 10 ∨ op = 11 ∨ op = 12 ∨ op = 13 ∨ op = 14 ∨ op = 15 ∨ op = 16 ∨ op = 17 := by omega
 rcases h with h | h | h | h | h | h | h | h | h | h | h | h | h | h | h | h | h <;> subst h
 ·exact allIx1 w
 ·exact allIx2 w
 ·exact allIx3 w
 ·exact allIx4 w
 ·exact allIx5 w
 ·exact allIx6 w
 ·exact allIx7 w
 ·exact allIx8 w
 ·exact allIx9 w
 ·exact allIx10 w
 ·exact allIx11 w
 ·exact allIx12 w
 ·exact allIx13 w
 ·exact allIx14 w
 ·exact allIx15 w
 ·exact allIx16 w
 ·exact allIx17 w
set_option maxHeartbeats 1000000 in
theorem wrong_bad (op b : Int) (w : World) (h : op < 1 ∨ 17 < op) : Calls Try.prog 72 #[.int .u8 op, .int .i64 b] w fun e w' => e = .returned (.int .i64 130) ∧ w = w' := by
 rcases h with h | h
 ·go_enter Try.func72, Try.ntmps72
  go_wp2
  go_ret
  exact ⟨rfl, rfl⟩
 ·have h' : ¬ op < 1 := by omega
  go_enter Try.func72, Try.ntmps72
  go_wp2
  go_ret
  exact ⟨rfl, rfl⟩
set_option maxHeartbeats 1000000 in
theorem wrong_ok (op b : Int) (w : World) (h1 : 1 ≤ op) (h2 : op ≤ 17) (hb : (b == 0) = false) : Calls Try.prog 72 #[.int .u8 op, .int .i64 b] w fun e w' => e = .returned (.int .i64 0) ∧ w = w' := by
 go_enter Try.func72, Try.ntmps72
 go_wp2
 go_ret
 exact ⟨rfl, rfl⟩
set_option maxRecDepth 100000 in
set_option maxHeartbeats 1000000 in
theorem wrong_z (op : Int) (w : World) (h1 : 1 ≤ op) (h2 : op ≤ 17) : Calls Try.prog 72 #[.int .u8 op, .int .i64 0] w fun e w' => e = .returned (.int .i64 (if 4 ≤ op ∧ op ≤ 6 then 131 else 0)) ∧ Below w.heap.size w w' := by
 have hs := allIxAt op h1 h2
 obtain ⟨V, hV⟩ : ∃ V, V = allL.toArray := ⟨_, rfl⟩
 have ha : ∀ w, Calls Try.prog 108 #[] w fun e w' => e = .returned (.agg V) ∧ Below w.heap.size w w' := hV ▸ all_c
 rw [← hV] at hs
 have HA := Lib.hid ha
 clear ha hV
 have hfl : ∀ (w : World) (s : ByteArray) (b : Bool), (Instr.field 204 (.agg #[.string s, .bool b]) 1).run Try.prog w = .ok (.bool b) w := fun w s b => by kernel_rfl
 go_enter Try.func72, Try.ntmps72
 go_wp2_with fail
 refine (HA.out _).mono ?_
 rintro e w' ⟨rfl, hb⟩
 go_wp2
 all_goals go_ret
 all_goals exact ⟨rfl, hb⟩
theorem wrong_c (op b : Int) (w : World) : Calls Try.prog 72 #[.int .u8 op, .int .i64 b] w fun e w' => e = .returned (.int .i64 (yk_ op b)) ∧ Below w.heap.size w w' := by
 by_cases h : op < 1 ∨ 17 < op
 ·refine (wrong_bad op b w h).mono ?_
  rintro e w' ⟨rfl, rfl⟩
  exact ⟨ret_i64 (by rw [yk_, if_pos h]), Below.refl _ _⟩
 ·by_cases hb : b = 0
  ·subst hb
   refine (wrong_z op w (by omega) (by omega)).mono ?_
   rintro e w' ⟨rfl, hB⟩
   refine ⟨ret_i64 ?_, hB⟩
   rw [yk_, if_neg h]
   simp
  ·refine (wrong_ok op b w (by omega) (by omega) (by simpa using hb)).mono ?_
   rintro e w' ⟨rfl, rfl⟩
   exact ⟨ret_i64 (by rw [yk_, if_neg h, if_neg (fun x => hb x.1)]), Below.refl _ _⟩
set_option maxRecDepth 100000 in
set_option maxHeartbeats 1000000 in
theorem apply_bad (op a b : Int) (w : World) (h : (yk_ op b != 0) = true) : Calls Try.prog 29 #[.int .u8 op, .int .i64 a, .int .i64 b] w fun e w' => e = .returned (.tuple #[.int .i64 0, .int .i64 (yk_ op b)]) ∧ Below w.heap.size w w' := by
 have HW := Lib.hid (fun w => wrong_c op b w)
 obtain ⟨E, hE⟩ : ∃ E, E = yk_ op b := ⟨_, rfl⟩
 rw [← hE] at HW h ⊢
 clear hE
 go_enter Try.func29, Try.ntmps29
 go_wp2_with fail
 refine (HW.out _).mono ?_
 rintro e w' ⟨rfl, hb⟩
 go_wp2
 go_ret2
 exact ⟨rfl, hb⟩
def shB (b : Int) : Int := bits BinOp.and IntKind.u64 (IntKind.u64.wrap b) 63
theorem u64_wrap_bd (b : Int) : 0 ≤ IntKind.u64.wrap b ∧ IntKind.u64.wrap b < 18446744073709551616 := by
 simp only [IntKind.wrap, IntKind.bits, IntKind.signed]
 simp
 omega
theorem shB_eq (b : Int) : shB b = IntKind.u64.wrap b % 64 := by
 have hb := u64_wrap_bd b
 unfold shB
 rw [u64_and _ _ hb.1 hb.2 (by decide) (by decide)]
 have h63 : (63 : Int).toNat = 2 ^ 6 - 1 := by decide
 rw [h63, Nat.and_two_pow_sub_one_eq_mod]
 omega
theorem shB_bd (b : Int) : 0 ≤ shB b ∧ shB b ≤ 63 := by rw [shB_eq]; omega
def yj_ (op a b : Int) : Int :=
 if op = 1 then wrap64 (a + b) else if op = 2 then wrap64 (a - b) else if op = 3 then wrap64 (a * b)
 else if op = 4 then wrap64 (a.tdiv b) else if op = 5 then a.tmod b else if op = 6 then modI a b
 else if op = 7 then bits .and .i64 a b else if op = 8 then bits .or .i64 a b else if op = 9 then bits .xor .i64 a b
 else if op = 10 then wrap64 (a * 2 ^ (shB b).toNat) else if op = 11 then wrap64 (IntKind.u64.wrap a / 2 ^ (shB b).toNat) else if op = 12 then a / 2 ^ (shB b).toNat
 else if op = 13 then truthI (decide (a < b)) else if op = 14 then truthI (decide (IntKind.u64.wrap a < IntKind.u64.wrap b)) else if op = 15 then truthI (a == b)
 else if op = 16 then (if b < a then b else a) else (if a < b then b else a)
set_option maxRecDepth 100000 in
set_option maxHeartbeats 4000000 in
theorem apply_1 (a b : Int) (w : World)
 (hw : ∀ w, Calls Try.prog 72 #[.int .u8 1, .int .i64 b] w fun e w' => e = .returned (.int .i64 0) ∧ Below w.heap.size w w') : Calls Try.prog 29 #[.int .u8 1, .int .i64 a, .int .i64 b] w fun e w' => e = .returned (.tuple #[.int .i64 (yj_ 1 a b), .int .i64 0]) ∧ Below w.heap.size w w' :=  Vm.d2_
set_option maxRecDepth 100000 in
set_option maxHeartbeats 4000000 in
theorem apply_2 (a b : Int) (w : World)
 (hw : ∀ w, Calls Try.prog 72 #[.int .u8 2, .int .i64 b] w fun e w' => e = .returned (.int .i64 0) ∧ Below w.heap.size w w') : Calls Try.prog 29 #[.int .u8 2, .int .i64 a, .int .i64 b] w fun e w' => e = .returned (.tuple #[.int .i64 (yj_ 2 a b), .int .i64 0]) ∧ Below w.heap.size w w' :=  Vm.d2_
set_option maxRecDepth 100000 in
set_option maxHeartbeats 4000000 in
theorem apply_3 (a b : Int) (w : World)
 (hw : ∀ w, Calls Try.prog 72 #[.int .u8 3, .int .i64 b] w fun e w' => e = .returned (.int .i64 0) ∧ Below w.heap.size w w') : Calls Try.prog 29 #[.int .u8 3, .int .i64 a, .int .i64 b] w fun e w' => e = .returned (.tuple #[.int .i64 (yj_ 3 a b), .int .i64 0]) ∧ Below w.heap.size w w' :=  Vm.d2_
set_option maxRecDepth 100000 in
set_option maxHeartbeats 4000000 in
theorem apply_4 (a b : Int) (w : World) (hb0 : b ≠ 0)
 (hw : ∀ w, Calls Try.prog 72 #[.int .u8 4, .int .i64 b] w fun e w' => e = .returned (.int .i64 0) ∧ Below w.heap.size w w') : Calls Try.prog 29 #[.int .u8 4, .int .i64 a, .int .i64 b] w fun e w' => e = .returned (.tuple #[.int .i64 (yj_ 4 a b), .int .i64 0]) ∧ Below w.heap.size w w' :=  Vm.d2_
set_option maxRecDepth 100000 in
set_option maxHeartbeats 4000000 in
theorem apply_5 (a b : Int) (w : World) (hb0 : b ≠ 0)
 (hw : ∀ w, Calls Try.prog 72 #[.int .u8 5, .int .i64 b] w fun e w' => e = .returned (.int .i64 0) ∧ Below w.heap.size w w') : Calls Try.prog 29 #[.int .u8 5, .int .i64 a, .int .i64 b] w fun e w' => e = .returned (.tuple #[.int .i64 (yj_ 5 a b), .int .i64 0]) ∧ Below w.heap.size w w' :=  Vm.d2_
set_option maxRecDepth 100000 in
set_option maxHeartbeats 4000000 in
theorem apply_6 (a b : Int) (w : World) (hb0 : b ≠ 0)
 (hw : ∀ w, Calls Try.prog 72 #[.int .u8 6, .int .i64 b] w fun e w' => e = .returned (.int .i64 0) ∧ Below w.heap.size w w') : Calls Try.prog 29 #[.int .u8 6, .int .i64 a, .int .i64 b] w fun e w' => e = .returned (.tuple #[.int .i64 (yj_ 6 a b), .int .i64 0]) ∧ Below w.heap.size w w' :=  Vm.d2_
set_option maxRecDepth 100000 in
set_option maxHeartbeats 4000000 in
theorem apply_7 (a b : Int) (w : World)
 (hw : ∀ w, Calls Try.prog 72 #[.int .u8 7, .int .i64 b] w fun e w' => e = .returned (.int .i64 0) ∧ Below w.heap.size w w') : Calls Try.prog 29 #[.int .u8 7, .int .i64 a, .int .i64 b] w fun e w' => e = .returned (.tuple #[.int .i64 (yj_ 7 a b), .int .i64 0]) ∧ Below w.heap.size w w' :=  Vm.d2_
set_option maxRecDepth 100000 in
set_option maxHeartbeats 4000000 in
theorem apply_8 (a b : Int) (w : World)
 (hw : ∀ w, Calls Try.prog 72 #[.int .u8 8, .int .i64 b] w fun e w' => e = .returned (.int .i64 0) ∧ Below w.heap.size w w') : Calls Try.prog 29 #[.int .u8 8, .int .i64 a, .int .i64 b] w fun e w' => e = .returned (.tuple #[.int .i64 (yj_ 8 a b), .int .i64 0]) ∧ Below w.heap.size w w' :=  Vm.d2_
set_option maxRecDepth 100000 in
set_option maxHeartbeats 4000000 in
theorem apply_9 (a b : Int) (w : World)
 (hw : ∀ w, Calls Try.prog 72 #[.int .u8 9, .int .i64 b] w fun e w' => e = .returned (.int .i64 0) ∧ Below w.heap.size w w') : Calls Try.prog 29 #[.int .u8 9, .int .i64 a, .int .i64 b] w fun e w' => e = .returned (.tuple #[.int .i64 (yj_ 9 a b), .int .i64 0]) ∧ Below w.heap.size w w' :=  Vm.d2_
set_option maxRecDepth 100000 in
set_option maxHeartbeats 4000000 in
theorem apply_10 (a b : Int) (w : World)
 (hw : ∀ w, Calls Try.prog 72 #[.int .u8 10, .int .i64 b] w fun e w' => e = .returned (.int .i64 0) ∧ Below w.heap.size w w') : Calls Try.prog 29 #[.int .u8 10, .int .i64 a, .int .i64 b] w fun e w' => e = .returned (.tuple #[.int .i64 (yj_ 10 a b), .int .i64 0]) ∧ Below w.heap.size w w' :=  Vm.d3_
set_option maxRecDepth 100000 in
set_option maxHeartbeats 4000000 in
theorem apply_11 (a b : Int) (w : World)
 (hw : ∀ w, Calls Try.prog 72 #[.int .u8 11, .int .i64 b] w fun e w' => e = .returned (.int .i64 0) ∧ Below w.heap.size w w') : Calls Try.prog 29 #[.int .u8 11, .int .i64 a, .int .i64 b] w fun e w' => e = .returned (.tuple #[.int .i64 (yj_ 11 a b), .int .i64 0]) ∧ Below w.heap.size w w' :=  Vm.d3_
set_option maxRecDepth 100000 in
set_option maxHeartbeats 4000000 in
theorem apply_12 (a b : Int) (w : World)
 (hw : ∀ w, Calls Try.prog 72 #[.int .u8 12, .int .i64 b] w fun e w' => e = .returned (.int .i64 0) ∧ Below w.heap.size w w') : Calls Try.prog 29 #[.int .u8 12, .int .i64 a, .int .i64 b] w fun e w' => e = .returned (.tuple #[.int .i64 (yj_ 12 a b), .int .i64 0]) ∧ Below w.heap.size w w' :=  Vm.d3_
set_option maxRecDepth 100000 in
set_option maxHeartbeats 4000000 in
theorem apply_13 (a b : Int) (w : World)
 (hw : ∀ w, Calls Try.prog 72 #[.int .u8 13, .int .i64 b] w fun e w' => e = .returned (.int .i64 0) ∧ Below w.heap.size w w') : Calls Try.prog 29 #[.int .u8 13, .int .i64 a, .int .i64 b] w fun e w' => e = .returned (.tuple #[.int .i64 (yj_ 13 a b), .int .i64 0]) ∧ Below w.heap.size w w' :=  Vm.d2_
set_option maxRecDepth 100000 in
set_option maxHeartbeats 4000000 in
theorem apply_14 (a b : Int) (w : World)
 (hw : ∀ w, Calls Try.prog 72 #[.int .u8 14, .int .i64 b] w fun e w' => e = .returned (.int .i64 0) ∧ Below w.heap.size w w') : Calls Try.prog 29 #[.int .u8 14, .int .i64 a, .int .i64 b] w fun e w' => e = .returned (.tuple #[.int .i64 (yj_ 14 a b), .int .i64 0]) ∧ Below w.heap.size w w' :=  Vm.d2_
set_option maxRecDepth 100000 in
set_option maxHeartbeats 4000000 in
theorem apply_15 (a b : Int) (w : World)
 (hw : ∀ w, Calls Try.prog 72 #[.int .u8 15, .int .i64 b] w fun e w' => e = .returned (.int .i64 0) ∧ Below w.heap.size w w') : Calls Try.prog 29 #[.int .u8 15, .int .i64 a, .int .i64 b] w fun e w' => e = .returned (.tuple #[.int .i64 (yj_ 15 a b), .int .i64 0]) ∧ Below w.heap.size w w' :=  Vm.d2_
set_option maxRecDepth 100000 in
set_option maxHeartbeats 4000000 in
theorem apply_16 (a b : Int) (w : World)
 (hw : ∀ w, Calls Try.prog 72 #[.int .u8 16, .int .i64 b] w fun e w' => e = .returned (.int .i64 0) ∧ Below w.heap.size w w') : Calls Try.prog 29 #[.int .u8 16, .int .i64 a, .int .i64 b] w fun e w' => e = .returned (.tuple #[.int .i64 (yj_ 16 a b), .int .i64 0]) ∧ Below w.heap.size w w' :=  Vm.d2_
set_option maxRecDepth 100000 in
set_option maxHeartbeats 4000000 in
theorem apply_17 (a b : Int) (w : World)
 (hw : ∀ w, Calls Try.prog 72 #[.int .u8 17, .int .i64 b] w fun e w' => e = .returned (.int .i64 0) ∧ Below w.heap.size w w') : Calls Try.prog 29 #[.int .u8 17, .int .i64 a, .int .i64 b] w fun e w' => e = .returned (.tuple #[.int .i64 (yj_ 17 a b), .int .i64 0]) ∧ Below w.heap.size w w' :=  Vm.d2_
def yn_ (op a b : Int) : Int := if yk_ op b = 0 then yj_ op a b else 0
theorem apply_c (op a b : Int) (w : World) : Calls Try.prog 29 #[.int .u8 op, .int .i64 a, .int .i64 b] w fun e w' => e = .returned (.tuple #[.int .i64 (yn_ op a b), .int .i64 (yk_ op b)]) ∧ Below w.heap.size w w' := by
 by_cases h : yk_ op b = 0
 ·have hw : ∀ w, Calls Try.prog 72 #[.int .u8 op, .int .i64 b] w fun e w' => e = .returned (.int .i64 0) ∧ Below w.heap.size w w' := by rw [← h]; exact wrong_c op b
  have hz : 4 ≤ op → op ≤ 6 → b ≠ 0 := by
   intro x y z
   rw [yk_, if_neg (by omega), if_pos ⟨z, x, y⟩] at h
   exact absurd h (by decide)
  have hop : 1 ≤ op ∧ op ≤ 17 := by
   refine ⟨?_, ?_⟩
   ·by_cases q : op < 1
    ·rw [yk_, if_pos (.inl q)] at h; exact absurd h (by decide)
    ·omega
   ·by_cases q : 17 < op
    ·rw [yk_, if_pos (.inr q)] at h; exact absurd h (by decide)
    ·omega
  rw [yn_, if_pos h, h]
  have h : op = 1 ∨ op = 2 ∨ op = 3 ∨ op = 4 ∨ op = 5 ∨ op = 6 ∨ op = 7 ∨ op = 8 ∨ op = 9 ∨ op = 10 ∨ op = 11 ∨ op = 12 ∨ op = 13 ∨ op = 14 ∨ op = 15 ∨ op = 16 ∨ op = 17 := by omega
  rcases h with h | h | h | h | h | h | h | h | h | h | h | h | h | h | h | h | h <;> subst h
  ·exact apply_1 a b w hw
  ·exact apply_2 a b w hw
  ·exact apply_3 a b w hw
  ·exact apply_4 a b w (hz (by decide) (by decide)) hw
  ·exact apply_5 a b w (hz (by decide) (by decide)) hw
  ·exact apply_6 a b w (hz (by decide) (by decide)) hw
  ·exact apply_7 a b w hw
  ·exact apply_8 a b w hw
  ·exact apply_9 a b w hw
  ·exact apply_10 a b w hw
  ·exact apply_11 a b w hw
  ·exact apply_12 a b w hw
  ·exact apply_13 a b w hw
  ·exact apply_14 a b w hw
  ·exact apply_15 a b w hw
  ·exact apply_16 a b w hw
  ·exact apply_17 a b w hw
 ·rw [yn_, if_neg h]
  exact apply_bad op a b w (by rw [bne_iff_ne]; exact h)
end Go.Proofs.Ytmljmabbopkpiaa
end
section
namespace Go.Proofs.Ytmljmabbopkpiaa.Vm
open Go.RowKit
def R64 (a : Int) : Prop := -9223372036854775808 ≤ a ∧ a ≤ 9223372036854775807
abbrev oi (a : Int) : BitVec 64 := BitVec.ofInt 64 a
theorem bmod64 {n : Int} (h : R64 n) : n.bmod (2 ^ 64) = n := by
 obtain ⟨h1, h2⟩ := h
 have e : ((2 ^ 64 : Nat) : Int) = 18446744073709551616 := by decide
 rw [Int.bmod_def, e]
 split <;> omega
theorem wrap_oi (n : Int) : wrap64 n = (oi n).toInt := by
 have e : ((2 ^ 64 : Nat) : Int) = 18446744073709551616 := by decide
 rw [BitVec.toInt_ofInt, Int.bmod_def, e, wrap64]
 split <;> omega
theorem oi_toInt {n : Int} (h : R64 n) : (oi n).toInt = n := by rw [BitVec.toInt_ofInt, bmod64 h]
theorem toInt_R (x : BitVec 64) : R64 x.toInt := by
 have h1 := BitVec.le_toInt x
 have h2 := BitVec.toInt_lt (x := x)
 simp only [Nat.reduceSub, Nat.reducePow] at h1 h2
 constructor <;> omega
theorem oi_nat (n : Nat) : oi (n : Int) = BitVec.ofNat 64 n := BitVec.ofInt_natCast ..
theorem u64_toNat (a : Int) : IntKind.u64.wrap a = ((oi a).toNat : Int) := by
 have e : ((2 ^ 64 : Nat) : Int) = 18446744073709551616 := by decide
 rw [BitVec.toNat_ofInt, e]
 simp only [IntKind.wrap, IntKind.bits, IntKind.signed]
 simp
 omega
theorem amV_nat {a : Int} (h : R64 a) : (amV a).toNat = a.natAbs := by
 obtain ⟨h1, h2⟩ := h
 have e : ((2 ^ 64 : Nat) : Int) = 18446744073709551616 := by decide
 unfold amV
 split
 ·rename_i h0
  rw [← BitVec.ofInt_neg, BitVec.toNat_ofInt, e]
  omega
 ·rename_i h0
  rw [BitVec.toNat_ofInt, e]
  omega
theorem wrap_i64k (n : Int) : IntKind.i64.wrap n = wrap64 n := by
 rw [IntKind.wrap_i64, wrap64]
theorem bits_oi (x : BitVec 64) : IntKind.i64.wrap (x.toNat : Int) = x.toInt := by
 rw [wrap_i64k, wrap_oi, oi_nat, BitVec.ofNat_toNat, BitVec.setWidth_eq]
theorem ap7 (a b : Int) : bits .and .i64 a b = (oi a &&& oi b).toInt := bits_oi _
theorem ap8 (a b : Int) : bits .or .i64 a b = (oi a ||| oi b).toInt := bits_oi _
theorem ap9 (a b : Int) : bits .xor .i64 a b = (oi a ^^^ oi b).toInt := bits_oi _
theorem ap1 (a b : Int) : wrap64 (a + b) = (oi a + oi b).toInt := by rw [wrap_oi, oi, BitVec.ofInt_add]
theorem ap2 (a b : Int) : wrap64 (a - b) = (oi a - oi b).toInt := by
 rw [wrap_oi, Int.sub_eq_add_neg, oi, BitVec.ofInt_add, BitVec.ofInt_neg, BitVec.sub_eq_add_neg]
theorem ap3 (a b : Int) : wrap64 (a * b) = (oi a * oi b).toInt := by rw [wrap_oi, oi, BitVec.ofInt_mul]
def nY (y : BitVec 64) : Int := bI (y.getLsbD 0) + 2 * bI (y.getLsbD 1) + 4 * bI (y.getLsbD 2) + 8 * bI (y.getLsbD 3) + 16 * bI (y.getLsbD 4) + 32 * bI (y.getLsbD 5)
theorem bI_dec (n : Nat) : bI (decide (n % 2 = 1)) = ((n % 2 : Nat) : Int) := by
 by_cases h : n % 2 = 1
 ·rw [h]; rfl
 ·have : n % 2 = 0 := by omega
  rw [this]; rfl
theorem nY_eq (y : BitVec 64) : nY y = ((y.toNat % 64 : Nat) : Int) := by
 unfold nY
 simp only [← BitVec.testBit_toNat, Nat.testBit_eq_decide_div_mod_eq, bI_dec]
 simp only [Nat.reducePow, Nat.div_one]
 omega
theorem nY_sh (b : Int) : (shB b).toNat = (nY (oi b)).toNat := by
 rw [shB_eq, nY_eq, u64_toNat]
 omega
theorem nY_bd (y : BitVec 64) : 0 ≤ nY y ∧ nY y ≤ 63 := by rw [nY_eq]; omega
theorem ap10 (a : Int) {n : Nat} (hn : n ≤ 63) : wrap64 (a * 2 ^ n) = (oi a <<< n).toInt := by
 have e : oi ((2 : Int) ^ n) = BitVec.twoPow 64 n := by
  have : ((2 : Int) ^ n) = ((2 ^ n : Nat) : Int) := by simp
  rw [this, oi_nat, BitVec.twoPow_eq]
  apply BitVec.eq_of_toNat_eq
  simp [Nat.one_shiftLeft]
 rw [wrap_oi, oi, BitVec.ofInt_mul, ← BitVec.mul_twoPow_eq_shiftLeft, ← e]
theorem ap11 (a : Int) (n : Nat) : wrap64 (IntKind.u64.wrap a / 2 ^ n) = (dnV (oi a) n false).toInt := by
 have e : IntKind.u64.wrap a / 2 ^ n = (((oi a).toNat / 2 ^ n : Nat) : Int) := by rw [u64_toNat]; simp
 have e2 : dnV (oi a) n false = oi a >>> n := by simp [dnV]
 rw [e, wrap_oi, oi_nat, e2]
 congr 1
 apply BitVec.eq_of_toNat_eq
 have h1 := (oi a).isLt
 have h2 := Nat.div_le_self (oi a).toNat (2 ^ n)
 rw [BitVec.toNat_ofNat, BitVec.toNat_ushiftRight, Nat.shiftRight_eq_div_pow, Nat.mod_eq_of_lt (by omega)]
theorem ap12 {a : Int} (h : R64 a) (n : Nat) : a / 2 ^ n = (dnV (oi a) n ((oi a).getLsbD 63)).toInt := by
 have e : dnV (oi a) n ((oi a).getLsbD 63) = (oi a).sshiftRight n := by
  apply BitVec.eq_of_getLsbD_eq
  intro i hi
  rw [dnV_bit hi, BitVec.getLsbD_sshiftRight]
  have h1 : ¬ 64 ≤ i := by omega
  have h2 : (oi a).msb = (oi a).getLsbD 63 := by rw [BitVec.msb_eq_getLsbD_last]
  rw [h2, Nat.add_comm n i]
  simp [h1]
 rw [e, BitVec.toInt_sshiftRight, oi_toInt h, Int.shiftRight_eq_div_pow]
 simp
theorem ap14 (a b : Int) : decide (IntKind.u64.wrap a < IntKind.u64.wrap b) = decide ((oi a).toNat < (oi b).toNat) := by
 rw [u64_toNat, u64_toNat]
 simp only [decide_eq_decide]
 omega
theorem quo_nat {a b : Int} (ha : R64 a) (hb : R64 b) : amV a / amV b = BitVec.ofNat 64 (a.natAbs / b.natAbs) := by
 apply BitVec.eq_of_toNat_eq
 have h1 := (amV a / amV b).isLt
 rw [BitVec.toNat_udiv, amV_nat ha, amV_nat hb] at h1
 rw [BitVec.toNat_udiv, amV_nat ha, amV_nat hb, BitVec.toNat_ofNat, Nat.mod_eq_of_lt h1]
theorem rem_nat {a b : Int} (ha : R64 a) (hb : R64 b) : amV a % amV b = BitVec.ofNat 64 (a.natAbs % b.natAbs) := by
 apply BitVec.eq_of_toNat_eq
 have h1 := (amV a % amV b).isLt
 rw [BitVec.toNat_umod, amV_nat ha, amV_nat hb] at h1
 rw [BitVec.toNat_umod, amV_nat ha, amV_nat hb, BitVec.toNat_ofNat, Nat.mod_eq_of_lt h1]
theorem oi_neg (n : Nat) : oi (-(n : Int)) = -BitVec.ofNat 64 n := by rw [oi, BitVec.ofInt_neg, ← oi_nat]
theorem tdiv_sg (a b : Int) : a.tdiv b = if ((decide (a < 0)) != (decide (b < 0))) = true then -((a.natAbs / b.natAbs : Nat) : Int) else ((a.natAbs / b.natAbs : Nat) : Int) := by
 by_cases h1 : a < 0
 ·obtain ⟨x, hx⟩ : ∃ x : Nat, a = -(x : Int) := ⟨a.natAbs, by omega⟩
  by_cases h2 : b < 0
  ·obtain ⟨y, hy⟩ : ∃ y : Nat, b = -(y : Int) := ⟨b.natAbs, by omega⟩
   rw [decide_eq_true h1, decide_eq_true h2, hx, hy, Int.neg_tdiv, Int.tdiv_neg, Int.neg_neg, ← Int.ofNat_tdiv]
   simp
  ·obtain ⟨y, hy⟩ : ∃ y : Nat, b = (y : Int) := ⟨b.natAbs, by omega⟩
   rw [decide_eq_true h1, decide_eq_false h2, hx, hy, Int.neg_tdiv, ← Int.ofNat_tdiv]
   simp
 ·obtain ⟨x, hx⟩ : ∃ x : Nat, a = (x : Int) := ⟨a.natAbs, by omega⟩
  by_cases h2 : b < 0
  ·obtain ⟨y, hy⟩ : ∃ y : Nat, b = -(y : Int) := ⟨b.natAbs, by omega⟩
   rw [decide_eq_false h1, decide_eq_true h2, hx, hy, Int.tdiv_neg, ← Int.ofNat_tdiv]
   simp
  ·obtain ⟨y, hy⟩ : ∃ y : Nat, b = (y : Int) := ⟨b.natAbs, by omega⟩
   rw [decide_eq_false h1, decide_eq_false h2, hx, hy, ← Int.ofNat_tdiv]
   simp
theorem tmod_sg (a b : Int) : a.tmod b = if a < 0 then -((a.natAbs % b.natAbs : Nat) : Int) else ((a.natAbs % b.natAbs : Nat) : Int) := by
 have hb : a.tmod b = a.tmod (b.natAbs : Int) := by
  by_cases h2 : b < 0
  ·obtain ⟨y, hy⟩ : ∃ y : Nat, b = -(y : Int) := ⟨b.natAbs, by omega⟩
   rw [hy, Int.tmod_neg]; simp
  ·rw [show ((b.natAbs : Nat) : Int) = b by omega]
 rw [hb]
 by_cases h1 : a < 0
 ·obtain ⟨x, hx⟩ : ∃ x : Nat, a = -(x : Int) := ⟨a.natAbs, by omega⟩
  rw [if_pos h1, hx, Int.neg_tmod, ← Int.ofNat_tmod]
  simp
 ·obtain ⟨x, hx⟩ : ∃ x : Nat, a = (x : Int) := ⟨a.natAbs, by omega⟩
  rw [if_neg h1, hx, ← Int.ofNat_tmod]
  simp
theorem ap4 {a b : Int} (ha : R64 a) (hb : R64 b) : wrap64 (a.tdiv b) = (if ((decide (a < 0)) != (decide (b < 0))) = true then -(amV a / amV b) else amV a / amV b).toInt := by
 rw [wrap_oi, tdiv_sg, quo_nat ha hb]
 split
 ·rw [oi_neg]
 ·rw [oi_nat]
theorem tmod_R {a b : Int} (hb : R64 b) (h0 : b ≠ 0) : R64 (a.tmod b) ∧ a.natAbs % b.natAbs < b.natAbs := by
 obtain ⟨h1, h2⟩ := hb
 have h3 : a.natAbs % b.natAbs < b.natAbs := Nat.mod_lt _ (by omega)
 refine ⟨?_, h3⟩
 rw [tmod_sg]
 unfold R64
 split <;> omega
theorem ap5 {a b : Int} (ha : R64 a) (hb : R64 b) (h0 : b ≠ 0) : a.tmod b = (if decide (a < 0) = true then -(amV a % amV b) else amV a % amV b).toInt := by
 rw [← oi_toInt (tmod_R hb h0).1, tmod_sg, rem_nat ha hb]
 by_cases h : a < 0
 ·rw [if_pos h, oi_neg, if_pos (decide_eq_true h)]
 ·rw [if_neg h, oi_nat, if_neg (by simpa using h)]
theorem rem_val {a b : Int} (ha : R64 a) (hb : R64 b) (h0 : b ≠ 0) : (amV a % amV b).toInt = ((a.natAbs % b.natAbs : Nat) : Int) := by
 have h3 := (tmod_R (a := a) hb h0).2
 obtain ⟨h1, h2⟩ := hb
 rw [rem_nat ha ⟨h1, h2⟩, ← oi_nat, oi_toInt ⟨by omega, by omega⟩]
theorem ap6a {a b : Int} (ha : R64 a) (hb : R64 b) (h0 : b ≠ 0) (h : ¬ (a < 0 ∧ (amV a % amV b).toInt ≠ 0)) : modI a b = (amV a % amV b).toInt := by
 rw [rem_val ha hb h0] at h ⊢
 have e : a.tmod b = ((a.natAbs % b.natAbs : Nat) : Int) := by
  rw [tmod_sg]
  split <;> omega
 rw [modI, e, if_pos (by omega)]
theorem ap6b {a b : Int} (ha : R64 a) (hb : R64 b) (h0 : b ≠ 0) (h1 : a < 0) (h2 : (amV a % amV b).toInt ≠ 0) : modI a b = (amV b - amV a % amV b).toInt := by
 have h3 := (tmod_R (a := a) hb h0).2
 rw [rem_val ha hb h0] at h2
 have e : a.tmod b = -((a.natAbs % b.natAbs : Nat) : Int) := by rw [tmod_sg, if_pos h1]
 have em : amV b = oi (b.natAbs : Int) := by
  apply BitVec.eq_of_toNat_eq
  rw [amV_nat hb, oi_nat, BitVec.toNat_ofNat, Nat.mod_eq_of_lt]
  obtain ⟨h4, h5⟩ := hb
  omega
 have ev : amV b - amV a % amV b = oi ((b.natAbs : Int) - ((a.natAbs % b.natAbs : Nat) : Int)) := by
  rw [rem_nat ha hb, em, ← oi_nat, Int.sub_eq_add_neg]
  show oi _ - oi _ = BitVec.ofInt 64 (_ + _)
  rw [BitVec.ofInt_add, BitVec.ofInt_neg, BitVec.sub_eq_add_neg]
 rw [ev, ← wrap_oi, modI, e, if_neg (by omega)]
 split <;> congr 1 <;> omega
theorem truth_bI (b : Bool) : truthI b = bI b := by cases b <;> rfl
end Go.Proofs.Ytmljmabbopkpiaa.Vm
end
