import Derived.Test.YtjliakjbdcplcaaGreatT5
set_option linter.unusedSimpArgs false
set_option linter.unusedVariables false
set_option maxRecDepth 100000
set_option maxHeartbeats 4000000
section
namespace Go.Proofs.YtjliakjbdcplcaaGreat.Vm
theorem u3_ {P : Prop} (h : P := by simp only [zd_, Stable, hp, i64S, bO, upS, HB.stable]; simp [HB.born]) : P := h
theorem k27_ {P : Prop} (h : P := by (repeat' (first | exact trivial | exact rfl | assumption | apply Stable.ite | apply And.intro | intro _ | (simp only [Stable, zd_, i64S, bO, upS, HB.stable]; done)))) : P := h
theorem k28_ {P : Prop} (h : P := by simp only [if_true, BitVec.getLsbD_not, BitVec.getLsbD_ushiftRight, BitVec.getLsbD_allOnes, hi, decide_true, decide_false, Bool.true_and, Nat.add_comm n i, h, Bool.not_true, Bool.not_false, Bool.or_false, Bool.or_true]) : P := h
theorem k29_ {P : Prop} (h : P := by (repeat' (first | exact trivial | exact .inl rfl | exact .inr (.same _) | exact .inr .loose | exact .inr (.arr (by assumption)) | apply And.intro))) : P := h
theorem k30_ {P : Prop} (h : P := by refine ⟨⟨hkl, fun q h1 h2 => ?_⟩, by omega⟩; by_cases e : q = 63 - k; (rw [e, b1, b2]); exact hq q (by omega) h2) : P := h
theorem k31_ {P : Prop} (h : P := by (repeat' (first | exact trivial | exact .inl rfl | exact .inr (.same _) | exact .inr .loose | exact .inr (.arr (by assumption)) | apply And.intro | (rw [e]; exact .inr (.same _))))) : P := h
theorem k32_ {P : Prop} (h : P := by (repeat' (first | exact trivial | exact ⟨_, rfl, fun β => rfl⟩ | apply And.intro | (rw [e]; exact ⟨_, rfl, fun β => rfl⟩)))) : P := h
theorem k33_ {P : Prop} (h : P := by (repeat' (first | exact trivial | exact rfl | assumption | exact hst _ _ | exact hst1 _ _ | exact hst2 _ _ | apply Stable.ite | apply And.intro | intro _ | (simp only [Stable, zd_, i64S, bO, HB.stable]; done)))) : P := h
theorem k34_ {P : Prop} (h : P := by (repeat' (first | exact trivial | exact .inl rfl | exact .inr (.same _) | exact .inr .loose | exact .inr (.arr (by assumption)) | apply And.intro | (exact .inr (less_q1 _ k hkl eq rfl (fun β => rfl))) | (rw [eR2]; exact .inr (.same _))))) : P := h
theorem k35_ {P : Prop} (h : P := by (repeat' (first | exact trivial | exact ⟨_, rfl, fun β => rfl⟩ | apply And.intro | (first | exact ⟨_, rfl, hden⟩ | (rw [eR2]; exact ⟨_, rfl, fun β => rfl⟩))))) : P := h
theorem k36_ {P : Prop} (h : P := by (simp only [push_cast, ↓JP, Nat.reduceAdd, Nat.reduceEqDiff, Nat.reduceLT, Nat.reduceMul, Nat.reduceLeDiff, reduceCtorEq, reduceIte, hk0, hkt, hx, hy, i64S, inR, inN]; rfl)) : P := h
theorem k37_ {P : Prop} (h : P := by (simp only [push_cast, ↓JP, Nat.reduceAdd, Nat.reduceEqDiff, Nat.reduceLT, Nat.reduceMul, Nat.reduceLeDiff, reduceCtorEq, reduceIte, hk0]; rfl)) : P := h
theorem k38_ {P : Prop} (h : P := by (first | exact True.intro | ((try simp only [and_self, true_and, and_true, implies_true, forall_const, yy_, y6_, ls_i64B, ls_zB, zb_, vb_bl, Nat.zero_add, iOf]); (repeat' (first | exact True.intro | apply And.intro | rfl | omega | assumption | (exact .inl rfl) | (exact .inr rfl) | decide | intro _)); done) | ((try simp only [JS, implies_true, forall_const, z9_, z2_, kndOf, inR, inN]); (repeat' (first | assumption | exact True.intro | omega | apply And.intro)); done))) : P := h
theorem k39_ {P : Prop} (h : P := by (first | exact True.intro | ((try simp only [and_self, true_and, and_true, implies_true, forall_const, yy_, y6_, ls_i64B, ls_i64U, ls_zB, zb_, vb_bl, it_one, hR1, hR1u, Nat.zero_add, iOf]); (repeat' (first | exact True.intro | apply And.intro | rfl | omega | assumption | (exact .inl rfl) | (exact .inr rfl) | decide | intro _)); done) | ((try simp only [JS, implies_true, forall_const, z9_, z2_, kndOf, inR, inN]); (repeat' (first | assumption | exact True.intro | omega | apply And.intro)); done))) : P := h
theorem k40_ {P : Prop} (h : P := by (simp only [push_cast, ↓JP, Nat.reduceAdd, Nat.reduceEqDiff, Nat.reduceLT, Nat.reduceMul, Nat.reduceLeDiff, reduceCtorEq, reduceIte, cDiv, sRUp, sRSum, sRNot, sRLess, bO, hk0, hkt, hx, ht1, hlt, hR1, hR1u, zw_, zy_, iOf, y6_, yy_, ls_i64B, ls_i64U, vb_bl, sumV_sub, ed, i64S, qS_size, it_one, Int.toNat_natCast, nat_one_i, inR, inN]; rfl)) : P := h
theorem k41_ {P : Prop} (h : P := by (first | exact True.intro | ((try simp only [and_self, true_and, and_true, implies_true, forall_const, yy_, y6_, ls_i64B, ls_i64U, ls_zB, zb_, vb_bl, Nat.zero_add, iOf, hn0, hn1, hq]); (repeat' (first | exact True.intro | apply And.intro | rfl | omega | assumption | (exact .inl rfl) | (exact .inr rfl) | decide | intro _)); done) | ((try simp only [JS, implies_true, forall_const, z9_, z2_, kndOf]); (repeat' (first | assumption | exact True.intro | omega | apply And.intro)); done))) : P := h
theorem k42_ {P : Prop} (h : P := by (simp only [push_cast, ↓JP, Nat.reduceAdd, Nat.reduceEqDiff, Nat.reduceLT, Nat.reduceMul, Nat.reduceLeDiff, reduceCtorEq, reduceIte, cApp, hX, hY, hP, hQ, hQm, hQd, hy0, hy1, hy2, hy3, hy4, hy5, hn, ed, ed0, Int.cast_ofNat_Int, (eq_true h0)]; rfl)) : P := h
theorem k43_ {P : Prop} (h : P := by (simp only [push_cast, ↓JP, Nat.reduceAdd, Nat.reduceEqDiff, Nat.reduceLT, Nat.reduceMul, Nat.reduceLeDiff, reduceCtorEq, reduceIte, cApp, hX, hY, hP, hQ, hQm, hQd, hy0, hy1, hy2, hy3, hy4, hy5, hn, ed, ed0, Int.cast_ofNat_Int, h0]; rfl)) : P := h
theorem k44_ {P : Prop} (h : P := by (simp only [push_cast, ↓JP, Nat.reduceAdd, Nat.reduceEqDiff, Nat.reduceLT, Nat.reduceMul, Nat.reduceLeDiff, reduceCtorEq, reduceIte, cApp, hX, hY, hP, hQ, hQm, hQd, hy0, hy1, hy2, hy3, hy4, hy5, hn, ed, ed0, Int.cast_ofNat_Int, h0, h1, h2, bne_self_eq_false, Bool.bne_true, Bool.bne_false, Bool.true_bne, Bool.false_bne]; rfl)) : P := h
end Go.Proofs.YtjliakjbdcplcaaGreat.Vm
end
section
open Go.Proofs.YtjliakjbdcplcaaGreat.Vm Go.RowKit
section
namespace Go.Proofs.YtjliakjbdcplcaaGreat.Vm
open Go.RowKit
theorem WF.put {P : Program} {w0 : World} {M : Nat → Prop} {E : Env} {n0 N n : Nat} {D : List Deferred} {φ : Fr} {L : List HB} {c : Code} {ro : Option Nat} {Q : Exit → Act → World → Prop} (i : Nat) (b : HB) (hl : Less (hp L i) b) (hs : b.stable (hp L)) (hb : b.born = true) (hi : Nat.beq i 0 = false) (h : WF ro n P c w0 M E n0 N D φ (setH L i b) Q) : WF ro n P c w0 M E n0 N D φ L Q := At.put (K := c.wpIn (FR ro) n P Q) i b hl hs hb hi h
theorem less_arB {t : Nat} {σ : Nat → Nat} {b : Bool} {f : Nat → SV} (z : BitVec 64) (h : ∀ β q, q < 64 → (f q).cl β = [.int .i64 (bI (z.getLsbD q))]) : Less (.own t (.arr 64 1 f) b) ((HB.own t (.arr (bl z).length 1 (i64S (bl z))) b).ren σ) := by
 have e : (HB.own t (.arr (bl z).length 1 (i64S (bl z))) b).ren σ = .own t (.arr (bl z).length 1 (i64S (bl z))) b := rfl
 rw [e, ya_]
 refine .val (fun β => arrCl fun q hq => ?_) (fun n1 k1 f1 e => by injection e with e1 e2 e3; subst e1 e2; exact ⟨_, rfl⟩) (fun n1 k1 f1 e => by injection e with e1 e2 e3; subst e1 e2; exact ⟨_, rfl⟩)
 rw [h β q hq]
 unfold i64S
 rw [zi_ hq]; rfl
def upS (x : BitVec 64) (n i : Nat) : Nat → SV := fun q => .int .i64 (if n ≤ q ∧ q < i then bI (x.getLsbD (q - n)) else 0)
theorem upS_size (x : BitVec 64) (n i q : Nat) : (upS x n i q).size = 1 := rfl
theorem less_up0 {t : Nat} {b : Bool} (x : BitVec 64) (n : Nat) : Less (.own t (.arr 64 1 fun _ => .nat .i64 0) b) (.own t (.arr 64 1 (upS x n n)) b) :=
 .val (fun β => arrCl fun q hq => by unfold upS; rw [if_neg (by omega)]; rfl) (fun n1 k1 f1 e => by injection e with e1 e2 e3; subst e1 e2; exact ⟨_, rfl⟩) (fun n1 k1 f1 e => by injection e with e1 e2 e3; subst e1 e2; exact ⟨_, rfl⟩)
theorem less_up1 {t : Nat} {σ : Nat → Nat} {b : Bool} (x : BitVec 64) (n i : Nat) (hni : n ≤ i) {g : Nat → SV} (hg : g = fun q => SV.ite (decide (q = i)) (.int .i64 (bI (x.getLsbD (i - n)))) (upS x n i q)) : Less (.own t (.arr 64 1 g) b) ((HB.own t (.arr 64 1 (upS x n (i + 1))) b).ren σ) := by
 have e : (HB.own t (.arr 64 1 (upS x n (i + 1))) b).ren σ = .own t (.arr 64 1 (upS x n (i + 1))) b := rfl
 rw [e]
 subst hg
 refine .val (fun β => arrCl fun q hq => ?_) (fun n1 k1 f1 e => by injection e with e1 e2 e3; subst e1 e2; exact ⟨_, rfl⟩) (fun n1 k1 f1 e => by injection e with e1 e2 e3; subst e1 e2; exact ⟨_, rfl⟩)
 rw [y7_]
 by_cases h : q = i
 ·subst h
  simp only [decide_true, cond_true, upS]
  rw [if_pos ⟨hni, by omega⟩]
 ·have h2 : (n ≤ q ∧ q < i + 1) ↔ (n ≤ q ∧ q < i) := by omega
  simp only [h, decide_false, cond_false, upS, h2]
theorem up_lit (x : BitVec 64) (n : Nat) (p1 : Nat) (hn : n ≤ 64) : zo_ Tryz.prog 153 [.sl 1 2 [] 1 0 (bl x).length (some p1), .int .i64 (n : Int)] [.gone, .gone, .ro (.arr (bl x).length 1 (i64S (bl x)))] (.sl 3 3 [] 1 0 (bl (x <<< n)).length none) [.gone, .gone, .gone, bO (bl (x <<< n))] := by
 have l1 := ya_ x
 have hlZ := ya_ (x <<< n)
 refine ze_ (fn := Tryz.f153) 3 23 0 rfl rfl rfl rfl rfl u3_ rfl fun w0 M E hro => ?_
 repeat' (first | refine Ctl.h ?_ | ((with_reducible intro hif); first | (focus (cases hif; done)) | ((try simp only [JH] at hif); try (exfalso; omega))) | ((with_reducible first | apply J22 zq_ za_ | apply J23 fol zq_ za_ | apply J24); (·rfl); (· exact k20_); (try kernel_rfl); try exact yk_) | fail)
 refine WF.put 3 (.own 3 (.arr 64 1 fun _ => .nat .i64 0) false) .loose (fun q => trivial) rfl rfl ?_
 simp only [setH]
 have hz := less_up0 (t := 3) (b := false) x n
 refine WF.loopAt (fun (i : Nat) => n ≤ i ∧ i ≤ 64) (fun (i : Nat) => [(0, .sl 1 2 [] 1 0 (bl x).length (some p1)), (1, .int .i64 (n : Int)), (5, .sl 3 3 [] 1 0 64 none), (6, .int .i64 (i : Int))]) (fun (i : Nat) => [.gone, .gone, .ro (.arr (bl x).length 1 (i64S (bl x))), .own 3 (.arr 64 1 (upS x n i)) false]) (fun (i : Nat) => 64 - i) n ⟨Nat.le_refl _, hn⟩ ?_ ?_ rfl ?_ ?_ rfl ?_
 ·exact k5_
 ·exact k6_
 ·exact k27_
 ·exact k27_
 intro i ⟨hni, hi⟩
 by_cases hil : i < 64
 ·have hil2 : (i : Int) < 64 := by omega
  have hit : ((i : Int) - (n : Int)).toNat = i - n := by omega
  have hx := zi_ (x := x) (i := i - n) (by omega)
  repeat' (first | refine Ctl.h ?_ | ((with_reducible intro hif); first | (focus (cases hif; done)) | ((try simp only [JH] at hif); try (exfalso; omega))) | ((with_reducible first | apply J22 zq_ za_ | apply J23 fol zq_ za_ | apply J24); (·rfl); (· (simp only [push_cast, ↓JP, Nat.reduceAdd, Nat.reduceEqDiff, Nat.reduceLT, Nat.reduceMul, Nat.reduceLeDiff, reduceCtorEq, reduceIte, hil2, hit, hx, i64S, Int.toNat_natCast, upS_size, inR, inN]; rfl)); (try kernel_rfl); try exact k25_) | fail)
  refine At.nextPick [0, 1, 2, 3] (i + 1) ?_ rfl rfl rfl ?_ rfl ?_ ?_ ?_ rfl
  ·exact ⟨⟨by omega, by omega⟩, by omega⟩
  ·(repeat' (first | exact trivial | exact .inl rfl | exact .inr (.same _) | exact .inr .loose | exact .inr (.arr (by assumption)) | apply And.intro | (exact .inr (less_up1 x n i hni rfl))))
  ·exact k27_
  ·exact k16_
  ·exact k27_
 ·obtain rfl : i = 64 := by omega
  have hil2 : ¬ ((64 : Nat) : Int) < 64 := by omega
  repeat' (first | refine Ctl.h ?_ | ((with_reducible intro hif); first | (focus (cases hif; done)) | ((try simp only [JH] at hif); try (exfalso; omega))) | ((with_reducible first | apply J22 zq_ za_ | apply J23 fol zq_ za_ | apply J24); (·rfl); (· (simp only [push_cast, ↓JP, Nat.reduceAdd, Nat.reduceEqDiff, Nat.reduceLT, Nat.reduceMul, Nat.reduceLeDiff, reduceCtorEq, reduceIte, hil2]; rfl)); (try kernel_rfl); try exact yk_) | fail)
  apply At.endsPick [0, 1, 2, 3] za_ (fn := Tryz.f153) (rs := [.tmp 4]) Anc.refl hro (lb_ rfl) rfl
  ·exact k11_
  ·exact xf_
  ·rfl
  ·rfl
  ·rfl
  ·(repeat' (first | exact trivial | exact .inl rfl | exact .inr (.same _) | exact .inr .loose | exact .inr (.arr (by assumption)) | apply And.intro | (refine .inr (less_arB _ fun β q hq => ?_); rw [BitVec.getLsbD_shiftLeft]; by_cases h : n ≤ q; (have h2 : ¬ q < n := by omega); (simp [upS, h, h2, hq]; rfl); (have h2 : q < n := by omega); (simp [upS, h, h2]; rfl))))
  ·rfl
  ·exact k27_
  ·exact zs_
  ·(intro β; rw [hlZ]; rfl)
  ·exact k27_
theorem up_ok (k : List Int) (n : Int) (p1 : Nat) (h1 : k = bl (vb k)) (h0 : 0 ≤ n) (hn : n ≤ 64) : zo_ Tryz.prog 153 [.sl 1 2 [] 1 0 k.length (some p1), .int .i64 n] [.gone, .gone, .ro (.arr k.length 1 (i64S k))] (.sl 3 3 [] 1 0 (bl (vb k <<< n.toNat)).length none) [.gone, .gone, .gone, bO (bl (vb k <<< n.toNat))] := by
 obtain ⟨m, rfl⟩ : ∃ m : Nat, n = (m : Int) := ⟨n.toNat, by omega⟩
 have h := up_lit (vb k) m p1 (by omega)
 rw [← h1] at h
 exact h
def sRUp : yq_ := fun args h m => match args with
 | [v1, v2] => match xa_ h 1 (.tup []) v1 with
  | some (c1, n1, f1, r1) => bif isI .i64 v2 then some (c1 ∧ (∀ q, q < n1 → isI .i64 (f1 q) = true) ∧ ((ls iOf n1 f1) = bl (vb (ls iOf n1 f1))) ∧ (0 ≤ (iOf v2)) ∧ ((iOf v2) ≤ 64), .sl m m [] 1 0 (bl (vb (ls iOf n1 f1) <<< (iOf v2).toNat)).length none, r1, [(m, bO (bl (vb (ls iOf n1 f1) <<< (iOf v2).toNat)))]) else none
  | _ => none
 | _ => none
theorem sRUp_ok : zj_ Tryz.prog 153 sRUp := by
 refine ⟨zf_ (by kernel_rfl), fun args h m c v rd wr hs hm hc w0 M β h' w R hrd hwr hst => ?_⟩
 unfold sRUp at hs
 split at hs
 ·rename_i v1 v2
  split at hs
  ·rename_i c1 n1 f1 r1 a1
   obtain ⟨hb, hs⟩ := zk_ hs
   simp only [Option.some.injEq, Prod.mk.injEq] at hs
   obtain ⟨rfl, rfl, rfl, rfl⟩ := hs
   have b2 := hb
   obtain ⟨k1, g1, y1, y2, y3⟩ := hc
   obtain ⟨A1, p1, d1, e1, t1⟩ := zg_ R a1 k1 (fun i hi => hrd i hi) (by omega)
   refine yf_ (views := [⟨1, (ls iOf n1 f1).length, i64S (ls iOf n1 f1), A1, p1⟩]) (up_ok (ls iOf n1 f1) (iOf v2) p1 y1 y2 y3) ?_ R hm hwr ?_ ?_ ?_
   ·intro x hx
    simp only [List.mem_cons, List.not_mem_nil, or_false] at hx
    subst hx
    ·exact z0_ t1 e1 g1
   ·intro β1 hv
    simp only [Vd, zb_, and_true] at hv
    have z1 := hv
    simp only [denL, z7_, z6_, z5_, zr_, zb_, z1, d1, zc_ b2]
   ·exact k27_
   ·exact k27_
  ·cases hs
 ·cases hs
theorem truth_lit (b : Bool) : zo_ Tryz.prog 155 [.bool b] [.gone] (.int .i64 (bI b)) [.gone] := by
 cases b
 ·refine ze_ (fn := Tryz.f155) 1 4 0 rfl rfl rfl rfl rfl u3_ rfl fun w0 M E hro => ?_
  repeat' (first | refine Ctl.h ?_ | ((with_reducible intro hif); first | (focus (cases hif; done)) | ((try simp only [JH] at hif); try (exfalso; omega))) | ((with_reducible first | apply J22 zq_ za_ | apply J23 fol zq_ za_ | apply J24); (·rfl); (· exact k20_); (try kernel_rfl); try exact yk_) | fail)
  apply At.endsRet za_ (fn := Tryz.f155) (rs := [.tmp 2]) Anc.refl hro (lb_ rfl) rfl
  ·exact k11_
  ·exact yl_
  ·exact k6_
  ·rfl
  ·exact k27_
  ·exact zs_
  ·exact fun β => rfl
  ·exact k27_
 ·refine ze_ (fn := Tryz.f155) 1 4 0 rfl rfl rfl rfl rfl u3_ rfl fun w0 M E hro => ?_
  repeat' (first | refine Ctl.h ?_ | ((with_reducible intro hif); first | (focus (cases hif; done)) | ((try simp only [JH] at hif); try (exfalso; omega))) | ((with_reducible first | apply J22 zq_ za_ | apply J23 fol zq_ za_ | apply J24); (·rfl); (· exact k20_); (try kernel_rfl); try exact yk_) | fail)
  apply At.endsRet za_ (fn := Tryz.f155) (rs := [.tmp 2]) Anc.refl hro (lb_ rfl) rfl
  ·exact k11_
  ·exact yl_
  ·exact k6_
  ·rfl
  ·exact k27_
  ·exact zs_
  ·exact fun β => rfl
  ·exact k27_
def sRTruth : yq_ := fun args h m => match args with
 | [.bool v1] => some (True, .int .i64 (bI v1), [], [])
 | _ => none
theorem sRTruth_ok : zj_ Tryz.prog 155 sRTruth := by
 refine ⟨zf_ (by kernel_rfl), fun args h m c v rd wr hs hm hc w0 M β h' w R hrd hwr hst => ?_⟩
 unfold sRTruth at hs
 split at hs
 ·rename_i v1
  simp only [Option.some.injEq, Prod.mk.injEq] at hs
  obtain ⟨rfl, rfl, rfl, rfl⟩ := hs
  refine yf_ (views := []) (truth_lit v1) ?_ R hm hwr ?_ ?_ ?_
  ·intro x hx; cases hx
  ·intro β1 hv
   simp only [denL, z7_, z6_, z5_, zr_, zb_]
  ·exact k27_
  ·exact k27_
 ·cases hs
def dnV (x : BitVec 64) (n : Nat) (t : Bool) : BitVec 64 := (x >>> n) ||| (if t then ~~~(BitVec.allOnes 64 >>> n) else 0#64)
theorem dnV_bit {x : BitVec 64} {n : Nat} {t : Bool} {i : Nat} (hi : i < 64) : (dnV x n t).getLsbD i = if i + n < 64 then x.getLsbD (i + n) else t := by
 unfold dnV
 rw [BitVec.getLsbD_or, BitVec.getLsbD_ushiftRight, Nat.add_comm n i]
 by_cases h : i + n < 64
 ·rw [if_pos h]
  cases t
  ·simp only [Bool.false_eq_true, if_false, BitVec.getLsbD_zero, Bool.or_false]
  ·exact k28_
 ·rw [if_neg h, BitVec.getLsbD_of_ge x _ (by omega)]
  cases t
  ·simp only [Bool.false_eq_true, if_false, BitVec.getLsbD_zero, Bool.or_false]
  ·exact k28_
theorem down_lit (x : BitVec 64) (n : Nat) (t : Bool) (p1 : Nat) (hn : n ≤ 64) : zo_ Tryz.prog 154 [.sl 1 2 [] 1 0 (bl x).length (some p1), .int .i64 (n : Int), .int .i64 (bI t)] [.gone, .gone, .ro (.arr (bl x).length 1 (i64S (bl x)))] (.sl 3 3 [] 1 0 (bl (dnV x n t)).length none) [.gone, .gone, .gone, bO (bl (dnV x n t))] := by
 have hlZ := ya_ (dnV x n t)
 have l1 := ya_ x
 refine ze_ (fn := Tryz.f154) 3 31 0 rfl rfl rfl rfl rfl u3_ rfl fun w0 M E hro => ?_
 repeat' (first | refine Ctl.h ?_ | ((with_reducible intro hif); first | (focus (cases hif; done)) | ((try simp only [JH] at hif); try (exfalso; omega))) | ((with_reducible first | apply J22 zq_ za_ | apply J23 fol zq_ za_ | apply J24); (·rfl); (· exact k20_); (try kernel_rfl); try exact yk_) | fail)
 refine WF.nilFr (φ2 := [(0, .sl 1 2 [] 1 0 (bl x).length (some p1)), (1, .int .i64 (n : Int)), (2, .int .i64 (bI t)), (7, .sl 3 3 [] 1 0 0 none), (8, .nat .i64 0)]) 3 1 (i64S []) (fun h q => i64S_st [] h q) rfl ?_ ?_ ?_
 ·refine ⟨u1_, u1_, u1_, ⟨_, rfl, fun β h0 hx => (nilB_cl h0 (show β 3 = (none, 0) from hx) 1).symm⟩, u1_, trivial⟩
 ·simp [StableF, Stable, hp, HB.born]
 simp only [List.cons_append, List.nil_append]
 have hz : Less (.own 3 (.arr 0 1 (i64S [])) false) (.own 3 (.arr 0 1 (i64S ((bl (dnV x n t)).take 0))) false) := .same _
 refine WF.loopAt (fun (j : Nat) => j ≤ 64) (fun (j : Nat) => [(0, .sl 1 2 [] 1 0 (bl x).length (some p1)), (1, .int .i64 (n : Int)), (2, .int .i64 (bI t)), (7, .sl 3 3 [] 1 0 j none), (8, .nat .i64 j)]) (fun (j : Nat) => [.gone, .gone, .ro (.arr (bl x).length 1 (i64S (bl x))), .own 3 (.arr j 1 (i64S ((bl (dnV x n t)).take j))) false]) (fun (j : Nat) => 64 - j) 0 (Nat.zero_le _) ?_ ?_ rfl ?_ ?_ rfl ?_
 ·exact k5_
 ·exact k6_
 ·exact k27_
 ·exact k27_
 intro j hj
 by_cases hjl : j < 64
 ·have hTl : ((bl (dnV x n t)).take j).length = j := by rw [List.length_take]; omega
  have hU := take_snB (l := bl (dnV x n t)) (k := j) (by omega)
  have hjt : ((j : Int) + (n : Int)).toNat = j + n := by omega
  by_cases hjn : j + n < 64
  ·have hji : (j : Int) + (n : Int) < 64 := by omega
   have hx := zi_ (x := x) hjn
   rw [zi_ hjl, dnV_bit hjl, if_pos hjn] at hU
   repeat' (first | refine Ctl.h ?_ | ((with_reducible intro hif); first | (focus (cases hif; done)) | ((try simp only [JH] at hif); try (exfalso; omega))) | ((with_reducible first | apply J22 zq_ za_ | apply J23 fol zq_ za_ | apply J24); (·rfl); (· (simp only [push_cast, ↓JP, Nat.reduceAdd, Nat.reduceEqDiff, Nat.reduceLT, Nat.reduceMul, Nat.reduceLeDiff, reduceCtorEq, reduceIte, hjl, hji, hjt, hx, i64S, inR, inN, List.all_cons, List.all_nil]; rfl)); (try kernel_rfl); try exact k24_) | fail)
   refine At.nextPick [0, 1, 2, 5] (j + 1) ?_ rfl rfl rfl ?_ rfl ?_ ?_ ?_ rfl
   ·omega
   ·exact k9_
   ·exact k27_
   ·exact k16_
   ·exact k27_
  ·have hji : ¬ (j : Int) + (n : Int) < 64 := by omega
   rw [zi_ hjl, dnV_bit hjl, if_neg hjn] at hU
   repeat' (first | refine Ctl.h ?_ | ((with_reducible intro hif); first | (focus (cases hif; done)) | ((try simp only [JH] at hif); try (exfalso; omega))) | ((with_reducible first | apply J22 zq_ za_ | apply J23 fol zq_ za_ | apply J24); (·rfl); (· (simp only [push_cast, ↓JP, Nat.reduceAdd, Nat.reduceEqDiff, Nat.reduceLT, Nat.reduceMul, Nat.reduceLeDiff, reduceCtorEq, reduceIte, hjl, hji, hjt, i64S, inR, inN, List.all_cons, List.all_nil]; rfl)); (try kernel_rfl); try exact k24_) | fail)
   refine At.nextPick [0, 1, 2, 5] (j + 1) ?_ rfl rfl rfl ?_ rfl ?_ ?_ ?_ rfl
   ·omega
   ·exact k9_
   ·exact k27_
   ·exact k16_
   ·exact k27_
 ·obtain rfl : j = 64 := by omega
  have hTk : (bl (dnV x n t)).take 64 = bl (dnV x n t) := List.take_of_length_le (by omega)
  repeat' (first | refine Ctl.h ?_ | ((with_reducible intro hif); first | (focus (cases hif; done)) | ((try simp only [JH] at hif); try (exfalso; omega))) | ((with_reducible first | apply J22 zq_ za_ | apply J23 fol zq_ za_ | apply J24); (·rfl); (· exact k22_); (try kernel_rfl); try exact yk_) | fail)
  apply At.endsPick [0, 1, 2, 3] za_ (fn := Tryz.f154) (rs := [.tmp 6]) Anc.refl hro (lb_ rfl) rfl
  ·exact k11_
  ·exact xf_
  ·rfl
  ·rfl
  ·rfl
  ·exact k15_
  ·rfl
  ·exact k27_
  ·exact zs_
  ·(intro β; rw [hlZ]; rfl)
  ·exact k27_
theorem down_ok (k : List Int) (n t : Int) (p1 : Nat) (h1 : k = bl (vb k)) (h0 : 0 ≤ n) (hn : n ≤ 64) (ht : t = 0 ∨ t = 1) : zo_ Tryz.prog 154 [.sl 1 2 [] 1 0 k.length (some p1), .int .i64 n, .int .i64 t] [.gone, .gone, .ro (.arr k.length 1 (i64S k))] (.sl 3 3 [] 1 0 (bl (dnV (vb k) n.toNat (decide (t = 1)))).length none) [.gone, .gone, .gone, bO (bl (dnV (vb k) n.toNat (decide (t = 1))))] := by
 obtain ⟨m, rfl⟩ : ∃ m : Nat, n = (m : Int) := ⟨n.toNat, by omega⟩
 have h := down_lit (vb k) m (decide (t = 1)) p1 (by omega)
 rw [← h1, show bI (decide (t = 1)) = t by rcases ht with rfl | rfl <;> rfl] at h
 exact h
def sRDown : yq_ := fun args h m => match args with
 | [v1, v2, v3] => match xa_ h 1 (.tup []) v1 with
  | some (c1, n1, f1, r1) => bif isI .i64 v2 && isI .i64 v3 then some (c1 ∧ (∀ q, q < n1 → isI .i64 (f1 q) = true) ∧ ((ls iOf n1 f1) = bl (vb (ls iOf n1 f1))) ∧ (0 ≤ (iOf v2)) ∧ ((iOf v2) ≤ 64) ∧ (((iOf v3) = 0 ∨ (iOf v3) = 1)), .sl m m [] 1 0 (bl (dnV (vb (ls iOf n1 f1)) (iOf v2).toNat (decide ((iOf v3) = 1)))).length none, r1, [(m, bO (bl (dnV (vb (ls iOf n1 f1)) (iOf v2).toNat (decide ((iOf v3) = 1)))))]) else none
  | _ => none
 | _ => none
theorem sRDown_ok : zj_ Tryz.prog 154 sRDown := by
 refine ⟨zf_ (by kernel_rfl), fun args h m c v rd wr hs hm hc w0 M β h' w R hrd hwr hst => ?_⟩
 unfold sRDown at hs
 split at hs
 ·rename_i v1 v2 v3
  split at hs
  ·rename_i c1 n1 f1 r1 a1
   obtain ⟨hb, hs⟩ := zk_ hs
   simp only [Option.some.injEq, Prod.mk.injEq] at hs
   obtain ⟨rfl, rfl, rfl, rfl⟩ := hs
   simp only [Bool.and_eq_true] at hb
   obtain ⟨b2, b3⟩ := hb
   obtain ⟨k1, g1, y1, y2, y3, y4⟩ := hc
   obtain ⟨A1, p1, d1, e1, t1⟩ := zg_ R a1 k1 (fun i hi => hrd i hi) (by omega)
   refine yf_ (views := [⟨1, (ls iOf n1 f1).length, i64S (ls iOf n1 f1), A1, p1⟩]) (down_ok (ls iOf n1 f1) (iOf v2) (iOf v3) p1 y1 y2 y3 y4) ?_ R hm hwr ?_ ?_ ?_
   ·intro x hx
    simp only [List.mem_cons, List.not_mem_nil, or_false] at hx
    subst hx
    ·exact z0_ t1 e1 g1
   ·intro β1 hv
    simp only [Vd, zb_, and_true] at hv
    have z1 := hv
    simp only [denL, z7_, z6_, z5_, zr_, zb_, z1, d1, zc_ b2, zc_ b3]
   ·exact k27_
   ·exact k27_
  ·cases hs
 ·cases hs
def bwV (op : Int) (x y : BitVec 64) : BitVec 64 := if op = 8 then x ||| y else if op = 9 then x ^^^ y else x &&& y
theorem bitw_lit (op : Int) (x y : BitVec 64) (p1 p2 : Nat) : zo_ Tryz.prog 152 [.int .u8 op, .sl 1 2 [] 1 0 (bl x).length (some p1), .sl 3 4 [] 1 0 (bl y).length (some p2)] [.gone, .gone, .ro (.arr (bl x).length 1 (i64S (bl x))), .gone, .ro (.arr (bl y).length 1 (i64S (bl y)))] (.sl 5 5 [] 1 0 (bl (bwV op x y)).length none) [.gone, .gone, .gone, .gone, .gone, bO (bl (bwV op x y))] := by
 have hlZ := ya_ (bwV op x y)
 have l1 := ya_ x
 have l2 := ya_ y
 refine ze_ (fn := Tryz.f152) 5 53 0 rfl rfl rfl rfl rfl u3_ rfl fun w0 M E hro => ?_
 repeat' (first | refine Ctl.h ?_ | ((with_reducible intro hif); first | (focus (cases hif; done)) | ((try simp only [JH] at hif); try (exfalso; omega))) | ((with_reducible first | apply J22 zq_ za_ | apply J23 fol zq_ za_ | apply J24); (·rfl); (· exact k20_); (try kernel_rfl); try exact yk_) | fail)
 refine WF.nilFr (φ2 := [(0, .int .u8 op), (1, .sl 1 2 [] 1 0 (bl x).length (some p1)), (2, .sl 3 4 [] 1 0 (bl y).length (some p2)), (7, .sl 5 5 [] 1 0 0 none), (8, .nat .i64 0)]) 3 1 (i64S []) (fun h q => i64S_st [] h q) rfl ?_ ?_ ?_
 ·exact k14_
 ·simp [StableF, Stable, hp, HB.born]
 simp only [List.cons_append, List.nil_append]
 have hz : Less (.own 3 (.arr 0 1 (i64S [])) false) (.own 3 (.arr 0 1 (i64S ((bl (bwV op x y)).take 0))) false) := .same _
 refine WF.loopAt (fun (j : Nat) => j ≤ 64) (fun (j : Nat) => [(0, .int .u8 op), (1, .sl 1 2 [] 1 0 (bl x).length (some p1)), (2, .sl 3 4 [] 1 0 (bl y).length (some p2)), (7, .sl 5 5 [] 1 0 j none), (8, .nat .i64 j)]) (fun (j : Nat) => [.gone, .gone, .ro (.arr (bl x).length 1 (i64S (bl x))), .gone, .ro (.arr (bl y).length 1 (i64S (bl y))), .own 3 (.arr j 1 (i64S ((bl (bwV op x y)).take j))) false]) (fun (j : Nat) => 64 - j) 0 (Nat.zero_le _) ?_ ?_ rfl ?_ ?_ rfl ?_
 ·exact k5_
 ·exact k6_
 ·exact k27_
 ·exact k27_
 intro j hj
 by_cases hjl : j < 64
 ·have hTl : ((bl (bwV op x y)).take j).length = j := by rw [List.length_take]; omega
  have hU := take_snB (l := bl (bwV op x y)) (k := j) (by omega)
  have hx := zi_ (x := x) hjl
  have hy := zi_ (x := y) hjl
  by_cases h8 : op = 8
  ·subst h8
   have e : (bwV 8 x y).getLsbD j = (x.getLsbD j || y.getLsbD j) := by simp [bwV]
   rw [zi_ hjl, e] at hU
   cases b1 : x.getLsbD j <;> cases b2 : y.getLsbD j
   all_goals
    rw [b1] at hx hU
    rw [b2] at hy hU
    simp only [bI, Bool.or_true, Bool.or_false, if_true, Bool.false_eq_true, if_false] at hx hy hU
    repeat' (first | refine Ctl.h ?_ | ((with_reducible intro hif); first | (focus (cases hif; done)) | ((try simp only [JH] at hif); try (exfalso; omega))) | ((with_reducible first | apply J22 zq_ za_ | apply J23 fol zq_ za_ | apply J24); (·rfl); (· exact k23_); (try kernel_rfl); try exact k24_) | fail)
    refine At.nextPick [0, 1, 2, 3, 4, 7] (j + 1) ?_ rfl rfl rfl ?_ rfl ?_ ?_ ?_ rfl
    ·omega
    ·exact k9_
    ·exact k27_
    ·exact k16_
    ·exact k27_
  by_cases h9 : op = 9
  ·subst h9
   have e : (bwV 9 x y).getLsbD j = (x.getLsbD j ^^ y.getLsbD j) := by simp [bwV]
   rw [zi_ hjl, e] at hU
   cases b1 : x.getLsbD j <;> cases b2 : y.getLsbD j
   all_goals
    rw [b1] at hx hU
    rw [b2] at hy hU
    simp only [bI, Bool.xor_true, Bool.xor_false, Bool.not_true, Bool.not_false, if_true, Bool.false_eq_true, if_false] at hx hy hU
    repeat' (first | refine Ctl.h ?_ | ((with_reducible intro hif); first | (focus (cases hif; done)) | ((try simp only [JH] at hif); try (exfalso; omega))) | ((with_reducible first | apply J22 zq_ za_ | apply J23 fol zq_ za_ | apply J24); (·rfl); (· (simp only [push_cast, ↓JP, Nat.reduceAdd, Nat.reduceEqDiff, Nat.reduceLT, Nat.reduceMul, Nat.reduceLeDiff, reduceCtorEq, reduceIte, hjl, hx, hy, h8, i64S, inR, inN, List.all_cons, List.all_nil]; rfl)); (try kernel_rfl); try exact k24_) | fail)
    refine At.nextPick [0, 1, 2, 3, 4, 7] (j + 1) ?_ rfl rfl rfl ?_ rfl ?_ ?_ ?_ rfl
    ·omega
    ·exact k9_
    ·exact k27_
    ·exact k16_
    ·exact k27_
  ·have e : (bwV op x y).getLsbD j = (x.getLsbD j && y.getLsbD j) := by simp [bwV, h8, h9]
   rw [zi_ hjl, e] at hU
   cases b1 : x.getLsbD j <;> cases b2 : y.getLsbD j
   all_goals
    rw [b1] at hx hU
    rw [b2] at hy hU
    simp only [bI, Bool.and_true, Bool.and_false, if_true, Bool.false_eq_true, if_false] at hx hy hU
    repeat' (first | refine Ctl.h ?_ | ((with_reducible intro hif); first | (focus (cases hif; done)) | ((try simp only [JH] at hif); try (exfalso; omega))) | ((with_reducible first | apply J22 zq_ za_ | apply J23 fol zq_ za_ | apply J24); (·rfl); (· (simp only [push_cast, ↓JP, Nat.reduceAdd, Nat.reduceEqDiff, Nat.reduceLT, Nat.reduceMul, Nat.reduceLeDiff, reduceCtorEq, reduceIte, hjl, hx, hy, h8, h9, i64S, inR, inN, List.all_cons, List.all_nil]; rfl)); (try kernel_rfl); try exact k24_) | fail)
    refine At.nextPick [0, 1, 2, 3, 4, 7] (j + 1) ?_ rfl rfl rfl ?_ rfl ?_ ?_ ?_ rfl
    ·omega
    ·exact k9_
    ·exact k27_
    ·exact k16_
    ·exact k27_
 ·obtain rfl : j = 64 := by omega
  have hTk : (bl (bwV op x y)).take 64 = bl (bwV op x y) := List.take_of_length_le (by omega)
  repeat' (first | refine Ctl.h ?_ | ((with_reducible intro hif); first | (focus (cases hif; done)) | ((try simp only [JH] at hif); try (exfalso; omega))) | ((with_reducible first | apply J22 zq_ za_ | apply J23 fol zq_ za_ | apply J24); (·rfl); (· exact k22_); (try kernel_rfl); try exact yk_) | fail)
  apply At.endsPick [0, 1, 2, 3, 4, 5] za_ (fn := Tryz.f152) (rs := [.tmp 6]) Anc.refl hro (lb_ rfl) rfl
  ·exact k11_
  ·exact xf_
  ·rfl
  ·rfl
  ·rfl
  ·exact k15_
  ·rfl
  ·exact k27_
  ·exact zs_
  ·(intro β; rw [hlZ]; rfl)
  ·exact k27_
theorem bitw_ok (op : Int) (k l : List Int) (p1 p2 : Nat) (h1 : k = bl (vb k)) (h2 : l = bl (vb l)) : zo_ Tryz.prog 152 [.int .u8 op, .sl 1 2 [] 1 0 k.length (some p1), .sl 3 4 [] 1 0 l.length (some p2)] [.gone, .gone, .ro (.arr k.length 1 (i64S k)), .gone, .ro (.arr l.length 1 (i64S l))] (.sl 5 5 [] 1 0 (bl (bwV op (vb k) (vb l))).length none) [.gone, .gone, .gone, .gone, .gone, bO (bl (bwV op (vb k) (vb l)))] := by
 have h := bitw_lit op (vb k) (vb l) p1 p2
 rw [← h1, ← h2] at h
 exact h
def sRBitw : yq_ := fun args h m => match args with
 | [v1, v2, v3] => match xa_ h 1 (.tup []) v2, xa_ h 1 (.tup []) v3 with
  | some (c2, n2, f2, r2), some (c3, n3, f3, r3) => bif isI .u8 v1 then some (c2 ∧ c3 ∧ (∀ q, q < n2 → isI .i64 (f2 q) = true) ∧ (∀ q, q < n3 → isI .i64 (f3 q) = true) ∧ ((ls iOf n2 f2) = bl (vb (ls iOf n2 f2))) ∧ ((ls iOf n3 f3) = bl (vb (ls iOf n3 f3))), .sl m m [] 1 0 (bl (bwV (iOf v1) (vb (ls iOf n2 f2)) (vb (ls iOf n3 f3)))).length none, r2 ++ r3, [(m, bO (bl (bwV (iOf v1) (vb (ls iOf n2 f2)) (vb (ls iOf n3 f3)))))]) else none
  | _, _ => none
 | _ => none
theorem sRBitw_ok : zj_ Tryz.prog 152 sRBitw := by
 refine ⟨zf_ (by kernel_rfl), fun args h m c v rd wr hs hm hc w0 M β h' w R hrd hwr hst => ?_⟩
 unfold sRBitw at hs
 split at hs
 ·rename_i v1 v2 v3
  split at hs
  ·rename_i c2 n2 f2 r2 c3 n3 f3 r3 a2 a3
   obtain ⟨hb, hs⟩ := zk_ hs
   simp only [Option.some.injEq, Prod.mk.injEq] at hs
   obtain ⟨rfl, rfl, rfl, rfl⟩ := hs
   have b1 := hb
   obtain ⟨k2, k3, g2, g3, y1, y2⟩ := hc
   obtain ⟨A2, p2, d2, e2, t2⟩ := zg_ R a2 k2 (fun i hi => hrd i (List.mem_append_left _ hi)) (by omega)
   obtain ⟨A3, p3, d3, e3, t3⟩ := zg_ R a3 k3 (fun i hi => hrd i (List.mem_append_right _ hi)) (by omega)
   refine yf_ (views := [⟨1, (ls iOf n2 f2).length, i64S (ls iOf n2 f2), A2, p2⟩, ⟨1, (ls iOf n3 f3).length, i64S (ls iOf n3 f3), A3, p3⟩]) (bitw_ok (iOf v1) (ls iOf n2 f2) (ls iOf n3 f3) p2 p3 y1 y2) ?_ R hm hwr ?_ ?_ ?_
   ·intro x hx
    simp only [List.mem_cons, List.not_mem_nil, or_false] at hx
    rcases hx with rfl | rfl
    ·exact z0_ t2 e2 g2
    ·exact z0_ t3 e3 g3
   ·intro β1 hv
    simp only [Vd, zb_, and_true] at hv
    obtain ⟨z2, z3⟩ := hv
    simp only [denL, z7_, z6_, z5_, zr_, zb_, z2, z3, d2, d3, zc_ b1]
   ·exact k27_
   ·exact k27_
  ·cases hs
 ·cases hs
theorem low_bit (n j : Nat) : n % 2 ^ (j + 1) = n % 2 ^ j + (if n.testBit j then 2 ^ j else 0) := mod_next n j
theorem ult_at {x y : BitVec 64} {i : Nat} (hi : i < 64) (h : ∀ q, i < q → q < 64 → x.getLsbD q = y.getLsbD q) (hx : x.getLsbD i = false) (hy : y.getLsbD i = true) : x.toNat < y.toNat := by
 have hh : x.toNat / 2 ^ (i + 1) = y.toNat / 2 ^ (i + 1) := by
  apply Nat.eq_of_testBit_eq
  intro q
  rw [Nat.testBit_div_two_pow, Nat.testBit_div_two_pow, BitVec.testBit_toNat, BitVec.testBit_toNat]
  by_cases hq : q + (i + 1) < 64
  ·exact h _ (by omega) hq
  ·rw [BitVec.getLsbD_of_ge x _ (by omega), BitVec.getLsbD_of_ge y _ (by omega)]
 have ex := Nat.div_add_mod x.toNat (2 ^ (i + 1))
 have ey := Nat.div_add_mod y.toNat (2 ^ (i + 1))
 have lx := low_bit x.toNat i
 have ly := low_bit y.toNat i
 rw [BitVec.testBit_toNat, hx] at lx
 rw [BitVec.testBit_toNat, hy] at ly
 simp only [Bool.false_eq_true, if_false, if_true, Nat.add_zero] at lx ly
 have mx : x.toNat % 2 ^ i < 2 ^ i := Nat.mod_lt _ (Nat.pow_pos (by decide))
 rw [hh] at ex
 omega
theorem rless_lit (x y : BitVec 64) (p1 p2 : Nat) : zo_ Tryz.prog 156 [.sl 1 2 [] 1 0 (bl x).length (some p1), .sl 3 4 [] 1 0 (bl y).length (some p2)] [.gone, .gone, .ro (.arr (bl x).length 1 (i64S (bl x))), .gone, .ro (.arr (bl y).length 1 (i64S (bl y)))] (.bool (decide (x.toNat < y.toNat))) [.gone] := by
 have l1 := ya_ x
 have l2 := ya_ y
 refine ze_ (fn := Tryz.f156) 5 28 0 rfl rfl rfl rfl rfl u2_ rfl fun w0 M E hro => ?_
 repeat' (first | refine Ctl.h ?_ | ((with_reducible intro hif); first | (focus (cases hif; done)) | ((try simp only [JH] at hif); try (exfalso; omega))) | ((with_reducible first | apply J22 zq_ za_ | apply J23 fol zq_ za_ | apply J24); (·rfl); (· exact k20_); (try kernel_rfl); try exact yk_) | fail)
 refine At.pick (L2 := [.gone, .gone, .ro (.arr (bl x).length 1 (i64S (bl x))), .gone, .ro (.arr (bl y).length 1 (i64S (bl y)))]) (φ2 := [(0, .sl 1 2 [] 1 0 (bl x).length (some p1)), (1, .sl 3 4 [] 1 0 (bl y).length (some p2)), (5, .int .i64 (63 - ((0 : Nat) : Int)))]) [0, 1, 2, 3, 4] rfl rfl rfl ?_ rfl ?_ ?_ ?_ rfl ?_
 ·exact k29_
 ·exact k7_
 ·exact k16_
 ·exact k7_
 refine WF.loopAt (fun (k : Nat) => k ≤ 64 ∧ ∀ q, 64 - k ≤ q → q < 64 → x.getLsbD q = y.getLsbD q) (fun (k : Nat) => [(0, .sl 1 2 [] 1 0 (bl x).length (some p1)), (1, .sl 3 4 [] 1 0 (bl y).length (some p2)), (5, .int .i64 (63 - (k : Int)))]) (fun (k : Nat) => [.gone, .gone, .ro (.arr (bl x).length 1 (i64S (bl x))), .gone, .ro (.arr (bl y).length 1 (i64S (bl y)))]) (fun (k : Nat) => 64 - k) 0 ⟨Nat.zero_le _, fun q h1 h2 => absurd h2 (by omega)⟩ ?_ ?_ rfl ?_ ?_ rfl ?_
 ·exact k5_
 ·exact k6_
 ·exact k7_
 ·exact k7_
 rintro k ⟨hk, hq⟩
 by_cases hkl : k < 64
 ·have hk0 : (0 : Int) ≤ 63 - (k : Int) := by omega
  have hkt : (63 - (k : Int)).toNat = 63 - k := by omega
  have hx := zi_ (x := x) (i := 63 - k) (by omega)
  have hy := zi_ (x := y) (i := 63 - k) (by omega)
  have hden : ∀ β, (SV.int .i64 (63 - (k : Int) - 1)).den β = (SV.int .i64 (63 - ((k + 1 : Nat) : Int))).den β := fun β => by rw [show 63 - (k : Int) - 1 = 63 - ((k + 1 : Nat) : Int) by omega]
  cases b1 : x.getLsbD (63 - k) <;> cases b2 : y.getLsbD (63 - k)
  ·rw [b1] at hx
   rw [b2] at hy
   simp only [bI, Bool.false_eq_true, if_false] at hx hy
   repeat' (first | refine Ctl.h ?_ | ((with_reducible intro hif); first | (focus (cases hif; done)) | ((try simp only [JH] at hif); try (exfalso; omega))) | ((with_reducible first | apply J22 zq_ za_ | apply J23 fol zq_ za_ | apply J24); (·rfl); (· exact k36_); (try kernel_rfl); try exact k25_) | fail)
   refine At.nextPick [0, 1, 2, 3, 4] (k + 1) ?_ rfl rfl rfl ?_ rfl ?_ ?_ ?_ rfl
   ·exact k30_
   ·exact k29_
   ·exact k7_
   ·exact k10_
   ·exact k7_
  ·have hlt := ult_at (x := x) (y := y) (show 63 - k < 64 by omega) (fun q h1 h2 => hq q (by omega) h2) b1 b2
   rw [decide_eq_true hlt]
   rw [b1] at hx
   rw [b2] at hy
   simp only [bI, Bool.false_eq_true, if_false, if_true] at hx hy
   repeat' (first | refine Ctl.h ?_ | ((with_reducible intro hif); first | (focus (cases hif; done)) | ((try simp only [JH] at hif); try (exfalso; omega))) | ((with_reducible first | apply J22 zq_ za_ | apply J23 fol zq_ za_ | apply J24); (·rfl); (· exact k36_); (try kernel_rfl); try exact k25_) | fail)
   apply At.endsRet za_ (fn := Tryz.f156) (rs := [.tmp 4]) Anc.refl hro (lb_ rfl) rfl
   ·exact k11_
   ·exact yl_
   ·exact k6_
   ·rfl
   ·exact k7_
   ·exact zs_
   ·exact fun β => rfl
   ·exact k7_
  ·have hlt := ult_at (x := y) (y := x) (show 63 - k < 64 by omega) (fun q h1 h2 => (hq q (by omega) h2).symm) b2 b1
   rw [decide_eq_false (show ¬ x.toNat < y.toNat by omega)]
   rw [b1] at hx
   rw [b2] at hy
   simp only [bI, Bool.false_eq_true, if_false, if_true] at hx hy
   repeat' (first | refine Ctl.h ?_ | ((with_reducible intro hif); first | (focus (cases hif; done)) | ((try simp only [JH] at hif); try (exfalso; omega))) | ((with_reducible first | apply J22 zq_ za_ | apply J23 fol zq_ za_ | apply J24); (·rfl); (· exact k36_); (try kernel_rfl); try exact k25_) | fail)
   apply At.endsRet za_ (fn := Tryz.f156) (rs := [.tmp 4]) Anc.refl hro (lb_ rfl) rfl
   ·exact k11_
   ·exact yl_
   ·exact k6_
   ·rfl
   ·exact k7_
   ·exact zs_
   ·exact fun β => rfl
   ·exact k7_
  ·rw [b1] at hx
   rw [b2] at hy
   simp only [bI, if_true] at hx hy
   repeat' (first | refine Ctl.h ?_ | ((with_reducible intro hif); first | (focus (cases hif; done)) | ((try simp only [JH] at hif); try (exfalso; omega))) | ((with_reducible first | apply J22 zq_ za_ | apply J23 fol zq_ za_ | apply J24); (·rfl); (· exact k36_); (try kernel_rfl); try exact k25_) | fail)
   refine At.nextPick [0, 1, 2, 3, 4] (k + 1) ?_ rfl rfl rfl ?_ rfl ?_ ?_ ?_ rfl
   ·exact k30_
   ·exact k29_
   ·exact k7_
   ·exact k10_
   ·exact k7_
 ·obtain rfl : k = 64 := by omega
  have hxy : x = y := BitVec.eq_of_getLsbD_eq fun i hi => hq i (by omega) hi
  have hk0 : ¬ (0 : Int) ≤ 63 - ((64 : Nat) : Int) := by omega
  have e : decide (x.toNat < y.toNat) = false := by rw [hxy]; exact decide_eq_false (Nat.lt_irrefl _)
  rw [e]
  repeat' (first | refine Ctl.h ?_ | ((with_reducible intro hif); first | (focus (cases hif; done)) | ((try simp only [JH] at hif); try (exfalso; omega))) | ((with_reducible first | apply J22 zq_ za_ | apply J23 fol zq_ za_ | apply J24); (·rfl); (· exact k37_); (try kernel_rfl); try exact yk_) | fail)
  apply At.endsRet za_ (fn := Tryz.f156) (rs := [.tmp 4]) Anc.refl hro (lb_ rfl) rfl
  ·exact k11_
  ·exact yl_
  ·exact k6_
  ·rfl
  ·exact k7_
  ·exact zs_
  ·exact fun β => rfl
  ·exact k7_
theorem rless_ok (k l : List Int) (p1 p2 : Nat) (h1 : k = bl (vb k)) (h2 : l = bl (vb l)) : zo_ Tryz.prog 156 [.sl 1 2 [] 1 0 k.length (some p1), .sl 3 4 [] 1 0 l.length (some p2)] [.gone, .gone, .ro (.arr k.length 1 (i64S k)), .gone, .ro (.arr l.length 1 (i64S l))] (.bool (decide ((vb k).toNat < (vb l).toNat))) [.gone] := by
 have h := rless_lit (vb k) (vb l) p1 p2
 rw [← h1, ← h2] at h
 exact h
def sRLess : yq_ := fun args h m => match args with
 | [v1, v2] => match xa_ h 1 (.tup []) v1, xa_ h 1 (.tup []) v2 with
  | some (c1, n1, f1, r1), some (c2, n2, f2, r2) => some (c1 ∧ c2 ∧ (∀ q, q < n1 → isI .i64 (f1 q) = true) ∧ (∀ q, q < n2 → isI .i64 (f2 q) = true) ∧ ((ls iOf n1 f1) = bl (vb (ls iOf n1 f1))) ∧ ((ls iOf n2 f2) = bl (vb (ls iOf n2 f2))), .bool (decide ((vb (ls iOf n1 f1)).toNat < (vb (ls iOf n2 f2)).toNat)), r1 ++ r2, [])
  | _, _ => none
 | _ => none
theorem sRLess_ok : zj_ Tryz.prog 156 sRLess := by
 refine ⟨zf_ (by kernel_rfl), fun args h m c v rd wr hs hm hc w0 M β h' w R hrd hwr hst => ?_⟩
 unfold sRLess at hs
 split at hs
 ·rename_i v1 v2
  split at hs
  ·rename_i c1 n1 f1 r1 c2 n2 f2 r2 a1 a2
   simp only [Option.some.injEq, Prod.mk.injEq] at hs
   obtain ⟨rfl, rfl, rfl, rfl⟩ := hs
   obtain ⟨k1, k2, g1, g2, y1, y2⟩ := hc
   obtain ⟨A1, p1, d1, e1, t1⟩ := zg_ R a1 k1 (fun i hi => hrd i (List.mem_append_left _ hi)) (by omega)
   obtain ⟨A2, p2, d2, e2, t2⟩ := zg_ R a2 k2 (fun i hi => hrd i (List.mem_append_right _ hi)) (by omega)
   refine yf_ (views := [⟨1, (ls iOf n1 f1).length, i64S (ls iOf n1 f1), A1, p1⟩, ⟨1, (ls iOf n2 f2).length, i64S (ls iOf n2 f2), A2, p2⟩]) (rless_ok (ls iOf n1 f1) (ls iOf n2 f2) p1 p2 y1 y2) ?_ R hm hwr ?_ ?_ ?_
   ·intro x hx
    simp only [List.mem_cons, List.not_mem_nil, or_false] at hx
    rcases hx with rfl | rfl
    ·exact z0_ t1 e1 g1
    ·exact z0_ t2 e2 g2
   ·intro β1 hv
    simp only [Vd, zb_, and_true] at hv
    obtain ⟨z1, z2⟩ := hv
    simp only [denL, z7_, z6_, z5_, zr_, zb_, z1, z2, d1, d2]
   ·exact k7_
   ·exact k7_
  ·cases hs
 ·cases hs
theorem sumV_f (x y : BitVec 64) : sumV x y false = x + y := by simp [sumV]
theorem sumV_neg (x : BitVec 64) : sumV (~~~x) 0#64 true = -x := by
 have : BitVec.setWidth 64 (BitVec.ofBool true) = 1#64 := by decide
 rw [sumV, this, BitVec.add_zero, BitVec.neg_eq_not_add]
theorem sumV_sub (x y : BitVec 64) : sumV x (~~~y) true = x - y := by
 have : BitVec.setWidth 64 (BitVec.ofBool true) = 1#64 := by decide
 rw [sumV, this, BitVec.add_assoc, ← BitVec.neg_eq_not_add, BitVec.sub_eq_add_neg]
def pV (x y : BitVec 64) : Nat → BitVec 64
 | 0 => 0#64
 | j + 1 => pV x y j + (if y.getLsbD j then x <<< j else 0#64)
theorem pV_rec (x y : BitVec 64) : ∀ s, pV x y (s + 1) = x.mulRec y s
 | 0 => by simp [pV, BitVec.mulRec]
 | s + 1 => by
  rw [BitVec.mulRec_succ_eq, ← pV_rec x y s]
  rfl
theorem pV_mul (x y : BitVec 64) : pV x y 64 = x * y := by
 rw [BitVec.mul_eq_mulRec, BitVec.mulRec_succ_eq x y 63, ← pV_rec x y 63]
 simp
theorem ls_zB : ls iOf 64 (fun _ => SV.nat .i64 0) = bl 0#64 := by decide
theorem ls_i64B (l : List Int) : ls iOf l.length (fun q => i64S l q) = l := y6_ l
def cPrd : FuncId → Option yq_ := y3_ [(153, sRUp), (146, sRSum)]
theorem cPrd_ok : ∀ f S, cPrd f = some S → zj_ Tryz.prog f S := zp_ ⟨sRUp_ok, sRSum_ok, trivial⟩
theorem prod_lit (x y : BitVec 64) (p1 p2 : Nat) : zo_ Tryz.prog 148 [.sl 1 2 [] 1 0 (bl x).length (some p1), .sl 3 4 [] 1 0 (bl y).length (some p2)] [.gone, .gone, .ro (.arr (bl x).length 1 (i64S (bl x))), .gone, .ro (.arr (bl y).length 1 (i64S (bl y)))] (.sl 5 5 [] 1 0 (bl (x * y)).length none) [.gone, .gone, .gone, .gone, .gone, bO (bl (x * y))] := by
 have l1 := ya_ x
 have l2 := ya_ y
 refine ze_ (fn := Tryz.f148) 5 23 0 rfl rfl rfl rfl rfl u2_ rfl fun w0 M E hro => ?_
 repeat' (first | refine Ctl.h ?_ | ((with_reducible intro hif); first | (focus (cases hif; done)) | ((try simp only [JH] at hif); try (exfalso; omega))) | ((with_reducible first | apply J22 cPrd_ok za_ | apply J23 fol cPrd_ok za_ | apply J24); (·rfl); (· exact k20_); (try kernel_rfl); try exact yk_) | fail)
 refine WF.put 5 (.own 3 (.arr 64 1 fun _ => .nat .i64 0) false) .loose (fun q => trivial) rfl rfl ?_
 simp only [setH]
 have hz : Less (.own 3 (.arr 64 1 fun _ => .nat .i64 0) false) (bO (bl (pV x y 0))) := less_arB (σ := id) 0#64 fun β q hq => by simp [bI]; rfl
 refine WF.loopAt (fun (j : Nat) => j ≤ 64) (fun (j : Nat) => [(0, .sl 1 2 [] 1 0 (bl x).length (some p1)), (1, .sl 3 4 [] 1 0 (bl y).length (some p2)), (5, .sl 5 5 [] 1 0 (bl (pV x y j)).length none), (6, .nat .i64 j)]) (fun (j : Nat) => [.gone, .gone, .ro (.arr (bl x).length 1 (i64S (bl x))), .gone, .ro (.arr (bl y).length 1 (i64S (bl y))), bO (bl (pV x y j))]) (fun (j : Nat) => 64 - j) 0 (Nat.zero_le _) ?_ ?_ rfl ?_ ?_ rfl ?_
 ·((repeat' (first | exact trivial | apply And.intro)) <;> (first | rfl | (rw [ya_]; rfl)))
 ·exact k6_
 ·exact k7_
 ·exact k7_
 intro j hj
 have l3 := ya_ (pV x y j)
 by_cases hjl : j < 64
 ·have hy := zi_ (x := y) hjl
  cases b2 : y.getLsbD j
  ·rw [b2] at hy
   simp only [bI, Bool.false_eq_true, if_false] at hy
   have e : pV x y (j + 1) = pV x y j := by rw [pV, b2]; simp
   repeat' (first | refine Ctl.h ?_ | ((with_reducible intro hif); first | (focus (cases hif; done)) | ((try simp only [JH] at hif); try (exfalso; omega))) | ((with_reducible first | apply J22 cPrd_ok za_ | apply J23 fol cPrd_ok za_ | apply J24); (·rfl); (· (simp only [push_cast, ↓JP, Nat.reduceAdd, Nat.reduceEqDiff, Nat.reduceLT, Nat.reduceMul, Nat.reduceLeDiff, reduceCtorEq, reduceIte, cPrd, sRUp, sRSum, bO, hjl, hy, i64S, inR, inN]; rfl)); (try kernel_rfl); try exact k25_) | fail)
   refine At.nextPick [0, 1, 2, 3, 4, 5] (j + 1) ?_ rfl rfl rfl ?_ rfl ?_ ?_ ?_ rfl
   ·omega
   ·exact k31_
   ·exact k7_
   ·exact k32_
   ·exact k7_
  ·rw [b2] at hy
   simp only [bI, if_true] at hy
   have e : pV x y (j + 1) = pV x y j + x <<< j := by rw [pV, b2]; simp
   have ed : decide ((0 : Int) = 1) = false := rfl
   repeat' (first | refine Ctl.h ?_ | ((with_reducible intro hif); first | (focus (cases hif; done)) | ((try simp only [JH] at hif); try (exfalso; omega))) | ((with_reducible first | apply J22 cPrd_ok za_ | apply J23 fol cPrd_ok za_ | apply J24); (·rfl); (· (simp only [push_cast, ↓JP, Nat.reduceAdd, Nat.reduceEqDiff, Nat.reduceLT, Nat.reduceMul, Nat.reduceLeDiff, reduceCtorEq, reduceIte, cPrd, sRUp, sRSum, bO, hjl, hy, zw_, zy_, iOf, y6_, yy_, ls_i64B, vb_bl, sumV_f, ed, Int.toNat_natCast, nat_zero_i, inR, inN]; rfl)); (try kernel_rfl); try exact k38_) | fail)
   refine At.nextPick [0, 1, 2, 3, 4, 7] (j + 1) ?_ rfl rfl rfl ?_ rfl ?_ ?_ ?_ rfl
   ·omega
   ·exact k31_
   ·exact k7_
   ·exact k32_
   ·exact k7_
 ·obtain rfl : j = 64 := by omega
  repeat' (first | refine Ctl.h ?_ | ((with_reducible intro hif); first | (focus (cases hif; done)) | ((try simp only [JH] at hif); try (exfalso; omega))) | ((with_reducible first | apply J22 cPrd_ok za_ | apply J23 fol cPrd_ok za_ | apply J24); (·rfl); (· exact k22_); (try kernel_rfl); try exact yk_) | fail)
  apply At.endsPick [0, 1, 2, 3, 4, 5] za_ (fn := Tryz.f148) (rs := [.tmp 4]) Anc.refl hro (lb_ rfl) rfl
  ·exact k11_
  ·exact xf_
  ·rfl
  ·rfl
  ·rfl
  ·(repeat' (first | exact trivial | exact .inl rfl | exact .inr (.same _) | exact .inr .loose | exact .inr (.arr (by assumption)) | apply And.intro | (rw [← pV_mul]; exact .inr (.same _))))
  ·rfl
  ·exact k7_
  ·exact zs_
  ·(intro β; rw [← pV_mul]; rfl)
  ·exact k7_
theorem prod_ok (k l : List Int) (p1 p2 : Nat) (h1 : k = bl (vb k)) (h2 : l = bl (vb l)) : zo_ Tryz.prog 148 [.sl 1 2 [] 1 0 k.length (some p1), .sl 3 4 [] 1 0 l.length (some p2)] [.gone, .gone, .ro (.arr k.length 1 (i64S k)), .gone, .ro (.arr l.length 1 (i64S l))] (.sl 5 5 [] 1 0 (bl (vb k * vb l)).length none) [.gone, .gone, .gone, .gone, .gone, bO (bl (vb k * vb l))] := by
 have h := prod_lit (vb k) (vb l) p1 p2
 rw [← h1, ← h2] at h
 exact h
def sRProd : yq_ := fun args h m => match args with
 | [v1, v2] => match xa_ h 1 (.tup []) v1, xa_ h 1 (.tup []) v2 with
  | some (c1, n1, f1, r1), some (c2, n2, f2, r2) => some (c1 ∧ c2 ∧ (∀ q, q < n1 → isI .i64 (f1 q) = true) ∧ (∀ q, q < n2 → isI .i64 (f2 q) = true) ∧ ((ls iOf n1 f1) = bl (vb (ls iOf n1 f1))) ∧ ((ls iOf n2 f2) = bl (vb (ls iOf n2 f2))), .sl m m [] 1 0 (bl (vb (ls iOf n1 f1) * vb (ls iOf n2 f2))).length none, r1 ++ r2, [(m, bO (bl (vb (ls iOf n1 f1) * vb (ls iOf n2 f2))))])
  | _, _ => none
 | _ => none
theorem sRProd_ok : zj_ Tryz.prog 148 sRProd := by
 refine ⟨zf_ (by kernel_rfl), fun args h m c v rd wr hs hm hc w0 M β h' w R hrd hwr hst => ?_⟩
 unfold sRProd at hs
 split at hs
 ·rename_i v1 v2
  split at hs
  ·rename_i c1 n1 f1 r1 c2 n2 f2 r2 a1 a2
   simp only [Option.some.injEq, Prod.mk.injEq] at hs
   obtain ⟨rfl, rfl, rfl, rfl⟩ := hs
   obtain ⟨k1, k2, g1, g2, y1, y2⟩ := hc
   obtain ⟨A1, p1, d1, e1, t1⟩ := zg_ R a1 k1 (fun i hi => hrd i (List.mem_append_left _ hi)) (by omega)
   obtain ⟨A2, p2, d2, e2, t2⟩ := zg_ R a2 k2 (fun i hi => hrd i (List.mem_append_right _ hi)) (by omega)
   refine yf_ (views := [⟨1, (ls iOf n1 f1).length, i64S (ls iOf n1 f1), A1, p1⟩, ⟨1, (ls iOf n2 f2).length, i64S (ls iOf n2 f2), A2, p2⟩]) (prod_ok (ls iOf n1 f1) (ls iOf n2 f2) p1 p2 y1 y2) ?_ R hm hwr ?_ ?_ ?_
   ·intro x hx
    simp only [List.mem_cons, List.not_mem_nil, or_false] at hx
    rcases hx with rfl | rfl
    ·exact z0_ t1 e1 g1
    ·exact z0_ t2 e2 g2
   ·intro β1 hv
    simp only [Vd, zb_, and_true] at hv
    obtain ⟨z1, z2⟩ := hv
    simp only [denL, z7_, z6_, z5_, zr_, zb_, z1, z2, d1, d2]
   ·exact k7_
   ·exact k7_
  ·cases hs
 ·cases hs
def amV (a : Int) : BitVec 64 := if a < 0 then -(BitVec.ofInt 64 a) else BitVec.ofInt 64 a
def cAmt : FuncId → Option yq_ := y3_ [(144, sRBits), (147, sRNot), (146, sRSum), (145, sRWord)]
theorem cAmt_ok : ∀ f S, cAmt f = some S → zj_ Tryz.prog f S := zp_ ⟨sRBits_ok, sRNot_ok, sRSum_ok, sRWord_ok, trivial⟩
theorem amt_lit (a : Int) (h0 : -9223372036854775808 ≤ a) (h1 : a ≤ 9223372036854775807) : zo_ Tryz.prog 150 [.int .i64 a] [.gone] (.sl 1 1 [] 1 0 (bl (amV a)).length none) [.gone, bO (bl (amV a))] := by
 have ed : decide ((1 : Int) = 1) = true := rfl
 by_cases hn : a < 0
 ·have e : amV a = -(BitVec.ofInt 64 a) := if_pos hn
  rw [e]
  refine ze_ (fn := Tryz.f150) 1 12 0 rfl rfl rfl rfl rfl u2_ rfl fun w0 M E hro => ?_
  repeat' (first | refine Ctl.h ?_ | ((with_reducible intro hif); first | (focus (cases hif; done)) | ((try simp only [JH] at hif); try (exfalso; omega))) | ((with_reducible first | apply J22 cAmt_ok za_ | apply J23 fol cAmt_ok za_ | apply J24); (·rfl); (· (simp only [push_cast, ↓JP, Nat.reduceAdd, Nat.reduceEqDiff, Nat.reduceLT, Nat.reduceMul, Nat.reduceLeDiff, reduceCtorEq, reduceIte, cAmt, sRBits, sRNot, sRSum, bO, hn, zw_, zy_, iOf, y6_, yy_, ls_i64B, ls_zB, vb_bl, sumV_neg, ed, nat_one_i, inR, inN]; rfl)); (try kernel_rfl); try exact k38_) | fail)
  apply At.endsPick [0, 4] za_ (fn := Tryz.f150) (rs := [.tmp 2]) Anc.refl hro (lb_ rfl) rfl
  ·exact k11_
  ·exact xf_
  ·rfl
  ·rfl
  ·rfl
  ·exact k29_
  ·rfl
  ·exact k7_
  ·exact zs_
  ·exact fun β => rfl
  ·exact k7_
 ·have e : amV a = BitVec.ofInt 64 a := if_neg hn
  rw [e]
  refine ze_ (fn := Tryz.f150) 1 12 0 rfl rfl rfl rfl rfl u2_ rfl fun w0 M E hro => ?_
  repeat' (first | refine Ctl.h ?_ | ((with_reducible intro hif); first | (focus (cases hif; done)) | ((try simp only [JH] at hif); try (exfalso; omega))) | ((with_reducible first | apply J22 cAmt_ok za_ | apply J23 fol cAmt_ok za_ | apply J24); (·rfl); (· (simp only [push_cast, ↓JP, Nat.reduceAdd, Nat.reduceEqDiff, Nat.reduceLT, Nat.reduceMul, Nat.reduceLeDiff, reduceCtorEq, reduceIte, cAmt, sRBits, sRNot, sRSum, bO, hn, zw_, zy_, iOf, y6_, yy_, ls_i64B, vb_bl, inR, inN]; rfl)); (try kernel_rfl); try exact k38_) | fail)
  apply At.endsPick [0, 1] za_ (fn := Tryz.f150) (rs := [.tmp 2]) Anc.refl hro (lb_ rfl) rfl
  ·exact k11_
  ·exact xf_
  ·rfl
  ·rfl
  ·rfl
  ·exact k29_
  ·rfl
  ·exact k7_
  ·exact zs_
  ·exact fun β => rfl
  ·exact k7_
def sRAmt : yq_ := fun args h m => match args with
 | [v1] => bif isI .i64 v1 then some ((-9223372036854775808 ≤ (iOf v1)) ∧ ((iOf v1) ≤ 9223372036854775807), .sl m m [] 1 0 (bl (amV (iOf v1))).length none, [], [(m, bO (bl (amV (iOf v1))))]) else none
 | _ => none
theorem sRAmt_ok : zj_ Tryz.prog 150 sRAmt := by
 refine ⟨zf_ (by kernel_rfl), fun args h m c v rd wr hs hm hc w0 M β h' w R hrd hwr hst => ?_⟩
 unfold sRAmt at hs
 split at hs
 ·rename_i v1
  obtain ⟨hb, hs⟩ := zk_ hs
  simp only [Option.some.injEq, Prod.mk.injEq] at hs
  obtain ⟨rfl, rfl, rfl, rfl⟩ := hs
  have b1 := hb
  obtain ⟨y1, y2⟩ := hc
  refine yf_ (views := []) (amt_lit (iOf v1) y1 y2) ?_ R hm hwr ?_ ?_ ?_
  ·intro x hx; cases hx
  ·intro β1 hv
   simp only [denL, z7_, z6_, z5_, zr_, zb_, zc_ b1]
  ·exact k7_
  ·exact k7_
 ·cases hs
theorem neg_lit (x : BitVec 64) (b : Bool) (p1 : Nat) : zo_ Tryz.prog 151 [.sl 1 2 [] 1 0 (bl x).length (some p1), .bool b] [.gone, .gone, .ro (.arr (bl x).length 1 (i64S (bl x)))] (.int .i64 (if b then -x else x).toInt) [.gone] := by
 have ed : decide ((1 : Int) = 1) = true := rfl
 cases b
 ·rw [if_neg (by decide)]
  refine ze_ (fn := Tryz.f151) 3 13 0 rfl rfl rfl rfl rfl u2_ rfl fun w0 M E hro => ?_
  repeat' (first | refine Ctl.h ?_ | ((with_reducible intro hif); first | (focus (cases hif; done)) | ((try simp only [JH] at hif); try (exfalso; omega))) | ((with_reducible first | apply J22 cAmt_ok za_ | apply J23 fol cAmt_ok za_ | apply J24); (·rfl); (· (simp only [push_cast, ↓JP, Nat.reduceAdd, Nat.reduceEqDiff, Nat.reduceLT, Nat.reduceMul, Nat.reduceLeDiff, reduceCtorEq, reduceIte, cAmt, sRBits, sRNot, sRSum, sRWord, bO, zw_, zy_, iOf, y6_, yy_, ls_i64B, vb_bl, inR, inN]; rfl)); (try kernel_rfl); try exact k38_) | fail)
  apply At.endsRet za_ (fn := Tryz.f151) (rs := [.tmp 4]) Anc.refl hro (lb_ rfl) rfl
  ·exact k11_
  ·exact yl_
  ·exact k6_
  ·rfl
  ·exact k7_
  ·exact zs_
  ·exact fun β => rfl
  ·exact k7_
 ·rw [if_pos rfl]
  refine ze_ (fn := Tryz.f151) 3 13 0 rfl rfl rfl rfl rfl u2_ rfl fun w0 M E hro => ?_
  repeat' (first | refine Ctl.h ?_ | ((with_reducible intro hif); first | (focus (cases hif; done)) | ((try simp only [JH] at hif); try (exfalso; omega))) | ((with_reducible first | apply J22 cAmt_ok za_ | apply J23 fol cAmt_ok za_ | apply J24); (·rfl); (· (simp only [push_cast, ↓JP, Nat.reduceAdd, Nat.reduceEqDiff, Nat.reduceLT, Nat.reduceMul, Nat.reduceLeDiff, reduceCtorEq, reduceIte, cAmt, sRBits, sRNot, sRSum, sRWord, bO, zw_, zy_, iOf, y6_, yy_, ls_i64B, ls_zB, vb_bl, sumV_neg, ed, nat_one_i, inR, inN]; rfl)); (try kernel_rfl); try exact k38_) | fail)
  apply At.endsRet za_ (fn := Tryz.f151) (rs := [.tmp 4]) Anc.refl hro (lb_ rfl) rfl
  ·exact k11_
  ·exact yl_
  ·exact k6_
  ·rfl
  ·exact k7_
  ·exact zs_
  ·exact fun β => rfl
  ·exact k7_
theorem neg_ok (k : List Int) (b : Bool) (p1 : Nat) (h1 : k = bl (vb k)) : zo_ Tryz.prog 151 [.sl 1 2 [] 1 0 k.length (some p1), .bool b] [.gone, .gone, .ro (.arr k.length 1 (i64S k))] (.int .i64 (if b then -(vb k) else vb k).toInt) [.gone] := by
 have h := neg_lit (vb k) b p1
 rw [← h1] at h
 exact h
def sRNeg : yq_ := fun args h m => match args with
 | [v1, .bool v2] => match xa_ h 1 (.tup []) v1 with
  | some (c1, n1, f1, r1) => some (c1 ∧ (∀ q, q < n1 → isI .i64 (f1 q) = true) ∧ ((ls iOf n1 f1) = bl (vb (ls iOf n1 f1))), .int .i64 (if v2 then -(vb (ls iOf n1 f1)) else vb (ls iOf n1 f1)).toInt, r1, [])
  | _ => none
 | _ => none
theorem sRNeg_ok : zj_ Tryz.prog 151 sRNeg := by
 refine ⟨zf_ (by kernel_rfl), fun args h m c v rd wr hs hm hc w0 M β h' w R hrd hwr hst => ?_⟩
 unfold sRNeg at hs
 split at hs
 ·rename_i v1 v2
  split at hs
  ·rename_i c1 n1 f1 r1 a1
   simp only [Option.some.injEq, Prod.mk.injEq] at hs
   obtain ⟨rfl, rfl, rfl, rfl⟩ := hs
   obtain ⟨k1, g1, y1⟩ := hc
   obtain ⟨A1, p1, d1, e1, t1⟩ := zg_ R a1 k1 (fun i hi => hrd i hi) (by omega)
   refine yf_ (views := [⟨1, (ls iOf n1 f1).length, i64S (ls iOf n1 f1), A1, p1⟩]) (neg_ok (ls iOf n1 f1) v2 p1 y1) ?_ R hm hwr ?_ ?_ ?_
   ·intro x hx
    simp only [List.mem_cons, List.not_mem_nil, or_false] at hx
    subst hx
    ·exact z0_ t1 e1 g1
   ·intro β1 hv
    simp only [Vd, zb_, and_true] at hv
    have z1 := hv
    simp only [denL, z7_, z6_, z5_, zr_, zb_, z1, d1]
   ·exact k7_
   ·exact k7_
  ·cases hs
 ·cases hs
theorem div_step (A B i : Nat) (hB : 0 < B) : (A / 2 ^ i) % B = (if B ≤ 2 * ((A / 2 ^ (i + 1)) % B) + (A / 2 ^ i) % 2 then 2 * ((A / 2 ^ (i + 1)) % B) + (A / 2 ^ i) % 2 - B else 2 * ((A / 2 ^ (i + 1)) % B) + (A / 2 ^ i) % 2) ∧
  (A / B).testBit i = decide (B ≤ 2 * ((A / 2 ^ (i + 1)) % B) + (A / 2 ^ i) % 2) := by
 have e1 : A / 2 ^ (i + 1) = A / 2 ^ i / 2 := by rw [Nat.pow_succ, Nat.div_div_eq_div_mul]
 have e2 : A / B / 2 ^ i = A / 2 ^ i / B := by rw [Nat.div_div_eq_div_mul, Nat.div_div_eq_div_mul, Nat.mul_comm]
 obtain ⟨M, hM⟩ : ∃ M, A / 2 ^ i = M := ⟨_, rfl⟩
 rw [Nat.testBit_eq_decide_div_mod_eq, e2, e1, hM]
 obtain ⟨N, hN⟩ : ∃ N, M / 2 = N := ⟨_, rfl⟩
 rw [hN]
 have hMN := Nat.div_add_mod M 2
 rw [hN] at hMN
 obtain ⟨c, hc⟩ : ∃ c, M % 2 = c := ⟨_, rfl⟩
 have hc2 : c < 2 := by rw [← hc]; exact Nat.mod_lt _ (by decide)
 rw [hc] at hMN ⊢
 have hNq := Nat.div_add_mod N B
 have hr := Nat.mod_lt N hB
 obtain ⟨q, hq⟩ : ∃ q, N / B = q := ⟨_, rfl⟩
 obtain ⟨r, hr'⟩ : ∃ r, N % B = r := ⟨_, rfl⟩
 rw [hq, hr'] at hNq
 rw [hr'] at hr ⊢
 have hMe : M = B * (2 * q) + (2 * r + c) := by
  rw [← hMN, ← hNq, Nat.mul_add, Nat.mul_left_comm]; omega
 by_cases h : B ≤ 2 * r + c
 ·have hMe2 : M = (2 * r + c - B) + B * (2 * q + 1) := by rw [hMe, Nat.mul_add]; omega
  rw [if_pos h, hMe2, Nat.add_mul_mod_self_left, Nat.mod_eq_of_lt (by omega), Nat.add_mul_div_left _ _ hB, Nat.div_eq_of_lt (by omega)]
  exact ⟨rfl, by rw [decide_eq_true h]; exact decide_eq_true (by omega)⟩
 ·have hMe2 : M = (2 * r + c) + B * (2 * q) := by rw [hMe]; omega
  rw [if_neg h, hMe2, Nat.add_mul_mod_self_left, Nat.mod_eq_of_lt (by omega), Nat.add_mul_div_left _ _ hB, Nat.div_eq_of_lt (by omega)]
  exact ⟨rfl, by rw [decide_eq_false h]; exact decide_eq_false (by omega)⟩
theorem dbl_bit (r c q : Nat) (hc : c < 2) (hq : q < 64) : (BitVec.ofNat 64 (2 * r + c)).getLsbD q = if q = 0 then decide (c = 1) else (BitVec.ofNat 64 r <<< 1).getLsbD q := by
 rw [BitVec.getLsbD_shiftLeft, BitVec.getLsbD_ofNat]
 by_cases h : q = 0
 ·subst h
  rw [if_pos rfl]
  have : (2 * r + c).testBit 0 = decide (c = 1) := by
   rw [Nat.testBit_zero]
   simp only [decide_eq_decide]
   omega
  simp [this]
 ·rw [if_neg h]
  obtain ⟨p, rfl⟩ : ∃ p, q = p + 1 := ⟨q - 1, by omega⟩
  rw [Nat.testBit_succ, show (2 * r + c) / 2 = r by omega]
  have h1 : ¬ p + 1 < 1 := by omega
  have h2 : p < 64 := by omega
  simp only [hq, h1, decide_true, decide_false, Bool.not_false, Bool.true_and, Nat.add_sub_cancel, BitVec.getLsbD_ofNat, h2]
theorem top_bit {r : Nat} (hr : r < 2 ^ 64) : (BitVec.ofNat 64 r).getLsbD 63 = decide (2 ^ 63 ≤ r) := by
 rw [BitVec.getLsbD_ofNat, Nat.testBit_eq_decide_div_mod_eq]
 have h63 : (2 : Nat) ^ 63 = 9223372036854775808 := by decide
 have h64 : (2 : Nat) ^ 64 = 18446744073709551616 := by decide
 rw [h64] at hr
 rw [h63]
 simp only [show (63 < 64) = True from eq_true (by decide), decide_true, Bool.true_and, decide_eq_decide]
 omega
theorem div_test {r c : Nat} {b : BitVec 64} (hr : r < b.toNat) (hc : c < 2) : (decide (2 ^ 63 ≤ r) || !decide ((BitVec.ofNat 64 (2 * r + c)).toNat < b.toNat)) = decide (b.toNat ≤ 2 * r + c) := by
 have hb := b.isLt
 have h63 : (2 : Nat) ^ 63 = 9223372036854775808 := by decide
 have h64 : (2 : Nat) ^ 64 = 18446744073709551616 := by decide
 rw [BitVec.toNat_ofNat, h64, h63]
 rw [h64] at hb
 by_cases h : 9223372036854775808 ≤ r
 ·rw [decide_eq_true h, decide_eq_true (show b.toNat ≤ 2 * r + c by omega)]; rfl
 ·rw [decide_eq_false h, Nat.mod_eq_of_lt (by omega)]
  by_cases h2 : 2 * r + c < b.toNat
  ·rw [decide_eq_true h2, decide_eq_false (by omega)]; rfl
  ·rw [decide_eq_false h2, decide_eq_true (by omega)]; rfl
theorem div_sub {r c : Nat} {b : BitVec 64} (hr : r < b.toNat) (hc : c < 2) (h : b.toNat ≤ 2 * r + c) : BitVec.ofNat 64 (2 * r + c) - b = BitVec.ofNat 64 (2 * r + c - b.toNat) := by
 apply BitVec.eq_of_toNat_eq
 have hb := b.isLt
 have h64 : (2 : Nat) ^ 64 = 18446744073709551616 := by decide
 rw [BitVec.toNat_sub, BitVec.toNat_ofNat, BitVec.toNat_ofNat, h64]
 rw [h64] at hb
 omega
def dR (a b : BitVec 64) (k : Nat) : BitVec 64 := BitVec.ofNat 64 ((a.toNat / 2 ^ (64 - k)) % b.toNat)
def qS (z : BitVec 64) (k : Nat) : Nat → SV := fun q => .int .i64 (if 64 - k ≤ q then bI (z.getLsbD q) else 0)
theorem qS_size (z : BitVec 64) (k q : Nat) : (qS z k q).size = 1 := rfl
theorem less_q0 {t : Nat} {b : Bool} (z : BitVec 64) : Less (.own t (.arr 64 1 fun _ => .nat .i64 0) b) (.own t (.arr 64 1 (qS z 0)) b) :=
 .val (fun β => arrCl fun q hq => by unfold qS; rw [if_neg (by omega)]; rfl) (fun n1 k1 f1 e => by injection e with e1 e2 e3; subst e1 e2; exact ⟨_, rfl⟩) (fun n1 k1 f1 e => by injection e with e1 e2 e3; subst e1 e2; exact ⟨_, rfl⟩)
theorem less_q1 {t : Nat} {σ : Nat → Nat} {b : Bool} (z : BitVec 64) (k : Nat) (hk : k < 64) (h1 : z.getLsbD (63 - k) = true) {g : Nat → SV} {xv : SV} (hg : g = fun q => SV.ite (decide (q = 63 - k)) xv (qS z k q)) (hx : ∀ β, xv.cl β = [.int .i64 1]) : Less (.own t (.arr 64 1 g) b) ((HB.own t (.arr 64 1 (qS z (k + 1))) b).ren σ) := by
 have e : (HB.own t (.arr 64 1 (qS z (k + 1))) b).ren σ = .own t (.arr 64 1 (qS z (k + 1))) b := rfl
 rw [e]
 subst hg
 refine .val (fun β => arrCl fun q hq => ?_) (fun n1 k1 f1 e => by injection e with e1 e2 e3; subst e1 e2; exact ⟨_, rfl⟩) (fun n1 k1 f1 e => by injection e with e1 e2 e3; subst e1 e2; exact ⟨_, rfl⟩)
 rw [y7_]
 by_cases h : q = 63 - k
 ·simp only [h, decide_true, cond_true, hx, qS]
  rw [if_pos (by omega), h1]; rfl
 ·have h2 : (64 - (k + 1) ≤ q) ↔ (64 - k ≤ q) := by omega
  simp only [h, decide_false, cond_false, qS, h2]
theorem less_q2 {t : Nat} {σ : Nat → Nat} {b : Bool} (z : BitVec 64) (k : Nat) (hk : k < 64) (h1 : z.getLsbD (63 - k) = false) : Less (.own t (.arr 64 1 (qS z k)) b) ((HB.own t (.arr 64 1 (qS z (k + 1))) b).ren σ) := by
 have e : (HB.own t (.arr 64 1 (qS z (k + 1))) b).ren σ = .own t (.arr 64 1 (qS z (k + 1))) b := rfl
 rw [e]
 refine .val (fun β => arrCl fun q hq => ?_) (fun n1 k1 f1 e => by injection e with e1 e2 e3; subst e1 e2; exact ⟨_, rfl⟩) (fun n1 k1 f1 e => by injection e with e1 e2 e3; subst e1 e2; exact ⟨_, rfl⟩)
 unfold qS
 by_cases h : q = 63 - k
 ·rw [if_neg (by omega), if_pos (by omega), h, h1]; rfl
 ·have h2 : (64 - (k + 1) ≤ q) ↔ (64 - k ≤ q) := by omega
  simp only [h2]
theorem it_one : Int.toNat 1 = 1 := rfl
theorem ls_i64U (l : List Int) : ls iOf l.length (fun q => SV.int .i64 (l.getD q 0)) = l := y6_ l
theorem ls_gB {n q : Nat} {f : Nat → SV} (h : q < n) : (ls iOf n f).getD q 0 = iOf (f q) := by
 unfold ls; simp [h]
theorem ls_eqB {n : Nat} {f : Nat → SV} {z : BitVec 64} (hn : n = 64) (h : ∀ q, q < 64 → iOf (f q) = bI (z.getLsbD q)) : ls iOf n f = bl z := by
 subst hn
 exact bl_ext (zb_ ..) fun i hi => by rw [ls_gB hi]; exact h i hi
theorem less_arB2 {t n : Nat} {σ : Nat → Nat} {b : Bool} {f : Nat → SV} (z : BitVec 64) (hn : n = 64) (h : ∀ β q, q < 64 → (f q).cl β = [.int .i64 (bI (z.getLsbD q))]) : Less (.own t (.arr n 1 f) b) ((HB.own t (.arr (bl z).length 1 (i64S (bl z))) b).ren σ) := by
 subst hn
 exact less_arB z h
def cDiv : FuncId → Option yq_ := y3_ [(153, sRUp), (146, sRSum), (147, sRNot), (156, sRLess)]
theorem cDiv_ok : ∀ f S, cDiv f = some S → zj_ Tryz.prog f S := zp_ ⟨sRUp_ok, sRSum_ok, sRNot_ok, sRLess_ok, trivial⟩
theorem div_lit (a b : BitVec 64) (p1 p2 : Nat) (hb : 0 < b.toNat) : zo_ Tryz.prog 149 [.sl 1 2 [] 1 0 (bl a).length (some p1), .sl 3 4 [] 1 0 (bl b).length (some p2)] [.gone, .gone, .ro (.arr (bl a).length 1 (i64S (bl a))), .gone, .ro (.arr (bl b).length 1 (i64S (bl b)))] (.tup [.sl 5 5 [] 1 0 (bl (a / b)).length none, .sl 6 6 [] 1 0 (bl (a % b)).length none]) [.gone, .gone, .gone, .gone, .gone, bO (bl (a / b)), bO (bl (a % b))] := by
 have l1 := ya_ a
 have l2 := ya_ b
 have hal := a.isLt
 refine ze_ (fn := Tryz.f149) 5 44 0 rfl rfl rfl rfl rfl u2_ rfl fun w0 M E hro => ?_
 repeat' (first | refine Ctl.h ?_ | ((with_reducible intro hif); first | (focus (cases hif; done)) | ((try simp only [JH] at hif); try (exfalso; omega))) | ((with_reducible first | apply J22 cDiv_ok za_ | apply J23 fol cDiv_ok za_ | apply J24); (·rfl); (· exact k20_); (try kernel_rfl); try exact yk_) | fail)
 refine WF.put 5 (.own 3 (.arr 64 1 fun _ => .nat .i64 0) false) .loose (fun q => trivial) rfl rfl ?_
 refine WF.put 6 (.own 3 (.arr 64 1 fun _ => .nat .i64 0) false) .loose (fun q => trivial) rfl rfl ?_
 simp only [setH]
 have hR0 : dR a b 0 = 0#64 := by
  unfold dR
  rw [Nat.div_eq_of_lt hal, Nat.zero_mod]
 refine At.pick (L2 := [.gone, .gone, .ro (.arr (bl a).length 1 (i64S (bl a))), .gone, .ro (.arr (bl b).length 1 (i64S (bl b))), .own 3 (.arr 64 1 (qS (a / b) 0)) false, bO (bl (dR a b 0))]) (φ2 := [(0, .sl 1 2 [] 1 0 (bl a).length (some p1)), (1, .sl 3 4 [] 1 0 (bl b).length (some p2)), (6, .sl 5 5 [] 1 0 64 none), (7, .sl 6 6 [] 1 0 (bl (dR a b 0)).length none), (8, .int .i64 (63 - ((0 : Nat) : Int)))]) [0, 1, 2, 3, 4, 5, 6] rfl rfl rfl ?_ rfl ?_ ?_ ?_ rfl ?_
 ·(repeat' (first | exact trivial | exact .inl rfl | exact .inr (.same _) | exact .inr .loose | exact .inr (.arr (by assumption)) | apply And.intro | (exact .inr (less_q0 _)) | (rw [hR0]; exact .inr (less_arB 0#64 fun β q hq => by simp [bI]; rfl))))
 ·exact k33_
 ·(repeat' (first | exact trivial | exact ⟨_, rfl, fun β => rfl⟩ | apply And.intro | (rw [hR0, ya_]; exact ⟨_, rfl, fun β => rfl⟩)))
 ·exact k33_
 refine WF.loopAt (fun (k : Nat) => k ≤ 64) (fun (k : Nat) => [(0, .sl 1 2 [] 1 0 (bl a).length (some p1)), (1, .sl 3 4 [] 1 0 (bl b).length (some p2)), (6, .sl 5 5 [] 1 0 64 none), (7, .sl 6 6 [] 1 0 (bl (dR a b k)).length none), (8, .int .i64 (63 - (k : Int)))]) (fun (k : Nat) => [.gone, .gone, .ro (.arr (bl a).length 1 (i64S (bl a))), .gone, .ro (.arr (bl b).length 1 (i64S (bl b))), .own 3 (.arr 64 1 (qS (a / b) k)) false, bO (bl (dR a b k))]) (fun (k : Nat) => 64 - k) 0 (Nat.zero_le _) ?_ ?_ rfl ?_ ?_ rfl ?_
 ·exact k5_
 ·exact k6_
 ·exact k33_
 ·exact k33_
 intro k hk
 have l3 := ya_ (dR a b k)
 by_cases hkl : k < 64
 ·have hk0 : (0 : Int) ≤ 63 - (k : Int) := by omega
  have hkt : (63 - (k : Int)).toNat = 63 - k := by omega
  have hden : ∀ β, (SV.int .i64 (63 - (k : Int) - 1)).den β = (SV.int .i64 (63 - ((k + 1 : Nat) : Int))).den β := fun β => by rw [show 63 - (k : Int) - 1 = 63 - ((k + 1 : Nat) : Int) by omega]
  have hst := div_step a.toNat b.toNat (63 - k) hb
  rw [show 63 - k + 1 = 64 - k by omega] at hst
  obtain ⟨r, hr⟩ : ∃ r, a.toNat / 2 ^ (64 - k) % b.toNat = r := ⟨_, rfl⟩
  obtain ⟨c, hc⟩ : ∃ c, a.toNat / 2 ^ (63 - k) % 2 = c := ⟨_, rfl⟩
  have hc2 : c < 2 := by rw [← hc]; exact Nat.mod_lt _ (by decide)
  have hrb : r < b.toNat := by rw [← hr]; exact Nat.mod_lt _ hb
  have hr64 : r < 2 ^ 64 := Nat.lt_trans hrb b.isLt
  rw [hr, hc] at hst
  obtain ⟨s1, s2⟩ := hst
  have eR : dR a b k = BitVec.ofNat 64 r := by rw [← hr]; rfl
  have eR2 : dR a b (k + 1) = BitVec.ofNat 64 (if b.toNat ≤ 2 * r + c then 2 * r + c - b.toNat else 2 * r + c) := by rw [← s1]; unfold dR; rw [show 64 - (k + 1) = 63 - k by omega]
  have eq : (a / b).getLsbD (63 - k) = decide (b.toNat ≤ 2 * r + c) := by rw [← s2, ← BitVec.testBit_toNat, BitVec.toNat_udiv]
  have ea : a.getLsbD (63 - k) = decide (c = 1) := by rw [← BitVec.testBit_toNat, Nat.testBit_eq_decide_div_mod_eq, hc]
  have hx : (bl a).getD (63 - k) 0 = bI (decide (c = 1)) := by rw [zi_ (by omega), ea]
  have ht : (bl (dR a b k)).getD 63 0 = bI (decide (2 ^ 63 ≤ r)) := by rw [zi_ (by decide), eR, top_bit hr64]
  have l4 := ya_ (BitVec.ofNat 64 r <<< 1)
  have htst := div_test (c := c) hrb hc2
  obtain ⟨R1, hR1e⟩ : ∃ x, BitVec.ofNat 64 (2 * r + c) = x := ⟨_, rfl⟩
  have hR1b : ∀ q, q < 64 → R1.getLsbD q = if q = 0 then decide (c = 1) else (BitVec.ofNat 64 r <<< 1).getLsbD q := fun q hq => by rw [← hR1e]; exact dbl_bit r c q hc2 hq
  have hR1 : ls iOf (bl (BitVec.ofNat 64 r <<< 1)).length (fun q => SV.ite (decide (q = 0)) (.int .i64 (bI (decide (c = 1)))) (i64S (bl (BitVec.ofNat 64 r <<< 1)) q)) = bl R1 := ls_eqB l4 fun q hq => by
   rw [y7_, hR1b q hq]
   by_cases h : q = 0
   ·simp [h, iOf]
   ·simp only [h, decide_false, cond_false, if_false]
    show (bl (BitVec.ofNat 64 r <<< 1)).getD q 0 = _
    rw [zi_ hq]
  have hR1u : ls iOf (bl (BitVec.ofNat 64 r <<< 1)).length (fun j => SV.int .i64 (bif decide (j = 0) then bI (decide (c = 1)) else (bl (BitVec.ofNat 64 r <<< 1)).getD j 0)) = bl R1 := ls_eqB l4 fun q hq => by
   rw [hR1b q hq]
   show (bif decide (q = 0) then bI (decide (c = 1)) else (bl (BitVec.ofNat 64 r <<< 1)).getD q 0) = _
   by_cases h : q = 0
   ·simp [h]
   ·simp only [h, decide_false, cond_false, if_false]
    rw [zi_ hq]
  rw [hR1e] at htst
  rw [eR] at l3 ht ⊢
  have ed : decide ((1 : Int) = 1) = true := rfl
  by_cases hov : 2 ^ 63 ≤ r
  ·rw [decide_eq_true hov] at ht htst
   have hge : b.toNat ≤ 2 * r + c := of_decide_eq_true htst.symm
   rw [decide_eq_true hge] at eq
   rw [if_pos hge, ← div_sub hrb hc2 hge, hR1e] at eR2
   have ht1 : (bl (BitVec.ofNat 64 r)).getD 63 0 = 1 := ht
   repeat' (first | refine Ctl.h ?_ | ((with_reducible intro hif); first | (focus (cases hif; done)) | ((try simp only [JH] at hif); try (exfalso; omega))) | ((with_reducible first | apply J22 cDiv_ok za_ | apply J23 fol cDiv_ok za_ | apply J24); (·rfl); (· (simp only [push_cast, ↓JP, Nat.reduceAdd, Nat.reduceEqDiff, Nat.reduceLT, Nat.reduceMul, Nat.reduceLeDiff, reduceCtorEq, reduceIte, cDiv, sRUp, sRSum, sRNot, sRLess, bO, hk0, hkt, hx, ht1, hR1, hR1u, zw_, zy_, iOf, y6_, yy_, ls_i64B, ls_i64U, vb_bl, sumV_sub, ed, i64S, qS_size, it_one, Int.toNat_natCast, nat_one_i, inR, inN]; rfl)); (try kernel_rfl); try exact k39_) | fail)
   refine At.nextPick [0, 1, 2, 3, 4, 5, 9] (k + 1) ?_ rfl rfl rfl ?_ rfl ?_ ?_ ?_ rfl
   ·omega
   ·exact k34_
   ·exact k33_
   ·exact k35_
   ·exact k33_
  ·rw [decide_eq_false hov] at ht htst
   have ht1 : (bl (BitVec.ofNat 64 r)).getD 63 0 = 0 := ht
   by_cases hlt : R1.toNat < b.toNat
   ·rw [decide_eq_true hlt] at htst
    have hge : ¬ b.toNat ≤ 2 * r + c := of_decide_eq_false htst.symm
    rw [decide_eq_false hge] at eq
    rw [if_neg hge, hR1e] at eR2
    repeat' (first | refine Ctl.h ?_ | ((with_reducible intro hif); first | (focus (cases hif; done)) | ((try simp only [JH] at hif); try (exfalso; omega))) | ((with_reducible first | apply J22 cDiv_ok za_ | apply J23 fol cDiv_ok za_ | apply J24); (·rfl); (· exact k40_); (try kernel_rfl); try exact k39_) | fail)
    refine At.nextPick [0, 1, 2, 3, 4, 5, 7] (k + 1) ?_ rfl rfl rfl ?_ rfl ?_ ?_ ?_ rfl
    ·omega
    ·(repeat' (first | exact trivial | exact .inl rfl | exact .inr (.same _) | exact .inr .loose | exact .inr (.arr (by assumption)) | apply And.intro | (exact .inr (less_q2 _ k hkl eq)) | (rw [eR2]; exact .inr (less_arB2 R1 l4 fun β q hq => by rw [hR1b q hq]; by_cases h : q = 0; (subst h; rfl); (simp only [h, decide_false, cond_false, if_false]; rw [← zi_ hq]; rfl)))))
    ·exact k33_
    ·(repeat' (first | exact trivial | exact ⟨_, rfl, fun β => rfl⟩ | apply And.intro | (first | exact ⟨_, rfl, hden⟩ | (rw [eR2, ya_, l4]; exact ⟨_, rfl, fun β => rfl⟩))))
    ·exact k33_
   ·rw [decide_eq_false hlt] at htst
    have hge : b.toNat ≤ 2 * r + c := of_decide_eq_true htst.symm
    rw [decide_eq_true hge] at eq
    rw [if_pos hge, ← div_sub hrb hc2 hge, hR1e] at eR2
    repeat' (first | refine Ctl.h ?_ | ((with_reducible intro hif); first | (focus (cases hif; done)) | ((try simp only [JH] at hif); try (exfalso; omega))) | ((with_reducible first | apply J22 cDiv_ok za_ | apply J23 fol cDiv_ok za_ | apply J24); (·rfl); (· exact k40_); (try kernel_rfl); try exact k39_) | fail)
    refine At.nextPick [0, 1, 2, 3, 4, 5, 9] (k + 1) ?_ rfl rfl rfl ?_ rfl ?_ ?_ ?_ rfl
    ·omega
    ·exact k34_
    ·exact k33_
    ·exact k35_
    ·exact k33_
 ·obtain rfl : k = 64 := by omega
  have hk0 : ¬ (0 : Int) ≤ 63 - ((64 : Nat) : Int) := by omega
  have hRm : dR a b 64 = a % b := by
   unfold dR
   apply BitVec.eq_of_toNat_eq
   rw [BitVec.toNat_ofNat, BitVec.toNat_umod, Nat.sub_self, Nat.pow_zero, Nat.div_one]
   exact Nat.mod_eq_of_lt (Nat.lt_trans (Nat.mod_lt _ hb) b.isLt)
  have hlQ := ya_ (a / b)
  repeat' (first | refine Ctl.h ?_ | ((with_reducible intro hif); first | (focus (cases hif; done)) | ((try simp only [JH] at hif); try (exfalso; omega))) | ((with_reducible first | apply J22 cDiv_ok za_ | apply J23 fol cDiv_ok za_ | apply J24); (·rfl); (· exact k37_); (try kernel_rfl); try exact yk_) | fail)
  apply At.endsPick [0, 1, 2, 3, 4, 5, 6] za_ (fn := Tryz.f149) (rs := [.tmp 4, .tmp 5]) Anc.refl hro (lb_ rfl) rfl
  ·exact k11_
  ·exact xf_
  ·rfl
  ·rfl
  ·rfl
  ·(repeat' (first | exact trivial | exact .inl rfl | exact .inr (.same _) | exact .inr .loose | exact .inr (.arr (by assumption)) | apply And.intro | (exact .inr (less_arB _ fun β q hq => by unfold qS; rw [if_pos (by omega)]; rfl)) | (rw [← hRm]; exact .inr (.same _))))
  ·rfl
  ·exact k33_
  ·exact zs_
  ·(intro β; rw [hlQ, ← hRm]; rfl)
  ·exact k33_
theorem div_ok (k l : List Int) (p1 p2 : Nat) (h1 : k = bl (vb k)) (h2 : l = bl (vb l)) (hb : 0 < (vb l).toNat) : zo_ Tryz.prog 149 [.sl 1 2 [] 1 0 k.length (some p1), .sl 3 4 [] 1 0 l.length (some p2)] [.gone, .gone, .ro (.arr k.length 1 (i64S k)), .gone, .ro (.arr l.length 1 (i64S l))] (.tup [.sl 5 5 [] 1 0 (bl (vb k / vb l)).length none, .sl 6 6 [] 1 0 (bl (vb k % vb l)).length none]) [.gone, .gone, .gone, .gone, .gone, bO (bl (vb k / vb l)), bO (bl (vb k % vb l))] := by
 have h := div_lit (vb k) (vb l) p1 p2 hb
 rw [← h1, ← h2] at h
 exact h
def sRDiv : yq_ := fun args h m => match args with
 | [v1, v2] => match xa_ h 1 (.tup []) v1, xa_ h 1 (.tup []) v2 with
  | some (c1, n1, f1, r1), some (c2, n2, f2, r2) => some (c1 ∧ c2 ∧ (∀ q, q < n1 → isI .i64 (f1 q) = true) ∧ (∀ q, q < n2 → isI .i64 (f2 q) = true) ∧ ((ls iOf n1 f1) = bl (vb (ls iOf n1 f1))) ∧ ((ls iOf n2 f2) = bl (vb (ls iOf n2 f2))) ∧ (0 < (vb (ls iOf n2 f2)).toNat), .tup [.sl m m [] 1 0 (bl (vb (ls iOf n1 f1) / vb (ls iOf n2 f2))).length none, .sl (m + 1) (m + 1) [] 1 0 (bl (vb (ls iOf n1 f1) % vb (ls iOf n2 f2))).length none], r1 ++ r2, [(m, bO (bl (vb (ls iOf n1 f1) / vb (ls iOf n2 f2)))), (m + 1, bO (bl (vb (ls iOf n1 f1) % vb (ls iOf n2 f2))))])
  | _, _ => none
 | _ => none
theorem sRDiv_ok : zj_ Tryz.prog 149 sRDiv := by
 refine ⟨zf_ (by kernel_rfl), fun args h m c v rd wr hs hm hc w0 M β h' w R hrd hwr hst => ?_⟩
 unfold sRDiv at hs
 split at hs
 ·rename_i v1 v2
  split at hs
  ·rename_i c1 n1 f1 r1 c2 n2 f2 r2 a1 a2
   simp only [Option.some.injEq, Prod.mk.injEq] at hs
   obtain ⟨rfl, rfl, rfl, rfl⟩ := hs
   obtain ⟨k1, k2, g1, g2, y1, y2, y3⟩ := hc
   obtain ⟨A1, p1, d1, e1, t1⟩ := zg_ R a1 k1 (fun i hi => hrd i (List.mem_append_left _ hi)) (by omega)
   obtain ⟨A2, p2, d2, e2, t2⟩ := zg_ R a2 k2 (fun i hi => hrd i (List.mem_append_right _ hi)) (by omega)
   refine yf_ (views := [⟨1, (ls iOf n1 f1).length, i64S (ls iOf n1 f1), A1, p1⟩, ⟨1, (ls iOf n2 f2).length, i64S (ls iOf n2 f2), A2, p2⟩]) (div_ok (ls iOf n1 f1) (ls iOf n2 f2) p1 p2 y1 y2 y3) ?_ R hm hwr ?_ ?_ ?_
   ·intro x hx
    simp only [List.mem_cons, List.not_mem_nil, or_false] at hx
    rcases hx with rfl | rfl
    ·exact z0_ t1 e1 g1
    ·exact z0_ t2 e2 g2
   ·intro β1 hv
    simp only [Vd, zb_, and_true] at hv
    obtain ⟨z1, z2⟩ := hv
    simp only [denL, z7_, z6_, z5_, zr_, zb_, z1, z2, d1, d2]
   ·exact k33_
   ·exact k33_
  ·cases hs
 ·cases hs
end Go.Proofs.YtjliakjbdcplcaaGreat.Vm
end
end
section
namespace Go.Proofs.YtjliakjbdcplcaaGreat.Vm
open Go.RowKit
def R64 (a : Int) : Prop := -9223372036854775808 ≤ a ∧ a ≤ 9223372036854775807
abbrev oi (a : Int) : BitVec 64 := BitVec.ofInt 64 a
theorem bmod64 {n : Int} (h : R64 n) : n.bmod (2 ^ 64) = n := by
 obtain ⟨h1, h2⟩ := h
 have e : ((2 ^ 64 : Nat) : Int) = 18446744073709551616 := by decide
 rw [Int.bmod_def, e]
 split <;> omega
theorem wrap_oi (n : Int) : wrap64 n = (oi n).toInt := by
 have e : ((2 ^ 64 : Nat) : Int) = 18446744073709551616 := by decide
 rw [BitVec.toInt_ofInt, Int.bmod_def, e, wrap64]
 split <;> omega
theorem oi_toInt {n : Int} (h : R64 n) : (oi n).toInt = n := by rw [BitVec.toInt_ofInt, bmod64 h]
theorem toInt_R (x : BitVec 64) : R64 x.toInt := by
 have h1 := BitVec.le_toInt x
 have h2 := BitVec.toInt_lt (x := x)
 simp only [Nat.reduceSub, Nat.reducePow] at h1 h2
 constructor <;> omega
theorem oi_nat (n : Nat) : oi (n : Int) = BitVec.ofNat 64 n := BitVec.ofInt_natCast ..
theorem u64_toNat (a : Int) : IntKind.u64.wrap a = ((oi a).toNat : Int) := by
 have e : ((2 ^ 64 : Nat) : Int) = 18446744073709551616 := by decide
 rw [BitVec.toNat_ofInt, e]
 simp only [IntKind.wrap, IntKind.bits, IntKind.signed]
 simp
 omega
theorem amV_nat {a : Int} (h : R64 a) : (amV a).toNat = a.natAbs := by
 obtain ⟨h1, h2⟩ := h
 have e : ((2 ^ 64 : Nat) : Int) = 18446744073709551616 := by decide
 unfold amV
 split
 ·rename_i h0
  rw [← BitVec.ofInt_neg, BitVec.toNat_ofInt, e]
  omega
 ·rename_i h0
  rw [BitVec.toNat_ofInt, e]
  omega
theorem wrap_i64k (n : Int) : IntKind.i64.wrap n = wrap64 n := by
 rw [IntKind.wrap_i64, wrap64]
theorem bits_oi (x : BitVec 64) : IntKind.i64.wrap (x.toNat : Int) = x.toInt := by
 rw [wrap_i64k, wrap_oi, oi_nat, BitVec.ofNat_toNat, BitVec.setWidth_eq]
theorem ap7 (a b : Int) : bits .and .i64 a b = (oi a &&& oi b).toInt := bits_oi _
theorem ap8 (a b : Int) : bits .or .i64 a b = (oi a ||| oi b).toInt := bits_oi _
theorem ap9 (a b : Int) : bits .xor .i64 a b = (oi a ^^^ oi b).toInt := bits_oi _
theorem ap1 (a b : Int) : wrap64 (a + b) = (oi a + oi b).toInt := by rw [wrap_oi, oi, BitVec.ofInt_add]
theorem ap2 (a b : Int) : wrap64 (a - b) = (oi a - oi b).toInt := by
 rw [wrap_oi, Int.sub_eq_add_neg, oi, BitVec.ofInt_add, BitVec.ofInt_neg, BitVec.sub_eq_add_neg]
theorem ap3 (a b : Int) : wrap64 (a * b) = (oi a * oi b).toInt := by rw [wrap_oi, oi, BitVec.ofInt_mul]
def nY (y : BitVec 64) : Int := bI (y.getLsbD 0) + 2 * bI (y.getLsbD 1) + 4 * bI (y.getLsbD 2) + 8 * bI (y.getLsbD 3) + 16 * bI (y.getLsbD 4) + 32 * bI (y.getLsbD 5)
theorem bI_dec (n : Nat) : bI (decide (n % 2 = 1)) = ((n % 2 : Nat) : Int) := by
 by_cases h : n % 2 = 1
 ·rw [h]; rfl
 ·have : n % 2 = 0 := by omega
  rw [this]; rfl
theorem nY_eq (y : BitVec 64) : nY y = ((y.toNat % 64 : Nat) : Int) := by
 unfold nY
 simp only [← BitVec.testBit_toNat, Nat.testBit_eq_decide_div_mod_eq, bI_dec]
 simp only [Nat.reducePow, Nat.div_one]
 omega
theorem nY_sh (b : Int) : (shB b).toNat = (nY (oi b)).toNat := by
 rw [shB_eq, nY_eq, u64_toNat]
 omega
theorem nY_bd (y : BitVec 64) : 0 ≤ nY y ∧ nY y ≤ 63 := by rw [nY_eq]; omega
theorem ap10 (a : Int) {n : Nat} (hn : n ≤ 63) : wrap64 (a * 2 ^ n) = (oi a <<< n).toInt := by
 have e : oi ((2 : Int) ^ n) = BitVec.twoPow 64 n := by
  have : ((2 : Int) ^ n) = ((2 ^ n : Nat) : Int) := by simp
  rw [this, oi_nat, BitVec.twoPow_eq]
  apply BitVec.eq_of_toNat_eq
  simp [Nat.one_shiftLeft]
 rw [wrap_oi, oi, BitVec.ofInt_mul, ← BitVec.mul_twoPow_eq_shiftLeft, ← e]
theorem ap11 (a : Int) (n : Nat) : wrap64 (IntKind.u64.wrap a / 2 ^ n) = (dnV (oi a) n false).toInt := by
 have e : IntKind.u64.wrap a / 2 ^ n = (((oi a).toNat / 2 ^ n : Nat) : Int) := by rw [u64_toNat]; simp
 have e2 : dnV (oi a) n false = oi a >>> n := by simp [dnV]
 rw [e, wrap_oi, oi_nat, e2]
 congr 1
 apply BitVec.eq_of_toNat_eq
 have h1 := (oi a).isLt
 have h2 := Nat.div_le_self (oi a).toNat (2 ^ n)
 rw [BitVec.toNat_ofNat, BitVec.toNat_ushiftRight, Nat.shiftRight_eq_div_pow, Nat.mod_eq_of_lt (by omega)]
theorem ap12 {a : Int} (h : R64 a) (n : Nat) : a / 2 ^ n = (dnV (oi a) n ((oi a).getLsbD 63)).toInt := by
 have e : dnV (oi a) n ((oi a).getLsbD 63) = (oi a).sshiftRight n := by
  apply BitVec.eq_of_getLsbD_eq
  intro i hi
  rw [dnV_bit hi, BitVec.getLsbD_sshiftRight]
  have h1 : ¬ 64 ≤ i := by omega
  have h2 : (oi a).msb = (oi a).getLsbD 63 := by rw [BitVec.msb_eq_getLsbD_last]
  rw [h2, Nat.add_comm n i]
  simp [h1]
 rw [e, BitVec.toInt_sshiftRight, oi_toInt h, Int.shiftRight_eq_div_pow]
 simp
theorem ap14 (a b : Int) : decide (IntKind.u64.wrap a < IntKind.u64.wrap b) = decide ((oi a).toNat < (oi b).toNat) := by
 rw [u64_toNat, u64_toNat]
 simp only [decide_eq_decide]
 omega
theorem quo_nat {a b : Int} (ha : R64 a) (hb : R64 b) : amV a / amV b = BitVec.ofNat 64 (a.natAbs / b.natAbs) := by
 apply BitVec.eq_of_toNat_eq
 have h1 := (amV a / amV b).isLt
 rw [BitVec.toNat_udiv, amV_nat ha, amV_nat hb] at h1
 rw [BitVec.toNat_udiv, amV_nat ha, amV_nat hb, BitVec.toNat_ofNat, Nat.mod_eq_of_lt h1]
theorem rem_nat {a b : Int} (ha : R64 a) (hb : R64 b) : amV a % amV b = BitVec.ofNat 64 (a.natAbs % b.natAbs) := by
 apply BitVec.eq_of_toNat_eq
 have h1 := (amV a % amV b).isLt
 rw [BitVec.toNat_umod, amV_nat ha, amV_nat hb] at h1
 rw [BitVec.toNat_umod, amV_nat ha, amV_nat hb, BitVec.toNat_ofNat, Nat.mod_eq_of_lt h1]
theorem oi_neg (n : Nat) : oi (-(n : Int)) = -BitVec.ofNat 64 n := by rw [oi, BitVec.ofInt_neg, ← oi_nat]
theorem tdiv_sg (a b : Int) : a.tdiv b = if ((decide (a < 0)) != (decide (b < 0))) = true then -((a.natAbs / b.natAbs : Nat) : Int) else ((a.natAbs / b.natAbs : Nat) : Int) := by
 by_cases h1 : a < 0
 ·obtain ⟨x, hx⟩ : ∃ x : Nat, a = -(x : Int) := ⟨a.natAbs, by omega⟩
  by_cases h2 : b < 0
  ·obtain ⟨y, hy⟩ : ∃ y : Nat, b = -(y : Int) := ⟨b.natAbs, by omega⟩
   rw [decide_eq_true h1, decide_eq_true h2, hx, hy, Int.neg_tdiv, Int.tdiv_neg, Int.neg_neg, ← Int.ofNat_tdiv]
   simp
  ·obtain ⟨y, hy⟩ : ∃ y : Nat, b = (y : Int) := ⟨b.natAbs, by omega⟩
   rw [decide_eq_true h1, decide_eq_false h2, hx, hy, Int.neg_tdiv, ← Int.ofNat_tdiv]
   simp
 ·obtain ⟨x, hx⟩ : ∃ x : Nat, a = (x : Int) := ⟨a.natAbs, by omega⟩
  by_cases h2 : b < 0
  ·obtain ⟨y, hy⟩ : ∃ y : Nat, b = -(y : Int) := ⟨b.natAbs, by omega⟩
   rw [decide_eq_false h1, decide_eq_true h2, hx, hy, Int.tdiv_neg, ← Int.ofNat_tdiv]
   simp
  ·obtain ⟨y, hy⟩ : ∃ y : Nat, b = (y : Int) := ⟨b.natAbs, by omega⟩
   rw [decide_eq_false h1, decide_eq_false h2, hx, hy, ← Int.ofNat_tdiv]
   simp
theorem tmod_sg (a b : Int) : a.tmod b = if a < 0 then -((a.natAbs % b.natAbs : Nat) : Int) else ((a.natAbs % b.natAbs : Nat) : Int) := by
 have hb : a.tmod b = a.tmod (b.natAbs : Int) := by
  by_cases h2 : b < 0
  ·obtain ⟨y, hy⟩ : ∃ y : Nat, b = -(y : Int) := ⟨b.natAbs, by omega⟩
   rw [hy, Int.tmod_neg]; simp
  ·rw [show ((b.natAbs : Nat) : Int) = b by omega]
 rw [hb]
 by_cases h1 : a < 0
 ·obtain ⟨x, hx⟩ : ∃ x : Nat, a = -(x : Int) := ⟨a.natAbs, by omega⟩
  rw [if_pos h1, hx, Int.neg_tmod, ← Int.ofNat_tmod]
  simp
 ·obtain ⟨x, hx⟩ : ∃ x : Nat, a = (x : Int) := ⟨a.natAbs, by omega⟩
  rw [if_neg h1, hx, ← Int.ofNat_tmod]
  simp
theorem ap4 {a b : Int} (ha : R64 a) (hb : R64 b) : wrap64 (a.tdiv b) = (if ((decide (a < 0)) != (decide (b < 0))) = true then -(amV a / amV b) else amV a / amV b).toInt := by
 rw [wrap_oi, tdiv_sg, quo_nat ha hb]
 split
 ·rw [oi_neg]
 ·rw [oi_nat]
theorem tmod_R {a b : Int} (hb : R64 b) (h0 : b ≠ 0) : R64 (a.tmod b) ∧ a.natAbs % b.natAbs < b.natAbs := by
 obtain ⟨h1, h2⟩ := hb
 have h3 : a.natAbs % b.natAbs < b.natAbs := Nat.mod_lt _ (by omega)
 refine ⟨?_, h3⟩
 rw [tmod_sg]
 unfold R64
 split <;> omega
theorem ap5 {a b : Int} (ha : R64 a) (hb : R64 b) (h0 : b ≠ 0) : a.tmod b = (if decide (a < 0) = true then -(amV a % amV b) else amV a % amV b).toInt := by
 rw [← oi_toInt (tmod_R hb h0).1, tmod_sg, rem_nat ha hb]
 by_cases h : a < 0
 ·rw [if_pos h, oi_neg, if_pos (decide_eq_true h)]
 ·rw [if_neg h, oi_nat, if_neg (by simpa using h)]
theorem rem_val {a b : Int} (ha : R64 a) (hb : R64 b) (h0 : b ≠ 0) : (amV a % amV b).toInt = ((a.natAbs % b.natAbs : Nat) : Int) := by
 have h3 := (tmod_R (a := a) hb h0).2
 obtain ⟨h1, h2⟩ := hb
 rw [rem_nat ha ⟨h1, h2⟩, ← oi_nat, oi_toInt ⟨by omega, by omega⟩]
theorem ap6a {a b : Int} (ha : R64 a) (hb : R64 b) (h0 : b ≠ 0) (h : ¬ (a < 0 ∧ (amV a % amV b).toInt ≠ 0)) : modI a b = (amV a % amV b).toInt := by
 rw [rem_val ha hb h0] at h ⊢
 have e : a.tmod b = ((a.natAbs % b.natAbs : Nat) : Int) := by
  rw [tmod_sg]
  split <;> omega
 rw [modI, e, if_pos (by omega)]
theorem ap6b {a b : Int} (ha : R64 a) (hb : R64 b) (h0 : b ≠ 0) (h1 : a < 0) (h2 : (amV a % amV b).toInt ≠ 0) : modI a b = (amV b - amV a % amV b).toInt := by
 have h3 := (tmod_R (a := a) hb h0).2
 rw [rem_val ha hb h0] at h2
 have e : a.tmod b = -((a.natAbs % b.natAbs : Nat) : Int) := by rw [tmod_sg, if_pos h1]
 have em : amV b = oi (b.natAbs : Int) := by
  apply BitVec.eq_of_toNat_eq
  rw [amV_nat hb, oi_nat, BitVec.toNat_ofNat, Nat.mod_eq_of_lt]
  obtain ⟨h4, h5⟩ := hb
  omega
 have ev : amV b - amV a % amV b = oi ((b.natAbs : Int) - ((a.natAbs % b.natAbs : Nat) : Int)) := by
  rw [rem_nat ha hb, em, ← oi_nat, Int.sub_eq_add_neg]
  show oi _ - oi _ = BitVec.ofInt 64 (_ + _)
  rw [BitVec.ofInt_add, BitVec.ofInt_neg, BitVec.sub_eq_add_neg]
 rw [ev, ← wrap_oi, modI, e, if_neg (by omega)]
 split <;> congr 1 <;> omega
theorem truth_bI (b : Bool) : truthI b = bI b := by cases b <;> rfl
end Go.Proofs.YtjliakjbdcplcaaGreat.Vm
end
section
namespace Go.Proofs.YtjliakjbdcplcaaGreat.Vm
open Go.RowKit
attribute [local push_cast] sRBits sRSum sRNot sRWord sRUp sRDown sRBitw sRTruth sRLess sRProd sRAmt sRNeg sRDiv bO zw_ zy_ iOf y6_ yy_ ls_i64B ls_i64U ls_zB vb_bl sumV_f sumV_sub i64S nat_one_i inR inN
def cApp : FuncId → Option yq_ := y3_ [(144, sRBits), (146, sRSum), (147, sRNot), (145, sRWord), (153, sRUp), (154, sRDown), (152, sRBitw), (155, sRTruth), (156, sRLess), (148, sRProd), (150, sRAmt), (151, sRNeg), (149, sRDiv)]
theorem zm_ : ∀ f S, cApp f = some S → zj_ Tryz.prog f S := zp_ ⟨sRBits_ok, sRSum_ok, sRNot_ok, sRWord_ok, sRUp_ok, sRDown_ok, sRBitw_ok, sRTruth_ok, sRLess_ok, sRProd_ok, sRAmt_ok, sRNeg_ok, sRDiv_ok, trivial⟩
theorem ed0 : decide ((0 : Int) = 1) = false := rfl
theorem ed : decide ((1 : Int) = 1) = true := rfl
theorem apk1 (a b : Int) (X Y P Q Rm D : BitVec 64) (n y0 y1 y2 y3 y4 y5 : Int) (ha0 : -9223372036854775808 ≤ a) (ha1 : a ≤ 9223372036854775807) (hb0 : -9223372036854775808 ≤ b) (hb1 : b ≤ 9223372036854775807)
 (hX : BitVec.ofInt 64 a = X) (hY : BitVec.ofInt 64 b = Y) (hP : amV a = P) (hQ : amV b = Q) (hQm : P % Q = Rm) (hQd : P / Q = D)
 (hy0 : (bl Y).getD 0 0 = y0) (hy1 : (bl Y).getD 1 0 = y1) (hy2 : (bl Y).getD 2 0 = y2) (hy3 : (bl Y).getD 3 0 = y3) (hy4 : (bl Y).getD 4 0 = y4) (hy5 : (bl Y).getD 5 0 = y5)
 (hz0 : 0 ≤ y0 ∧ y0 ≤ 1) (hz1 : 0 ≤ y1 ∧ y1 ≤ 1) (hz2 : 0 ≤ y2 ∧ y2 ≤ 1) (hz3 : 0 ≤ y3 ∧ y3 ≤ 1) (hz4 : 0 ≤ y4 ∧ y4 ≤ 1) (hz5 : 0 ≤ y5 ∧ y5 ≤ 1) (hn : y0 + 2 * y1 + 4 * y2 + 8 * y3 + 16 * y4 + 32 * y5 = n) (hn0 : 0 ≤ n) (hn1 : n ≤ 63) (hq : True) : zo_ Tryz.prog 121 [.int .u8 1, .int .i64 a, .int .i64 b] [.gone] (.tup [.int .i64 ((X + Y).toInt), .int .i64 0]) [.gone] := by
 have l1 := ya_ X
 have l2 := ya_ Y
 by_cases h0 : b = 0
 ·refine ze_ (fn := Tryz.f121) 1 196 0 rfl rfl rfl rfl rfl u2_ rfl fun w0 M E hro => ?_
  repeat' (first | refine Ctl.h ?_ | ((with_reducible intro hif); first | (focus (cases hif; done)) | ((try simp only [JH] at hif); try (exfalso; omega))) | ((with_reducible first | apply J22 zm_ za_ | apply J23 fol zm_ za_ | apply J24); (·rfl); (· exact k42_); (try kernel_rfl); try exact k41_) | fail)
  apply At.endsRet za_ (fn := Tryz.f121) (rs := [.tmp 6, .tmp 7]) Anc.refl hro (lb_ rfl) rfl
  ·exact k11_
  ·exact yl_
  ·exact k6_
  ·rfl
  ·exact k7_
  ·exact zs_
  ·exact fun β => rfl
  ·exact k7_
 ·refine ze_ (fn := Tryz.f121) 1 196 0 rfl rfl rfl rfl rfl u2_ rfl fun w0 M E hro => ?_
  repeat' (first | refine Ctl.h ?_ | ((with_reducible intro hif); first | (focus (cases hif; done)) | ((try simp only [JH] at hif); try (exfalso; omega))) | ((with_reducible first | apply J22 zm_ za_ | apply J23 fol zm_ za_ | apply J24); (·rfl); (· exact k43_); (try kernel_rfl); try exact k41_) | fail)
  apply At.endsRet za_ (fn := Tryz.f121) (rs := [.tmp 6, .tmp 7]) Anc.refl hro (lb_ rfl) rfl
  ·exact k11_
  ·exact yl_
  ·exact k6_
  ·rfl
  ·exact k7_
  ·exact zs_
  ·exact fun β => rfl
  ·exact k7_
theorem apk2 (a b : Int) (X Y P Q Rm D : BitVec 64) (n y0 y1 y2 y3 y4 y5 : Int) (ha0 : -9223372036854775808 ≤ a) (ha1 : a ≤ 9223372036854775807) (hb0 : -9223372036854775808 ≤ b) (hb1 : b ≤ 9223372036854775807)
 (hX : BitVec.ofInt 64 a = X) (hY : BitVec.ofInt 64 b = Y) (hP : amV a = P) (hQ : amV b = Q) (hQm : P % Q = Rm) (hQd : P / Q = D)
 (hy0 : (bl Y).getD 0 0 = y0) (hy1 : (bl Y).getD 1 0 = y1) (hy2 : (bl Y).getD 2 0 = y2) (hy3 : (bl Y).getD 3 0 = y3) (hy4 : (bl Y).getD 4 0 = y4) (hy5 : (bl Y).getD 5 0 = y5)
 (hz0 : 0 ≤ y0 ∧ y0 ≤ 1) (hz1 : 0 ≤ y1 ∧ y1 ≤ 1) (hz2 : 0 ≤ y2 ∧ y2 ≤ 1) (hz3 : 0 ≤ y3 ∧ y3 ≤ 1) (hz4 : 0 ≤ y4 ∧ y4 ≤ 1) (hz5 : 0 ≤ y5 ∧ y5 ≤ 1) (hn : y0 + 2 * y1 + 4 * y2 + 8 * y3 + 16 * y4 + 32 * y5 = n) (hn0 : 0 ≤ n) (hn1 : n ≤ 63) (hq : True) : zo_ Tryz.prog 121 [.int .u8 2, .int .i64 a, .int .i64 b] [.gone] (.tup [.int .i64 ((X - Y).toInt), .int .i64 0]) [.gone] := by
 have l1 := ya_ X
 have l2 := ya_ Y
 by_cases h0 : b = 0
 ·refine ze_ (fn := Tryz.f121) 1 196 0 rfl rfl rfl rfl rfl u2_ rfl fun w0 M E hro => ?_
  repeat' (first | refine Ctl.h ?_ | ((with_reducible intro hif); first | (focus (cases hif; done)) | ((try simp only [JH] at hif); try (exfalso; omega))) | ((with_reducible first | apply J22 zm_ za_ | apply J23 fol zm_ za_ | apply J24); (·rfl); (· exact k42_); (try kernel_rfl); try exact k41_) | fail)
  apply At.endsRet za_ (fn := Tryz.f121) (rs := [.tmp 6, .tmp 7]) Anc.refl hro (lb_ rfl) rfl
  ·exact k11_
  ·exact yl_
  ·exact k6_
  ·rfl
  ·exact k7_
  ·exact zs_
  ·exact fun β => rfl
  ·exact k7_
 ·refine ze_ (fn := Tryz.f121) 1 196 0 rfl rfl rfl rfl rfl u2_ rfl fun w0 M E hro => ?_
  repeat' (first | refine Ctl.h ?_ | ((with_reducible intro hif); first | (focus (cases hif; done)) | ((try simp only [JH] at hif); try (exfalso; omega))) | ((with_reducible first | apply J22 zm_ za_ | apply J23 fol zm_ za_ | apply J24); (·rfl); (· exact k43_); (try kernel_rfl); try exact k41_) | fail)
  apply At.endsRet za_ (fn := Tryz.f121) (rs := [.tmp 6, .tmp 7]) Anc.refl hro (lb_ rfl) rfl
  ·exact k11_
  ·exact yl_
  ·exact k6_
  ·rfl
  ·exact k7_
  ·exact zs_
  ·exact fun β => rfl
  ·exact k7_
theorem apk3 (a b : Int) (X Y P Q Rm D : BitVec 64) (n y0 y1 y2 y3 y4 y5 : Int) (ha0 : -9223372036854775808 ≤ a) (ha1 : a ≤ 9223372036854775807) (hb0 : -9223372036854775808 ≤ b) (hb1 : b ≤ 9223372036854775807)
 (hX : BitVec.ofInt 64 a = X) (hY : BitVec.ofInt 64 b = Y) (hP : amV a = P) (hQ : amV b = Q) (hQm : P % Q = Rm) (hQd : P / Q = D)
 (hy0 : (bl Y).getD 0 0 = y0) (hy1 : (bl Y).getD 1 0 = y1) (hy2 : (bl Y).getD 2 0 = y2) (hy3 : (bl Y).getD 3 0 = y3) (hy4 : (bl Y).getD 4 0 = y4) (hy5 : (bl Y).getD 5 0 = y5)
 (hz0 : 0 ≤ y0 ∧ y0 ≤ 1) (hz1 : 0 ≤ y1 ∧ y1 ≤ 1) (hz2 : 0 ≤ y2 ∧ y2 ≤ 1) (hz3 : 0 ≤ y3 ∧ y3 ≤ 1) (hz4 : 0 ≤ y4 ∧ y4 ≤ 1) (hz5 : 0 ≤ y5 ∧ y5 ≤ 1) (hn : y0 + 2 * y1 + 4 * y2 + 8 * y3 + 16 * y4 + 32 * y5 = n) (hn0 : 0 ≤ n) (hn1 : n ≤ 63) (hq : True) : zo_ Tryz.prog 121 [.int .u8 3, .int .i64 a, .int .i64 b] [.gone] (.tup [.int .i64 ((X * Y).toInt), .int .i64 0]) [.gone] := by
 have l1 := ya_ X
 have l2 := ya_ Y
 by_cases h0 : b = 0
 ·refine ze_ (fn := Tryz.f121) 1 196 0 rfl rfl rfl rfl rfl u2_ rfl fun w0 M E hro => ?_
  repeat' (first | refine Ctl.h ?_ | ((with_reducible intro hif); first | (focus (cases hif; done)) | ((try simp only [JH] at hif); try (exfalso; omega))) | ((with_reducible first | apply J22 zm_ za_ | apply J23 fol zm_ za_ | apply J24); (·rfl); (· exact k42_); (try kernel_rfl); try exact k41_) | fail)
  apply At.endsRet za_ (fn := Tryz.f121) (rs := [.tmp 6, .tmp 7]) Anc.refl hro (lb_ rfl) rfl
  ·exact k11_
  ·exact yl_
  ·exact k6_
  ·rfl
  ·exact k7_
  ·exact zs_
  ·exact fun β => rfl
  ·exact k7_
 ·refine ze_ (fn := Tryz.f121) 1 196 0 rfl rfl rfl rfl rfl u2_ rfl fun w0 M E hro => ?_
  repeat' (first | refine Ctl.h ?_ | ((with_reducible intro hif); first | (focus (cases hif; done)) | ((try simp only [JH] at hif); try (exfalso; omega))) | ((with_reducible first | apply J22 zm_ za_ | apply J23 fol zm_ za_ | apply J24); (·rfl); (· exact k43_); (try kernel_rfl); try exact k41_) | fail)
  apply At.endsRet za_ (fn := Tryz.f121) (rs := [.tmp 6, .tmp 7]) Anc.refl hro (lb_ rfl) rfl
  ·exact k11_
  ·exact yl_
  ·exact k6_
  ·rfl
  ·exact k7_
  ·exact zs_
  ·exact fun β => rfl
  ·exact k7_
theorem apk4 (a b : Int) (X Y P Q Rm D : BitVec 64) (n y0 y1 y2 y3 y4 y5 : Int) (ha0 : -9223372036854775808 ≤ a) (ha1 : a ≤ 9223372036854775807) (hb0 : -9223372036854775808 ≤ b) (hb1 : b ≤ 9223372036854775807)
 (hX : BitVec.ofInt 64 a = X) (hY : BitVec.ofInt 64 b = Y) (hP : amV a = P) (hQ : amV b = Q) (hQm : P % Q = Rm) (hQd : P / Q = D)
 (hy0 : (bl Y).getD 0 0 = y0) (hy1 : (bl Y).getD 1 0 = y1) (hy2 : (bl Y).getD 2 0 = y2) (hy3 : (bl Y).getD 3 0 = y3) (hy4 : (bl Y).getD 4 0 = y4) (hy5 : (bl Y).getD 5 0 = y5)
 (hz0 : 0 ≤ y0 ∧ y0 ≤ 1) (hz1 : 0 ≤ y1 ∧ y1 ≤ 1) (hz2 : 0 ≤ y2 ∧ y2 ≤ 1) (hz3 : 0 ≤ y3 ∧ y3 ≤ 1) (hz4 : 0 ≤ y4 ∧ y4 ≤ 1) (hz5 : 0 ≤ y5 ∧ y5 ≤ 1) (hn : y0 + 2 * y1 + 4 * y2 + 8 * y3 + 16 * y4 + 32 * y5 = n) (hn0 : 0 ≤ n) (hn1 : n ≤ 63) (hq : 0 < Q.toNat) (h0 : ¬ b = 0) : zo_ Tryz.prog 121 [.int .u8 4, .int .i64 a, .int .i64 b] [.gone] (.tup [.int .i64 ((if ((decide (a < 0)) != (decide (b < 0))) = true then -D else D).toInt), .int .i64 0]) [.gone] := by
 have l1 := ya_ X
 have l2 := ya_ Y
 by_cases h1 : a < 0
 ·by_cases h2 : b < 0
  ·rw [show (if ((decide (a < 0)) != (decide (b < 0))) = true then -D else D) = D by simp [h1, h2]]
   refine ze_ (fn := Tryz.f121) 1 196 0 rfl rfl rfl rfl rfl u2_ rfl fun w0 M E hro => ?_
   repeat' (first | refine Ctl.h ?_ | ((with_reducible intro hif); first | (focus (cases hif; done)) | ((try simp only [JH] at hif); try (exfalso; omega))) | ((with_reducible first | apply J22 zm_ za_ | apply J23 fol zm_ za_ | apply J24); (·rfl); (· exact k44_); (try kernel_rfl); try exact k41_) | fail)
   apply At.endsRet za_ (fn := Tryz.f121) (rs := [.tmp 6, .tmp 7]) Anc.refl hro (lb_ rfl) rfl
   ·exact k11_
   ·exact yl_
   ·exact k6_
   ·rfl
   ·exact k7_
   ·exact zs_
   ·exact fun β => rfl
   ·exact k7_
  ·rw [show (if ((decide (a < 0)) != (decide (b < 0))) = true then -D else D) = -D by simp [h1, h2]]
   refine ze_ (fn := Tryz.f121) 1 196 0 rfl rfl rfl rfl rfl u2_ rfl fun w0 M E hro => ?_
   repeat' (first | refine Ctl.h ?_ | ((with_reducible intro hif); first | (focus (cases hif; done)) | ((try simp only [JH] at hif); try (exfalso; omega))) | ((with_reducible first | apply J22 zm_ za_ | apply J23 fol zm_ za_ | apply J24); (·rfl); (· exact k44_); (try kernel_rfl); try exact k41_) | fail)
   apply At.endsRet za_ (fn := Tryz.f121) (rs := [.tmp 6, .tmp 7]) Anc.refl hro (lb_ rfl) rfl
   ·exact k11_
   ·exact yl_
   ·exact k6_
   ·rfl
   ·exact k7_
   ·exact zs_
   ·exact fun β => rfl
   ·exact k7_
 ·by_cases h2 : b < 0
  ·rw [show (if ((decide (a < 0)) != (decide (b < 0))) = true then -D else D) = -D by simp [h1, h2]]
   refine ze_ (fn := Tryz.f121) 1 196 0 rfl rfl rfl rfl rfl u2_ rfl fun w0 M E hro => ?_
   repeat' (first | refine Ctl.h ?_ | ((with_reducible intro hif); first | (focus (cases hif; done)) | ((try simp only [JH] at hif); try (exfalso; omega))) | ((with_reducible first | apply J22 zm_ za_ | apply J23 fol zm_ za_ | apply J24); (·rfl); (· exact k44_); (try kernel_rfl); try exact k41_) | fail)
   apply At.endsRet za_ (fn := Tryz.f121) (rs := [.tmp 6, .tmp 7]) Anc.refl hro (lb_ rfl) rfl
   ·exact k11_
   ·exact yl_
   ·exact k6_
   ·rfl
   ·exact k7_
   ·exact zs_
   ·exact fun β => rfl
   ·exact k7_
  ·rw [show (if ((decide (a < 0)) != (decide (b < 0))) = true then -D else D) = D by simp [h1, h2]]
   refine ze_ (fn := Tryz.f121) 1 196 0 rfl rfl rfl rfl rfl u2_ rfl fun w0 M E hro => ?_
   repeat' (first | refine Ctl.h ?_ | ((with_reducible intro hif); first | (focus (cases hif; done)) | ((try simp only [JH] at hif); try (exfalso; omega))) | ((with_reducible first | apply J22 zm_ za_ | apply J23 fol zm_ za_ | apply J24); (·rfl); (· exact k44_); (try kernel_rfl); try exact k41_) | fail)
   apply At.endsRet za_ (fn := Tryz.f121) (rs := [.tmp 6, .tmp 7]) Anc.refl hro (lb_ rfl) rfl
   ·exact k11_
   ·exact yl_
   ·exact k6_
   ·rfl
   ·exact k7_
   ·exact zs_
   ·exact fun β => rfl
   ·exact k7_
end Go.Proofs.YtjliakjbdcplcaaGreat.Vm
end
