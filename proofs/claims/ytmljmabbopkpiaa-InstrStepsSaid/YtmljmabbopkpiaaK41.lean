import Derived.Test.YtmljmabbopkpiaaK1
import Derived.Test.YtmljmabbopkpiaaK40
set_option linter.unusedSimpArgs false
set_option linter.unusedVariables false
set_option maxRecDepth 100000
set_option maxHeartbeats 4000000
section
namespace Go.Proofs.Ytmljmabbopkpiaa.Vm
open Go.RowKit
attribute [local push_cast] prS sndsS i64S nav_ins xa_ y9_ y8_ y7_ y6_ nav_snd y5_ y4_ y3_ zq_ z1_ ya_ z5_ zx_ zw_ iOf
structure ZP where
 j : Nat
 l : List Ins
structure YZ where
 k : Nat
 s : Sta
 x : Ins
 nc : Nat
 ns : Nat
structure YG (P : List Ins) (s : Sta) : Prop where
 sg : SG P s
 rg : ∀ q, R64 (s.regs q)
 cr : CR s
 sd : s.sends.length ≤ 300
theorem less_i64q {t n : Nat} {b : Bool} {σ : Nat → Nat} {l m : List Int} (hl : l = m) : Less (.own t (.arr n 1 (i64S l)) b) ((HB.own t (.arr n 1 (i64S m)) b).ren σ) := by
 subst hl; exact .same _
theorem less_sndq {t n : Nat} {b : Bool} {σ : Nat → Nat} {l m : List Snd} (hl : l = m) : Less (.own t (.arr n 3 (sndsS l)) b) ((HB.own t (.arr n 3 (sndsS m)) b).ren σ) := by
 subst hl
 have e : (HB.own t (.arr n 3 (sndsS l)) b).ren σ = .own t (.arr n 3 (sndsS l)) b := by
  simp only [HB.ren, SV.ren]; rw [sndsS_ren]
 rw [e]; exact .same _
theorem getD_setP {l : List Ins} {k q : Nat} {y : Ins} (hk : k < l.length) : (l.set k y).getD q ⟨0, 0, 0, 0, 0⟩ = bif decide (q = k) then y else l.getD q ⟨0, 0, 0, 0, 0⟩ := by
 rw [List.getD_eq_getElem?_getD, List.getElem?_set, List.getD_eq_getElem?_getD]
 by_cases h : q = k
 ·subst h; simp [hk]
 ·have h' : ¬ k = q := fun e => h e.symm
  simp [h, h']
theorem less_pset {t n : Nat} {b : Bool} {σ : Nat → Nat} {l : List Ins} {k : Nat} {y : Ins} {g : Nat → SV} (hl : l.length = n) (hk : k < n) (hg : ∀ β q, (g q).cl β = (ym_ (bif decide (q = k) then y else l.getD q ⟨0, 0, 0, 0, 0⟩)).cl β) : Less (.own t (.arr n 5 g) b) ((HB.own t (.arr n 5 (prS (l.set k y))) b).ren σ) := by
 have e : (HB.own t (.arr n 5 (prS (l.set k y))) b).ren σ = .own t (.arr n 5 (prS (l.set k y))) b := by
  simp only [HB.ren, SV.ren]; rw [prS_ren]
 rw [e]
 refine .val (fun β => arrCl fun q hq => ?_) (fun n1 k1 f1 e => by injection e with e1 e2 e3; subst e1 e2; exact ⟨_, rfl⟩) (fun n1 k1 f1 e => by injection e with e1 e2 e3; subst e1 e2; exact ⟨_, rfl⟩)
 rw [hg]
 unfold prS
 rw [getD_setP (by omega)]
theorem doS_sends300 {s : Sta} {v : Evi} {x : Ins} (h : s.sends.length ≤ 300) : (doS s v x).sends.length ≤ 300 := by
 by_cases hE : doE s v x = 0
 ·by_cases h8 : x.op = 8
  ·rcases Nat.lt_or_ge s.sends.length 256 with h' | h'
   ·rw [doS_slen hE h8]; omega
   ·exfalso
    have h3 : doE s v x = sendE s v x := by simp [doE, h8]
    unfold sendE at h3
    rw [hE, if_pos h'] at h3
    split at h3
    ·omega
    ·split at h3
     ·omega
     ·split at h3 <;> omega
  ·rw [doS_sends8 h8]; exact h
 ·rw [doS_bad hE]; exact h
theorem YG.step {P : List Ins} {v : Evi} {s : Sta} (h : YG P s) (hP : PG P) (V : VOk v) (he : s.ended = false) : YG P (yl_ P v s) := by
 have R := h.sg.ri hP
 have ⟨o0, o1, a0, a1, b0, b1, c0, c1, n0, n1⟩ := R.ok
 have K : OOk s v (insAt P s.at_) := ⟨R, V, h.sg.sok hP, h.rg, n0, n1, by have := h.sd; omega⟩
 rw [stepS_of he]
 have hR := doS_R K h.cr
 exact ⟨doS_good h.sg hP, hR.1, hR.2, doS_sends300 h.sd⟩
theorem YG.open {P : List Ins} {v : Evi} {s : Sta} (h : YG P s) (hP : PG P) (hv : v.rightB = true) : yr_ P v s = 0 := by
 unfold yr_
 rw [if_neg (by simp [hP.chk]), if_neg (by simp [hv]), if_neg]
 have hr : s.rightB P.length = true := by
  unfold Sta.rightB
  exact decide_eq_true ⟨h.sg.a0, h.sg.a1, by have := h.sg.c1; omega, h.sg.d0, h.sg.d1⟩
 simp [hr]
theorem stepS_err {P : List Ins} {v : Evi} {s : Sta} (h : stepE P v s ≠ 0) : yl_ P v s = s := by
 cases he : s.ended
 ·rw [stepS_of he]; exact doS_bad (by rwa [stepE_of he] at h)
 ·unfold yl_; rw [if_pos he]
def cSpB : FuncId → Option yp_ := yx_ [(32, sClI), (62, sCl64), (88, sClSn), (65, sTh18), (67, sTh14), (90, sRt18), (68, sRSame), (69, sSpl), (43, eAt), (44, eEnded), (42, eState), (41, eStep), (89, sOnB), (66, sRDoE)]
theorem cSpB_ok : ∀ f S, cSpB f = some S → zj_ Try.prog f S := zn_ ⟨sClI_ok, sCl64_ok, sClSn_ok, sTh18_ok, sTh14_ok, sRt18_ok, sRSame_ok, sSpl_ok, eAt_ok, eEnded_ok, eState_ok, eStep_ok, sOnB_ok, sRDoE_ok, trivial⟩
def cSpE : FuncId → Option yp_ := yx_ [(32, sClI), (62, sCl64), (88, sClSn), (65, sTh18), (67, sTh14), (90, sRt18), (68, sRSame), (69, sSpl), (43, eAt), (44, eEnded), (42, eState), (41, eStep), (89, sOnG), (66, sRDoE)]
theorem cSpE_ok : ∀ f S, cSpE f = some S → zj_ Try.prog f S := zn_ ⟨sClI_ok, sCl64_ok, sClSn_ok, sTh18_ok, sTh14_ok, sRt18_ok, sRSame_ok, sSpl_ok, eAt_ok, eEnded_ok, eState_ok, eStep_ok, sOnG_ok, sRDoE_ok, trivial⟩
def cSpX : FuncId → Option yp_ := yx_ [(32, sClI), (62, sCl64), (88, sClSn), (65, sTh18), (67, sTh14), (90, sRt18), (68, sRSame), (69, sSpl), (43, eAt), (44, eEnded), (42, eState), (41, eStep), (89, sOnG), (66, sRDoX)]
theorem cSpX_ok : ∀ f S, cSpX f = some S → zj_ Try.prog f S := zn_ ⟨sClI_ok, sCl64_ok, sClSn_ok, sTh18_ok, sTh14_ok, sRt18_ok, sRSame_ok, sSpl_ok, eAt_ok, eEnded_ok, eState_ok, eStep_ok, sOnG_ok, sRDoX_ok, trivial⟩
def cSp6 : FuncId → Option yp_ := yx_ [(32, sClI), (62, sCl64), (88, sClSn), (65, sTh18), (67, sTh14), (90, sRt18), (68, sRSame), (69, sSpl), (43, eAt), (44, eEnded), (42, eState), (41, eStep), (89, sOnG), (66, sRDo6)]
theorem cSp6_ok : ∀ f S, cSp6 f = some S → zj_ Try.prog f S := zn_ ⟨sClI_ok, sCl64_ok, sClSn_ok, sTh18_ok, sTh14_ok, sRt18_ok, sRSame_ok, sSpl_ok, eAt_ok, eEnded_ok, eState_ok, eStep_ok, sOnG_ok, sRDo6_ok, trivial⟩
def cSp8 : FuncId → Option yp_ := yx_ [(32, sClI), (62, sCl64), (88, sClSn), (65, sTh18), (67, sTh14), (90, sRt18), (68, sRSame), (69, sSpl), (43, eAt), (44, eEnded), (42, eState), (41, eStep), (89, sOnG), (66, sRDo8)]
theorem cSp8_ok : ∀ f S, cSp8 f = some S → zj_ Try.prog f S := zn_ ⟨sClI_ok, sCl64_ok, sClSn_ok, sTh18_ok, sTh14_ok, sRt18_ok, sRSame_ok, sSpl_ok, eAt_ok, eEnded_ok, eState_ok, eStep_ok, sOnG_ok, sRDo8_ok, trivial⟩
theorem steps18_lit (P : List Ins) (v : Evi) (s : Sta) (p1 p2 p3 : Nat) (hok : ∀ x ∈ P, x.ok) (hg : ∀ q, R64 (s.regs q)) (hw : CR s) : zo_ Try.prog 47 [.sl 1 2 [] 5 0 P.length (some p1), .agg [.int .u64 v.seed, .int .i64 v.process, .int .i64 v.ports, .int .i64 v.look, .int .i64 v.now], .agg [.int .i64 s.at_, .bool s.ended, .arr 8 1 (fun q => .int .i64 (s.regs q)), .sl 3 4 [] 1 0 s.cells.length (some p2), .int .i64 s.draws, .sl 5 6 [] 3 0 s.sends.length (some p3)]]
  [.gone, .gone, .ro (.arr P.length 5 (prS P)), .gone, .ro (.arr s.cells.length 1 (i64S s.cells)), .gone, .ro (.arr s.sends.length 3 (sndsS s.sends))] (.bool true) [.gone] := by
 by_cases h1 : 60 < P.length
 case pos =>
  refine zf_ (fn := Try.f47) 7 137 0 rfl rfl rfl rfl rfl u22_ rfl fun w0 M E hro => ?_
  repeat' (first | refine Ctl.h ?_ | ((with_reducible intro hif); first | (focus (cases hif; done)) | ((try simp only [JH] at hif); try (exfalso; omega))) | ((with_reducible first | apply J22 cSpB_ok za_ | apply J23 fol cSpB_ok za_ | apply J24); (·rfl); (· (simp only [push_cast, ↓JP, Nat.reduceAdd, Nat.reduceEqDiff, Nat.reduceLT, Nat.reduceMul, Nat.reduceLeDiff, reduceCtorEq, reduceIte, ↓JK, cSpB, sRDoE, JM, JE, sClI, sCl64, sClSn, sTh18, sTh14, sRt18, sRSame, sSpl, sOnG, sOnB, engP, prP, macP, eB, prO, eAt, eEnded, eState, eStep, sr, evS, stS, cRf, sRf, cB, sB, prT, yk_, nilS, nodupN, memN, zx_, zw_, zq_, iOf, zc_, ls_nil, yw_, sameB_rf, inR, inN, Int.cast_ofNat_Int, h1]; rfl)); (try kernel_rfl); try exact k122_) | fail)
  apply At.endsRet za_ (fn := Try.f47) (rs := [.tmp 6]) Anc.refl hro (lb_ rfl) rfl
  ·exact yo_
  ·exact k4_
  ·exact k5_
  ·rfl
  ·exact k121_
  ·exact k7_
  ·exact fun β => rfl
  ·exact k121_
 by_cases h2 : 1100 < s.cells.length
 case pos =>
  refine zf_ (fn := Try.f47) 7 137 0 rfl rfl rfl rfl rfl u22_ rfl fun w0 M E hro => ?_
  repeat' (first | refine Ctl.h ?_ | ((with_reducible intro hif); first | (focus (cases hif; done)) | ((try simp only [JH] at hif); try (exfalso; omega))) | ((with_reducible first | apply J22 cSpB_ok za_ | apply J23 fol cSpB_ok za_ | apply J24); (·rfl); (· (simp only [push_cast, ↓JP, Nat.reduceAdd, Nat.reduceEqDiff, Nat.reduceLT, Nat.reduceMul, Nat.reduceLeDiff, reduceCtorEq, reduceIte, ↓JK, cSpB, sRDoE, JM, JE, sClI, sCl64, sClSn, sTh18, sTh14, sRt18, sRSame, sSpl, sOnG, sOnB, engP, prP, macP, eB, prO, eAt, eEnded, eState, eStep, sr, evS, stS, cRf, sRf, cB, sB, prT, yk_, nilS, nodupN, memN, zx_, zw_, zq_, iOf, zc_, ls_nil, yw_, sameB_rf, inR, inN, Int.cast_ofNat_Int, h1, h2]; rfl)); (try kernel_rfl); try exact k122_) | fail)
  apply At.endsRet za_ (fn := Try.f47) (rs := [.tmp 6]) Anc.refl hro (lb_ rfl) rfl
  ·exact yo_
  ·exact k4_
  ·exact k5_
  ·rfl
  ·exact k121_
  ·exact k7_
  ·exact fun β => rfl
  ·exact k121_
 by_cases h4 : 300 < s.sends.length
 case pos =>
  refine zf_ (fn := Try.f47) 7 137 0 rfl rfl rfl rfl rfl u22_ rfl fun w0 M E hro => ?_
  repeat' (first | refine Ctl.h ?_ | ((with_reducible intro hif); first | (focus (cases hif; done)) | ((try simp only [JH] at hif); try (exfalso; omega))) | ((with_reducible first | apply J22 cSpB_ok za_ | apply J23 fol cSpB_ok za_ | apply J24); (·rfl); (· (simp only [push_cast, ↓JP, Nat.reduceAdd, Nat.reduceEqDiff, Nat.reduceLT, Nat.reduceMul, Nat.reduceLeDiff, reduceCtorEq, reduceIte, ↓JK, cSpB, sRDoE, JM, JE, sClI, sCl64, sClSn, sTh18, sTh14, sRt18, sRSame, sSpl, sOnG, sOnB, engP, prP, macP, eB, prO, eAt, eEnded, eState, eStep, sr, evS, stS, cRf, sRf, cB, sB, prT, yk_, nilS, nodupN, memN, zx_, zw_, zq_, iOf, zc_, ls_nil, yw_, sameB_rf, inR, inN, Int.cast_ofNat_Int, h1, h2, h4]; rfl)); (try kernel_rfl); try exact k122_) | fail)
  apply At.endsRet za_ (fn := Try.f47) (rs := [.tmp 6]) Anc.refl hro (lb_ rfl) rfl
  ·exact yo_
  ·exact k4_
  ·exact k5_
  ·rfl
  ·exact k121_
  ·exact k7_
  ·exact fun β => rfl
  ·exact k121_
 by_cases hO : yr_ P v s = 0
 case neg =>
  refine zf_ (fn := Try.f47) 7 137 0 rfl rfl rfl rfl rfl u22_ rfl fun w0 M E hro => ?_
  repeat' (first | refine Ctl.h ?_ | ((with_reducible intro hif); first | (focus (cases hif; done)) | ((try simp only [JH] at hif); try (exfalso; omega))) | ((with_reducible first | apply J22 cSpB_ok za_ | apply J23 fol cSpB_ok za_ | apply J24); (·rfl); (· (simp only [push_cast, ↓JP, Nat.reduceAdd, Nat.reduceEqDiff, Nat.reduceLT, Nat.reduceMul, Nat.reduceLeDiff, reduceCtorEq, reduceIte, ↓JK, cSpB, sRDoE, JM, JE, sClI, sCl64, sClSn, sTh18, sTh14, sRt18, sRSame, sSpl, sOnG, sOnB, engP, prP, macP, eB, prO, eAt, eEnded, eState, eStep, sr, evS, stS, cRf, sRf, cB, sB, prT, yk_, nilS, nodupN, memN, zx_, zw_, zq_, iOf, zc_, ls_nil, yw_, sameB_rf, inR, inN, Int.cast_ofNat_Int, h1, h2, h4, hO]; rfl)); (try kernel_rfl); try exact k122_) | fail)
  apply At.endsRet za_ (fn := Try.f47) (rs := [.tmp 6]) Anc.refl hro (lb_ rfl) rfl
  ·exact yo_
  ·exact k4_
  ·exact k5_
  ·rfl
  ·exact k121_
  ·exact k7_
  ·exact fun β => rfl
  ·exact k121_
 have hOz := openE_zero hO
 have hP : PG P := ⟨hok, hOz.1⟩
 have V := VOk.of hOz.2.1
 have hY : YG P s := ⟨SG.of hOz.2.2 (by omega), hg, hw, by omega⟩
 have hpl := hP.len
 refine zf_ (fn := Try.f47) 7 137 0 rfl rfl rfl rfl rfl u22_ rfl fun w0 M E hro => ?_
 repeat' (first | refine Ctl.h ?_ | ((with_reducible intro hif); first | (focus (cases hif; done)) | ((try simp only [JH] at hif); try (exfalso; omega))) | ((with_reducible first | apply J22 cSpE_ok za_ | apply J23 fol cSpE_ok za_ | apply J24); (·rfl); (· (simp only [push_cast, ↓JP, Nat.reduceAdd, Nat.reduceEqDiff, Nat.reduceLT, Nat.reduceMul, Nat.reduceLeDiff, reduceCtorEq, reduceIte, ↓JK, cSpE, sRDoE, JM, JE, sClI, sCl64, sClSn, sTh18, sTh14, sRt18, sRSame, sSpl, sOnG, sOnB, engP, prP, macP, eB, prO, eAt, eEnded, eState, eStep, sr, evS, stS, cRf, sRf, cB, sB, prT, yk_, nilS, nodupN, memN, zx_, zw_, zq_, iOf, zc_, ls_nil, yw_, sameB_rf, inR, inN, Int.cast_ofNat_Int, h1, h2, h4, (eq_true hO)]; rfl)); (try kernel_rfl); try exact k122_) | fail)
 refine WF.loopAt (fun (z : ZP) => z.j ≤ P.length ∧ z.l.length = P.length) (fun (z : ZP) => [(4, .ptr 7 []), (7, .sl 9 9 [] 5 0 P.length none), (9, .ptr 13 []), (11, .sl 18 18 [] 5 0 P.length none), (12, .ptr 21 []), (75, .nat .i64 P.length), (76, .nat .i64 z.j)]) (fun (z : ZP) => [.gone, .gone, .gone, .gone, .gone, .gone, .gone, .own 56 (.agg [.int .u64 v.seed, .int .i64 v.process, .int .i64 v.ports, .int .i64 v.look, .int .i64 v.now]) true, .gone, .own 28 (.arr P.length 5 (prS z.l)) false, .gone, .gone, .gone, eB 14 17 P.length, mB s v Ins0 15 16, cB s, sB s, prO P, prT P, cRf s.cells, sRf s.sends, .own 135 (sr s (.sl 19 19 [] 1 0 s.cells.length none) (.sl 20 20 [] 3 0 s.sends.length none)) true]) (fun (z : ZP) => P.length - z.j) ⟨0, P⟩ ⟨Nat.zero_le _, rfl⟩ ?_ ?_ rfl ?_ ?_ rfl ?_
 ·exact k8_
 ·exact k5_
 ·exact k121_
 ·exact k121_
 rintro ⟨j, l⟩ ⟨hj, hl⟩
 dsimp only at hj hl ⊢
 by_cases hjl : j < P.length
 ·repeat' (first | refine Ctl.h ?_ | ((with_reducible intro hif); first | (focus (cases hif; done)) | ((try simp only [JH] at hif); try (exfalso; omega))) | ((with_reducible first | apply J22 cSpE_ok za_ | apply J23 fol cSpE_ok za_ | apply J24); (·rfl); (· (simp only [push_cast, ↓JP, Nat.reduceAdd, Nat.reduceEqDiff, Nat.reduceLT, Nat.reduceMul, Nat.reduceLeDiff, reduceCtorEq, reduceIte, ↓JK, hjl, prS, ym_, inR, inN]; rfl)); (try kernel_rfl); try exact k26_) | fail)
  refine At.nextPick [0, 1, 2, 3, 4, 5, 6, 7, 8, 9, 10, 11, 12, 13, 14, 15, 16, 17, 18, 19, 20, 21] ⟨j + 1, l.set j ⟨255, 0, 0, 0, 0⟩⟩ ?_ rfl rfl rfl ?_ rfl ?_ ?_ ?_ rfl
  ·exact ⟨⟨hjl, by rw [List.length_set]; exact hl⟩, by show P.length - (j + 1) < P.length - j; omega⟩
  ·(repeat' (first | exact trivial | exact .inl rfl | exact .inr (.same _) | exact .inr .loose | exact .inr (.arr (by assumption)) | apply And.intro | (refine .inr (less_pset hl hjl (fun β q => ?_)); rw [ite_eq]; cases decide (q = j) <;> rfl)))
  ·exact k121_
  ·exact k22_
  ·exact k121_
 obtain rfl : j = P.length := by omega
 repeat' (first | refine Ctl.h ?_ | ((with_reducible intro hif); first | (focus (cases hif; done)) | ((try simp only [JH] at hif); try (exfalso; omega))) | ((with_reducible first | apply J22 cSpE_ok za_ | apply J23 fol cSpE_ok za_ | apply J24); (·rfl); (· exact k109_); (try kernel_rfl); try exact xd_) | fail)
 refine WF.loopAt (fun (z : YZ) => z.k ≤ 60 ∧ YG P z.s ∧ z.s.cells.length = z.nc ∧ z.s.sends.length = z.ns) (fun (z : YZ) => [(4, .ptr 7 []), (9, .ptr 13 []), (11, .sl 18 18 [] 5 0 P.length none), (12, .ptr 21 []), (84, .nat .i64 z.k)]) (fun (z : YZ) => [.gone, .gone, .gone, .gone, .gone, .gone, .gone, .own 56 (.agg [.int .u64 v.seed, .int .i64 v.process, .int .i64 v.ports, .int .i64 v.look, .int .i64 v.now]) true, .gone, .gone, .gone, .gone, .gone, eB 14 17 P.length, mB z.s v z.x 15 16, cB z.s, sB z.s, prO P, prT P, .own 2 (.arr z.nc 1 (i64S z.s.cells)) false, .own 200 (.arr z.ns 3 (sndsS z.s.sends)) false, .own 135 (sr z.s (.sl 19 19 [] 1 0 z.nc none) (.sl 20 20 [] 3 0 z.ns none)) true]) (fun (z : YZ) => 60 - z.k) ⟨0, s, Ins0, s.cells.length, s.sends.length⟩ ⟨Nat.zero_le _, hY, rfl, rfl⟩ ?_ ?_ rfl ?_ ?_ rfl ?_
 ·exact k8_
 ·exact k5_
 ·exact k121_
 ·exact k121_
 rintro ⟨k, ⟨at1, en, rg, ce, dr, se⟩, x, nc, ns⟩ ⟨hk, hY1, hnc, hns⟩
 dsimp only at hk hY1 hnc hns ⊢
 subst hnc hns
 by_cases hk60 : k < 60
 case neg =>
  repeat' (first | refine Ctl.h ?_ | ((with_reducible intro hif); first | (focus (cases hif; done)) | ((try simp only [JH] at hif); try (exfalso; omega))) | ((with_reducible first | apply J22 cSpE_ok za_ | apply J23 fol cSpE_ok za_ | apply J24); (·rfl); (· (simp only [push_cast, ↓JP, Nat.reduceAdd, Nat.reduceEqDiff, Nat.reduceLT, Nat.reduceMul, Nat.reduceLeDiff, reduceCtorEq, reduceIte, ↓JK, hk60]; rfl)); (try kernel_rfl); try exact xd_) | fail)
  apply At.endsRet za_ (fn := Try.f47) (rs := [.tmp 6]) Anc.refl hro (lb_ rfl) rfl
  ·exact yo_
  ·exact k4_
  ·exact k5_
  ·rfl
  ·exact k121_
  ·exact k7_
  ·exact fun β => rfl
  ·exact k121_
 have hSG := hY1.sg
 have hrg : ∀ q, R64 (rg q) := hY1.rg
 have hsd : se.length ≤ 300 := hY1.sd
 have hcl : ce.length ≤ 1024 := hY1.sg.c1
 have hO1 := hY1.open hP hOz.2.1
 have hge : goE P v ⟨at1, en, rg, ce, dr, se⟩ = stepE P v ⟨at1, en, rg, ce, dr, se⟩ := if_pos hO1
 by_cases hE : stepE P v ⟨at1, en, rg, ce, dr, se⟩ = 0
 case neg =>
  have eS := stepS_err hE
  repeat' (first | refine Ctl.h ?_ | ((with_reducible intro hif); first | (focus (cases hif; done)) | ((try simp only [JH] at hif); try (exfalso; omega))) | ((with_reducible first | apply J22 cSpE_ok za_ | apply J23 fol cSpE_ok za_ | apply J24); (·rfl); (· (simp only [push_cast, ↓JP, Nat.reduceAdd, Nat.reduceEqDiff, Nat.reduceLT, Nat.reduceMul, Nat.reduceLeDiff, reduceCtorEq, reduceIte, ↓JK, cSpE, sRDoE, JM, JE, sClI, sCl64, sClSn, sTh18, sTh14, sRt18, sRSame, sSpl, sOnG, sOnB, engP, prP, macP, eB, prO, eAt, eEnded, eState, eStep, sr, evS, stS, cRf, sRf, cB, sB, prT, yk_, nilS, nodupN, memN, zx_, zw_, zq_, iOf, zc_, ls_nil, yw_, sameB_rf, inR, inN, Int.cast_ofNat_Int, hk60, hge, hE, eS]; rfl)); (try kernel_rfl); (try (focus (first | exact True.intro | ((try simp only [JE, iOf, zc_, ls_nil, yw_, hge, eS]); (repeat' (first | exact True.intro | exact hok | assumption | apply And.intro | rfl | omega | decide | intro _)); done) | ((try simp only [JS, implies_true, forall_const, yd_, yc_, kndOf, inR, inN]); (repeat' (first | assumption | exact True.intro | omega | apply And.intro)); done))))) | fail)
  apply At.endsRet za_ (fn := Try.f47) (rs := [.tmp 6]) Anc.refl hro (lb_ rfl) rfl
  ·exact yo_
  ·exact k4_
  ·exact k5_
  ·rfl
  ·exact k121_
  ·exact k7_
  ·exact fun β => rfl
  ·exact k121_
 have hG : goE P v ⟨at1, en, rg, ce, dr, se⟩ = 0 := hge.trans hE
 obtain ⟨_, hen, hD⟩ := goE_zero hG
 have hst := stepS_of (P := P) (v := v) hen
 have hY2 := hY1.step hP V hen
 dsimp only at hen hD hst
 have eL : (yl_ P v ⟨at1, en, rg, ce, dr, se⟩).cells.length = ce.length := by rw [hst]; exact doS_clen _ _ _
 by_cases h6 : (insAt P at1).op = 6
 ·have eS : (yl_ P v ⟨at1, en, rg, ce, dr, se⟩).sends = se := by rw [hst]; exact doS_sends8 (by omega)
  repeat' (first | refine Ctl.h ?_ | ((with_reducible intro hif); first | (focus (cases hif; done)) | ((try simp only [JH] at hif); try (exfalso; omega))) | ((with_reducible first | apply J22 cSp6_ok za_ | apply J23 fol cSp6_ok za_ | apply J24); (·rfl); (· (simp only [push_cast, ↓JP, Nat.reduceAdd, Nat.reduceEqDiff, Nat.reduceLT, Nat.reduceMul, Nat.reduceLeDiff, reduceCtorEq, reduceIte, ↓JK, cSp6, sRDo6, JM, JE, sClI, sCl64, sClSn, sTh18, sTh14, sRt18, sRSame, sSpl, sOnG, sOnB, engP, prP, macP, eB, prO, eAt, eEnded, eState, eStep, sr, evS, stS, cRf, sRf, cB, sB, prT, yk_, nilS, nodupN, memN, zx_, zw_, zq_, iOf, zc_, ls_nil, yw_, sameB_rf, inR, inN, Int.cast_ofNat_Int, hk60, (eq_true hG), (eq_true hE), (eq_true h6)]; rfl)); (try kernel_rfl); try exact k122_) | fail)
  refine At.nextPick [0, 1, 2, 3, 4, 5, 6, 7, 8, 9, 10, 11, 12, 13, 14, 15, 29, 17, 18, 27, 20, 21] ⟨k + 1, yl_ P v ⟨at1, en, rg, ce, dr, se⟩, stepX P ⟨at1, en, rg, ce, dr, se⟩ x, ce.length, se.length⟩ ?_ rfl rfl rfl ?_ rfl ?_ ?_ ?_ rfl
  ·exact ⟨⟨hk60, hY2, eL, congrArg List.length eS⟩, by show 60 - (k + 1) < 60 - k; omega⟩
  ·(repeat' (first | exact trivial | exact .inl rfl | exact .inr (.same _) | exact .inr .loose | exact .inr (.arr (by assumption)) | apply And.intro | (exact .inr (less_sndq eS.symm))))
  ·exact k121_
  ·exact k22_
  ·exact k121_
 by_cases h8 : (insAt P at1).op = 8
 ·have eC : (yl_ P v ⟨at1, en, rg, ce, dr, se⟩).cells = ce := by rw [hst]; exact doS_cells6 (by omega)
  have eS : (yl_ P v ⟨at1, en, rg, ce, dr, se⟩).sends.length = se.length + 1 := by rw [hst]; exact doS_slen hD h8
  repeat' (first | refine Ctl.h ?_ | ((with_reducible intro hif); first | (focus (cases hif; done)) | ((try simp only [JH] at hif); try (exfalso; omega))) | ((with_reducible first | apply J22 cSp8_ok za_ | apply J23 fol cSp8_ok za_ | apply J24); (·rfl); (· (simp only [push_cast, ↓JP, Nat.reduceAdd, Nat.reduceEqDiff, Nat.reduceLT, Nat.reduceMul, Nat.reduceLeDiff, reduceCtorEq, reduceIte, ↓JK, cSp8, sRDo8, JM, JE, sClI, sCl64, sClSn, sTh18, sTh14, sRt18, sRSame, sSpl, sOnG, sOnB, engP, prP, macP, eB, prO, eAt, eEnded, eState, eStep, sr, evS, stS, cRf, sRf, cB, sB, prT, yk_, nilS, nodupN, memN, zx_, zw_, zq_, iOf, zc_, ls_nil, yw_, sameB_rf, inR, inN, Int.cast_ofNat_Int, hk60, (eq_true hG), (eq_true hE), h6, (eq_true h8)]; rfl)); (try kernel_rfl); try exact k122_) | fail)
  refine At.nextPick [0, 1, 2, 3, 4, 5, 6, 7, 8, 9, 10, 11, 12, 13, 14, 15, 29, 17, 18, 19, 27, 21] ⟨k + 1, yl_ P v ⟨at1, en, rg, ce, dr, se⟩, stepX P ⟨at1, en, rg, ce, dr, se⟩ x, ce.length, se.length + 1⟩ ?_ rfl rfl rfl ?_ rfl ?_ ?_ ?_ rfl
  ·exact ⟨⟨hk60, hY2, eL, eS⟩, by show 60 - (k + 1) < 60 - k; omega⟩
  ·(repeat' (first | exact trivial | exact .inl rfl | exact .inr (.same _) | exact .inr .loose | exact .inr (.arr (by assumption)) | apply And.intro | (exact .inr (less_i64q eC.symm))))
  ·exact k121_
  ·exact k22_
  ·exact k121_
 ·have eC : (yl_ P v ⟨at1, en, rg, ce, dr, se⟩).cells = ce := by rw [hst]; exact doS_cells6 h6
  have eS : (yl_ P v ⟨at1, en, rg, ce, dr, se⟩).sends = se := by rw [hst]; exact doS_sends8 h8
  repeat' (first | refine Ctl.h ?_ | ((with_reducible intro hif); first | (focus (cases hif; done)) | ((try simp only [JH] at hif); try (exfalso; omega))) | ((with_reducible first | apply J22 cSpX_ok za_ | apply J23 fol cSpX_ok za_ | apply J24); (·rfl); (· (simp only [push_cast, ↓JP, Nat.reduceAdd, Nat.reduceEqDiff, Nat.reduceLT, Nat.reduceMul, Nat.reduceLeDiff, reduceCtorEq, reduceIte, ↓JK, cSpX, sRDoX, JM, JE, sClI, sCl64, sClSn, sTh18, sTh14, sRt18, sRSame, sSpl, sOnG, sOnB, engP, prP, macP, eB, prO, eAt, eEnded, eState, eStep, sr, evS, stS, cRf, sRf, cB, sB, prT, yk_, nilS, nodupN, memN, zx_, zw_, zq_, iOf, zc_, ls_nil, yw_, sameB_rf, inR, inN, Int.cast_ofNat_Int, hk60, (eq_true hG), (eq_true hE), h6, h8]; rfl)); (try kernel_rfl); try exact k122_) | fail)
  refine At.nextPick [0, 1, 2, 3, 4, 5, 6, 7, 8, 9, 10, 11, 12, 13, 14, 15, 28, 17, 18, 19, 20, 21] ⟨k + 1, yl_ P v ⟨at1, en, rg, ce, dr, se⟩, stepX P ⟨at1, en, rg, ce, dr, se⟩ x, ce.length, se.length⟩ ?_ rfl rfl rfl ?_ rfl ?_ ?_ ?_ rfl
  ·exact ⟨⟨hk60, hY2, eL, congrArg List.length eS⟩, by show 60 - (k + 1) < 60 - k; omega⟩
  ·(repeat' (first | exact trivial | exact .inl rfl | exact .inr (.same _) | exact .inr .loose | exact .inr (.arr (by assumption)) | apply And.intro | (exact .inr (less_i64q eC.symm)) | (exact .inr (less_sndq eS.symm))))
  ·exact k121_
  ·exact k22_
  ·exact k121_
def sSteps18 : yp_ := fun args h m => match args with
 | [v1, .agg [v2, v3, v4, v5, v6], .agg [v7, .bool v8, .arr 8 1 v9, v10, v11, v12]] => match y2_ h 5 (.tup []) v1, y2_ h 1 (.tup []) v10, y2_ h 3 (.tup []) v12 with
  | some (c1, n1, f1, r1), some (c10, n10, f10, r10), some (c12, n12, f12, r12) => bif isI .u64 v2 && isI .i64 v3 && isI .i64 v4 && isI .i64 v5 && isI .i64 v6 && isI .i64 v7 && isI .i64 v11 then some (c1 ∧ c10 ∧ c12 ∧ (∀ q, q < n1 → isIns (f1 q) = true) ∧ (∀ q, q < n10 → isI .i64 (f10 q) = true) ∧ (∀ q, q < n12 → isSnd (f12 q) = true) ∧ (∀ q, q < 8 → isI .i64 (v9 q) = true) ∧ ((∀ x ∈ (ls zr_ n1 f1), x.ok)) ∧ ((∀ q, R64 ((fun q => iOf (v9 q)) q))) ∧ (CR ⟨(iOf v7), v8, (fun q => iOf (v9 q)), (ls iOf n10 f10), (iOf v11), (ls zm_ n12 f12)⟩), .bool true, r1 ++ r10 ++ r12, []) else none
  | _, _, _ => none
 | _ => none
theorem sSteps18_ok : zj_ Try.prog 47 sSteps18 := by
 refine ⟨zg_ (by kernel_rfl), fun args h m c v rd wr hs hm hc w0 M β h' w R hrd hwr hst => ?_⟩
 unfold sSteps18 at hs
 split at hs
 ·rename_i v1 v2 v3 v4 v5 v6 v7 v8 v9 v10 v11 v12
  split at hs
  ·rename_i c1 n1 f1 r1 c10 n10 f10 r10 c12 n12 f12 r12 a1 a10 a12
   obtain ⟨hb, hs⟩ := zk_ hs
   simp only [Option.some.injEq, Prod.mk.injEq] at hs
   obtain ⟨rfl, rfl, rfl, rfl⟩ := hs
   simp only [Bool.and_eq_true] at hb
   obtain ⟨⟨⟨⟨⟨⟨b2, b3⟩, b4⟩, b5⟩, b6⟩, b7⟩, b11⟩ := hb
   obtain ⟨k1, k10, k12, g1, g10, g12, g9, y1, y2, y3⟩ := hc
   obtain ⟨A1, p1, d1, e1, t1⟩ := zi_ R a1 k1 (fun i hi => hrd i (List.mem_append_left _ (List.mem_append_left _ hi))) (by omega)
   obtain ⟨A10, p10, d10, e10, t10⟩ := zi_ R a10 k10 (fun i hi => hrd i (List.mem_append_left _ (List.mem_append_right _ hi))) (by omega)
   obtain ⟨A12, p12, d12, e12, t12⟩ := zi_ R a12 k12 (fun i hi => hrd i (List.mem_append_right _ hi)) (by omega)
   refine yj_ (views := [⟨5, (ls zr_ n1 f1).length, prS (ls zr_ n1 f1), A1, p1⟩, ⟨1, (ls iOf n10 f10).length, i64S (ls iOf n10 f10), A10, p10⟩, ⟨3, (ls zm_ n12 f12).length, sndsS (ls zm_ n12 f12), A12, p12⟩]) (steps18_lit (ls zr_ n1 f1) ⟨(iOf v2), (iOf v3), (iOf v4), (iOf v5), (iOf v6)⟩ ⟨(iOf v7), v8, (fun q => iOf (v9 q)), (ls iOf n10 f10), (iOf v11), (ls zm_ n12 f12)⟩ p1 p10 p12 y1 y2 y3) ?_ R hm hwr ?_ ?_ ?_
   ·intro x hx
    simp only [List.mem_cons, List.not_mem_nil, or_false] at hx
    rcases hx with rfl | rfl | rfl
    ·exact viewIns t1 e1 g1
    ·exact yf_ t10 e10 g10
    ·exact y0_ t12 e12 g12
   ·intro β1 hv
    simp only [Vd, zc_, and_true] at hv
    obtain ⟨z1, z10, z12⟩ := hv
    simp only [denL, z8_, z6_, z9_, zs_, zc_, ym_, evS, sr, csl, ssl, z1, z10, z12, d1, d10, d12, zd_ b2, zd_ b3, zd_ b4, zd_ b5, zd_ b6, zd_ b7, zd_ b11, ← r8Den (β := β) (β1 := β1) g9]
   ·exact k121_
   ·exact k121_
  ·cases hs
 ·cases hs
def cISt : FuncId → Option yp_ := yx_ [(47, sSteps18), (23, sAw18)]
theorem cISt_ok : ∀ f S, cISt f = some S → zj_ Try.prog f S := zn_ ⟨sSteps18_ok, sAw18_ok, trivial⟩
theorem instrSteps_lit (P : List Ins) (v : Evi) (s : Sta) (p1 p2 p3 : Nat) (hok : ∀ x ∈ P, x.ok) (hg : ∀ q, R64 (s.regs q)) (hw : CR s) : zo_ Try.prog 15 [.sl 1 2 [] 5 0 P.length (some p1), .agg [.int .u64 v.seed, .int .i64 v.process, .int .i64 v.ports, .int .i64 v.look, .int .i64 v.now], .agg [.int .i64 s.at_, .bool s.ended, .arr 8 1 (fun q => .int .i64 (s.regs q)), .sl 3 4 [] 1 0 s.cells.length (some p2), .int .i64 s.draws, .sl 5 6 [] 3 0 s.sends.length (some p3)]]
  [.gone, .gone, .ro (.arr P.length 5 (prS P)), .gone, .ro (.arr s.cells.length 1 (i64S s.cells)), .gone, .ro (.arr s.sends.length 3 (sndsS s.sends))] (.bool true) [.gone] := by
 refine zf_ (fn := Try.f15) 7 14 0 rfl rfl rfl rfl rfl u22_ rfl fun w0 M E hro => ?_
 repeat' (first | refine Ctl.h ?_ | ((with_reducible intro hif); first | (focus (cases hif; done)) | ((try simp only [JH] at hif); try (exfalso; omega))) | ((with_reducible first | apply J22 cISt_ok za_ | apply J23 fol cISt_ok za_ | apply J24); (·rfl); (· (simp only [push_cast, ↓JP, Nat.reduceAdd, Nat.reduceEqDiff, Nat.reduceLT, Nat.reduceMul, Nat.reduceLeDiff, reduceCtorEq, reduceIte, ↓JK, JE, cISt, sSteps18, sAw18, zx_, zw_, iOf, inR, inN]; rfl)); (try kernel_rfl); (try (focus (first | exact True.intro | ((try simp only [JE, iOf, zc_]); (repeat' (first | exact True.intro | exact hok | exact hg | exact hw | assumption | apply And.intro | rfl | omega | decide | intro _)); done) | ((try simp only [JS, implies_true, forall_const, yd_, yc_, kndOf, inR, inN]); (repeat' (first | assumption | exact True.intro | omega | apply And.intro)); done))))) | fail)
 apply At.endsRet za_ (fn := Try.f15) (rs := [.tmp 6]) Anc.refl hro (lb_ rfl) rfl
 ·exact yo_
 ·exact k4_
 ·exact k5_
 ·rfl
 ·exact k121_
 ·exact k7_
 ·exact fun β => rfl
 ·exact k121_
end Go.Proofs.Ytmljmabbopkpiaa.Vm
end
