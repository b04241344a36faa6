import Derived.Test.YtjliakjbdcplcaaG5
import Derived.Test.YtjliakjbdcplcaaG7
import Derived.Test.YtjliakjbdcplcaaG8
import Derived.Test.YtjliakjbdcplcaaG11
import Derived.Test.YtjliakjbdcplcaaG12
import Derived.IntWalk
import Derived.Laws.ResultCell
import Derived.Laws.OwnMore
import Derived.Lib.OthersKept
import Derived.Deep.RegionHeld3
section
open Go.Proofs.Ytjliakjbdcplcaa.Vm Go.RowKit
attribute [local push_cast] runR opG gtmp gval gus opX tmpsOf tm tmO tmP restr look look2 tab tys zs ets eqB eqBL allB numOf ieq Int.cast_ofNat_Int Int.ofNat_zero beq_true beq_false frameOf ev evL ofV opV loadV noW pushF wrsL setH allBorn allGone HB.born HB.isGone HB.val SV.plain dstOk hp nav fitsT SV.size sizeL SV.isAgg TK.size TK.agg bin binE binN binI arN arI cmpN cmpI keq kn narrow callV storeV setp fillV buildV buildSliceV makeV sliceV appendV copyV List.isEmpty_nil srcV evO asN ite_t ite_f ite_bool ite_int ite_nat maxV v_beq v_ble v_blt cond_true cond_false List.getElem?_cons_zero List.getElem?_cons_succ List.getD_cons_zero List.getD_cons_succ List.getD_nil List.length_cons List.length_nil List.take_succ_cons List.take_zero List.set_cons_zero List.set_cons_succ List.cons_append List.nil_append List.append_assoc List.replicate_succ List.replicate_zero Nat.zero_add Nat.add_zero decide_true decide_false Bool.true_and Bool.and_true Bool.false_and Bool.and_false Bool.true_or Bool.or_true Bool.false_or Bool.or_false beq_self_eq_true Bool.or_self Nat.lt_irrefl Nat.not_lt_zero Nat.le_refl Option.getD_some Option.getD_none BEq.rfl Bool.not_true Bool.not_false Bool.cond_true_left Bool.cond_false_right prS sndsS i64S nav_ins nav_ins0 nav_ins1 nav_ins2 nav_ins3 nav_ins4 nav_snd nav_snd0 nav_snd1 nav_snd2 isIns_insS insOf_insS isSnd_sndS sndOf_sndS isI_int isI_nat iOf
section
/- A runner's Go. (printed by gen_rn9.py) -/
namespace Go.Proofs.Ytjliakjbdcplcaa.Vm
open Go.RowKit
set_option linter.unusedVariables false
set_option linter.unusedSimpArgs false
set_option maxRecDepth 100000
set_option maxHeartbeats 4000000
theorem goT_lit (P : List Ins) (s : Sta) (v : Evi) (x0 : Ins) (u : Nat) (f : Int) (hP : PG P) (V : VOk v) (hG : SG P s) (hu : u ≤ 4611686018427387904) (hf0 : 0 ≤ f) (hf1 : f ≤ 4096) (r : RR) (hr : runA P v f.toNat s x0 [] 0 = r) : LitOk Try.prog 17 [.ptr 1 [], .int .i64 f] [.gone, rB 2 7 8 9 u true, eB 3 6 P.length, mB s v x0 4 5, cB s, sB s, prO P, .gone, .gone, .gone]
    (.tup [.bool (decide (r.bad = 0)), .int .i64 (if r.bad = 190 then 0 else r.bad)]) [.gone, rB 2 7 8 9 u true, eB 3 6 P.length, mB r.s v r.x 4 10, cB r.s, .gone, prO P, .gone, .gone, .gone, sB r.s] := by
  have hrr : rrE f = 0 := by unfold rrE; rw [if_neg (by omega)]
  refine litOkM (fn := Try.f17) 10 44 0 rfl rfl rfl rfl rfl (by simp only [StableL, Stable, hp, i64S, prS, insS, sndsS, sndS, stS, evS, macS, mB, cB, sB, eB, prO, prR, pbB, fbB, rB, rvS, HB.stable]; simp [HB.born, rB, rvS, eB, mB, cB, sB, prO]) rfl fun w0 M E hro => ?_
  repeat' (first | with_reducible (first | apply J1 | apply J3 | apply J4 | apply J5 | apply J6 | apply J7 | apply J8 | apply J9 | apply J10 | apply J11 | apply J12 | apply J13 | apply J14 | apply J15 | apply J16 | apply J17 | apply J18 | apply J19 | apply J20 | refine J2 ?_) | ((with_reducible apply J21); (· rfl)) | ((with_reducible intro hif); first | (focus (cases hif; done)) | (simp only [JH] at hif; try (exfalso; omega)) | (try (exfalso; omega))) | ((first | ((with_reducible apply J22 cGo_ok tab_ok); (· rfl)) | ((with_reducible apply J23 fol cGo_ok tab_ok); (· rfl)) | with_reducible apply J24); (· (simp only [push_cast, ↓JP, Nat.reduceAdd, Nat.reduceEqDiff, Nat.reduceLT, Nat.reduceMul, Nat.reduceLeDiff, reduceCtorEq, reduceIte, ↓JK, cGo, JM, rB, rvS, eB, prO, rN, sRRight, sSteps, JE, inR, inN, hrr, nodupN, memN]; rfl)); (try kernel_rfl); (try (focus (first | exact True.intro | ((try simp only [JS, implies_true, forall_const, shaped, shapedL, kndOf, inR, inN]); (repeat' (first | assumption | exact True.intro | omega | apply And.intro)); done))))) | fail)
  with_reducible apply WF.range (fn' := Try.f73) 28
  · simp only [push_cast, ↓JP, Nat.reduceAdd, Nat.reduceEqDiff, Nat.reduceLT, Nat.reduceMul, Nat.reduceLeDiff, reduceCtorEq, reduceIte, ↓JK]; rfl
  · (focus (first | exact True.intro | ((try simp only [JS, implies_true, forall_const, shaped, shapedL, kndOf]); (repeat' (first | assumption | exact True.intro | omega | apply And.intro)); done)))
  · rfl
  · rfl
  · rfl
  · rfl
  · rfl
  · rfl
  · rfl
  intro E1 rec tmps after hE1 hrec hcf haft
  repeat' (first | with_reducible (first | apply J1 | apply J3 | apply J4 | apply J5 | apply J6 | apply J7 | apply J8 | apply J9 | apply J10 | apply J11 | apply J12 | apply J13 | apply J14 | apply J15 | apply J16 | apply J17 | apply J18 | apply J19 | apply J20 | refine J2 ?_) | ((with_reducible apply J21); (· rfl)) | ((with_reducible intro hif); first | (focus (cases hif; done)) | (simp only [JH] at hif; try (exfalso; omega)) | (try (exfalso; omega))) | ((first | ((with_reducible apply J22 cGo_ok tab_ok); (· rfl)) | ((with_reducible apply J23 fol cGo_ok tab_ok); (· rfl)) | with_reducible apply J24); (· (simp only [push_cast, ↓JP, Nat.reduceAdd, Nat.reduceEqDiff, Nat.reduceLT, Nat.reduceMul, Nat.reduceLeDiff, reduceCtorEq, reduceIte, ↓JK, JM, engP, prP, macP, nodupN, memN, eB, prO, pbB, fbB, JE, inR, inN]; rfl)); (try kernel_rfl); (try (focus (first | exact True.intro | ((try simp only [JS, implies_true, forall_const, shaped, shapedL, kndOf, inR, inN]); (repeat' (first | assumption | exact True.intro | omega | apply And.intro)); done))))) | fail)
  refine At.pick (L2 := [.gone, rB 2 7 8 9 u true, eB 3 6 P.length, mB s v x0 4 17, cB s, .gone, prO P, .gone, .gone, .gone, .own 52 (.ptr 1 []) true, .own 4 (.bool false) true, .own 46 (.nat .i64 0) true, pbB 2, fbB f, .raw (.deferred (some [])), .raw (.loop (rec .ready none)), sB s]) (φ2 := [(0, .yl 16), (1, .ptr 13 []), (2, .ptr 14 []), (4, .nat .i64 0)]) [0, 1, 2, 3, 4, 5, 6, 7, 8, 9, 10, 11, 12, 13, 14, 15, 16, 5] rfl rfl rfl ?_ rfl ?_ ?_ ?_ rfl ?_
  · (repeat' (first | exact trivial | exact .inl rfl | exact .inr (.same _) | exact .inr .loose | exact .inr (.arr (by assumption)) | apply And.intro))
  · (repeat' (first | exact trivial | exact rfl | assumption | apply Stable.ite | apply And.intro | intro _ | (simp only [Stable, StableL, i64S, prS, insS, sndsS, sndS, stS, evS, macS, mB, cB, sB, eB, prO, prR, pbB, fbB, rB, rvS, HB.stable]; done)))
  · (repeat' (first | exact trivial | exact ⟨_, rfl, fun β => rfl⟩ | apply And.intro))
  · (repeat' (first | exact trivial | exact rfl | assumption | apply Stable.ite | apply And.intro | intro _ | (simp only [Stable, StableL, i64S, prS, insS, sndsS, sndS, stS, evS, macS, mB, cB, sB, eB, prO, prR, pbB, fbB, rB, rvS, HB.stable]; done)))
  refine WF.loopAt (fun (z : RS) => RInv P v f r z) (fun (z : RS) => [(0, .yl 16), (1, .ptr 13 []), (2, .ptr 14 []), (4, .nat .i64 z.k)]) (fun (z : RS) => [.gone, rB 2 7 8 9 u true, eB 3 6 P.length, mB z.s v z.x 4 17, cB z.s, .gone, prO P, .gone, .gone, .gone, .own 52 (.ptr 1 []) true, .own 4 (.bool false) true, .own 46 (.nat .i64 0) true, pbB 2, fbB f, .raw (.deferred (some [])), .raw (.loop (rec .ready none)), sB z.s]) (fun (z : RS) => f.toNat - z.k) ⟨0, s, x0, [], 0⟩ ⟨Nat.zero_le _, hG, rfl, hr⟩ ?_ ?_ rfl ?_ ?_ rfl ?_
  · ((repeat' (first | exact trivial | apply And.intro)) <;> (first | rfl | (simp only [look, cond_true, cond_false]; done)))
  · (repeat' (first | exact trivial | exact .same _ | exact .dead _ | exact .gone rfl | exact .loose | assumption | exact .arr (by assumption) | apply And.intro))
  · (repeat' (first | exact trivial | exact rfl | assumption | apply Stable.ite | apply And.intro | intro _ | (simp only [Stable, StableL, i64S, prS, insS, sndsS, sndS, stS, evS, macS, mB, cB, sB, eB, prO, prR, pbB, fbB, rB, rvS, HB.stable]; done)))
  · (repeat' (first | exact trivial | exact rfl | assumption | apply Stable.ite | apply And.intro | intro _ | (simp only [Stable, StableL, i64S, prS, insS, sndsS, sndS, stS, evS, macS, mB, cB, sB, eB, prO, prR, pbB, fbB, rB, rvS, HB.stable]; done)))
  rintro ⟨k, ⟨at1, en, rg, ce, dr, se⟩, x, tr, a⟩ ⟨hk, hg, hl, hr1⟩
  dsimp only at hk hg hl hr1 ⊢
  cases en
  · by_cases hkf : k < f.toNat
    · have hkf2 : (k : Int) < f := by omega
      have hn190 := stepE_ne190 P v ⟨at1, false, rg, ce, dr, se⟩
      have hl2 : (tr ++ [at1]).length = k + 1 := by simp [hl]
      by_cases hst : stepE P v ⟨at1, false, rg, ce, dr, se⟩ = 0
      · repeat' (first | with_reducible (first | apply J1 | apply J3 | apply J4 | apply J5 | apply J6 | apply J7 | apply J8 | apply J9 | apply J10 | apply J11 | apply J12 | apply J13 | apply J14 | apply J15 | apply J16 | apply J17 | apply J18 | apply J19 | apply J20 | refine J2 ?_) | ((with_reducible apply J21); (· rfl)) | ((with_reducible intro hif); first | (focus (cases hif; done)) | (simp only [JH] at hif; try (exfalso; omega)) | (try (exfalso; omega))) | ((first | ((with_reducible apply J22 cGo_ok tab_ok); (· rfl)) | ((with_reducible apply J23 fol cGo_ok tab_ok); (· rfl)) | with_reducible apply J24); (· (simp only [push_cast, ↓JP, Nat.reduceAdd, Nat.reduceEqDiff, Nat.reduceLT, Nat.reduceMul, Nat.reduceLeDiff, reduceCtorEq, reduceIte, ↓JK, cGo, JM, engP, prP, macP, nodupN, memN, eB, prO, pbB, fbB, rB, rvS, JE, eEnded, eAt, eStep, eState, inR, inN, hst, hkf2]; rfl)); (try kernel_rfl); (try (focus (first | exact True.intro | ((try simp only [JS, implies_true, forall_const, shaped, shapedL, kndOf, inR, inN]); (repeat' (first | assumption | exact True.intro | omega | apply And.intro)); done))))) | fail)
        with_reducible apply WF.split 3 5
        · rfl
        with_reducible apply At.run cGo_ok tab_ok
        · rfl
        · rfl
        · rfl
        · simp only [push_cast, ↓JP, Nat.reduceAdd, Nat.reduceEqDiff, Nat.reduceLT, Nat.reduceMul, Nat.reduceLeDiff, reduceCtorEq, reduceIte, ↓JK, noDefer, List.drop_zero, List.drop_succ_cons, cGo, JM, engP, prP, macP, nodupN, memN, eB, prO, pbB, fbB, rB, rvS, JE, eEnded, eAt, eStep, eState, inR, inN, hst]; rfl
        · (focus (first | exact True.intro | ((try simp only [JS, implies_true, forall_const, shaped, shapedL, kndOf, inR, inN]); (repeat' (first | assumption | exact True.intro | omega | apply And.intro)); done)))
        with_reducible apply At.yield (gr := _)
        · rfl
        · rfl
        · rfl
        · rfl
        · rfl
        · rfl
        · simp only [push_cast, ↓JP, Nat.reduceAdd, Nat.reduceEqDiff, Nat.reduceLT, Nat.reduceMul, Nat.reduceLeDiff, reduceCtorEq, reduceIte, ↓JK, noDefer, List.drop_zero, List.drop_succ_cons, cGo, JM, engP, prP, macP, nodupN, memN, eB, prO, pbB, fbB, rB, rvS, JE, eEnded, eAt, eStep, eState, inR, inN, hst]; rfl
        · first | rfl | (simp only [push_cast, ↓JP, Nat.reduceAdd, Nat.reduceEqDiff, Nat.reduceLT, Nat.reduceMul, Nat.reduceLeDiff, reduceCtorEq, reduceIte, ↓JK, noDefer, List.drop_zero, List.drop_succ_cons, cGo, JM, engP, prP, macP, nodupN, memN, eB, prO, pbB, fbB, rB, rvS, JE, eEnded, eAt, eStep, eState, inR, inN, hst]; done)
        · simp only [push_cast, ↓JP, Nat.reduceAdd, Nat.reduceEqDiff, Nat.reduceLT, Nat.reduceMul, Nat.reduceLeDiff, reduceCtorEq, reduceIte, ↓JK, noDefer, List.drop_zero, List.drop_succ_cons, cGo, JM, engP, prP, macP, nodupN, memN, eB, prO, pbB, fbB, rB, rvS, JE, eEnded, eAt, eStep, eState, inR, inN, hst]; rfl
        · (focus (first | exact True.intro | ((try simp only [JS, implies_true, forall_const, shaped, shapedL, kndOf, inR, inN]); (repeat' (first | assumption | exact True.intro | omega | apply And.intro)); done)))
        · simp only [push_cast, ↓JP, Nat.reduceAdd, Nat.reduceEqDiff, Nat.reduceLT, Nat.reduceMul, Nat.reduceLeDiff, reduceCtorEq, reduceIte, ↓JK, noDefer, List.drop_zero, List.drop_succ_cons, cGo, JM, engP, prP, macP, nodupN, memN, eB, prO, pbB, fbB, rB, rvS, JE, eEnded, eAt, eStep, eState, inR, inN, hst]; rfl
        · (focus (first | exact True.intro | ((try simp only [JS, implies_true, forall_const, shaped, shapedL, kndOf, inR, inN]); (repeat' (first | assumption | exact True.intro | omega | apply And.intro)); done)))
        · first | rfl | (simp only [push_cast, ↓JP, Nat.reduceAdd, Nat.reduceEqDiff, Nat.reduceLT, Nat.reduceMul, Nat.reduceLeDiff, reduceCtorEq, reduceIte, ↓JK, noDefer, List.drop_zero, List.drop_succ_cons, cGo, JM, engP, prP, macP, nodupN, memN, eB, prO, pbB, fbB, rB, rvS, JE, eEnded, eAt, eStep, eState, inR, inN, hst]; done)
        · exact hrec
        · exact hcf
        · rfl
        · rfl
        · rfl
        intro lb E2 next hE2 hnext
        repeat' (first | with_reducible (first | apply J1 | apply J3 | apply J4 | apply J5 | apply J6 | apply J7 | apply J8 | apply J9 | apply J10 | apply J11 | apply J12 | apply J13 | apply J14 | apply J15 | apply J16 | apply J17 | apply J18 | apply J19 | apply J20 | refine J2 ?_) | ((with_reducible apply J21); (· rfl)) | ((with_reducible intro hif); first | (focus (cases hif; done)) | (simp only [JH] at hif; try (exfalso; omega)) | (try (exfalso; omega))) | ((first | ((with_reducible apply J22 cGo_ok tab_ok); (· rfl)) | ((with_reducible apply J23 fol cGo_ok tab_ok); (· rfl)) | with_reducible apply J24); (· (simp only [push_cast, ↓JP, Nat.reduceAdd, Nat.reduceEqDiff, Nat.reduceLT, Nat.reduceMul, Nat.reduceLeDiff, reduceCtorEq, reduceIte, ↓JK, cGo, JM, engP, prP, macP, nodupN, memN, eB, prO, pbB, fbB, rB, rvS, JE, eEnded, eAt, eStep, eState, inR, inN, hst]; rfl)); (try kernel_rfl); (try (focus (first | exact True.intro | ((try simp only [JS, implies_true, forall_const, shaped, shapedL, kndOf, inR, inN]); (repeat' (first | assumption | exact True.intro | omega | apply And.intro)); done))))) | fail)
        with_reducible apply At.begins hrec
        · rfl
        with_reducible refine At.code ?_
        repeat' (first | with_reducible (first | apply J1 | apply J3 | apply J4 | apply J5 | apply J6 | apply J7 | apply J8 | apply J9 | apply J10 | apply J11 | apply J12 | apply J13 | apply J14 | apply J15 | apply J16 | apply J17 | apply J18 | apply J19 | apply J20 | refine J2 ?_) | ((with_reducible apply J21); (· rfl)) | ((with_reducible intro hif); first | (focus (cases hif; done)) | (simp only [JH] at hif; try (exfalso; omega)) | (try (exfalso; omega))) | ((first | ((with_reducible apply J22 cGo_ok tab_ok); (· rfl)) | ((with_reducible apply J23 fol cGo_ok tab_ok); (· rfl)) | with_reducible apply J24); (· (simp only [push_cast, ↓JP, Nat.reduceAdd, Nat.reduceEqDiff, Nat.reduceLT, Nat.reduceMul, Nat.reduceLeDiff, reduceCtorEq, reduceIte, ↓JK, cGo, JM, engP, prP, macP, nodupN, memN, eB, prO, pbB, fbB, rB, rvS, JE, eEnded, eAt, eStep, eState, inR, inN, hst]; rfl)); (try kernel_rfl); (try (focus (first | exact True.intro | ((try simp only [JS, implies_true, forall_const, shaped, shapedL, kndOf, inR, inN]); (repeat' (first | assumption | exact True.intro | omega | apply And.intro)); done))))) | fail)
        with_reducible apply At.roundNormal
        · first | rfl | (simp only [push_cast, ↓JP, Nat.reduceAdd, Nat.reduceEqDiff, Nat.reduceLT, Nat.reduceMul, Nat.reduceLeDiff, reduceCtorEq, reduceIte, ↓JK, noDefer, List.drop_zero, List.drop_succ_cons, cGo, JM, engP, prP, macP, nodupN, memN, eB, prO, pbB, fbB, rB, rvS, JE, eEnded, eAt, eStep, eState, inR, inN, hst]; done)
        apply hnext
        with_reducible apply At.runEnd cGo_ok tab_ok
        · rfl
        · rfl
        · rfl
        · simp only [push_cast, ↓JP, Nat.reduceAdd, Nat.reduceEqDiff, Nat.reduceLT, Nat.reduceMul, Nat.reduceLeDiff, reduceCtorEq, reduceIte, ↓JK, noDefer, List.drop_zero, List.drop_succ_cons, cGo, JM, engP, prP, macP, nodupN, memN, eB, prO, pbB, fbB, rB, rvS, JE, eEnded, eAt, eStep, eState, inR, inN, hst]; rfl
        · (focus (first | exact True.intro | ((try simp only [JS, implies_true, forall_const, shaped, shapedL, kndOf, inR, inN]); (repeat' (first | assumption | exact True.intro | omega | apply And.intro)); done)))
        repeat' (first | with_reducible (first | apply J1 | apply J3 | apply J4 | apply J5 | apply J6 | apply J7 | apply J8 | apply J9 | apply J10 | apply J11 | apply J12 | apply J13 | apply J14 | apply J15 | apply J16 | apply J17 | apply J18 | apply J19 | apply J20 | refine J2 ?_) | ((with_reducible apply J21); (· rfl)) | ((with_reducible intro hif); first | (focus (cases hif; done)) | (simp only [JH] at hif; try (exfalso; omega)) | (try (exfalso; omega))) | ((first | ((with_reducible apply J22 cGo_ok tab_ok); (· rfl)) | ((with_reducible apply J23 fol cGo_ok tab_ok); (· rfl)) | with_reducible apply J24); (· (simp only [push_cast, ↓JP, Nat.reduceAdd, Nat.reduceEqDiff, Nat.reduceLT, Nat.reduceMul, Nat.reduceLeDiff, reduceCtorEq, reduceIte, ↓JK, cGo, JM, engP, prP, macP, nodupN, memN, eB, prO, pbB, fbB, rB, rvS, JE, eEnded, eAt, eStep, eState, inR, inN, hst]; rfl)); (try kernel_rfl); (try (focus (first | exact True.intro | ((try simp only [JS, implies_true, forall_const, shaped, shapedL, kndOf, inR, inN]); (repeat' (first | assumption | exact True.intro | omega | apply And.intro)); done))))) | fail)
        refine At.nextPick [0, 1, 2, 3, 4, 5, 6, 7, 8, 9, 10, 11, 12, 13, 14, 15, 16, 18] ⟨k + 1, stepS P v ⟨at1, false, rg, ce, dr, se⟩, stepX P ⟨at1, false, rg, ce, dr, se⟩ x, tr ++ [at1], at1⟩ ?_ rfl rfl rfl ?_ rfl ?_ ?_ ?_ rfl
        · exact ⟨⟨hkf, stepS_good hg hP, hl2, by rw [← hr1, runA_go rfl (by omega) hst]; rfl⟩, by show f.toNat - (k + 1) < f.toNat - k; omega⟩
        · (repeat' (first | exact trivial | exact .inl rfl | exact .inr (.same _) | exact .inr .loose | exact .inr (.arr (by assumption)) | apply And.intro))
        · (repeat' (first | exact trivial | exact rfl | assumption | apply Stable.ite | apply And.intro | intro _ | (simp only [Stable, StableL, i64S, prS, insS, sndsS, sndS, stS, evS, macS, mB, cB, sB, eB, prO, prR, pbB, fbB, rB, rvS, HB.stable]; done)))
        · (repeat' (first | exact trivial | exact ⟨_, rfl, fun β => rfl⟩ | apply And.intro))
        · (repeat' (first | exact trivial | exact rfl | assumption | apply Stable.ite | apply And.intro | intro _ | (simp only [Stable, StableL, i64S, prS, insS, sndsS, sndS, stS, evS, macS, mB, cB, sB, eB, prO, prR, pbB, fbB, rB, rvS, HB.stable]; done)))
      · rw [runA_bad rfl (by omega) hst] at hr1
        subst hr1
        have hb1 : decide (stepE P v ⟨at1, false, rg, ce, dr, se⟩ = 0) = false := by simp [hst]
        have hb2 : (if stepE P v ⟨at1, false, rg, ce, dr, se⟩ = 190 then 0 else stepE P v ⟨at1, false, rg, ce, dr, se⟩) = stepE P v ⟨at1, false, rg, ce, dr, se⟩ := if_neg hn190
        have hb3 : (decide (stepE P v ⟨at1, false, rg, ce, dr, se⟩ ≠ 0) && decide (stepE P v ⟨at1, false, rg, ce, dr, se⟩ ≠ 190)) = true := by simp [hst, hn190]
        repeat' (first | with_reducible (first | apply J1 | apply J3 | apply J4 | apply J5 | apply J6 | apply J7 | apply J8 | apply J9 | apply J10 | apply J11 | apply J12 | apply J13 | apply J14 | apply J15 | apply J16 | apply J17 | apply J18 | apply J19 | apply J20 | refine J2 ?_) | ((with_reducible apply J21); (· rfl)) | ((with_reducible intro hif); first | (focus (cases hif; done)) | (simp only [JH] at hif; try (exfalso; omega)) | (try (exfalso; omega))) | ((first | ((with_reducible apply J22 cGo_ok tab_ok); (· rfl)) | ((with_reducible apply J23 fol cGo_ok tab_ok); (· rfl)) | with_reducible apply J24); (· (simp only [push_cast, ↓JP, Nat.reduceAdd, Nat.reduceEqDiff, Nat.reduceLT, Nat.reduceMul, Nat.reduceLeDiff, reduceCtorEq, reduceIte, ↓JK, cGo, JM, engP, prP, macP, nodupN, memN, eB, prO, pbB, fbB, rB, rvS, JE, eEnded, eAt, eStep, eState, inR, inN, hst, hkf2]; rfl)); (try kernel_rfl); (try (focus (first | exact True.intro | ((try simp only [JS, implies_true, forall_const, shaped, shapedL, kndOf, inR, inN]); (repeat' (first | assumption | exact True.intro | omega | apply And.intro)); done))))) | fail)
        with_reducible apply WF.split 3 5
        · rfl
        with_reducible apply At.run cGo_ok tab_ok
        · rfl
        · rfl
        · rfl
        · simp only [push_cast, ↓JP, Nat.reduceAdd, Nat.reduceEqDiff, Nat.reduceLT, Nat.reduceMul, Nat.reduceLeDiff, reduceCtorEq, reduceIte, ↓JK, noDefer, List.drop_zero, List.drop_succ_cons, cGo, JM, engP, prP, macP, nodupN, memN, eB, prO, pbB, fbB, rB, rvS, JE, eEnded, eAt, eStep, eState, inR, inN, hst]; rfl
        · (focus (first | exact True.intro | ((try simp only [JS, implies_true, forall_const, shaped, shapedL, kndOf, inR, inN]); (repeat' (first | assumption | exact True.intro | omega | apply And.intro)); done)))
        with_reducible apply At.yield (gr := _)
        · rfl
        · rfl
        · rfl
        · rfl
        · rfl
        · rfl
        · simp only [push_cast, ↓JP, Nat.reduceAdd, Nat.reduceEqDiff, Nat.reduceLT, Nat.reduceMul, Nat.reduceLeDiff, reduceCtorEq, reduceIte, ↓JK, noDefer, List.drop_zero, List.drop_succ_cons, cGo, JM, engP, prP, macP, nodupN, memN, eB, prO, pbB, fbB, rB, rvS, JE, eEnded, eAt, eStep, eState, inR, inN, hst]; rfl
        · first | rfl | (simp only [push_cast, ↓JP, Nat.reduceAdd, Nat.reduceEqDiff, Nat.reduceLT, Nat.reduceMul, Nat.reduceLeDiff, reduceCtorEq, reduceIte, ↓JK, noDefer, List.drop_zero, List.drop_succ_cons, cGo, JM, engP, prP, macP, nodupN, memN, eB, prO, pbB, fbB, rB, rvS, JE, eEnded, eAt, eStep, eState, inR, inN, hst]; done)
        · simp only [push_cast, ↓JP, Nat.reduceAdd, Nat.reduceEqDiff, Nat.reduceLT, Nat.reduceMul, Nat.reduceLeDiff, reduceCtorEq, reduceIte, ↓JK, noDefer, List.drop_zero, List.drop_succ_cons, cGo, JM, engP, prP, macP, nodupN, memN, eB, prO, pbB, fbB, rB, rvS, JE, eEnded, eAt, eStep, eState, inR, inN, hst]; rfl
        · (focus (first | exact True.intro | ((try simp only [JS, implies_true, forall_const, shaped, shapedL, kndOf, inR, inN]); (repeat' (first | assumption | exact True.intro | omega | apply And.intro)); done)))
        · simp only [push_cast, ↓JP, Nat.reduceAdd, Nat.reduceEqDiff, Nat.reduceLT, Nat.reduceMul, Nat.reduceLeDiff, reduceCtorEq, reduceIte, ↓JK, noDefer, List.drop_zero, List.drop_succ_cons, cGo, JM, engP, prP, macP, nodupN, memN, eB, prO, pbB, fbB, rB, rvS, JE, eEnded, eAt, eStep, eState, inR, inN, hst]; rfl
        · (focus (first | exact True.intro | ((try simp only [JS, implies_true, forall_const, shaped, shapedL, kndOf, inR, inN]); (repeat' (first | assumption | exact True.intro | omega | apply And.intro)); done)))
        · first | rfl | (simp only [push_cast, ↓JP, Nat.reduceAdd, Nat.reduceEqDiff, Nat.reduceLT, Nat.reduceMul, Nat.reduceLeDiff, reduceCtorEq, reduceIte, ↓JK, noDefer, List.drop_zero, List.drop_succ_cons, cGo, JM, engP, prP, macP, nodupN, memN, eB, prO, pbB, fbB, rB, rvS, JE, eEnded, eAt, eStep, eState, inR, inN, hst]; done)
        · exact hrec
        · exact hcf
        · rfl
        · rfl
        · rfl
        intro lb E2 next hE2 hnext
        repeat' (first | with_reducible (first | apply J1 | apply J3 | apply J4 | apply J5 | apply J6 | apply J7 | apply J8 | apply J9 | apply J10 | apply J11 | apply J12 | apply J13 | apply J14 | apply J15 | apply J16 | apply J17 | apply J18 | apply J19 | apply J20 | refine J2 ?_) | ((with_reducible apply J21); (· rfl)) | ((with_reducible intro hif); first | (focus (cases hif; done)) | (simp only [JH] at hif; try (exfalso; omega)) | (try (exfalso; omega))) | ((first | ((with_reducible apply J22 cGo_ok tab_ok); (· rfl)) | ((with_reducible apply J23 fol cGo_ok tab_ok); (· rfl)) | with_reducible apply J24); (· (simp only [push_cast, ↓JP, Nat.reduceAdd, Nat.reduceEqDiff, Nat.reduceLT, Nat.reduceMul, Nat.reduceLeDiff, reduceCtorEq, reduceIte, ↓JK, cGo, JM, engP, prP, macP, nodupN, memN, eB, prO, pbB, fbB, rB, rvS, JE, eEnded, eAt, eStep, eState, inR, inN, hst]; rfl)); (try kernel_rfl); (try (focus (first | exact True.intro | ((try simp only [JS, implies_true, forall_const, shaped, shapedL, kndOf, inR, inN]); (repeat' (first | assumption | exact True.intro | omega | apply And.intro)); done))))) | fail)
        with_reducible apply At.begins hrec
        · rfl
        with_reducible refine At.code ?_
        repeat' (first | with_reducible (first | apply J1 | apply J3 | apply J4 | apply J5 | apply J6 | apply J7 | apply J8 | apply J9 | apply J10 | apply J11 | apply J12 | apply J13 | apply J14 | apply J15 | apply J16 | apply J17 | apply J18 | apply J19 | apply J20 | refine J2 ?_) | ((with_reducible apply J21); (· rfl)) | ((with_reducible intro hif); first | (focus (cases hif; done)) | (simp only [JH] at hif; try (exfalso; omega)) | (try (exfalso; omega))) | ((first | ((with_reducible apply J22 cGo_ok tab_ok); (· rfl)) | ((with_reducible apply J23 fol cGo_ok tab_ok); (· rfl)) | with_reducible apply J24); (· (simp only [push_cast, ↓JP, Nat.reduceAdd, Nat.reduceEqDiff, Nat.reduceLT, Nat.reduceMul, Nat.reduceLeDiff, reduceCtorEq, reduceIte, ↓JK, cGo, JM, engP, prP, macP, nodupN, memN, eB, prO, pbB, fbB, rB, rvS, JE, eEnded, eAt, eStep, eState, inR, inN, hst, hn190]; rfl)); (try kernel_rfl); (try (focus (first | exact True.intro | ((try simp only [JS, implies_true, forall_const, shaped, shapedL, kndOf, inR, inN]); (repeat' (first | assumption | exact True.intro | omega | apply And.intro)); done))))) | fail)
        with_reducible apply At.roundRet
        · first | rfl | (simp only [push_cast, ↓JP, Nat.reduceAdd, Nat.reduceEqDiff, Nat.reduceLT, Nat.reduceMul, Nat.reduceLeDiff, reduceCtorEq, reduceIte, ↓JK, noDefer, List.drop_zero, List.drop_succ_cons, cGo, JM, engP, prP, macP, nodupN, memN, eB, prO, pbB, fbB, rB, rvS, JE, eEnded, eAt, eStep, eState, inR, inN, hst]; done)
        apply hnext
        with_reducible apply At.runEnd cGo_ok tab_ok
        · rfl
        · rfl
        · rfl
        · simp only [push_cast, ↓JP, Nat.reduceAdd, Nat.reduceEqDiff, Nat.reduceLT, Nat.reduceMul, Nat.reduceLeDiff, reduceCtorEq, reduceIte, ↓JK, noDefer, List.drop_zero, List.drop_succ_cons, cGo, JM, engP, prP, macP, nodupN, memN, eB, prO, pbB, fbB, rB, rvS, JE, eEnded, eAt, eStep, eState, inR, inN, hst]; rfl
        · (focus (first | exact True.intro | ((try simp only [JS, implies_true, forall_const, shaped, shapedL, kndOf, inR, inN]); (repeat' (first | assumption | exact True.intro | omega | apply And.intro)); done)))
        repeat' (first | with_reducible (first | apply J1 | apply J3 | apply J4 | apply J5 | apply J6 | apply J7 | apply J8 | apply J9 | apply J10 | apply J11 | apply J12 | apply J13 | apply J14 | apply J15 | apply J16 | apply J17 | apply J18 | apply J19 | apply J20 | refine J2 ?_) | ((with_reducible apply J21); (· rfl)) | ((with_reducible intro hif); first | (focus (cases hif; done)) | (simp only [JH] at hif; try (exfalso; omega)) | (try (exfalso; omega))) | ((first | ((with_reducible apply J22 cGo_ok tab_ok); (· rfl)) | ((with_reducible apply J23 fol cGo_ok tab_ok); (· rfl)) | with_reducible apply J24); (· (simp only [push_cast, ↓JP, Nat.reduceAdd, Nat.reduceEqDiff, Nat.reduceLT, Nat.reduceMul, Nat.reduceLeDiff, reduceCtorEq, reduceIte, ↓JK, cGo, JM, engP, prP, macP, nodupN, memN, eB, prO, pbB, fbB, rB, rvS, JE, eEnded, eAt, eStep, eState, inR, inN, hst]; rfl)); (try kernel_rfl); (try (focus (first | exact True.intro | ((try simp only [JS, implies_true, forall_const, shaped, shapedL, kndOf, inR, inN]); (repeat' (first | assumption | exact True.intro | omega | apply And.intro)); done))))) | fail)
        with_reducible apply At.itRet .done
        · rfl
        · rfl
        · intro h; cases h
        apply haft
        intro w1 M1 D1 hA
        dsimp only
        rw [hb1, hb2]
        try rw [hl2]
        try rw [hb3]
        repeat' (first | with_reducible (first | apply J1 | apply J3 | apply J4 | apply J5 | apply J6 | apply J7 | apply J8 | apply J9 | apply J10 | apply J11 | apply J12 | apply J13 | apply J14 | apply J15 | apply J16 | apply J17 | apply J18 | apply J19 | apply J20 | refine J2 ?_) | ((with_reducible apply J21); (· rfl)) | ((with_reducible intro hif); first | (focus (cases hif; done)) | (simp only [JH] at hif; try (exfalso; omega)) | (try (exfalso; omega))) | ((first | ((with_reducible apply J22 cGo_ok tab_ok); (· rfl)) | ((with_reducible apply J23 fol cGo_ok tab_ok); (· rfl)) | with_reducible apply J24); (· (simp only [push_cast, ↓JP, Nat.reduceAdd, Nat.reduceEqDiff, Nat.reduceLT, Nat.reduceMul, Nat.reduceLeDiff, reduceCtorEq, reduceIte, ↓JK, cGo, JM, engP, prP, macP, nodupN, memN, eB, prO, pbB, fbB, rB, rvS, JE, eEnded, eAt, eStep, eState, inR, inN, hst]; rfl)); (try kernel_rfl); (try (focus (first | exact True.intro | ((try simp only [JS, implies_true, forall_const, shaped, shapedL, kndOf, inR, inN]); (repeat' (first | assumption | exact True.intro | omega | apply And.intro)); done))))) | fail)
        apply At.endsPick [0, 1, 2, 3, 4, 5, 6, 7, 8, 9, 18] tab_ok (fn := Try.f17) (rs := [.cell 4 4, .cell 5 46]) hA hro (Nat.le_of_ble_eq_true rfl) rfl
        · simp only [push_cast, ↓JP, Nat.reduceAdd, Nat.reduceEqDiff, Nat.reduceLT, Nat.reduceMul, Nat.reduceLeDiff, reduceCtorEq, reduceIte, ↓JK, resV, resV1]; rfl
        · (focus (first | exact True.intro | ((try simp only [JS, implies_true, forall_const, shaped, shapedL, kndOf]); (repeat' (first | assumption | exact True.intro | omega | apply And.intro)); done)))
        · rfl
        · rfl
        · rfl
        · (repeat' (first | exact trivial | exact .inl rfl | exact .inr (.same _) | exact .inr .loose | exact .inr (.arr (by assumption)) | apply And.intro))
        · rfl
        · (repeat' (first | exact trivial | exact rfl | assumption | apply Stable.ite | apply And.intro | intro _ | (simp only [Stable, StableL, i64S, prS, insS, sndsS, sndS, stS, evS, macS, mB, cB, sB, eB, prO, prR, pbB, fbB, rB, rvS, HB.stable]; done)))
        · (repeat' (first | exact trivial | exact .inl rfl | exact .inr rfl | exact rfl | apply And.intro))
        · exact fun β => rfl
        · (repeat' (first | exact trivial | exact rfl | assumption | apply Stable.ite | apply And.intro | intro _ | (simp only [Stable, StableL, i64S, prS, insS, sndsS, sndS, stS, evS, macS, mB, cB, sB, eB, prO, prR, pbB, fbB, rB, rvS, HB.stable]; done)))
    · have e0 : f.toNat - k = 0 := by omega
      have hkf2 : ¬ (k : Int) < f := by omega
      rw [e0, runA_zero rfl] at hr1
      subst hr1
      repeat' (first | with_reducible (first | apply J1 | apply J3 | apply J4 | apply J5 | apply J6 | apply J7 | apply J8 | apply J9 | apply J10 | apply J11 | apply J12 | apply J13 | apply J14 | apply J15 | apply J16 | apply J17 | apply J18 | apply J19 | apply J20 | refine J2 ?_) | ((with_reducible apply J21); (· rfl)) | ((with_reducible intro hif); first | (focus (cases hif; done)) | (simp only [JH] at hif; try (exfalso; omega)) | (try (exfalso; omega))) | ((first | ((with_reducible apply J22 cGo_ok tab_ok); (· rfl)) | ((with_reducible apply J23 fol cGo_ok tab_ok); (· rfl)) | with_reducible apply J24); (· (simp only [push_cast, ↓JP, Nat.reduceAdd, Nat.reduceEqDiff, Nat.reduceLT, Nat.reduceMul, Nat.reduceLeDiff, reduceCtorEq, reduceIte, ↓JK, cGo, JM, engP, prP, macP, nodupN, memN, eB, prO, pbB, fbB, rB, rvS, JE, eEnded, eAt, eStep, eState, inR, inN, hkf2]; rfl)); (try kernel_rfl); (try (focus (first | exact True.intro | ((try simp only [JS, implies_true, forall_const, shaped, shapedL, kndOf, inR, inN]); (repeat' (first | assumption | exact True.intro | omega | apply And.intro)); done))))) | fail)
      with_reducible apply WF.split 3 5
      · rfl
      with_reducible apply At.run cGo_ok tab_ok
      · rfl
      · rfl
      · rfl
      · simp only [push_cast, ↓JP, Nat.reduceAdd, Nat.reduceEqDiff, Nat.reduceLT, Nat.reduceMul, Nat.reduceLeDiff, reduceCtorEq, reduceIte, ↓JK, noDefer, List.drop_zero, List.drop_succ_cons, cGo, JM, engP, prP, macP, nodupN, memN, eB, prO, pbB, fbB, rB, rvS, JE, eEnded, eAt, eStep, eState, inR, inN]; rfl
      · (focus (first | exact True.intro | ((try simp only [JS, implies_true, forall_const, shaped, shapedL, kndOf, inR, inN]); (repeat' (first | assumption | exact True.intro | omega | apply And.intro)); done)))
      with_reducible apply At.yield (gr := _)
      · rfl
      · rfl
      · rfl
      · rfl
      · rfl
      · rfl
      · simp only [push_cast, ↓JP, Nat.reduceAdd, Nat.reduceEqDiff, Nat.reduceLT, Nat.reduceMul, Nat.reduceLeDiff, reduceCtorEq, reduceIte, ↓JK, noDefer, List.drop_zero, List.drop_succ_cons, cGo, JM, engP, prP, macP, nodupN, memN, eB, prO, pbB, fbB, rB, rvS, JE, eEnded, eAt, eStep, eState, inR, inN]; rfl
      · first | rfl | (simp only [push_cast, ↓JP, Nat.reduceAdd, Nat.reduceEqDiff, Nat.reduceLT, Nat.reduceMul, Nat.reduceLeDiff, reduceCtorEq, reduceIte, ↓JK, noDefer, List.drop_zero, List.drop_succ_cons, cGo, JM, engP, prP, macP, nodupN, memN, eB, prO, pbB, fbB, rB, rvS, JE, eEnded, eAt, eStep, eState, inR, inN]; done)
      · simp only [push_cast, ↓JP, Nat.reduceAdd, Nat.reduceEqDiff, Nat.reduceLT, Nat.reduceMul, Nat.reduceLeDiff, reduceCtorEq, reduceIte, ↓JK, noDefer, List.drop_zero, List.drop_succ_cons, cGo, JM, engP, prP, macP, nodupN, memN, eB, prO, pbB, fbB, rB, rvS, JE, eEnded, eAt, eStep, eState, inR, inN]; rfl
      · (focus (first | exact True.intro | ((try simp only [JS, implies_true, forall_const, shaped, shapedL, kndOf, inR, inN]); (repeat' (first | assumption | exact True.intro | omega | apply And.intro)); done)))
      · simp only [push_cast, ↓JP, Nat.reduceAdd, Nat.reduceEqDiff, Nat.reduceLT, Nat.reduceMul, Nat.reduceLeDiff, reduceCtorEq, reduceIte, ↓JK, noDefer, List.drop_zero, List.drop_succ_cons, cGo, JM, engP, prP, macP, nodupN, memN, eB, prO, pbB, fbB, rB, rvS, JE, eEnded, eAt, eStep, eState, inR, inN]; rfl
      · (focus (first | exact True.intro | ((try simp only [JS, implies_true, forall_const, shaped, shapedL, kndOf, inR, inN]); (repeat' (first | assumption | exact True.intro | omega | apply And.intro)); done)))
      · first | rfl | (simp only [push_cast, ↓JP, Nat.reduceAdd, Nat.reduceEqDiff, Nat.reduceLT, Nat.reduceMul, Nat.reduceLeDiff, reduceCtorEq, reduceIte, ↓JK, noDefer, List.drop_zero, List.drop_succ_cons, cGo, JM, engP, prP, macP, nodupN, memN, eB, prO, pbB, fbB, rB, rvS, JE, eEnded, eAt, eStep, eState, inR, inN]; done)
      · exact hrec
      · exact hcf
      · rfl
      · rfl
      · rfl
      intro lb E2 next hE2 hnext
      repeat' (first | with_reducible (first | apply J1 | apply J3 | apply J4 | apply J5 | apply J6 | apply J7 | apply J8 | apply J9 | apply J10 | apply J11 | apply J12 | apply J13 | apply J14 | apply J15 | apply J16 | apply J17 | apply J18 | apply J19 | apply J20 | refine J2 ?_) | ((with_reducible apply J21); (· rfl)) | ((with_reducible intro hif); first | (focus (cases hif; done)) | (simp only [JH] at hif; try (exfalso; omega)) | (try (exfalso; omega))) | ((first | ((with_reducible apply J22 cGo_ok tab_ok); (· rfl)) | ((with_reducible apply J23 fol cGo_ok tab_ok); (· rfl)) | with_reducible apply J24); (· (simp only [push_cast, ↓JP, Nat.reduceAdd, Nat.reduceEqDiff, Nat.reduceLT, Nat.reduceMul, Nat.reduceLeDiff, reduceCtorEq, reduceIte, ↓JK, cGo, JM, engP, prP, macP, nodupN, memN, eB, prO, pbB, fbB, rB, rvS, JE, eEnded, eAt, eStep, eState, inR, inN]; rfl)); (try kernel_rfl); (try (focus (first | exact True.intro | ((try simp only [JS, implies_true, forall_const, shaped, shapedL, kndOf, inR, inN]); (repeat' (first | assumption | exact True.intro | omega | apply And.intro)); done))))) | fail)
      with_reducible apply At.begins hrec
      · rfl
      with_reducible refine At.code ?_
      repeat' (first | with_reducible (first | apply J1 | apply J3 | apply J4 | apply J5 | apply J6 | apply J7 | apply J8 | apply J9 | apply J10 | apply J11 | apply J12 | apply J13 | apply J14 | apply J15 | apply J16 | apply J17 | apply J18 | apply J19 | apply J20 | refine J2 ?_) | ((with_reducible apply J21); (· rfl)) | ((with_reducible intro hif); first | (focus (cases hif; done)) | (simp only [JH] at hif; try (exfalso; omega)) | (try (exfalso; omega))) | ((first | ((with_reducible apply J22 cGo_ok tab_ok); (· rfl)) | ((with_reducible apply J23 fol cGo_ok tab_ok); (· rfl)) | with_reducible apply J24); (· (simp only [push_cast, ↓JP, Nat.reduceAdd, Nat.reduceEqDiff, Nat.reduceLT, Nat.reduceMul, Nat.reduceLeDiff, reduceCtorEq, reduceIte, ↓JK, cGo, JM, engP, prP, macP, nodupN, memN, eB, prO, pbB, fbB, rB, rvS, JE, eEnded, eAt, eStep, eState, inR, inN]; rfl)); (try kernel_rfl); (try (focus (first | exact True.intro | ((try simp only [JS, implies_true, forall_const, shaped, shapedL, kndOf, inR, inN]); (repeat' (first | assumption | exact True.intro | omega | apply And.intro)); done))))) | fail)
      with_reducible apply At.roundRet
      · first | rfl | (simp only [push_cast, ↓JP, Nat.reduceAdd, Nat.reduceEqDiff, Nat.reduceLT, Nat.reduceMul, Nat.reduceLeDiff, reduceCtorEq, reduceIte, ↓JK, noDefer, List.drop_zero, List.drop_succ_cons, cGo, JM, engP, prP, macP, nodupN, memN, eB, prO, pbB, fbB, rB, rvS, JE, eEnded, eAt, eStep, eState, inR, inN]; done)
      apply hnext
      with_reducible apply At.runEnd cGo_ok tab_ok
      · rfl
      · rfl
      · rfl
      · simp only [push_cast, ↓JP, Nat.reduceAdd, Nat.reduceEqDiff, Nat.reduceLT, Nat.reduceMul, Nat.reduceLeDiff, reduceCtorEq, reduceIte, ↓JK, noDefer, List.drop_zero, List.drop_succ_cons, cGo, JM, engP, prP, macP, nodupN, memN, eB, prO, pbB, fbB, rB, rvS, JE, eEnded, eAt, eStep, eState, inR, inN]; rfl
      · (focus (first | exact True.intro | ((try simp only [JS, implies_true, forall_const, shaped, shapedL, kndOf, inR, inN]); (repeat' (first | assumption | exact True.intro | omega | apply And.intro)); done)))
      repeat' (first | with_reducible (first | apply J1 | apply J3 | apply J4 | apply J5 | apply J6 | apply J7 | apply J8 | apply J9 | apply J10 | apply J11 | apply J12 | apply J13 | apply J14 | apply J15 | apply J16 | apply J17 | apply J18 | apply J19 | apply J20 | refine J2 ?_) | ((with_reducible apply J21); (· rfl)) | ((with_reducible intro hif); first | (focus (cases hif; done)) | (simp only [JH] at hif; try (exfalso; omega)) | (try (exfalso; omega))) | ((first | ((with_reducible apply J22 cGo_ok tab_ok); (· rfl)) | ((with_reducible apply J23 fol cGo_ok tab_ok); (· rfl)) | with_reducible apply J24); (· (simp only [push_cast, ↓JP, Nat.reduceAdd, Nat.reduceEqDiff, Nat.reduceLT, Nat.reduceMul, Nat.reduceLeDiff, reduceCtorEq, reduceIte, ↓JK, cGo, JM, engP, prP, macP, nodupN, memN, eB, prO, pbB, fbB, rB, rvS, JE, eEnded, eAt, eStep, eState, inR, inN]; rfl)); (try kernel_rfl); (try (focus (first | exact True.intro | ((try simp only [JS, implies_true, forall_const, shaped, shapedL, kndOf, inR, inN]); (repeat' (first | assumption | exact True.intro | omega | apply And.intro)); done))))) | fail)
      with_reducible apply At.itRet .done
      · rfl
      · rfl
      · intro h; cases h
      apply haft
      intro w1 M1 D1 hA
      dsimp only
      try rw [hl]
      repeat' (first | with_reducible (first | apply J1 | apply J3 | apply J4 | apply J5 | apply J6 | apply J7 | apply J8 | apply J9 | apply J10 | apply J11 | apply J12 | apply J13 | apply J14 | apply J15 | apply J16 | apply J17 | apply J18 | apply J19 | apply J20 | refine J2 ?_) | ((with_reducible apply J21); (· rfl)) | ((with_reducible intro hif); first | (focus (cases hif; done)) | (simp only [JH] at hif; try (exfalso; omega)) | (try (exfalso; omega))) | ((first | ((with_reducible apply J22 cGo_ok tab_ok); (· rfl)) | ((with_reducible apply J23 fol cGo_ok tab_ok); (· rfl)) | with_reducible apply J24); (· (simp only [push_cast, ↓JP, Nat.reduceAdd, Nat.reduceEqDiff, Nat.reduceLT, Nat.reduceMul, Nat.reduceLeDiff, reduceCtorEq, reduceIte, ↓JK, cGo, JM, engP, prP, macP, nodupN, memN, eB, prO, pbB, fbB, rB, rvS, JE, eEnded, eAt, eStep, eState, inR, inN]; rfl)); (try kernel_rfl); (try (focus (first | exact True.intro | ((try simp only [JS, implies_true, forall_const, shaped, shapedL, kndOf, inR, inN]); (repeat' (first | assumption | exact True.intro | omega | apply And.intro)); done))))) | fail)
      apply At.endsPick [0, 1, 2, 3, 4, 5, 6, 7, 8, 9, 17] tab_ok (fn := Try.f17) (rs := [.cell 4 4, .cell 5 46]) hA hro (Nat.le_of_ble_eq_true rfl) rfl
      · simp only [push_cast, ↓JP, Nat.reduceAdd, Nat.reduceEqDiff, Nat.reduceLT, Nat.reduceMul, Nat.reduceLeDiff, reduceCtorEq, reduceIte, ↓JK, resV, resV1]; rfl
      · (focus (first | exact True.intro | ((try simp only [JS, implies_true, forall_const, shaped, shapedL, kndOf]); (repeat' (first | assumption | exact True.intro | omega | apply And.intro)); done)))
      · rfl
      · rfl
      · rfl
      · (repeat' (first | exact trivial | exact .inl rfl | exact .inr (.same _) | exact .inr .loose | exact .inr (.arr (by assumption)) | apply And.intro))
      · rfl
      · (repeat' (first | exact trivial | exact rfl | assumption | apply Stable.ite | apply And.intro | intro _ | (simp only [Stable, StableL, i64S, prS, insS, sndsS, sndS, stS, evS, macS, mB, cB, sB, eB, prO, prR, pbB, fbB, rB, rvS, HB.stable]; done)))
      · (repeat' (first | exact trivial | exact .inl rfl | exact .inr rfl | exact rfl | apply And.intro))
      · exact fun β => rfl
      · (repeat' (first | exact trivial | exact rfl | assumption | apply Stable.ite | apply And.intro | intro _ | (simp only [Stable, StableL, i64S, prS, insS, sndsS, sndS, stS, evS, macS, mB, cB, sB, eB, prO, prR, pbB, fbB, rB, rvS, HB.stable]; done)))
  · rw [runA_end rfl] at hr1
    subst hr1
    repeat' (first | with_reducible (first | apply J1 | apply J3 | apply J4 | apply J5 | apply J6 | apply J7 | apply J8 | apply J9 | apply J10 | apply J11 | apply J12 | apply J13 | apply J14 | apply J15 | apply J16 | apply J17 | apply J18 | apply J19 | apply J20 | refine J2 ?_) | ((with_reducible apply J21); (· rfl)) | ((with_reducible intro hif); first | (focus (cases hif; done)) | (simp only [JH] at hif; try (exfalso; omega)) | (try (exfalso; omega))) | ((first | ((with_reducible apply J22 cGo_ok tab_ok); (· rfl)) | ((with_reducible apply J23 fol cGo_ok tab_ok); (· rfl)) | with_reducible apply J24); (· (simp only [push_cast, ↓JP, Nat.reduceAdd, Nat.reduceEqDiff, Nat.reduceLT, Nat.reduceMul, Nat.reduceLeDiff, reduceCtorEq, reduceIte, ↓JK, cGo, JM, engP, prP, macP, nodupN, memN, eB, prO, pbB, fbB, rB, rvS, JE, eEnded, eAt, eStep, eState, inR, inN]; rfl)); (try kernel_rfl); (try (focus (first | exact True.intro | ((try simp only [JS, implies_true, forall_const, shaped, shapedL, kndOf, inR, inN]); (repeat' (first | assumption | exact True.intro | omega | apply And.intro)); done))))) | fail)
    with_reducible apply At.itNormal .ready
    · rfl
    · rfl
    · intro h; cases h
    apply haft
    intro w1 M1 D1 hA
    dsimp only
    try rw [hl]
    repeat' (first | with_reducible (first | apply J1 | apply J3 | apply J4 | apply J5 | apply J6 | apply J7 | apply J8 | apply J9 | apply J10 | apply J11 | apply J12 | apply J13 | apply J14 | apply J15 | apply J16 | apply J17 | apply J18 | apply J19 | apply J20 | refine J2 ?_) | ((with_reducible apply J21); (· rfl)) | ((with_reducible intro hif); first | (focus (cases hif; done)) | (simp only [JH] at hif; try (exfalso; omega)) | (try (exfalso; omega))) | ((first | ((with_reducible apply J22 cGo_ok tab_ok); (· rfl)) | ((with_reducible apply J23 fol cGo_ok tab_ok); (· rfl)) | with_reducible apply J24); (· (simp only [push_cast, ↓JP, Nat.reduceAdd, Nat.reduceEqDiff, Nat.reduceLT, Nat.reduceMul, Nat.reduceLeDiff, reduceCtorEq, reduceIte, ↓JK, cGo, JM, engP, prP, macP, nodupN, memN, eB, prO, pbB, fbB, rB, rvS, JE, eEnded, eAt, eStep, eState, inR, inN]; rfl)); (try kernel_rfl); (try (focus (first | exact True.intro | ((try simp only [JS, implies_true, forall_const, shaped, shapedL, kndOf, inR, inN]); (repeat' (first | assumption | exact True.intro | omega | apply And.intro)); done))))) | fail)
    apply At.endsPick [0, 1, 2, 3, 4, 5, 6, 7, 8, 9, 17] tab_ok (fn := Try.f17) (rs := [.cell 4 4, .cell 5 46]) hA hro (Nat.le_of_ble_eq_true rfl) rfl
    · simp only [push_cast, ↓JP, Nat.reduceAdd, Nat.reduceEqDiff, Nat.reduceLT, Nat.reduceMul, Nat.reduceLeDiff, reduceCtorEq, reduceIte, ↓JK, resV, resV1]; rfl
    · (focus (first | exact True.intro | ((try simp only [JS, implies_true, forall_const, shaped, shapedL, kndOf]); (repeat' (first | assumption | exact True.intro | omega | apply And.intro)); done)))
    · rfl
    · rfl
    · rfl
    · (repeat' (first | exact trivial | exact .inl rfl | exact .inr (.same _) | exact .inr .loose | exact .inr (.arr (by assumption)) | apply And.intro))
    · rfl
    · (repeat' (first | exact trivial | exact rfl | assumption | apply Stable.ite | apply And.intro | intro _ | (simp only [Stable, StableL, i64S, prS, insS, sndsS, sndS, stS, evS, macS, mB, cB, sB, eB, prO, prR, pbB, fbB, rB, rvS, HB.stable]; done)))
    · (repeat' (first | exact trivial | exact .inl rfl | exact .inr rfl | exact rfl | apply And.intro))
    · exact fun β => rfl
    · (repeat' (first | exact trivial | exact rfl | assumption | apply Stable.ite | apply And.intro | intro _ | (simp only [Stable, StableL, i64S, prS, insS, sndsS, sndS, stS, evS, macS, mB, cB, sB, eB, prO, prR, pbB, fbB, rB, rvS, HB.stable]; done)))
end Go.Proofs.Ytjliakjbdcplcaa.Vm
end

section
/- A runner's functions, as calls. (printed by gen_rn14.py) -/
namespace Go.Proofs.Ytjliakjbdcplcaa.Vm
open Go.RowKit
set_option linter.unusedVariables false
set_option linter.unusedSimpArgs false
set_option maxRecDepth 100000
set_option maxHeartbeats 4000000
def cBk : FuncId → Option Spec := look2 [(46, rN), (44, sBgG)]
theorem cBk_ok : ∀ f S, cBk f = some S → CallOk Try.prog f S := allOk_spec ⟨rN_ok, sBgG_ok, trivial⟩
theorem back_lit (P : List Ins) (v : Evi) (s : Sta) (u : Nat) (w : Bool) (hs : s.sends = []) (hP : ∀ x ∈ P, x.ok) (hn : P.length ≤ 1000000) (hc : s.cells.length ≤ 1000000) (hE : openE P v s = 0) : LitOk Try.prog 22 [.ptr 1 []] [.gone, rB 2 3 4 5 u w, .gone, clA 6 P.length, clB v, clC s 7, prO P, cB s]
    (.int .i64 0) [.gone, rB 8 3 4 5 0 false, .gone, clA 6 P.length, clB v, clC s 7, prO P, cB s, eB 9 12 P.length, mB s v Ins0 10 11, cB s, sB s, prO P] := by
  obtain ⟨a0, e0, rg, cs, d, n0⟩ := s
  dsimp only at hs hc
  subst hs
  refine litOkM (fn := Try.f22) 8 26 0 rfl rfl rfl rfl rfl (by simp only [StableL, Stable, hp, i64S, prS, insS, sndsS, sndS, stS, evS, macS, mB, cB, sB, eB, prO, prR, pbB, fbB, rB, rvS, clA, clB, clC, fsS, HB.stable]; simp [HB.born, rB, rvS, clA, clB, clC, prO, cB]) rfl fun w0 M E hro => ?_
  repeat' (first | with_reducible (first | apply J1 | apply J3 | apply J4 | apply J5 | apply J6 | apply J7 | apply J8 | apply J9 | apply J10 | apply J11 | apply J12 | apply J13 | apply J14 | apply J15 | apply J16 | apply J17 | apply J18 | apply J19 | apply J20 | refine J2 ?_) | ((with_reducible apply J21); (· rfl)) | ((with_reducible intro hif); first | (focus (cases hif; done)) | (simp only [JH] at hif; try (exfalso; omega)) | (try (exfalso; omega))) | ((first | ((with_reducible apply J22 cBk_ok tab_ok); (· rfl)) | ((with_reducible apply J23 fol cBk_ok tab_ok); (· rfl)) | with_reducible apply J24); (· (simp only [push_cast, ↓JP, Nat.reduceAdd, Nat.reduceEqDiff, Nat.reduceLT, Nat.reduceMul, Nat.reduceLeDiff, reduceCtorEq, reduceIte, ↓JK, JM, JE, JB, cBk, rB, rvS, clA, clB, clC, fsS, prO, rN, sBgG, clP, prP, nodupN, memN, inR, inN]; rfl)); (try kernel_rfl); (try (focus (first | exact True.intro | ((try simp only [JS, implies_true, forall_const, shaped, shapedL, kndOf, inR, inN]); (first | first | omega | exact ⟨hP, hn, hc, hE⟩ | (repeat' (first | assumption | exact True.intro | omega | apply And.intro))); done))))) | fail)
  apply At.endsPick [0, 1, 2, 3, 4, 5, 6, 7, 8, 9, 10, 11, 12] tab_ok (fn := Try.f22) (rs := [.tmp 2]) Anc.refl hro (Nat.le_of_ble_eq_true rfl) rfl
  · simp only [push_cast, ↓JP, Nat.reduceAdd, Nat.reduceEqDiff, Nat.reduceLT, Nat.reduceMul, Nat.reduceLeDiff, reduceCtorEq, reduceIte, ↓JK, resV, resV1]; rfl
  · (focus (first | exact True.intro | ((try simp only [JS, implies_true, forall_const, shaped, shapedL, kndOf]); (repeat' (first | assumption | exact True.intro | omega | apply And.intro)); done)))
  · rfl
  · rfl
  · rfl
  · (repeat' (first | exact trivial | exact .inl rfl | exact .inr (.same _) | exact .inr .loose | exact .inr (.arr (by assumption)) | apply And.intro))
  · rfl
  · (repeat' (first | exact trivial | exact rfl | assumption | apply Stable.ite | apply And.intro | intro _ | (simp only [Stable, StableL, i64S, prS, insS, sndsS, sndS, stS, evS, macS, mB, cB, sB, eB, prO, prR, pbB, fbB, rB, rvS, clA, clB, clC, fsS, HB.stable]; done)))
  · (repeat' (first | exact trivial | exact .inl rfl | exact .inr rfl | exact rfl | apply And.intro))
  · exact fun β => rfl
  · (repeat' (first | exact trivial | exact rfl | assumption | apply Stable.ite | apply And.intro | intro _ | (simp only [Stable, StableL, i64S, prS, insS, sndsS, sndS, stS, evS, macS, mB, cB, sB, eB, prO, prR, pbB, fbB, rB, rvS, clA, clB, clC, fsS, HB.stable]; done)))
def sNewG : Spec := fun args h m => match args with
  | [v1, .agg [v2, v3, v4, v5, v6], .agg [.agg [v7, v8, v9], v10, v11], v12, v13] => match srcV h 5 (.tup []) v1, srcV h 1 (.tup []) v12 with
    | some (c1, n1, f1, r1), some (c12, n12, f12, r12) => bif isI .u64 v2 && isI .i64 v3 && isI .i64 v4 && isI .i64 v5 && isI .i64 v6 && isI .i64 v7 && isI .i64 v8 && isI .i64 v9 && isI .i64 v10 && isI .i64 v11 && isI .i64 v13 then some (c1 ∧ c12 ∧ (∀ q, q < n1 → isIns (f1 q) = true) ∧ (∀ q, q < n12 → isI .i64 (f12 q) = true) ∧ ((∀ x ∈ (ls insOf n1 f1), x.ok)) ∧ (n1 ≤ 1000000) ∧ (n12 ≤ 1000000) ∧ (openE (ls insOf n1 f1) ⟨(iOf v2), (iOf v3), (iOf v4), (iOf v5), (iOf v6)⟩ (begS (iOf v11) (iOf v7) (iOf v8) (ls iOf n12 f12) (iOf v13)) = 0), .tup [.ptr m [], .int .i64 0], r1 ++ r12, [(m, rB (m + 1) (m + 6) (m + 7) (m + 8) 0 false), (m + 1, eB (m + 2) (m + 5) (ls insOf n1 f1).length), (m + 2, mB (begS (iOf v11) (iOf v7) (iOf v8) (ls iOf n12 f12) (iOf v13)) ⟨(iOf v2), (iOf v3), (iOf v4), (iOf v5), (iOf v6)⟩ Ins0 (m + 3) (m + 4)), (m + 3, cB (begS (iOf v11) (iOf v7) (iOf v8) (ls iOf n12 f12) (iOf v13))), (m + 4, sB (begS (iOf v11) (iOf v7) (iOf v8) (ls iOf n12 f12) (iOf v13))), (m + 5, prO (ls insOf n1 f1)), (m + 6, clA (m + 9) (ls insOf n1 f1).length), (m + 7, clB ⟨(iOf v2), (iOf v3), (iOf v4), (iOf v5), (iOf v6)⟩), (m + 8, clC (begS (iOf v11) (iOf v7) (iOf v8) (ls iOf n12 f12) (iOf v13)) (m + 10)), (m + 9, prO (ls insOf n1 f1)), (m + 10, cB (begS (iOf v11) (iOf v7) (iOf v8) (ls iOf n12 f12) (iOf v13)))]) else none
    | _, _ => none
  | _ => none
theorem sNewG_ok : CallOk Try.prog 16 sNewG := by
  refine ⟨named_spec (by kernel_rfl), fun args h m c v rd wr hs hm hc w0 M β h' w R hrd hwr hst => ?_⟩
  unfold sNewG at hs
  split at hs
  · rename_i v1 v2 v3 v4 v5 v6 v7 v8 v9 v10 v11 v12 v13
    split at hs
    · rename_i c1 n1 f1 r1 c12 n12 f12 r12 a1 a12
      obtain ⟨hb, hs⟩ := bif_some hs
      simp only [Option.some.injEq, Prod.mk.injEq] at hs
      obtain ⟨rfl, rfl, rfl, rfl⟩ := hs
      simp only [Bool.and_eq_true] at hb
      obtain ⟨⟨⟨⟨⟨⟨⟨⟨⟨⟨b2, b3⟩, b4⟩, b5⟩, b6⟩, b7⟩, b8⟩, b9⟩, b10⟩, b11⟩, b13⟩ := hb
      obtain ⟨k1, k12, g1, g12, y1, y2, y3, y4⟩ := hc
      obtain ⟨A1, p1, d1, e1, t1⟩ := reads_src R a1 k1 (fun i hi => hrd i (List.mem_append_left _ hi)) (by omega)
      obtain ⟨A12, p12, d12, e12, t12⟩ := reads_src R a12 k12 (fun i hi => hrd i (List.mem_append_right _ hi)) (by omega)
      refine callRo (views := [⟨5, (ls insOf n1 f1).length, prS (ls insOf n1 f1), A1, p1⟩, ⟨1, (ls iOf n12 f12).length, i64S (ls iOf n12 f12), A12, p12⟩]) (new_good (ls insOf n1 f1) ⟨(iOf v2), (iOf v3), (iOf v4), (iOf v5), (iOf v6)⟩ (iOf v7) (iOf v8) (iOf v9) (iOf v10) (iOf v11) (iOf v13) (ls iOf n12 f12) p1 p12 y1 (by rw [ls_length]; exact y2) (by rw [ls_length]; exact y3) y4) ?_ R hm hwr ?_ ?_ ?_
      · intro x hx
        simp only [List.mem_cons, List.not_mem_nil, or_false] at hx
        rcases hx with rfl | rfl
        · exact viewIns t1 e1 g1
        · exact viewI64 t12 e12 g12
      · intro β1 hv
        simp only [Vd, ls_length, and_true] at hv
        obtain ⟨z1, z12⟩ := hv
        simp only [denL, aggDen, intDen, natDen, boolDen, ls_length, z1, z12, d1, d12, isI_den b2, isI_den b3, isI_den b4, isI_den b5, isI_den b6, isI_den b7, isI_den b8, isI_den b9, isI_den b10, isI_den b11, isI_den b13]
      · (repeat' (first | exact trivial | exact rfl | assumption | apply Stable.ite | apply And.intro | intro _ | (simp only [Stable, StableL, i64S, prS, insS, sndsS, sndS, stS, evS, macS, mB, cB, sB, eB, prO, prR, pbB, fbB, rB, rvS, clA, clB, clC, fsS, HB.stable]; done)))
      · (repeat' (first | exact trivial | exact rfl | assumption | apply Stable.ite | apply And.intro | intro _ | (simp only [Stable, StableL, i64S, prS, insS, sndsS, sndS, stS, evS, macS, mB, cB, sB, eB, prO, prR, pbB, fbB, rB, rvS, clA, clB, clC, fsS, HB.stable]; done)))
    · cases hs
  · cases hs
def sNewB : Spec := fun args h m => match args with
  | [v1, .agg [v2, v3, v4, v5, v6], .agg [.agg [v7, v8, v9], v10, v11], v12, v13] => match srcV h 5 (.tup []) v1, srcV h 1 (.tup []) v12 with
    | some (c1, n1, f1, r1), some (c12, n12, f12, r12) => bif isI .u64 v2 && isI .i64 v3 && isI .i64 v4 && isI .i64 v5 && isI .i64 v6 && isI .i64 v7 && isI .i64 v8 && isI .i64 v9 && isI .i64 v10 && isI .i64 v11 && isI .i64 v13 then some (c1 ∧ c12 ∧ (∀ q, q < n1 → isIns (f1 q) = true) ∧ (∀ q, q < n12 → isI .i64 (f12 q) = true) ∧ ((∀ x ∈ (ls insOf n1 f1), x.ok)) ∧ (n1 ≤ 1000000) ∧ (n12 ≤ 1000000) ∧ (openE (ls insOf n1 f1) ⟨(iOf v2), (iOf v3), (iOf v4), (iOf v5), (iOf v6)⟩ (begS (iOf v11) (iOf v7) (iOf v8) (ls iOf n12 f12) (iOf v13)) ≠ 0), .tup [.nilp, .int .i64 (openE (ls insOf n1 f1) ⟨(iOf v2), (iOf v3), (iOf v4), (iOf v5), (iOf v6)⟩ (begS (iOf v11) (iOf v7) (iOf v8) (ls iOf n12 f12) (iOf v13)))], r1 ++ r12, []) else none
    | _, _ => none
  | _ => none
theorem sNewB_ok : CallOk Try.prog 16 sNewB := by
  refine ⟨named_spec (by kernel_rfl), fun args h m c v rd wr hs hm hc w0 M β h' w R hrd hwr hst => ?_⟩
  unfold sNewB at hs
  split at hs
  · rename_i v1 v2 v3 v4 v5 v6 v7 v8 v9 v10 v11 v12 v13
    split at hs
    · rename_i c1 n1 f1 r1 c12 n12 f12 r12 a1 a12
      obtain ⟨hb, hs⟩ := bif_some hs
      simp only [Option.some.injEq, Prod.mk.injEq] at hs
      obtain ⟨rfl, rfl, rfl, rfl⟩ := hs
      simp only [Bool.and_eq_true] at hb
      obtain ⟨⟨⟨⟨⟨⟨⟨⟨⟨⟨b2, b3⟩, b4⟩, b5⟩, b6⟩, b7⟩, b8⟩, b9⟩, b10⟩, b11⟩, b13⟩ := hb
      obtain ⟨k1, k12, g1, g12, y1, y2, y3, y4⟩ := hc
      obtain ⟨A1, p1, d1, e1, t1⟩ := reads_src R a1 k1 (fun i hi => hrd i (List.mem_append_left _ hi)) (by omega)
      obtain ⟨A12, p12, d12, e12, t12⟩ := reads_src R a12 k12 (fun i hi => hrd i (List.mem_append_right _ hi)) (by omega)
      refine callRo (views := [⟨5, (ls insOf n1 f1).length, prS (ls insOf n1 f1), A1, p1⟩, ⟨1, (ls iOf n12 f12).length, i64S (ls iOf n12 f12), A12, p12⟩]) (new_bad (ls insOf n1 f1) ⟨(iOf v2), (iOf v3), (iOf v4), (iOf v5), (iOf v6)⟩ (iOf v7) (iOf v8) (iOf v9) (iOf v10) (iOf v11) (iOf v13) (ls iOf n12 f12) p1 p12 y1 (by rw [ls_length]; exact y2) (by rw [ls_length]; exact y3) y4) ?_ R hm hwr ?_ ?_ ?_
      · intro x hx
        simp only [List.mem_cons, List.not_mem_nil, or_false] at hx
        rcases hx with rfl | rfl
        · exact viewIns t1 e1 g1
        · exact viewI64 t12 e12 g12
      · intro β1 hv
        simp only [Vd, ls_length, and_true] at hv
        obtain ⟨z1, z12⟩ := hv
        simp only [denL, aggDen, intDen, natDen, boolDen, ls_length, z1, z12, d1, d12, isI_den b2, isI_den b3, isI_den b4, isI_den b5, isI_den b6, isI_den b7, isI_den b8, isI_den b9, isI_den b10, isI_den b11, isI_den b13]
      · (repeat' (first | exact trivial | exact rfl | assumption | apply Stable.ite | apply And.intro | intro _ | (simp only [Stable, StableL, i64S, prS, insS, sndsS, sndS, stS, evS, macS, mB, cB, sB, eB, prO, prR, pbB, fbB, rB, rvS, clA, clB, clC, fsS, HB.stable]; done)))
      · (repeat' (first | exact trivial | exact rfl | assumption | apply Stable.ite | apply And.intro | intro _ | (simp only [Stable, StableL, i64S, prS, insS, sndsS, sndS, stS, evS, macS, mB, cB, sB, eB, prO, prR, pbB, fbB, rB, rvS, clA, clB, clC, fsS, HB.stable]; done)))
    · cases hs
  · cases hs
theorem litNat {f : FuncId} {a : SV} {k : IntKind} {n : Nat} {L0 L1 : List HB} {v : SV} (H : LitOk Try.prog f [a, .int k n] L0 v L1) : LitOk Try.prog f [a, .nat k n] L0 v L1 := fun w0 M β w R => H w0 M β w R
/-- a runner in memory, with its engine -/
def runP (h : HM) (r : Nat) : Option (Nat × Bool × (Sta × Evi × Ins × List Ins) × (Nat × Nat × Nat × Nat × Nat) × (Nat × Nat × Nat) × Prop) := match h r with
  | .own t (.agg [.ptr e [], .fn fi [.ptr a [], .ptr b [], .ptr c []], .nat .i64 u, .bool w]) true => match engP h e with
    | some (s, v, x, P, (g, c1, k, i), ok) => bif Nat.beq t 125 && Nat.beq fi 44 && nodupN [0, r, e, g, c1, k, i, a, b, c] && ((h a).born && (h b).born && (h c).born) then some (u, w, (s, v, x, P), (e, g, c1, k, i), (a, b, c), ok) else none
    | none => none
  | _ => none
theorem runP_val {h : HM} {r u : Nat} {w : Bool} {s : Sta} {v : Evi} {x : Ins} {P : List Ins} {e g c1 k i a b c : Nat} {ok : Prop} (hp : runP h r = some (u, w, (s, v, x, P), (e, g, c1, k, i), (a, b, c), ok)) :
    h r = rB e a b c u w ∧ engP h e = some (s, v, x, P, (g, c1, k, i), ok) ∧ nodupN [0, r, e, g, c1, k, i, a, b, c] = true ∧ (h a).born = true ∧ (h b).born = true ∧ (h c).born = true := by
  unfold runP at hp
  split at hp
  · rename_i t e fi a b c u w hr
    split at hp
    · rename_i s v x P g c1 k i ok he
      obtain ⟨hb, hs⟩ := bif_some hp
      simp only [Option.some.injEq, Prod.mk.injEq] at hs
      obtain ⟨rfl, rfl, ⟨rfl, rfl, rfl, rfl⟩, ⟨rfl, rfl, rfl, rfl, rfl⟩, ⟨rfl, rfl, rfl⟩, rfl⟩ := hs
      simp only [Bool.and_eq_true] at hb
      obtain ⟨⟨⟨b1, b2⟩, hnd⟩, ⟨b4, b5⟩, b6⟩ := hb
      have b1 := Nat.eq_of_beq_eq_true b1
      have b2 := Nat.eq_of_beq_eq_true b2
      subst b1 b2
      exact ⟨hr, he, hnd, b4, b5, b6⟩
    · cases hp
  · cases hp
/-- what Go does to what is told -/
def goU (u : Nat) (w : Bool) (r : RR) : Nat := bif w then u else u + r.tr.length
def goW (w : Bool) (r : RR) : Bool := bif w then true else (decide (r.bad ≠ 0) && decide (r.bad ≠ 190))
def goV (r : RR) : SV := .tup [.bool (decide (r.bad = 0)), .int .i64 (if r.bad = 190 then 0 else r.bad)]
theorem go_lit (P : List Ins) (s : Sta) (v : Evi) (x0 : Ins) (u : Nat) (w : Bool) (f : Int) (hP : PG P) (V : VOk v) (hG : SG P s) (hu : u ≤ 4611686018427387904) (hf0 : 0 ≤ f) (hf1 : f ≤ 4096) (r : RR) (hr : runA P v f.toNat s x0 [] 0 = r) : LitOk Try.prog 17 [.ptr 1 [], .int .i64 f] [.gone, rB 2 7 8 9 u w, eB 3 6 P.length, mB s v x0 4 5, cB s, sB s, prO P, .gone, .gone, .gone]
    (goV r) [.gone, rB 2 7 8 9 (goU u w r) (goW w r), eB 3 6 P.length, mB r.s v r.x 4 10, cB r.s, .gone, prO P, .gone, .gone, .gone, sB r.s] := by
  cases w
  · exact goF_lit P s v x0 u f hP V hG hu hf0 hf1 r hr
  · exact goT_lit P s v x0 u f hP V hG hu hf0 hf1 r hr
def rGoQ (r : Nat) (f : Int) (h : HM) (m : Nat) : Option (Prop × SV × List Nat × List (Nat × HB)) := match runP h r with
  | some (u, w, (s, v, x, P), (e, g, c1, k, i), (a, b, c), ok) => some (ok ∧ PG P ∧ VOk v ∧ SG P s ∧ u ≤ 4611686018427387904 ∧ 0 ≤ f ∧ f ≤ 4096, goV (runA P v f.toNat s x [] 0), [r, e, g, c1, k, i, a, b, c], [(r, rB e a b c (goU u w (runA P v f.toNat s x [] 0)) (goW w (runA P v f.toNat s x [] 0))), (e, eB g i P.length), (g, mB (runA P v f.toNat s x [] 0).s v (runA P v f.toNat s x [] 0).x c1 m), (c1, cB (runA P v f.toNat s x [] 0).s), (k, .gone), (i, prO P), (m, sB (runA P v f.toNat s x [] 0).s)])
  | none => none
def rGo : Spec := fun args h m => match args with
  | [.ptr r [], .int .i64 f] => rGoQ r f h m
  | [.ptr r [], .nat .i64 n] => rGoQ r n h m
  | _ => none
theorem rGo_ok : CallOk Try.prog 17 rGo := by
  refine ⟨named_spec (by kernel_rfl), fun args h m c v rd wr hs hm hc w0 M β h' w R hrd hwr hst => ?_⟩
  unfold rGo at hs
  split at hs
  · rename_i r f
    unfold rGoQ at hs
    split at hs
    · rename_i u w s v x P e g c1 k i a b c ok hrp
      simp only [Option.some.injEq, Prod.mk.injEq] at hs
      obtain ⟨rfl, rfl, rfl, rfl⟩ := hs
      obtain ⟨hr, hep, hnd, ba, bb, bc⟩ := runP_val hrp
      obtain ⟨ok1, ok2, rfl, hmp, hpp, he, _⟩ := engP_val hep
      obtain ⟨⟨hok, hok2⟩, hP, hV, hG, hu, hf0, hf1⟩ := hc
      have er := hrd r (by simp)
      have ee := hrd e (by simp)
      have eg := hrd g (by simp)
      have ec := hrd c1 (by simp)
      have ek := hrd k (by simp)
      have ei := hrd i (by simp)
      exact bun_ok (h := h) (m := m) [0, r, e, g, c1, k, i, a, b, c] (go_lit P s v x u w f hP hV hG hu hf0 hf1 _ rfl) R rfl (by simp) rfl rfl hnd
        ⟨Fit.gone (by rw [R.nil0]; rfl), bun_run hr er rfl rfl rfl rfl, bun_engO he ee rfl rfl, bun_mac hmp hok eg rfl rfl, bun_cel hmp hok ec, bun_snd hmp hok ek, bun_prO hpp hok2 ei, Fit.gone (by rw [hrd a (by simp)]; exact ba), Fit.gone (by rw [hrd b (by simp)]; exact bb), Fit.gone (by rw [hrd c (by simp)]; exact bc), trivial⟩ hm
        (fun p hp => by
          simp only [newB, List.drop, List.length_cons, List.length_nil, List.mem_cons, List.not_mem_nil, or_false] at hp
          subst hp
          exact hwr _ (.tail _ (.tail _ (.tail _ (.tail _ (.tail _ (.tail _ (.head _)))))))) (by simp) rfl
        ⟨trivial, rB_st rfl rfl rfl rfl, eB_st rfl rfl, mB_st rfl rfl, cB_st, sB_st, prO_st, trivial, trivial, trivial, trivial⟩ ⟨rfl, trivial, trivial⟩
        ⟨trivial, rB_st rfl rfl rfl rfl, eB_st rfl rfl, mB_st rfl rfl, cB_st, trivial, prO_st, trivial, trivial, trivial, sB_st, trivial⟩ (⟨trivial, trivial, trivial⟩) rfl rfl (by show [(r, (rB 2 7 8 9 _ _).ren _), (e, (eB 3 6 _).ren _), (g, (mB _ v _ 4 10).ren _), (c1, (cB _).ren _), (k, HB.gone.ren _), (i, (prO P).ren _), (m, (sB _).ren _)] = _; rw [rB_ren, eB_ren, mB_ren, cB_ren, sB_ren, prO_ren]; simp [rhoL, HB.ren])
    · cases hs
  · rename_i r f
    unfold rGoQ at hs
    split at hs
    · rename_i u w s v x P e g c1 k i a b c ok hrp
      simp only [Option.some.injEq, Prod.mk.injEq] at hs
      obtain ⟨rfl, rfl, rfl, rfl⟩ := hs
      obtain ⟨hr, hep, hnd, ba, bb, bc⟩ := runP_val hrp
      obtain ⟨ok1, ok2, rfl, hmp, hpp, he, _⟩ := engP_val hep
      obtain ⟨⟨hok, hok2⟩, hP, hV, hG, hu, hf0, hf1⟩ := hc
      have er := hrd r (by simp)
      have ee := hrd e (by simp)
      have eg := hrd g (by simp)
      have ec := hrd c1 (by simp)
      have ek := hrd k (by simp)
      have ei := hrd i (by simp)
      exact bun_ok (h := h) (m := m) [0, r, e, g, c1, k, i, a, b, c] (litNat (go_lit P s v x u w (f : Int) hP hV hG hu hf0 hf1 _ rfl)) R rfl (by simp) rfl rfl hnd
        ⟨Fit.gone (by rw [R.nil0]; rfl), bun_run hr er rfl rfl rfl rfl, bun_engO he ee rfl rfl, bun_mac hmp hok eg rfl rfl, bun_cel hmp hok ec, bun_snd hmp hok ek, bun_prO hpp hok2 ei, Fit.gone (by rw [hrd a (by simp)]; exact ba), Fit.gone (by rw [hrd b (by simp)]; exact bb), Fit.gone (by rw [hrd c (by simp)]; exact bc), trivial⟩ hm
        (fun p hp => by
          simp only [newB, List.drop, List.length_cons, List.length_nil, List.mem_cons, List.not_mem_nil, or_false] at hp
          subst hp
          exact hwr _ (.tail _ (.tail _ (.tail _ (.tail _ (.tail _ (.tail _ (.head _)))))))) (by simp) rfl
        ⟨trivial, rB_st rfl rfl rfl rfl, eB_st rfl rfl, mB_st rfl rfl, cB_st, sB_st, prO_st, trivial, trivial, trivial, trivial⟩ ⟨rfl, trivial, trivial⟩
        ⟨trivial, rB_st rfl rfl rfl rfl, eB_st rfl rfl, mB_st rfl rfl, cB_st, trivial, prO_st, trivial, trivial, trivial, sB_st, trivial⟩ (⟨trivial, trivial, trivial⟩) rfl rfl (by show [(r, (rB 2 7 8 9 _ _).ren _), (e, (eB 3 6 _).ren _), (g, (mB _ v _ 4 10).ren _), (c1, (cB _).ren _), (k, HB.gone.ren _), (i, (prO P).ren _), (m, (sB _).ren _)] = _; rw [rB_ren, eB_ren, mB_ren, cB_ren, sB_ren, prO_ren]; simp [rhoL, HB.ren])
    · cases hs
  · cases hs
def rStateQ (r : Nat) (f : Int) (h : HM) (m : Nat) : Option (Prop × SV × List Nat × List (Nat × HB)) := match runP h r with
  | some (u, w, (s, v, x, P), (e, g, c1, k, i), (a, b, c), ok) => some (ok ∧ s.cells.length ≤ 1000000 ∧ s.sends.length ≤ 1000000, stS s m (m + 1), [r, e, g, c1, k, i, a, b, c], [(r, rB e a b c u w), (e, eB g i P.length), (g, mB s v x c1 k), (c1, cB s), (k, sB s), (i, prO P), (m, cB s), (m + 1, sB s)])
  | none => none
def rState : Spec := fun args h m => match args with
  | [.ptr r []] => rStateQ r 0 h m
  | _ => none
theorem rState_ok : CallOk Try.prog 18 rState := by
  refine ⟨named_spec (by kernel_rfl), fun args h m c v rd wr hs hm hc w0 M β h' w R hrd hwr hst => ?_⟩
  unfold rState at hs
  split at hs
  · rename_i r
    unfold rStateQ at hs
    split at hs
    · rename_i u w s v x P e g c1 k i a b c ok hrp
      simp only [Option.some.injEq, Prod.mk.injEq] at hs
      obtain ⟨rfl, rfl, rfl, rfl⟩ := hs
      obtain ⟨hr, hep, hnd, ba, bb, bc⟩ := runP_val hrp
      obtain ⟨ok1, ok2, rfl, hmp, hpp, he, _⟩ := engP_val hep
      obtain ⟨⟨hok, hok2⟩, hc1, hs1⟩ := hc
      have er := hrd r (by simp)
      have ee := hrd e (by simp)
      have eg := hrd g (by simp)
      have ec := hrd c1 (by simp)
      have ek := hrd k (by simp)
      have ei := hrd i (by simp)
      exact bun_ok (h := h) (m := m) [0, r, e, g, c1, k, i, a, b, c] (rstate_lit P s v x u w hc1 hs1) R rfl (by simp) rfl rfl hnd
        ⟨Fit.gone (by rw [R.nil0]; rfl), bun_run hr er rfl rfl rfl rfl, bun_engO he ee rfl rfl, bun_mac hmp hok eg rfl rfl, bun_cel hmp hok ec, bun_snd hmp hok ek, bun_prO hpp hok2 ei, Fit.gone (by rw [hrd a (by simp)]; exact ba), Fit.gone (by rw [hrd b (by simp)]; exact bb), Fit.gone (by rw [hrd c (by simp)]; exact bc), trivial⟩ hm
        (fun p hp => by
          simp only [newB, List.drop, List.length_cons, List.length_nil, List.mem_cons, List.not_mem_nil, or_false] at hp
          rcases hp with rfl | rfl
          · exact hwr (m, cB s) (by simp)
          · exact hwr (m + 1, sB s) (by simp)) (by simp) rfl
        ⟨trivial, rB_st rfl rfl rfl rfl, eB_st rfl rfl, mB_st rfl rfl, cB_st, sB_st, prO_st, trivial, trivial, trivial, trivial⟩ ⟨rfl, trivial⟩
        ⟨trivial, rB_st rfl rfl rfl rfl, eB_st rfl rfl, mB_st rfl rfl, cB_st, sB_st, prO_st, trivial, trivial, trivial, cB_st, sB_st, trivial⟩ (by simp [stS, Stable, StableL]; exact ⟨rfl, rfl⟩) rfl rfl (by show [(r, (rB 2 7 8 9 _ _).ren _), (e, (eB 3 6 _).ren _), (g, (mB _ v _ 4 5).ren _), (c1, (cB _).ren _), (k, (sB _).ren _), (i, (prO P).ren _), (m, (cB _).ren _), (m + 1, (sB _).ren _)] = _; rw [rB_ren, eB_ren, mB_ren, cB_ren, sB_ren, prO_ren]; rfl)
    · cases hs
  · cases hs
end Go.Proofs.Ytjliakjbdcplcaa.Vm
end
end

section
/- A runner's Go that is rejected, Used and Back, as calls. (printed by gen_rn15.py) -/
namespace Go.Proofs.Ytjliakjbdcplcaa.Vm
open Go.RowKit
set_option linter.unusedVariables false
set_option linter.unusedSimpArgs false
set_option maxRecDepth 100000
def rGoRQ (r : Nat) (f : Int) (h : HM) (m : Nat) : Option (Prop × SV × List Nat × List (Nat × HB)) := match h r with
  | .own t (.agg [.ptr e [], .fn fi [.ptr a [], .ptr b [], .ptr c []], .nat .i64 u, .bool w]) true => bif Nat.beq t 125 && Nat.beq fi 44 && nodupN [0, r, e, a, b, c] && ((h e).born && (h a).born && (h b).born && (h c).born) then some (rrE f ≠ 0, .tup [.bool false, .int .i64 2], [r, e, a, b, c], [(r, rB e a b c u w)]) else none
  | _ => none
def rGoR : Spec := fun args h m => match args with
  | [.ptr r [], .int .i64 f] => rGoRQ r f h m
  | [.ptr r [], .nat .i64 n] => rGoRQ r n h m
  | _ => none
theorem rGoR_ok : CallOk Try.prog 17 rGoR := by
  refine ⟨named_spec (by kernel_rfl), fun args h m c v rd wr hs hm hc w0 M β h' w R hrd hwr hst => ?_⟩
  unfold rGoR at hs
  split at hs
  · rename_i r f
    unfold rGoRQ at hs
    split at hs
    · rename_i t e fi a b c u w hr
      obtain ⟨hb, hs⟩ := bif_some hs
      simp only [Option.some.injEq, Prod.mk.injEq] at hs
      obtain ⟨rfl, rfl, rfl, rfl⟩ := hs
      simp only [Bool.and_eq_true] at hb
      obtain ⟨⟨⟨b1, b2⟩, hnd⟩, ⟨⟨b3, b4⟩, b5⟩, b6⟩ := hb
      have b1 := Nat.eq_of_beq_eq_true b1
      have b2 := Nat.eq_of_beq_eq_true b2
      subst b1 b2
      exact bun_ok (h := h) (m := m) [0, r, e, a, b, c] (goR_lit u w f hc) R rfl (by simp) rfl rfl hnd
        ⟨Fit.gone (by rw [R.nil0]; rfl), bun_run hr (hrd r (by simp)) rfl rfl rfl rfl, Fit.gone (by rw [hrd e (by simp)]; exact b3), Fit.gone (by rw [hrd a (by simp)]; exact b4), Fit.gone (by rw [hrd b (by simp)]; exact b5), Fit.gone (by rw [hrd c (by simp)]; exact b6), trivial⟩ hm
        (fun p hp => by cases hp) (by simp) rfl
        ⟨trivial, rB_st rfl rfl rfl rfl, trivial, trivial, trivial, trivial, trivial⟩ ⟨rfl, trivial, trivial⟩
        ⟨trivial, rB_st rfl rfl rfl rfl, trivial, trivial, trivial, trivial, trivial⟩ (by simp [Stable, StableL]) rfl rfl rfl
    · cases hs
  · rename_i r f
    unfold rGoRQ at hs
    split at hs
    · rename_i t e fi a b c u w hr
      obtain ⟨hb, hs⟩ := bif_some hs
      simp only [Option.some.injEq, Prod.mk.injEq] at hs
      obtain ⟨rfl, rfl, rfl, rfl⟩ := hs
      simp only [Bool.and_eq_true] at hb
      obtain ⟨⟨⟨b1, b2⟩, hnd⟩, ⟨⟨b3, b4⟩, b5⟩, b6⟩ := hb
      have b1 := Nat.eq_of_beq_eq_true b1
      have b2 := Nat.eq_of_beq_eq_true b2
      subst b1 b2
      exact bun_ok (h := h) (m := m) [0, r, e, a, b, c] (litNat (goR_lit u w (f : Int) hc)) R rfl (by simp) rfl rfl hnd
        ⟨Fit.gone (by rw [R.nil0]; rfl), bun_run hr (hrd r (by simp)) rfl rfl rfl rfl, Fit.gone (by rw [hrd e (by simp)]; exact b3), Fit.gone (by rw [hrd a (by simp)]; exact b4), Fit.gone (by rw [hrd b (by simp)]; exact b5), Fit.gone (by rw [hrd c (by simp)]; exact b6), trivial⟩ hm
        (fun p hp => by cases hp) (by simp) rfl
        ⟨trivial, rB_st rfl rfl rfl rfl, trivial, trivial, trivial, trivial, trivial⟩ ⟨rfl, trivial, trivial⟩
        ⟨trivial, rB_st rfl rfl rfl rfl, trivial, trivial, trivial, trivial, trivial⟩ (by simp [Stable, StableL]) rfl rfl rfl
    · cases hs
  · cases hs
def rUsedQ (r : Nat) (f : Int) (h : HM) (m : Nat) : Option (Prop × SV × List Nat × List (Nat × HB)) := match h r with
  | .own t (.agg [.ptr e [], .fn fi [.ptr a [], .ptr b [], .ptr c []], .nat .i64 u, .bool w]) true => bif Nat.beq t 125 && Nat.beq fi 44 && nodupN [0, r, e, a, b, c] && ((h e).born && (h a).born && (h b).born && (h c).born) then some (True, .nat .i64 u, [r, e, a, b, c], [(r, rB e a b c u w)]) else none
  | _ => none
def rUsed : Spec := fun args h m => match args with
  | [.ptr r []] => rUsedQ r 0 h m
  | _ => none
theorem rUsed_ok : CallOk Try.prog 19 rUsed := by
  refine ⟨named_spec (by kernel_rfl), fun args h m c v rd wr hs hm hc w0 M β h' w R hrd hwr hst => ?_⟩
  unfold rUsed at hs
  split at hs
  · rename_i r
    unfold rUsedQ at hs
    split at hs
    · rename_i t e fi a b c u w hr
      obtain ⟨hb, hs⟩ := bif_some hs
      simp only [Option.some.injEq, Prod.mk.injEq] at hs
      obtain ⟨rfl, rfl, rfl, rfl⟩ := hs
      simp only [Bool.and_eq_true] at hb
      obtain ⟨⟨⟨b1, b2⟩, hnd⟩, ⟨⟨b3, b4⟩, b5⟩, b6⟩ := hb
      have b1 := Nat.eq_of_beq_eq_true b1
      have b2 := Nat.eq_of_beq_eq_true b2
      subst b1 b2
      exact bun_ok (h := h) (m := m) [0, r, e, a, b, c] (used_lit u w) R rfl (by simp) rfl rfl hnd
        ⟨Fit.gone (by rw [R.nil0]; rfl), bun_run hr (hrd r (by simp)) rfl rfl rfl rfl, Fit.gone (by rw [hrd e (by simp)]; exact b3), Fit.gone (by rw [hrd a (by simp)]; exact b4), Fit.gone (by rw [hrd b (by simp)]; exact b5), Fit.gone (by rw [hrd c (by simp)]; exact b6), trivial⟩ hm
        (fun p hp => by cases hp) (by simp) rfl
        ⟨trivial, rB_st rfl rfl rfl rfl, trivial, trivial, trivial, trivial, trivial⟩ ⟨rfl, trivial⟩
        ⟨trivial, rB_st rfl rfl rfl rfl, trivial, trivial, trivial, trivial, trivial⟩ (by simp [Stable, StableL]) rfl rfl rfl
    · cases hs
  · cases hs
theorem bun_clA {ρ : Nat → Nat} {h h' : HM} {a i x n : Nat} (ha : h a = clA i n) (ea : h' a = h a) (hx : ρ x = i) : Bun1 ρ (h' a) (clA x n) := by
  show Less (h' a) (.own 35 ((SV.sl x x [] 5 0 n none).ren ρ) true)
  rw [ea, ha]
  simp only [SV.ren, hx]
  exact .same _
theorem bun_clB {ρ : Nat → Nat} {h h' : HM} {b : Nat} {v : Evi} (hb : h b = clB v) (eb : h' b = h b) : Bun1 ρ (h' b) (clB v) := by
  show Less (h' b) (.own 30 ((evS v).ren ρ) true)
  rw [eb, hb]
  exact .same _
theorem bun_clJO {ρ : Nat → Nat} {h h' : HM} {j : Nat} {s : Sta} {cf : Nat → SV} (hj : h j = .own 2 (.arr s.cells.length 1 cf) false) (hr : ∀ q, q < s.cells.length → isI .i64 (cf q) = true) (hq : s.cells = ls iOf s.cells.length cf) (ej : h' j = h j) : Bun1 ρ (h' j) (cB s) := by
  show Less (h' j) (.own 2 (.arr s.cells.length 1 (i64S s.cells)) false)
  rw [ej, hj]
  refine .val (fun β => arrCl fun q hlt => ?_) (fun n k f e => by injection e with e1 e2 e3; subst e1 e2; exact ⟨_, rfl⟩) (fun n k f e => by injection e with e1 e2 e3; subst e1 e2; exact ⟨_, rfl⟩)
  rw [isI_cl (hr q hlt)]
  unfold i64S
  rw [hq, ls_getD hlt]; rfl
def rBack : Spec := fun args h m => match args with
  | [.ptr r []] => match h r with
    | .own t (.agg [.ptr e [], .fn fi [.ptr a [], .ptr b [], .ptr c []], .nat .i64 u, .bool w]) true => match clP h a b c with
      | some (P, v, s, i, j, ok) => bif Nat.beq t 125 && Nat.beq fi 44 && nodupN [0, r, e, a, b, c, i, j] && (h e).born then
          some (ok ∧ (∀ x ∈ P, x.ok) ∧ P.length ≤ 1000000 ∧ s.cells.length ≤ 1000000 ∧ openE P v s = 0, .int .i64 0, [r, e, a, b, c, i, j],
            [(r, rB m a b c 0 false), (a, clA i P.length), (b, clB v), (c, clC s j), (i, prO P), (j, cB s), (m, eB (m + 1) (m + 4) P.length), (m + 1, mB s v Ins0 (m + 2) (m + 3)), (m + 2, cB s), (m + 3, sB s), (m + 4, prO P)]) else none
      | none => none
    | _ => none
  | _ => none
theorem rBack_ok : CallOk Try.prog 22 rBack := by
  refine ⟨named_spec (by kernel_rfl), fun args h m c v rd wr hs hm hc w0 M β h' w R hrd hwr hst => ?_⟩
  unfold rBack at hs
  split at hs
  · rename_i r
    split at hs
    · rename_i t e fi a b c u w hr
      split at hs
      · rename_i P v s i j ok hcp
        obtain ⟨hb, hs⟩ := bif_some hs
        simp only [Option.some.injEq, Prod.mk.injEq] at hs
        obtain ⟨rfl, rfl, rfl, rfl⟩ := hs
        simp only [Bool.and_eq_true] at hb
        obtain ⟨⟨⟨b1, b2⟩, hnd⟩, be⟩ := hb
        have b1 := Nat.eq_of_beq_eq_true b1
        have b2 := Nat.eq_of_beq_eq_true b2
        subst b1 b2
        obtain ⟨hs0, ok2, rg, cf, rfl, hpp, ha, hbb, hcc, hj, hq, hql⟩ := clP_val hcp
        obtain ⟨⟨hok2, hrg, hcf⟩, hP, hn, hcl, hE⟩ := hc
        have hwrm : ∀ p ∈ [(m, eB (m + 1) (m + 4) P.length), (m + 1, mB s v Ins0 (m + 2) (m + 3)), (m + 2, cB s), (m + 3, sB s), (m + 4, prO P)], h' p.1 = h p.1 := fun p hp => hwr p (.tail _ (.tail _ (.tail _ (.tail _ (.tail _ (.tail _ hp))))))
        exact bun_ok (h := h) (m := m) [0, r, e, a, b, c, i, j] (back_lit P v s u w hs0 hP hn hcl hE) R rfl (by simp) rfl rfl hnd
          ⟨Fit.gone (by rw [R.nil0]; rfl), bun_run hr (hrd r (by simp)) rfl rfl rfl rfl, Fit.gone (by rw [hrd e (by simp)]; exact be), bun_clA ha (hrd a (by simp)) rfl, bun_clB hbb (hrd b (by simp)), (bun_clC hcc hrg hq (hrd c (by simp)) rfl rfl).2, bun_prO hpp hok2 (hrd i (by simp)), bun_clJO hj hcf hql (hrd j (by simp)), trivial⟩ hm
          (fun p hp => by
            simp only [newB, List.drop, List.length_cons, List.length_nil, List.mem_cons, List.not_mem_nil, or_false] at hp
            rcases hp with rfl | rfl | rfl | rfl | rfl
            · exact hwrm (m, eB (m + 1) (m + 4) P.length) (by simp)
            · exact hwrm (m + 1, mB s v Ins0 (m + 2) (m + 3)) (by simp)
            · exact hwrm (m + 2, cB s) (by simp)
            · exact hwrm (m + 3, sB s) (by simp)
            · exact hwrm (m + 4, prO P) (by simp)) (by simp) rfl
          ⟨trivial, rB_st rfl rfl rfl rfl, trivial, clA_st rfl, clB_st, clC_st rfl rfl, prO_st, cB_st, trivial⟩ ⟨rfl, trivial⟩
          ⟨trivial, rB_st rfl rfl rfl rfl, trivial, clA_st rfl, clB_st, clC_st rfl rfl, prO_st, cB_st, eB_st rfl rfl, mB_st rfl rfl, cB_st, sB_st, prO_st, trivial⟩ trivial rfl rfl (by
            show [(r, (rB 8 3 4 5 0 false).ren _), (a, (clA 6 _).ren _), (b, (clB v).ren _), (c, (clC s 7).ren _), (i, (prO P).ren _), (j, (cB s).ren _), (m, (eB 9 12 _).ren _), (m + 1, (mB s v Ins0 10 11).ren _), (m + 2, (cB s).ren _), (m + 3, (sB s).ren _), (m + 4, (prO P).ren _)] = _
            rw [rB_ren, eB_ren, mB_ren, cB_ren, sB_ren, prO_ren]
            simp [rhoL, clA, clB, clC, HB.ren, SV.ren, renL, fsS, evS])
      · cases hs
    · cases hs
  · cases hs
end Go.Proofs.Ytjliakjbdcplcaa.Vm
end

section
/- slices.Equal at more types. (printed by gen_vs3.py b) -/
namespace Go.Proofs.Ytjliakjbdcplcaa.Vm
open Go.RowKit
attribute [local push_cast] runR opG gtmp gval gus opX tmpsOf tm tmO tmP restr look look2 tab tys zs ets eqB eqBL allB numOf ieq Int.cast_ofNat_Int Int.ofNat_zero beq_true beq_false frameOf ev evL ofV opV loadV noW pushF wrsL setH allBorn allGone HB.born HB.isGone HB.val SV.plain dstOk hp nav fitsT SV.size sizeL SV.isAgg TK.size TK.agg bin binE binN binI arN arI cmpN cmpI keq kn narrow callV storeV setp fillV buildV buildSliceV makeV sliceV appendV copyV List.isEmpty_nil srcV evO asN ite_t ite_f ite_bool ite_int ite_nat maxV v_beq v_ble v_blt cond_true cond_false List.getElem?_cons_zero List.getElem?_cons_succ List.getD_cons_zero List.getD_cons_succ List.getD_nil List.length_cons List.length_nil List.take_succ_cons List.take_zero List.set_cons_zero List.set_cons_succ List.cons_append List.nil_append List.append_assoc List.replicate_succ List.replicate_zero Nat.zero_add Nat.add_zero decide_true decide_false Bool.true_and Bool.and_true Bool.false_and Bool.and_false Bool.true_or Bool.or_true Bool.false_or Bool.or_false beq_self_eq_true Bool.or_self Nat.lt_irrefl Nat.not_lt_zero Nat.le_refl Option.getD_some Option.getD_none BEq.rfl Bool.not_true Bool.not_false Bool.cond_true_left Bool.cond_false_right
set_option linter.unusedVariables false
set_option linter.unusedSimpArgs false
set_option maxRecDepth 100000
set_option maxHeartbeats 4000000
theorem eqI64_lit (xs ys : List Int) (p1 p2 : Nat) (hx : xs.length ≤ 281474976710656) : LitOk Try.prog 20 [.sl 1 2 [] 1 0 xs.length (some p1), .sl 3 4 [] 1 0 ys.length (some p2)] [.gone, .gone, .ro (.arr xs.length 1 (i64S xs)), .gone, .ro (.arr ys.length 1 (i64S ys))] (.bool (eqL xs ys)) [.gone] := by
  refine litOkM (fn := Try.f20) 5 26 0 rfl rfl rfl rfl rfl (by simp only [StableL, Stable, hp]; simp [HB.born]) rfl fun w0 M E hro => ?_
  repeat' (first | with_reducible (first | apply J1 | apply J3 | apply J4 | apply J5 | apply J6 | apply J7 | apply J8 | apply J9 | apply J10 | apply J11 | apply J12 | apply J13 | apply J14 | apply J15 | apply J16 | apply J17 | apply J18 | apply J19 | apply J20 | refine J2 ?_) | ((with_reducible apply J21); (· rfl)) | ((with_reducible intro hif); first | (focus (cases hif; done)) | (simp only [JH] at hif; try (exfalso; omega)) | (try (exfalso; omega))) | ((first | ((with_reducible apply J22 c1_ok tab_ok); (· rfl)) | ((with_reducible apply J23 fol c1_ok tab_ok); (· rfl)) | with_reducible apply J24); (· (simp only [push_cast, ↓JP, Nat.reduceAdd, Nat.reduceEqDiff, Nat.reduceLT, Nat.reduceMul, Nat.reduceLeDiff, reduceCtorEq, reduceIte]; rfl)); (try kernel_rfl); (try (focus (first | exact True.intro | ((try simp only [JS, implies_true, forall_const, shaped, shapedL, kndOf]); (repeat' (first | assumption | exact True.intro | omega | apply And.intro)); done))))) | fail)
  · have hne : xs ≠ ys := fun e => hif (by rw [e])
    apply At.endsRet tab_ok (fn := Try.f20) (rs := [.tmp 4]) Anc.refl hro (Nat.le_of_ble_eq_true rfl) rfl
    · simp only [push_cast, ↓JP, Nat.reduceAdd, Nat.reduceEqDiff, Nat.reduceLT, Nat.reduceMul, Nat.reduceLeDiff, reduceCtorEq, reduceIte, resV, resV1]; rfl
    · (first | trivial | (simp only [and_self]; done))
    · (repeat' (first | exact trivial | exact .same _ | exact .dead _ | exact .gone rfl | exact .loose | assumption | exact .arr (by assumption) | apply And.intro))
    · rfl
    · (repeat' (first | exact trivial | exact rfl | assumption | apply Stable.ite | apply And.intro | intro _ | (simp only [Stable, StableL, i64S, prS, insS, sndsS, sndS]; done)))
    · (repeat' (first | exact trivial | exact .inl rfl | exact .inr rfl | exact rfl | apply And.intro))
    · rw [eqL_false hne]; exact fun β => rfl
    · (repeat' (first | exact trivial | exact rfl | assumption | apply Stable.ite | apply And.intro | intro _ | (simp only [Stable, StableL, i64S, prS, insS, sndsS, sndS]; done)))
  · refine WF.loopAt (fun j => j ≤ xs.length ∧ ∀ q, q < j → xs.getD q 0 = ys.getD q 0) (fun j => [(0, .sl 1 2 [] 1 0 xs.length (some p1)), (1, .sl 3 4 [] 1 0 ys.length (some p2)), (12, .nat .i64 xs.length), (13, .nat .i64 j)]) (fun j => [.gone, .gone, .ro (.arr xs.length 1 (i64S xs)), .gone, .ro (.arr ys.length 1 (i64S ys))]) (fun j => xs.length - j) 0 ⟨Nat.zero_le _, fun q hq => absurd hq (Nat.not_lt_zero q)⟩ ?_ ?_ rfl ?_ ?_ rfl ?_
    · ((repeat' (first | exact trivial | apply And.intro)) <;> (first | rfl | (simp only [look, cond_true, cond_false]; done)))
    · (repeat' (first | exact trivial | exact .same _ | exact .dead _ | exact .gone rfl | exact .loose | assumption | exact .arr (by assumption) | apply And.intro))
    · (repeat' (first | exact trivial | exact rfl | assumption | apply Stable.ite | apply And.intro | intro _ | (simp only [Stable, StableL, i64S, prS, insS, sndsS, sndS]; done)))
    · (repeat' (first | exact trivial | exact rfl | assumption | apply Stable.ite | apply And.intro | intro _ | (simp only [Stable, StableL, i64S, prS, insS, sndsS, sndS]; done)))
    have hlen := hif
    rintro j ⟨hj, heq⟩
    repeat' (first | with_reducible (first | apply J1 | apply J3 | apply J4 | apply J5 | apply J6 | apply J7 | apply J8 | apply J9 | apply J10 | apply J11 | apply J12 | apply J13 | apply J14 | apply J15 | apply J16 | apply J17 | apply J18 | apply J19 | apply J20 | refine J2 ?_) | ((with_reducible apply J21); (· rfl)) | ((with_reducible intro hif); first | (focus (cases hif; done)) | (simp only [JH] at hif; try (exfalso; omega)) | (try (exfalso; omega))) | ((first | ((with_reducible apply J22 c1_ok tab_ok); (· rfl)) | ((with_reducible apply J23 fol c1_ok tab_ok); (· rfl)) | with_reducible apply J24); (· (simp only [push_cast, ↓JP, Nat.reduceAdd, Nat.reduceEqDiff, Nat.reduceLT, Nat.reduceMul, Nat.reduceLeDiff, reduceCtorEq, reduceIte, i64S, i64S, inN]; rfl)); (try kernel_rfl); (try (focus (first | exact True.intro | ((try simp only [JS, implies_true, forall_const, shaped, shapedL, kndOf, inN]); (repeat' (first | assumption | exact True.intro | omega | apply And.intro)); done))))) | fail)
    · have hne : xs ≠ ys := by rintro rfl; simp at hif
      apply At.endsRet tab_ok (fn := Try.f20) (rs := [.tmp 4]) Anc.refl hro (Nat.le_of_ble_eq_true rfl) rfl
      · simp only [push_cast, ↓JP, Nat.reduceAdd, Nat.reduceEqDiff, Nat.reduceLT, Nat.reduceMul, Nat.reduceLeDiff, reduceCtorEq, reduceIte, resV, resV1]; rfl
      · (first | trivial | (simp only [and_self]; done))
      · (repeat' (first | exact trivial | exact .same _ | exact .dead _ | exact .gone rfl | exact .loose | assumption | exact .arr (by assumption) | apply And.intro))
      · rfl
      · (repeat' (first | exact trivial | exact rfl | assumption | apply Stable.ite | apply And.intro | intro _ | (simp only [Stable, StableL, i64S, prS, insS, sndsS, sndS]; done)))
      · (repeat' (first | exact trivial | exact .inl rfl | exact .inr rfl | exact rfl | apply And.intro))
      · rw [eqL_false hne]; exact fun β => rfl
      · (repeat' (first | exact trivial | exact rfl | assumption | apply Stable.ite | apply And.intro | intro _ | (simp only [Stable, StableL, i64S, prS, insS, sndsS, sndS]; done)))
    · have hq : xs.getD j 0 = ys.getD j 0 := hif
      refine At.next (j + 1) ?_ ?_ ?_ rfl ?_ ?_ rfl
      · refine ⟨⟨by omega, fun q hq' => ?_⟩, by omega⟩; by_cases e : q = j; (rw [e]; exact hq); exact heq q (by omega)
      · ((repeat' (first | exact trivial | apply And.intro)) <;> (first | rfl | (simp only [look, cond_true, cond_false]; done)))
      · (repeat' (first | exact trivial | exact .same _ | exact .dead _ | exact .gone rfl | exact .loose | assumption | exact .arr (by assumption) | apply And.intro))
      · (repeat' (first | exact trivial | exact rfl | assumption | apply Stable.ite | apply And.intro | intro _ | (simp only [Stable, StableL, i64S, prS, insS, sndsS, sndS]; done)))
      · (repeat' (first | exact trivial | exact rfl | assumption | apply Stable.ite | apply And.intro | intro _ | (simp only [Stable, StableL, i64S, prS, insS, sndsS, sndS]; done)))
    · have hjn : j = xs.length := by omega
      subst hjn
      have he : xs = ys := ext_getD 0 hlen heq
      apply At.endsRet tab_ok (fn := Try.f20) (rs := [.tmp 4]) Anc.refl hro (Nat.le_of_ble_eq_true rfl) rfl
      · simp only [push_cast, ↓JP, Nat.reduceAdd, Nat.reduceEqDiff, Nat.reduceLT, Nat.reduceMul, Nat.reduceLeDiff, reduceCtorEq, reduceIte, resV, resV1]; rfl
      · (first | trivial | (simp only [and_self]; done))
      · (repeat' (first | exact trivial | exact .same _ | exact .dead _ | exact .gone rfl | exact .loose | assumption | exact .arr (by assumption) | apply And.intro))
      · rfl
      · (repeat' (first | exact trivial | exact rfl | assumption | apply Stable.ite | apply And.intro | intro _ | (simp only [Stable, StableL, i64S, prS, insS, sndsS, sndS]; done)))
      · (repeat' (first | exact trivial | exact .inl rfl | exact .inr rfl | exact rfl | apply And.intro))
      · rw [eqL_true he]; exact fun β => rfl
      · (repeat' (first | exact trivial | exact rfl | assumption | apply Stable.ite | apply And.intro | intro _ | (simp only [Stable, StableL, i64S, prS, insS, sndsS, sndS]; done)))
def sEqI64 : Spec := fun args h m => match args with
  | [v1, v2] => match srcV h 1 (.tup []) v1, srcV h 1 (.tup []) v2 with
    | some (c1, n1, f1, r1), some (c2, n2, f2, r2) => some (c1 ∧ c2 ∧ (∀ q, q < n1 → isI .i64 (f1 q) = true) ∧ (∀ q, q < n2 → isI .i64 (f2 q) = true) ∧ ((ls iOf n1 f1).length ≤ 281474976710656), .bool (eqL (ls iOf n1 f1) (ls iOf n2 f2)), r1 ++ r2, [])
    | _, _ => none
  | _ => none
theorem sEqI64_ok : CallOk Try.prog 20 sEqI64 := by
  refine ⟨named_spec (by kernel_rfl), fun args h m c v rd wr hs hm hc w0 M β h' w R hrd hwr hst => ?_⟩
  unfold sEqI64 at hs
  split at hs
  · rename_i v1 v2
    split at hs
    · rename_i c1 n1 f1 r1 c2 n2 f2 r2 a1 a2
      simp only [Option.some.injEq, Prod.mk.injEq] at hs
      obtain ⟨rfl, rfl, rfl, rfl⟩ := hs
      obtain ⟨k1, k2, g1, g2, y1⟩ := hc
      obtain ⟨A1, p1, d1, e1, t1⟩ := reads_src R a1 k1 (fun i hi => hrd i (List.mem_append_left _ hi)) (by omega)
      obtain ⟨A2, p2, d2, e2, t2⟩ := reads_src R a2 k2 (fun i hi => hrd i (List.mem_append_right _ hi)) (by omega)
      refine callRo (views := [⟨1, (ls iOf n1 f1).length, i64S (ls iOf n1 f1), A1, p1⟩, ⟨1, (ls iOf n2 f2).length, i64S (ls iOf n2 f2), A2, p2⟩]) (eqI64_lit (ls iOf n1 f1) (ls iOf n2 f2) p1 p2 y1) ?_ R hm hwr ?_ ?_ ?_
      · intro x hx
        simp only [List.mem_cons, List.not_mem_nil, or_false] at hx
        rcases hx with rfl | rfl
        · exact viewI64 t1 e1 g1
        · exact viewI64 t2 e2 g2
      · intro β1 hv
        simp only [Vd, ls_length, and_true] at hv
        obtain ⟨z1, z2⟩ := hv
        simp only [denL, aggDen, intDen, natDen, boolDen, ls_length, z1, z2, d1, d2]
      · (repeat' (first | exact trivial | exact rfl | assumption | apply Stable.ite | apply And.intro | intro _ | (simp only [Stable, StableL, i64S, prS, insS, sndsS, sndS]; done)))
      · (repeat' (first | exact trivial | exact rfl | assumption | apply Stable.ite | apply And.intro | intro _ | (simp only [Stable, StableL, i64S, prS, insS, sndsS, sndS]; done)))
    · cases hs
  · cases hs
end Go.Proofs.Ytjliakjbdcplcaa.Vm
end

section
/- fermatalaw14.Small: op and One. (printed by gen_one14.py) -/
namespace Go.Proofs.Ytjliakjbdcplcaa
open Go.RowKit
set_option linter.unusedVariables false
set_option linter.unusedSimpArgs false

theorem below_drewN4 {B : Nat} {a w : World} (h : Below B a w) (q : Nat) : Below B a (w.drewN q) := ⟨h.os, h.tape, h.output, h.size, h.block⟩
theorem u64_bd4 (z : Int) : 0 ≤ IntKind.u64.wrap z ∧ IntKind.u64.wrap z < 18446744073709551616 := by
  have e : IntKind.u64.wrap z = z % 18446744073709551616 := by simp [IntKind.wrap, IntKind.bits, IntKind.signed]
  rw [e]; omega
/-! ### the Op of a small instruction: a Small has the fields of an instruction -/
def tbl14 : List Int := [3, 3, 3, 3, 3, 4, 5, 5, 5, 6, 6, 6, 7, 8, 8, 9, 10, 10, 10, 11, 11, 1, 2]
def op14 (o : Int) : Int := if o % 40 < 17 then 33 + o % 40 else tbl14.getD (o % 40 - 17).toNat 0
def tblV : Array Value := #[.int .u8 3, .int .u8 3, .int .u8 3, .int .u8 3, .int .u8 3, .int .u8 4, .int .u8 5, .int .u8 5, .int .u8 5, .int .u8 6, .int .u8 6, .int .u8 6, .int .u8 7, .int .u8 8, .int .u8 8, .int .u8 9, .int .u8 10, .int .u8 10, .int .u8 10, .int .u8 11, .int .u8 11, .int .u8 1, .int .u8 2]
theorem tblV_at (k : Nat) (h : k < 23) : tblV[k]? = some (.int .u8 (tbl14.getD k 0)) := by
  match k, h with
  | 0, _ => rfl
  | 1, _ => rfl
  | 2, _ => rfl
  | 3, _ => rfl
  | 4, _ => rfl
  | 5, _ => rfl
  | 6, _ => rfl
  | 7, _ => rfl
  | 8, _ => rfl
  | 9, _ => rfl
  | 10, _ => rfl
  | 11, _ => rfl
  | 12, _ => rfl
  | 13, _ => rfl
  | 14, _ => rfl
  | 15, _ => rfl
  | 16, _ => rfl
  | 17, _ => rfl
  | 18, _ => rfl
  | 19, _ => rfl
  | 20, _ => rfl
  | 21, _ => rfl
  | 22, _ => rfl
  | n + 23, h => exact absurd h (by omega)
theorem tblV_get (k : Nat) (h : k < ([.int .u8 3, .int .u8 3, .int .u8 3, .int .u8 3, .int .u8 3, .int .u8 4, .int .u8 5, .int .u8 5, .int .u8 5, .int .u8 6, .int .u8 6, .int .u8 6, .int .u8 7, .int .u8 8, .int .u8 8, .int .u8 9, .int .u8 10, .int .u8 10, .int .u8 10, .int .u8 11, .int .u8 11, .int .u8 1, .int .u8 2] : List Value).length) : ([.int .u8 3, .int .u8 3, .int .u8 3, .int .u8 3, .int .u8 3, .int .u8 4, .int .u8 5, .int .u8 5, .int .u8 5, .int .u8 6, .int .u8 6, .int .u8 6, .int .u8 7, .int .u8 8, .int .u8 8, .int .u8 9, .int .u8 10, .int .u8 10, .int .u8 10, .int .u8 11, .int .u8 11, .int .u8 1, .int .u8 2] : List Value)[k] = .int .u8 (tbl14.getD k 0) := by
  have := tblV_at k h
  unfold tblV at this
  rw [List.getElem?_toArray] at this
  exact Option.some.inj ((List.getElem?_eq_getElem h).symm.trans this)
theorem op14_bd (o : Int) : 1 ≤ op14 o ∧ op14 o ≤ 49 ∧ formC (op14 o) ≠ 0 := by
  unfold op14
  by_cases h : o % 40 < 17
  · rw [if_pos h]
    refine ⟨by omega, by omega, ?_⟩
    unfold formC
    rw [if_pos (by omega)]
    decide
  · rw [if_neg h]
    obtain ⟨k, hk, hk2⟩ : ∃ k : Nat, (o % 40 - 17).toNat = k ∧ k < 23 := ⟨_, rfl, by omega⟩
    rw [hk]
    match k, hk2 with
    | 0, _ => exact (by decide)
    | 1, _ => exact (by decide)
    | 2, _ => exact (by decide)
    | 3, _ => exact (by decide)
    | 4, _ => exact (by decide)
    | 5, _ => exact (by decide)
    | 6, _ => exact (by decide)
    | 7, _ => exact (by decide)
    | 8, _ => exact (by decide)
    | 9, _ => exact (by decide)
    | 10, _ => exact (by decide)
    | 11, _ => exact (by decide)
    | 12, _ => exact (by decide)
    | 13, _ => exact (by decide)
    | 14, _ => exact (by decide)
    | 15, _ => exact (by decide)
    | 16, _ => exact (by decide)
    | 17, _ => exact (by decide)
    | 18, _ => exact (by decide)
    | 19, _ => exact (by decide)
    | 20, _ => exact (by decide)
    | 21, _ => exact (by decide)
    | 22, _ => exact (by decide)
    | n + 23, h => exact absurd h (by omega)
set_option maxRecDepth 100000 in
set_option maxHeartbeats 1000000 in
theorem op14_c (x : Ins) (hx : x.ok) (w : World) : Calls Try.prog 102 #[x.v] w fun e w' => e = .returned (.int .u8 (op14 x.op)) ∧ Below w.heap.size w w' := by
  obtain ⟨o0, o1, -, -, -, -, -, -, -, -⟩ := hx
  obtain ⟨op, a, b, c, n⟩ := x
  dsimp only at o0 o1 ⊢
  unfold Ins.v
  dsimp only
  have m1 : Int.tmod op 40 = op % 40 := Int.tmod_eq_emod_of_nonneg o0
  have hv : op14 op = if op % 40 < 17 then 33 + op % 40 else tbl14.getD (op % 40 - 17).toNat 0 := rfl
  obtain ⟨M, hM⟩ : ∃ M, M = op % 40 := ⟨_, rfl⟩
  have hM0 : 0 ≤ M ∧ M < 40 := by omega
  rw [← hM] at m1 hv
  have hM' : op % 40 = M := hM.symm
  clear hM
  by_cases h : M < 17
  · rw [if_pos h] at hv
    rw [hv]
    have d1 := decide_eq_true h
    have w1 : IntKind.u8.wrap (33 + M) = 33 + M := IntWalk.u8_in _ (by omega)
    clear hv
    go_enter Try.func102, Try.ntmps102
    go_wp2_with fail
    go_ret
    exact ⟨rfl, (Below.refl _ w).alloc (Nat.le_refl _) _⟩
  · rw [if_neg h] at hv
    rw [hv]
    have d1 := decide_eq_false h
    have w1 : IntKind.u8.wrap (M - 17) = M - 17 := IntWalk.u8_in _ (by omega)
    obtain ⟨k, hk⟩ : ∃ k : Nat, M - 17 = k := ⟨(M - 17).toNat, by omega⟩
    have hk23 : k < 23 := by omega
    have hk0 : (0 : Int) ≤ (k : Int) := by omega
    have hk1 : (k : Int) < 23 := by omega
    rw [hk] at w1
    have hz : ((M - 17).toNat) = k := by omega
    rw [hz]
    have hb := tblV_get k
    obtain ⟨V, hV⟩ : ∃ V, V = tbl14.getD k 0 := ⟨_, rfl⟩
    rw [← hV] at hb ⊢
    clear hv hV hz h
    go_enter Try.func102, Try.ntmps102
    go_wp2_with fail
    go_ret
    exact ⟨rfl, ((Below.refl _ w).alloc (Nat.le_refl _) _).alloc (by simp) _⟩

/-! ### one small instruction -/
def fld14 (x : Ins) : Nat → Int | 0 => x.a | 1 => x.b | _ => x.c
def setF14 (i : Ins) (k : Nat) (v : Int) : Ins := match k with | 0 => { i with a := v } | 1 => { i with b := v } | _ => { i with c := v }
def step14 (x : Ins) (M : Int) (st : Nat × Ins) (l : UInt8) : Nat × Ins :=
  if l.toNat = 114 then (st.1 + 1, if st.1 < 3 then setF14 st.2 st.1 (fld14 x st.1 % 8) else st.2)
  else if l.toNat = 110 then (st.1, { st.2 with n := x.n })
  else if l.toNat = 112 then (st.1, { st.2 with n := IntKind.u64.wrap x.n % 16 })
  else (st.1, { st.2 with n := IntKind.u64.wrap x.n % M })
def fold14 (x : Ins) (M : Int) (S : ByteArray) (p : Nat) : Nat × Ins := (S.data.toList.take p).foldl (step14 x M) (0, ⟨op14 x.op, 0, 0, 0, 0⟩)
theorem fold14_succ (x : Ins) (M : Int) (S : ByteArray) (p : Nat) (h : p < S.size) : fold14 x M S (p + 1) = step14 x M (fold14 x M S p) (S[p]'h) := by
  unfold fold14
  rw [List.take_add_one]
  have : S.data.toList[p]? = some (S[p]'h) := by
    rw [Array.getElem?_toList]
    exact Array.getElem?_eq_getElem (show p < S.data.size from h)
  rw [this]
  simp
def itPos (S : ByteArray) (g : Nat) (X : World) : Nat := match X.heap[g]? with | some (.stringIter _ p) => S.size - p | _ => 0
theorem itPos_eq {S : ByteArray} {g p : Nat} {X : World} (h : X.heap[g]? = some (.stringIter S p)) : itPos S g X = S.size - p := by unfold itPos; rw [h]
structure MI (w : World) (B : Nat) (x : Ins) (S : ByteArray) (p : Nat) (out : Ins) (X : World) : Prop where
  it : X.heap[B + 2]? = some (.stringIter S p)
  b8 : Blk X B 73 #[.int .u8 out.op, .int .u8 out.a, .int .u8 out.b, .int .u8 out.c, .int .i64 out.n]
  b2 : Blk X w.heap.size 155 #[.int .u8 x.op, .int .u8 x.a, .int .u8 x.b, .int .u8 x.c, .int .i64 x.n]
  b9 : Blk X (B + 1) 193 #[.pointer (some ⟨B, 1, none⟩), .pointer (some ⟨B, 2, none⟩), .pointer (some ⟨B, 3, none⟩)]
  b4 : Blk X (w.heap.size + 1) 73 #[.int .u8 0, .int .u8 0, .int .u8 0, .int .u8 0, .int .i64 0]
  below : Below w.heap.size w X
section
variable {w X : World} {B : Nat} {x out : Ins} {S : ByteArray} {p : Nat}
theorem MI.next (h : MI w B x S p out X) (hB : w.heap.size + 1 < B) (q : Nat) : MI w B x S q out (X.iterAt (B + 2) S q) :=
  have f : ∀ {g t cs}, g ≠ B + 2 → Blk X g t cs → Blk (X.iterAt (B + 2) S q) g t cs := fun hg hb => (Lib.iterAt_other X (B + 2) _ S q hg).trans hb
  ⟨Lib.iterAt_heap X (B + 2) S p q h.it, f (by omega) h.b8, f (by omega) h.b2, f (by omega) h.b9, f (by omega) h.b4, Lib.below_iterAt h.below (by omega) S q⟩
theorem MI.alloc (h : MI w B x S p out X) (o : Obj) : MI w B x S p out (X.alloc o) :=
  ⟨(Below.heap_alloc X o _ (Array.getElem?_eq_some_iff.1 h.it).1).trans h.it, h.b8.alloc o, h.b2.alloc o, h.b9.alloc o, h.b4.alloc o, h.below.alloc h.below.size o⟩
theorem MI.drew (h : MI w B x S p out X) : MI w B x S p out X.drew := ⟨h.it, h.b8, h.b2, h.b9, h.b4, h.below.drew⟩
theorem MI.drewN (h : MI w B x S p out X) (n : Nat) : MI w B x S p out (X.drewN n) := ⟨h.it, h.b8, h.b2, h.b9, h.b4, below_drewN4 h.below n⟩
theorem MI.set (h : MI w B x S p out X) (hB : w.heap.size + 1 < B) (i : Nat) (u : Value) (out' : Ins) (ho : (#[.int .u8 out.op, .int .u8 out.a, .int .u8 out.b, .int .u8 out.c, .int .i64 out.n] : Array Value).setIfInBounds i u = #[.int .u8 out'.op, .int .u8 out'.a, .int .u8 out'.b, .int .u8 out'.c, .int .i64 out'.n]) :
    MI w B x S p out' (X.setCell ⟨B, i, none⟩ u) :=
  ⟨(Below.heap_setCell X ⟨B, i, none⟩ u (B + 2) (by show B + 2 ≠ B; omega)).trans h.it, ho ▸ h.b8.set_ i u, h.b2.far (p := ⟨B, i, none⟩) (by show w.heap.size ≠ B; omega) u, h.b9.far (p := ⟨B, i, none⟩) (by show B + 1 ≠ B; omega) u, h.b4.far (p := ⟨B, i, none⟩) (by show w.heap.size + 1 ≠ B; omega) u, h.below.setCell (p := ⟨B, i, none⟩) (by show w.heap.size ≤ B; omega) u⟩
end
set_option maxRecDepth 100000 in
set_option maxHeartbeats 4000000 in
theorem one14_w (x : Ins) (hx : x.ok) (n : Int) (hn : 1 ≤ n ∧ n ≤ 1000000) (S : ByteArray) (hS : S.size ≤ 100) (hasc : ∀ p (h : p < S.size), (S[p]'h).toNat < 128) (w : World)
    (hform : ∀ w, Calls Try.prog 103 #[.int .u8 (op14 x.op)] w fun e w' => e = .returned (.tuple #[.string S, .bool true]) ∧ Below w.heap.size w w') :
    Calls Try.prog 71 #[x.v, .int .i64 n] w fun e w' => e = .returned (fold14 x n S S.size).2.v ∧ Below w.heap.size w w' := by
  have HOP := Lib.hid (fun W => op14_c x hx W)
  have HF := Lib.hid hform
  clear hform
  obtain ⟨o0, o1, a0, a1, b0, b1, c0, c1, n0, n1⟩ := hx
  have f0 : fold14 x n S 0 = (0, ⟨op14 x.op, 0, 0, 0, 0⟩) := by simp [fold14]
  have hfs := fun p h => fold14_succ x n S p h
  obtain ⟨op, hop⟩ : ∃ op, op = op14 x.op := ⟨_, rfl⟩
  rw [← hop] at HOP HF f0
  clear hop
  obtain ⟨F, hF⟩ : ∃ F, F = fold14 x n S := ⟨_, rfl⟩
  rw [← hF] at f0 hfs ⊢
  clear hF
  obtain ⟨x0, xa, xb, xc, xn⟩ := x
  unfold Ins.v at HOP ⊢
  dsimp only at o0 o1 a0 a1 b0 b1 c0 c1 n0 n1 HOP ⊢
  obtain ⟨U, hU⟩ : ∃ U, U = IntKind.u64.wrap xn := ⟨_, rfl⟩
  have hU0 := u64_bd4 xn
  rw [← hU] at hU0
  have HFS := Lib.hid hfs
  have HU := Lib.hid hU
  have u1 : IntKind.u64.wrap xn = U := hU.symm
  clear hfs hU
  go_enter Try.func71, Try.ntmps71
  go_upto_region 1 with fail
  have hA0 : AW w [] [] w := ⟨Below.refl _ _, by simp, by simp⟩
  have hA1 := (hA0.put 155 #[.int .u8 x0, .int .u8 xa, .int .u8 xb, .int .u8 xc, .int .i64 xn]).put' (g := w.heap.size + 1) 73 #[.int .u8 0, .int .u8 0, .int .u8 0, .int .u8 0, .int .i64 0] (by simp)
  obtain ⟨W, hW⟩ : ∃ W, W = ((w.alloc (.cells #[.int .u8 x0, .int .u8 xa, .int .u8 xb, .int .u8 xc, .int .i64 xn] 155)).alloc (.cells #[.int .u8 0, .int .u8 0, .int .u8 0, .int .u8 0, .int .i64 0] 73)) := ⟨_, rfl⟩
  rw [← hW] at hA1 ⊢
  clear hW hA0
  obtain ⟨⟨z0, z1, z2, z3, z4⟩, zf⟩ := blk5 (hA1.l _ (.tail _ (.head _)))
  dsimp only at z0 z1 z2 z3 z4
  clear zf
  go_wp2_with fail
  clear z0 z1 z2 z3 z4
  go_at_call 102
  refine (HOP.out W).mono ?_
  rintro e W1 ⟨rfl, hb⟩
  have hA2 := hA1.call hb
  clear hb hA1 HOP
  go_wp2_with fail
  go_at_call 103
  refine (HF.out W1).mono ?_
  rintro e W2 ⟨rfl, hb⟩
  have hA3 := hA2.call hb
  clear hb hA2 HF
  go_upto_region 5 with fail
  have hA4 := (hA3.put 73 #[.int .u8 op, .int .u8 0, .int .u8 0, .int .u8 0, .int .i64 0]).put' (g := W2.heap.size + 1) 193 #[.pointer (some ⟨W2.heap.size, 1, none⟩), .pointer (some ⟨W2.heap.size, 2, none⟩), .pointer (some ⟨W2.heap.size, 3, none⟩)] (by simp)
  have hlt : w.heap.size + 1 < W2.heap.size := (hA3.l _ (.head _)).lt
  obtain ⟨W3, hW⟩ : ∃ W, W = ((W2.alloc (.cells #[.int .u8 op, .int .u8 0, .int .u8 0, .int .u8 0, .int .i64 0] 73)).alloc (.cells #[.pointer (some ⟨W2.heap.size, 1, none⟩), .pointer (some ⟨W2.heap.size, 2, none⟩), .pointer (some ⟨W2.heap.size, 3, none⟩)] 193)) := ⟨_, rfl⟩
  have hz3 : W3.heap.size = W2.heap.size + 2 := by rw [hW]; simp
  rw [← hW] at hA4 ⊢
  clear hW hA3
  obtain ⟨B, hB⟩ : ∃ B, B = W2.heap.size := ⟨_, rfl⟩
  rw [← hB] at hA4 hlt hz3 ⊢
  have hI0 : MI w B ⟨x0, xa, xb, xc, xn⟩ S 0 ⟨op, 0, 0, 0, 0⟩ (W3.iter S 0) := ⟨hz3 ▸ heap_alloc_new W3 _, (hA4.l _ (.tail _ (.head _))).alloc _, (hA4.l _ (.tail _ (.tail _ (.tail _ (.head _))))).alloc _, (hA4.l _ (.head _)).alloc _, (hA4.l _ (.tail _ (.tail _ (.head _)))).alloc _, hA4.b.alloc hA4.b.size _⟩
  clear hB hA4
  go_wp2
  go_loopw [10] (fun k wr => ∃ (p u : Nat) (out : Ins), k = .int .i64 u ∧ p ≤ S.size ∧ u ≤ p ∧ F p = (u, out) ∧ MI w B ⟨x0, xa, xb, xc, xn⟩ S p out wr) (fun _ wr => itPos S (B + 2) wr)
  case atStart => exact ⟨0, 0, _, rfl, by omega, by omega, f0, hI0⟩
  case round =>
    obtain ⟨p, u, out, rfl, hp, hup, hF, hI⟩ := hrel
    clear hI0 f0 hz3
    have hm := itPos_eq hI.it
    by_cases hps : p < S.size
    · have hn := fun ty => Lib.run_next_ascii_at (P := Try.prog) wr (B + 2) S p ty hI.it hps (hasc p hps)
      have hI' := hI.next hlt (p + 1)
      obtain ⟨X, hX⟩ : ∃ X, X = wr.iterAt (B + 2) S (p + 1) := ⟨_, rfl⟩
      rw [← hX] at hn hI'
      clear hX hI
      have hs := HFS.out p hps
      rw [hF] at hs
      obtain ⟨l, hl⟩ : ∃ l, l = S[p]'hps := ⟨_, rfl⟩
      rw [← hl] at hs hn
      obtain ⟨z, hz⟩ : ∃ z : Nat, z = l.toNat := ⟨_, rfl⟩
      rw [← hz] at hn
      unfold step14 at hs
      rw [← hz] at hs
      dsimp only at hs
      have HM := Lib.hid hm
      clear hz hl hF hm hasc
      obtain ⟨⟨y0, y1, y2, y3, y4⟩, yf⟩ := blk5 hI'.b2
      dsimp only at y0 y1 y2 y3 y4
      clear yf
      have t0 : X.cell? ⟨B + 1, 0, none⟩ = some (.pointer (some ⟨B, 1, none⟩)) := hI'.b9.cell 0
      have t1 : X.cell? ⟨B + 1, 1, none⟩ = some (.pointer (some ⟨B, 2, none⟩)) := hI'.b9.cell 1
      have t2 : X.cell? ⟨B + 1, 2, none⟩ = some (.pointer (some ⟨B, 3, none⟩)) := hI'.b9.cell 2
      obtain ⟨⟨k0, k1, k2, k3, k4⟩, kf⟩ := blk5 hI'.b8
      have hlX : B < X.heap.size := hI'.b8.lt
      have hlX1 : B + 1 < X.heap.size := hI'.b9.lt
      have hlw : w.heap.size < X.heap.size := hI'.b2.lt
      by_cases h114 : z = 114
      · rw [if_pos h114] at hs
        subst h114
        by_cases hu3 : u < 3
        · rw [if_pos hu3] at hs
          have hu : u = 0 ∨ u = 1 ∨ u = 2 := by omega
          rcases hu with rfl | rfl | rfl
          · have v1 : Int.tmod xa 8 = xa % 8 := Int.tmod_eq_emod_of_nonneg a0
            have hJ : MI w B ⟨x0, xa, xb, xc, xn⟩ S (p + 1) (setF14 out 0 (xa % 8)) _ := ((hI'.set hlt 1 (.int .u8 (xa % 8)) _ rfl).alloc (.cells #[.int .u8 xa, .int .u8 xb, .int .u8 xc] 5)).drew
            have HJ := Lib.hid hJ
            clear hJ
            go_wp2_with go_region
            all_goals (try go_wp2)
            all_goals exact ⟨⟨p + 1, 1, _, rfl, by omega, by omega, hs, HJ.out⟩, by rw [itPos_eq HJ.out.it, HM.out]; omega⟩
          · have v1 : Int.tmod xb 8 = xb % 8 := Int.tmod_eq_emod_of_nonneg b0
            have hJ : MI w B ⟨x0, xa, xb, xc, xn⟩ S (p + 1) (setF14 out 1 (xb % 8)) _ := ((hI'.set hlt 2 (.int .u8 (xb % 8)) _ rfl).alloc (.cells #[.int .u8 xa, .int .u8 xb, .int .u8 xc] 5)).drew
            have HJ := Lib.hid hJ
            clear hJ
            go_wp2_with go_region
            all_goals (try go_wp2)
            all_goals exact ⟨⟨p + 1, 2, _, rfl, by omega, by omega, hs, HJ.out⟩, by rw [itPos_eq HJ.out.it, HM.out]; omega⟩
          · have v1 : Int.tmod xc 8 = xc % 8 := Int.tmod_eq_emod_of_nonneg c0
            have hJ : MI w B ⟨x0, xa, xb, xc, xn⟩ S (p + 1) (setF14 out 2 (xc % 8)) _ := ((hI'.set hlt 3 (.int .u8 (xc % 8)) _ rfl).alloc (.cells #[.int .u8 xa, .int .u8 xb, .int .u8 xc] 5)).drew
            have HJ := Lib.hid hJ
            clear hJ
            go_wp2_with go_region
            all_goals (try go_wp2)
            all_goals exact ⟨⟨p + 1, 3, _, rfl, by omega, by omega, hs, HJ.out⟩, by rw [itPos_eq HJ.out.it, HM.out]; omega⟩
        · rw [if_neg hu3] at hs
          have d3 : decide ((u : Int) < 3) = false := decide_eq_false (by omega)
          have d4 : ¬ (u : Int) < 3 := by omega
          clear y0 y1 y2 y3 y4 t0 t1 t2 k0 k1 k2 k3 k4 kf
          go_wp2_with fail
          go_roundw
          case rel => exact ⟨p + 1, u + 1, out, by go_num, by omega, by omega, hs, hI'⟩
          case measure => rw [itPos_eq hI'.it, HM.out]; omega
      · rw [if_neg h114] at hs
        have q1 : ((z : Int) == 114) = false := by simp; omega
        have q2 : decide ((z : Int) = 114) = false := decide_eq_false (by omega)
        have q3 : ¬ (z : Int) = 114 := by omega
        by_cases h110 : z = 110
        · rw [if_pos h110] at hs
          subst h110
          clear q1 q2 q3 h114
          go_wp2_with fail
          go_roundw
          case rel => exact ⟨p + 1, u, _, by go_num, by omega, by omega, hs, hI'.set hlt 4 _ _ rfl⟩
          case measure => rw [itPos_eq (hI'.set hlt 4 _ ⟨out.op, out.a, out.b, out.c, xn⟩ rfl).it, HM.out]; omega
        · rw [if_neg h110] at hs
          have r1 : ((z : Int) == 110) = false := by simp; omega
          have r2 : decide ((z : Int) = 110) = false := decide_eq_false (by omega)
          have r3 : ¬ (z : Int) = 110 := by omega
          by_cases h112 : z = 112
          · rw [if_pos h112] at hs
            subst h112
            rw [u1] at hs
            have v1 : Int.tmod U 16 = U % 16 := Int.tmod_eq_emod_of_nonneg hU0.1
            have v2 : IntKind.i64.wrap (U % 16) = U % 16 := by simp [IntKind.wrap, IntKind.bits, IntKind.signed]; omega
            clear q1 q2 q3 r1 r2 r3 h114 h110
            go_wp2_with fail
            go_roundw
            case rel => exact ⟨p + 1, u, _, by go_num, by omega, by omega, hs, hI'.set hlt 4 _ _ rfl⟩
            case measure => rw [itPos_eq (hI'.set hlt 4 _ ⟨out.op, out.a, out.b, out.c, U % 16⟩ rfl).it, HM.out]; omega
          · rw [if_neg h112] at hs
            have s1 : ((z : Int) == 112) = false := by simp; omega
            have s2 : decide ((z : Int) = 112) = false := decide_eq_false (by omega)
            have s3 : ¬ (z : Int) = 112 := by omega
            rw [u1] at hs
            have v1 : Int.tmod U n = U % n := Int.tmod_eq_emod_of_nonneg hU0.1
            have v2 : IntKind.i64.wrap (U % n) = U % n := by
              have := Int.emod_nonneg U (b := n) (by omega)
              have := Int.emod_lt_of_pos U (b := n) (by omega)
              simp [IntKind.wrap, IntKind.bits, IntKind.signed]; omega
            have v3 : IntKind.u64.wrap n = n := by simp [IntKind.wrap, IntKind.bits, IntKind.signed]; omega
            have v4 : (n == 0) = false := by simp; omega
            have v5 : ¬ n = 0 := by omega
            have v6 : n ≠ 0 := by omega
            have hmax : ∀ W : World, (Builtin.max_ #[3, 3] 3 #[.int .i64 n, .int .i64 1]).run Try.prog W = .ok (.int .i64 n) W := fun W => max_i64 _ _ _ _ 0 _ (by split <;> omega) W
            clear h114 h110 h112
            go_wp2_with fail
            go_roundw
            case rel => exact ⟨p + 1, u, _, by go_num, by omega, by omega, hs, hI'.set hlt 4 _ _ rfl⟩
            case measure => rw [itPos_eq (hI'.set hlt 4 _ ⟨out.op, out.a, out.b, out.c, U % n⟩ rfl).it, HM.out]; omega
    · have hpe : p = S.size := by omega
      have hn := fun ty => Lib.run_next_end_at (P := Try.prog) wr (B + 2) S p ty hI.it hps
      have b8 := hI.b8
      have b4 := hI.b4
      have hb := hI.below
      have hv : (F S.size).2 = out := by rw [← hpe, hF]
      have HV := Lib.hid hv
      clear hI hF hm hv
      go_wp2_with (first
        | refine wpList_load_row (P := Try.prog) rfl 73 (.tmp 8) rfl B rfl 73 _ (0, 0) _ b8 Try.underlying73 rfl (by kernel_rfl) ?_
        | refine wpList_store_row (P := Try.prog) rfl 73 (.tmp 4) (.tmp 76) rfl (w.heap.size + 1) #[.int .u8 out.op, .int .u8 out.a, .int .u8 out.b, .int .u8 out.c, .int .i64 out.n] rfl rfl 73 _ b4 (by kernel_rfl) rfl (by kernel_rfl) ?_)
      (try simp only [Exit.inBlock, Exit.then])
      refine bodyPost_ret (v := .agg #[.int .u8 out.op, .int .u8 out.a, .int .u8 out.b, .int .u8 out.c, .int .i64 out.n]) (results_cell_row (P := Try.prog) (p := 4) (ty := 73) rfl _ _ (w.heap.size + 1) 73 _ (0, 0) _ rfl (Blk.row b4 _) Try.underlying73 rfl (by kernel_rfl)) rfl ?_
      exact ⟨by rw [HV.out], below_setRow hb (Nat.le_succ _) _⟩

end Go.Proofs.Ytjliakjbdcplcaa
end
