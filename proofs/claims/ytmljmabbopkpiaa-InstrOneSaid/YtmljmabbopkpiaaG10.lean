import Derived.Test.YtmljmabbopkpiaaG9
section
/- flow.edges, ranged over: AppendSeq, Collect; flow.Next. (printed by gen_vs5.py) -/
namespace Go.Proofs.Ytmljmabbopkpiaa.Vm
open Go.RowKit
attribute [local push_cast] runR opG gtmp gval gus opX tmpsOf tm tmO tmP restr look look2 tab tys zs ets eqB eqBL allB numOf ieq Int.cast_ofNat_Int Int.ofNat_zero beq_true beq_false frameOf ev evL ofV opV loadV noW pushF wrsL setH allBorn allGone HB.born HB.isGone HB.val SV.plain dstOk hp nav fitsT SV.size sizeL SV.isAgg TK.size TK.agg bin binE binN binI arN arI cmpN cmpI keq kn narrow callV storeV setp fillV buildV buildSliceV makeV sliceV appendV copyV List.isEmpty_nil srcV evO asN ite_t ite_f ite_bool ite_int ite_nat maxV v_beq v_ble v_blt cond_true cond_false List.getElem?_cons_zero List.getElem?_cons_succ List.getD_cons_zero List.getD_cons_succ List.getD_nil List.length_cons List.length_nil List.take_succ_cons List.take_zero List.set_cons_zero List.set_cons_succ List.cons_append List.nil_append List.append_assoc List.replicate_succ List.replicate_zero Nat.zero_add Nat.add_zero decide_true decide_false Bool.true_and Bool.and_true Bool.false_and Bool.and_false Bool.true_or Bool.or_true Bool.false_or Bool.or_false beq_self_eq_true Bool.or_self Nat.lt_irrefl Nat.not_lt_zero Nat.le_refl Option.getD_some Option.getD_none BEq.rfl Bool.not_true Bool.not_false Bool.cond_true_left Bool.cond_false_right prS sndsS i64S insS_size insS_agg insS_plain nav_ins nav_ins0 nav_ins1 nav_ins2 nav_ins3 nav_ins4 sndS_size sndS_agg sndS_plain nav_snd nav_snd0 nav_snd1 nav_snd2 isIns_insS insOf_insS isSnd_sndS sndOf_sndS isI_int isI_nat iOf
set_option linter.unusedVariables false
set_option linter.unusedSimpArgs false
set_option maxRecDepth 100000
set_option maxHeartbeats 4000000
def edgesL (x : Ins) (i : Int) : List Int := (if targB x = true ∧ targV x ≤ i then [targV x] else []) ++ (if goesB x = true then [i + 1] else []) ++ (if targB x = true ∧ i < targV x ∧ (i + 1 < targV x ∨ goesB x = false) then [targV x] else [])
def cEd : FuncId → Option Spec := look2 [(99, sGoes), (98, sTarget)]
theorem cEd_ok : ∀ f S, cEd f = some S → CallOk Try.prog f S := allOk_spec ⟨sGoes_ok, sTarget_ok, trivial⟩
theorem one_lt {p : Nat → Prop} {q : Nat} (h : q < 1) (h0 : p 0) : p q := by
  have : q = 0 := by omega
  subst this
  exact h0
theorem appSeq_lit (xs : List Ins) (i : Int) (hi : 0 ≤ i) (hn : i.toNat < xs.length) (hl : xs.length ≤ 1000000) (cap : Nat) (x : Ins) (hok : x.ok) (hX : xs.getD i.toNat ⟨0, 0, 0, 0, 0⟩ = x) : LitOk Try.prog 122 [.sl 0 0 [] 0 0 0 (some 0), .fn 123 [.ptr 3 [], .ptr 4 []]]
    [.gone, .gone, .ro (.arr xs.length 5 (prS xs)), .ro (.sl 1 2 [] 5 0 xs.length (some cap)), .ro (.int .i64 i)]
    (.sl 5 5 [] 1 0 (edgesL x i).length none) [.gone, .gone, .gone, .gone, .gone, .own 3 (.arr (edgesL x i).length 1 (i64S (edgesL x i))) false] := by
  refine litOkM (fn := Try.f122) 5 13 0 rfl rfl rfl rfl rfl (by simp only [StableL, Stable, hp]; simp [HB.born]) rfl fun w0 M E hro => ?_
  repeat' (first
    | with_reducible (first | apply WF.seq | refine At.code ?_ | apply At.thenNormal | apply At.thenRet | apply At.thenExit | apply At.thenGoto | apply At.inNormal | apply At.inRet | apply At.inGoto | apply At.inHit | apply At.noGotoNormal | apply At.noGotoRet | apply At.noGotoExit | apply WF.skip | apply WF.ret | apply WF.exit | apply WF.goto | apply WF.label | apply WF.block | apply WF.scope)
    | ((with_reducible apply At.inMiss); · rfl)
    | ((with_reducible intro hif); first | (focus (cases hif; done)) | (simp only [Bool.not_eq_true', Bool.not_eq_false', decide_eq_true_eq, decide_eq_false_iff_not, Bool.and_eq_true, Bool.or_eq_true] at hif; try (exfalso; omega)) | (try (exfalso; omega)))
    | ((first | ((with_reducible apply WF.region cEd_ok tab_ok); · rfl) | ((with_reducible apply WF.drawn fol cEd_ok tab_ok); · rfl) | with_reducible apply WF.cond)
       · simp only [push_cast, ↓Int.cast_ofNat_Int, ↓ofV_m1, ↓ofV_min, Nat.reduceAdd, Nat.reduceEqDiff, Nat.reduceLT, Nat.reduceMul, Nat.reduceLeDiff, reduceCtorEq, reduceIte]; rfl
       try kernel_rfl
       try (focus ((first | exact True.intro | (simp only [and_self, implies_true, true_and, and_true, forall_const, false_implies, true_implies, Bool.not_eq_true', imp_self, shaped, shapedL, kndOf]; done) | (simp only [and_self, implies_true, true_and, and_true, forall_const, false_implies, true_implies, Bool.not_eq_true', imp_self, shaped, shapedL, kndOf]; (repeat' (first | assumption | exact True.intro | omega | apply And.intro))) | ((repeat' (first | assumption | exact True.intro | omega | apply And.intro)))); done)))
    | fail)
  with_reducible apply WF.range (fn' := Try.f123) 59
  · simp only [push_cast, ↓Int.cast_ofNat_Int, ↓ofV_m1, ↓ofV_min, Nat.reduceAdd, Nat.reduceEqDiff, Nat.reduceLT, Nat.reduceMul, Nat.reduceLeDiff, reduceCtorEq, reduceIte]; rfl
  · (focus ((first | exact True.intro | (simp only [and_self, implies_true, true_and, and_true, forall_const, false_implies, true_implies, Bool.not_eq_true', imp_self, shaped, shapedL, kndOf]; done) | (simp only [and_self, implies_true, true_and, and_true, forall_const, false_implies, true_implies, Bool.not_eq_true', imp_self, shaped, shapedL, kndOf]; (repeat' (first | assumption | exact True.intro | omega | apply And.intro))) | ((repeat' (first | assumption | exact True.intro | omega | apply And.intro)))); done))
  · rfl
  · rfl
  · rfl
  · rfl
  · rfl
  · rfl
  · rfl
  intro E1 rec tmps after hE1 hrec hcf haft
  repeat' (first
    | with_reducible (first | apply WF.seq | refine At.code ?_ | apply At.thenNormal | apply At.thenRet | apply At.thenExit | apply At.thenGoto | apply At.inNormal | apply At.inRet | apply At.inGoto | apply At.inHit | apply At.noGotoNormal | apply At.noGotoRet | apply At.noGotoExit | apply WF.skip | apply WF.ret | apply WF.exit | apply WF.goto | apply WF.label | apply WF.block | apply WF.scope)
    | ((with_reducible apply At.inMiss); · rfl)
    | ((with_reducible intro hif); first | (focus (cases hif; done)) | (simp only [Bool.not_eq_true', Bool.not_eq_false', decide_eq_true_eq, decide_eq_false_iff_not, Bool.and_eq_true, Bool.or_eq_true] at hif; try (exfalso; omega)) | (try (exfalso; omega)))
    | ((first | ((with_reducible apply WF.region cEd_ok tab_ok); · rfl) | ((with_reducible apply WF.drawn fol cEd_ok tab_ok); · rfl) | with_reducible apply WF.cond)
       · simp only [push_cast, ↓Int.cast_ofNat_Int, ↓ofV_m1, ↓ofV_min, Nat.reduceAdd, Nat.reduceEqDiff, Nat.reduceLT, Nat.reduceMul, Nat.reduceLeDiff, reduceCtorEq, reduceIte, cEd, sGoes, sTarget, iOf, hX]; rfl
       try kernel_rfl
       try (focus ((first | exact True.intro | (simp only [and_self, implies_true, true_and, and_true, forall_const, false_implies, true_implies, Bool.not_eq_true', imp_self, shaped, shapedL, kndOf, cEd, sGoes, sTarget, iOf, hX]; done) | (simp only [and_self, implies_true, true_and, and_true, forall_const, false_implies, true_implies, Bool.not_eq_true', imp_self, shaped, shapedL, kndOf, cEd, sGoes, sTarget, iOf, hX]; (repeat' (first | assumption | exact True.intro | omega | apply And.intro))) | ((repeat' (first | assumption | exact True.intro | omega | apply And.intro)))); done)))
    | fail)
  by_cases hT : targB x = true
  · by_cases hle : targV x ≤ i
    · have hgt : ¬ (i < targV x) := by omega
      by_cases hG : goesB x = true
      · have hE : edgesL x i = [targV x, i + 1] := by unfold edgesL; simp [hT, hG, hle, hgt]
        rw [hE] at haft
        repeat' (first
          | with_reducible (first | apply WF.seq | refine At.code ?_ | apply At.thenNormal | apply At.thenRet | apply At.thenExit | apply At.thenGoto | apply At.inNormal | apply At.inRet | apply At.inGoto | apply At.inHit | apply At.noGotoNormal | apply At.noGotoRet | apply At.noGotoExit | apply WF.skip | apply WF.ret | apply WF.exit | apply WF.goto | apply WF.label | apply WF.block | apply WF.scope)
          | ((with_reducible apply At.inMiss); · rfl)
          | ((with_reducible intro hif); first | (focus (cases hif; done)) | (simp only [Bool.not_eq_true', Bool.not_eq_false', decide_eq_true_eq, decide_eq_false_iff_not, Bool.and_eq_true, Bool.or_eq_true] at hif; try (exfalso; omega)) | (try (exfalso; omega)))
          | ((first | ((with_reducible apply WF.region cEd_ok tab_ok); · rfl) | ((with_reducible apply WF.drawn fol cEd_ok tab_ok); · rfl) | with_reducible apply WF.cond)
             · simp only [push_cast, ↓Int.cast_ofNat_Int, ↓ofV_m1, ↓ofV_min, Nat.reduceAdd, Nat.reduceEqDiff, Nat.reduceLT, Nat.reduceMul, Nat.reduceLeDiff, reduceCtorEq, reduceIte, cEd, sGoes, sTarget, iOf, hX, hT, hG, Int.reduceNeg, hle, hgt]; rfl
             try kernel_rfl
             try (focus ((first | exact True.intro | (simp only [and_self, implies_true, true_and, and_true, forall_const, false_implies, true_implies, Bool.not_eq_true', imp_self, shaped, shapedL, kndOf, cEd, sGoes, sTarget, iOf, hX, hT, hG, Int.reduceNeg, hle, hgt]; done) | (simp only [and_self, implies_true, true_and, and_true, forall_const, false_implies, true_implies, Bool.not_eq_true', imp_self, shaped, shapedL, kndOf, cEd, sGoes, sTarget, iOf, hX, hT, hG, Int.reduceNeg, hle, hgt]; (repeat' (first | assumption | exact True.intro | omega | apply And.intro))) | ((repeat' (first | assumption | exact True.intro | omega | apply And.intro)))); done)))
          | fail)
        with_reducible apply WF.split 9 2
        · rfl
        with_reducible apply At.run cEd_ok tab_ok
        · rfl
        · rfl
        · rfl
        · simp only [push_cast, ↓Int.cast_ofNat_Int, ↓ofV_m1, ↓ofV_min, Nat.reduceAdd, Nat.reduceEqDiff, Nat.reduceLT, Nat.reduceMul, Nat.reduceLeDiff, reduceCtorEq, reduceIte, noDefer, List.drop_zero, List.drop_succ_cons, cEd, sGoes, sTarget, iOf, hX, hT, hG, Int.reduceNeg, hle, hgt]; rfl
        · (focus ((first | exact True.intro | (simp only [and_self, implies_true, true_and, and_true, forall_const, false_implies, true_implies, Bool.not_eq_true', imp_self, shaped, shapedL, kndOf, cEd, sGoes, sTarget, iOf, hX, hT, hG, Int.reduceNeg, hle, hgt]; done) | (simp only [and_self, implies_true, true_and, and_true, forall_const, false_implies, true_implies, Bool.not_eq_true', imp_self, shaped, shapedL, kndOf, cEd, sGoes, sTarget, iOf, hX, hT, hG, Int.reduceNeg, hle, hgt]; (repeat' (first | assumption | exact True.intro | omega | apply And.intro))) | ((repeat' (first | assumption | exact True.intro | omega | apply And.intro)))); done))
        with_reducible apply At.yield (gr := _)
        · rfl
        · rfl
        · rfl
        · rfl
        · rfl
        · rfl
        · simp only [push_cast, ↓Int.cast_ofNat_Int, ↓ofV_m1, ↓ofV_min, Nat.reduceAdd, Nat.reduceEqDiff, Nat.reduceLT, Nat.reduceMul, Nat.reduceLeDiff, reduceCtorEq, reduceIte, noDefer, List.drop_zero, List.drop_succ_cons, cEd, sGoes, sTarget, iOf, hX, hT, hG, Int.reduceNeg, hle, hgt]; rfl
        · first | rfl | (simp only [push_cast, ↓Int.cast_ofNat_Int, ↓ofV_m1, ↓ofV_min, Nat.reduceAdd, Nat.reduceEqDiff, Nat.reduceLT, Nat.reduceMul, Nat.reduceLeDiff, reduceCtorEq, reduceIte, noDefer, List.drop_zero, List.drop_succ_cons, cEd, sGoes, sTarget, iOf, hX, hT, hG, Int.reduceNeg, hle, hgt]; done)
        · simp only [push_cast, ↓Int.cast_ofNat_Int, ↓ofV_m1, ↓ofV_min, Nat.reduceAdd, Nat.reduceEqDiff, Nat.reduceLT, Nat.reduceMul, Nat.reduceLeDiff, reduceCtorEq, reduceIte, noDefer, List.drop_zero, List.drop_succ_cons, cEd, sGoes, sTarget, iOf, hX, hT, hG, Int.reduceNeg, hle, hgt]; rfl
        · (focus ((first | exact True.intro | (simp only [and_self, implies_true, true_and, and_true, forall_const, false_implies, true_implies, Bool.not_eq_true', imp_self, shaped, shapedL, kndOf, cEd, sGoes, sTarget, iOf, hX, hT, hG, Int.reduceNeg, hle, hgt]; done) | (simp only [and_self, implies_true, true_and, and_true, forall_const, false_implies, true_implies, Bool.not_eq_true', imp_self, shaped, shapedL, kndOf, cEd, sGoes, sTarget, iOf, hX, hT, hG, Int.reduceNeg, hle, hgt]; (repeat' (first | assumption | exact True.intro | omega | apply And.intro))) | ((repeat' (first | assumption | exact True.intro | omega | apply And.intro)))); done))
        · simp only [push_cast, ↓Int.cast_ofNat_Int, ↓ofV_m1, ↓ofV_min, Nat.reduceAdd, Nat.reduceEqDiff, Nat.reduceLT, Nat.reduceMul, Nat.reduceLeDiff, reduceCtorEq, reduceIte, noDefer, List.drop_zero, List.drop_succ_cons, cEd, sGoes, sTarget, iOf, hX, hT, hG, Int.reduceNeg, hle, hgt]; rfl
        · (focus ((first | exact True.intro | (simp only [and_self, implies_true, true_and, and_true, forall_const, false_implies, true_implies, Bool.not_eq_true', imp_self, shaped, shapedL, kndOf, cEd, sGoes, sTarget, iOf, hX, hT, hG, Int.reduceNeg, hle, hgt]; done) | (simp only [and_self, implies_true, true_and, and_true, forall_const, false_implies, true_implies, Bool.not_eq_true', imp_self, shaped, shapedL, kndOf, cEd, sGoes, sTarget, iOf, hX, hT, hG, Int.reduceNeg, hle, hgt]; (repeat' (first | assumption | exact True.intro | omega | apply And.intro))) | ((repeat' (first | assumption | exact True.intro | omega | apply And.intro)))); done))
        · first | rfl | (simp only [push_cast, ↓Int.cast_ofNat_Int, ↓ofV_m1, ↓ofV_min, Nat.reduceAdd, Nat.reduceEqDiff, Nat.reduceLT, Nat.reduceMul, Nat.reduceLeDiff, reduceCtorEq, reduceIte, noDefer, List.drop_zero, List.drop_succ_cons, cEd, sGoes, sTarget, iOf, hX, hT, hG, Int.reduceNeg, hle, hgt]; done)
        · exact hrec
        · exact hcf
        · rfl
        · rfl
        · rfl
        intro lb E2 next hE2 hnext
        repeat' (first
          | with_reducible (first | apply WF.seq | refine At.code ?_ | apply At.thenNormal | apply At.thenRet | apply At.thenExit | apply At.thenGoto | apply At.inNormal | apply At.inRet | apply At.inGoto | apply At.inHit | apply At.noGotoNormal | apply At.noGotoRet | apply At.noGotoExit | apply WF.skip | apply WF.ret | apply WF.exit | apply WF.goto | apply WF.label | apply WF.block | apply WF.scope)
          | ((with_reducible apply At.inMiss); · rfl)
          | ((with_reducible intro hif); first | (focus (cases hif; done)) | (simp only [Bool.not_eq_true', Bool.not_eq_false', decide_eq_true_eq, decide_eq_false_iff_not, Bool.and_eq_true, Bool.or_eq_true] at hif; try (exfalso; omega)) | (try (exfalso; omega)))
          | ((first | ((with_reducible apply WF.region cEd_ok tab_ok); · rfl) | ((with_reducible apply WF.drawn fol cEd_ok tab_ok); · rfl) | with_reducible apply WF.cond)
             · simp only [push_cast, ↓Int.cast_ofNat_Int, ↓ofV_m1, ↓ofV_min, Nat.reduceAdd, Nat.reduceEqDiff, Nat.reduceLT, Nat.reduceMul, Nat.reduceLeDiff, reduceCtorEq, reduceIte, cEd, sGoes, sTarget, iOf, hX, hT, hG, Int.reduceNeg, hle, hgt]; rfl
             try kernel_rfl
             try (focus ((first | exact True.intro | (simp only [and_self, implies_true, true_and, and_true, forall_const, false_implies, true_implies, Bool.not_eq_true', imp_self, shaped, shapedL, kndOf, cEd, sGoes, sTarget, iOf, hX, hT, hG, Int.reduceNeg, hle, hgt]; done) | (simp only [and_self, implies_true, true_and, and_true, forall_const, false_implies, true_implies, Bool.not_eq_true', imp_self, shaped, shapedL, kndOf, cEd, sGoes, sTarget, iOf, hX, hT, hG, Int.reduceNeg, hle, hgt]; (repeat' (first | assumption | exact True.intro | omega | apply And.intro))) | ((repeat' (first | assumption | exact True.intro | omega | apply And.intro)))); done)))
          | fail)
        with_reducible apply At.begins hrec
        · rfl
        with_reducible refine At.code ?_
        repeat' (first
          | with_reducible (first | apply WF.seq | refine At.code ?_ | apply At.thenNormal | apply At.thenRet | apply At.thenExit | apply At.thenGoto | apply At.inNormal | apply At.inRet | apply At.inGoto | apply At.inHit | apply At.noGotoNormal | apply At.noGotoRet | apply At.noGotoExit | apply WF.skip | apply WF.ret | apply WF.exit | apply WF.goto | apply WF.label | apply WF.block | apply WF.scope)
          | ((with_reducible apply At.inMiss); · rfl)
          | ((with_reducible intro hif); first | (focus (cases hif; done)) | (simp only [Bool.not_eq_true', Bool.not_eq_false', decide_eq_true_eq, decide_eq_false_iff_not, Bool.and_eq_true, Bool.or_eq_true] at hif; try (exfalso; omega)) | (try (exfalso; omega)))
          | ((first | ((with_reducible apply WF.region cEd_ok tab_ok); · rfl) | ((with_reducible apply WF.drawn fol cEd_ok tab_ok); · rfl) | with_reducible apply WF.cond)
             · simp only [push_cast, ↓Int.cast_ofNat_Int, ↓ofV_m1, ↓ofV_min, Nat.reduceAdd, Nat.reduceEqDiff, Nat.reduceLT, Nat.reduceMul, Nat.reduceLeDiff, reduceCtorEq, reduceIte, cEd, sGoes, sTarget, iOf, hX, hT, hG, Int.reduceNeg, hle, hgt, inN, inR]; rfl
             try kernel_rfl
             try (focus ((first | exact True.intro | (simp only [and_self, implies_true, true_and, and_true, forall_const, false_implies, true_implies, Bool.not_eq_true', imp_self, shaped, shapedL, kndOf, cEd, sGoes, sTarget, iOf, hX, hT, hG, Int.reduceNeg, hle, hgt, inN, inR]; done) | (simp only [and_self, implies_true, true_and, and_true, forall_const, false_implies, true_implies, Bool.not_eq_true', imp_self, shaped, shapedL, kndOf, cEd, sGoes, sTarget, iOf, hX, hT, hG, Int.reduceNeg, hle, hgt, inN, inR]; (repeat' (first | assumption | exact True.intro | omega | apply And.intro))) | ((repeat' (first | assumption | exact True.intro | omega | apply And.intro)))); done)))
          | fail)
        with_reducible apply At.roundNormal
        · first | rfl | (simp only [push_cast, ↓Int.cast_ofNat_Int, ↓ofV_m1, ↓ofV_min, Nat.reduceAdd, Nat.reduceEqDiff, Nat.reduceLT, Nat.reduceMul, Nat.reduceLeDiff, reduceCtorEq, reduceIte, noDefer, List.drop_zero, List.drop_succ_cons, cEd, sGoes, sTarget, iOf, hX, hT, hG, Int.reduceNeg, hle, hgt]; done)
        apply hnext
        with_reducible apply At.runEnd cEd_ok tab_ok
        · rfl
        · rfl
        · rfl
        · simp only [push_cast, ↓Int.cast_ofNat_Int, ↓ofV_m1, ↓ofV_min, Nat.reduceAdd, Nat.reduceEqDiff, Nat.reduceLT, Nat.reduceMul, Nat.reduceLeDiff, reduceCtorEq, reduceIte, noDefer, List.drop_zero, List.drop_succ_cons, cEd, sGoes, sTarget, iOf, hX, hT, hG, Int.reduceNeg, hle, hgt]; rfl
        · (focus ((first | exact True.intro | (simp only [and_self, implies_true, true_and, and_true, forall_const, false_implies, true_implies, Bool.not_eq_true', imp_self, shaped, shapedL, kndOf, cEd, sGoes, sTarget, iOf, hX, hT, hG, Int.reduceNeg, hle, hgt]; done) | (simp only [and_self, implies_true, true_and, and_true, forall_const, false_implies, true_implies, Bool.not_eq_true', imp_self, shaped, shapedL, kndOf, cEd, sGoes, sTarget, iOf, hX, hT, hG, Int.reduceNeg, hle, hgt]; (repeat' (first | assumption | exact True.intro | omega | apply And.intro))) | ((repeat' (first | assumption | exact True.intro | omega | apply And.intro)))); done))
        repeat' (first
          | with_reducible (first | apply WF.seq | refine At.code ?_ | apply At.thenNormal | apply At.thenRet | apply At.thenExit | apply At.thenGoto | apply At.inNormal | apply At.inRet | apply At.inGoto | apply At.inHit | apply At.noGotoNormal | apply At.noGotoRet | apply At.noGotoExit | apply WF.skip | apply WF.ret | apply WF.exit | apply WF.goto | apply WF.label | apply WF.block | apply WF.scope)
          | ((with_reducible apply At.inMiss); · rfl)
          | ((with_reducible intro hif); first | (focus (cases hif; done)) | (simp only [Bool.not_eq_true', Bool.not_eq_false', decide_eq_true_eq, decide_eq_false_iff_not, Bool.and_eq_true, Bool.or_eq_true] at hif; try (exfalso; omega)) | (try (exfalso; omega)))
          | ((first | ((with_reducible apply WF.region cEd_ok tab_ok); · rfl) | ((with_reducible apply WF.drawn fol cEd_ok tab_ok); · rfl) | with_reducible apply WF.cond)
             · simp only [push_cast, ↓Int.cast_ofNat_Int, ↓ofV_m1, ↓ofV_min, Nat.reduceAdd, Nat.reduceEqDiff, Nat.reduceLT, Nat.reduceMul, Nat.reduceLeDiff, reduceCtorEq, reduceIte, cEd, sGoes, sTarget, iOf, hX, hT, hG, Int.reduceNeg, hle, hgt]; rfl
             try kernel_rfl
             try (focus ((first | exact True.intro | (simp only [and_self, implies_true, true_and, and_true, forall_const, false_implies, true_implies, Bool.not_eq_true', imp_self, shaped, shapedL, kndOf, cEd, sGoes, sTarget, iOf, hX, hT, hG, Int.reduceNeg, hle, hgt]; done) | (simp only [and_self, implies_true, true_and, and_true, forall_const, false_implies, true_implies, Bool.not_eq_true', imp_self, shaped, shapedL, kndOf, cEd, sGoes, sTarget, iOf, hX, hT, hG, Int.reduceNeg, hle, hgt]; (repeat' (first | assumption | exact True.intro | omega | apply And.intro))) | ((repeat' (first | assumption | exact True.intro | omega | apply And.intro)))); done)))
          | fail)
        with_reducible apply WF.split 5 2
        · rfl
        with_reducible apply At.run cEd_ok tab_ok
        · rfl
        · rfl
        · rfl
        · simp only [push_cast, ↓Int.cast_ofNat_Int, ↓ofV_m1, ↓ofV_min, Nat.reduceAdd, Nat.reduceEqDiff, Nat.reduceLT, Nat.reduceMul, Nat.reduceLeDiff, reduceCtorEq, reduceIte, noDefer, List.drop_zero, List.drop_succ_cons, cEd, sGoes, sTarget, iOf, hX, hT, hG, Int.reduceNeg, hle, hgt]; rfl
        · (focus ((first | exact True.intro | (simp only [and_self, implies_true, true_and, and_true, forall_const, false_implies, true_implies, Bool.not_eq_true', imp_self, shaped, shapedL, kndOf, cEd, sGoes, sTarget, iOf, hX, hT, hG, Int.reduceNeg, hle, hgt]; done) | (simp only [and_self, implies_true, true_and, and_true, forall_const, false_implies, true_implies, Bool.not_eq_true', imp_self, shaped, shapedL, kndOf, cEd, sGoes, sTarget, iOf, hX, hT, hG, Int.reduceNeg, hle, hgt]; (repeat' (first | assumption | exact True.intro | omega | apply And.intro))) | ((repeat' (first | assumption | exact True.intro | omega | apply And.intro)))); done))
        with_reducible apply At.yield (gr := _)
        · rfl
        · rfl
        · rfl
        · rfl
        · rfl
        · rfl
        · simp only [push_cast, ↓Int.cast_ofNat_Int, ↓ofV_m1, ↓ofV_min, Nat.reduceAdd, Nat.reduceEqDiff, Nat.reduceLT, Nat.reduceMul, Nat.reduceLeDiff, reduceCtorEq, reduceIte, noDefer, List.drop_zero, List.drop_succ_cons, cEd, sGoes, sTarget, iOf, hX, hT, hG, Int.reduceNeg, hle, hgt]; rfl
        · first | rfl | (simp only [push_cast, ↓Int.cast_ofNat_Int, ↓ofV_m1, ↓ofV_min, Nat.reduceAdd, Nat.reduceEqDiff, Nat.reduceLT, Nat.reduceMul, Nat.reduceLeDiff, reduceCtorEq, reduceIte, noDefer, List.drop_zero, List.drop_succ_cons, cEd, sGoes, sTarget, iOf, hX, hT, hG, Int.reduceNeg, hle, hgt]; done)
        · simp only [push_cast, ↓Int.cast_ofNat_Int, ↓ofV_m1, ↓ofV_min, Nat.reduceAdd, Nat.reduceEqDiff, Nat.reduceLT, Nat.reduceMul, Nat.reduceLeDiff, reduceCtorEq, reduceIte, noDefer, List.drop_zero, List.drop_succ_cons, cEd, sGoes, sTarget, iOf, hX, hT, hG, Int.reduceNeg, hle, hgt]; rfl
        · (focus ((first | exact True.intro | (simp only [and_self, implies_true, true_and, and_true, forall_const, false_implies, true_implies, Bool.not_eq_true', imp_self, shaped, shapedL, kndOf, cEd, sGoes, sTarget, iOf, hX, hT, hG, Int.reduceNeg, hle, hgt]; done) | (simp only [and_self, implies_true, true_and, and_true, forall_const, false_implies, true_implies, Bool.not_eq_true', imp_self, shaped, shapedL, kndOf, cEd, sGoes, sTarget, iOf, hX, hT, hG, Int.reduceNeg, hle, hgt]; (repeat' (first | assumption | exact True.intro | omega | apply And.intro))) | ((repeat' (first | assumption | exact True.intro | omega | apply And.intro)))); done))
        · simp only [push_cast, ↓Int.cast_ofNat_Int, ↓ofV_m1, ↓ofV_min, Nat.reduceAdd, Nat.reduceEqDiff, Nat.reduceLT, Nat.reduceMul, Nat.reduceLeDiff, reduceCtorEq, reduceIte, noDefer, List.drop_zero, List.drop_succ_cons, cEd, sGoes, sTarget, iOf, hX, hT, hG, Int.reduceNeg, hle, hgt]; rfl
        · (focus ((first | exact True.intro | (simp only [and_self, implies_true, true_and, and_true, forall_const, false_implies, true_implies, Bool.not_eq_true', imp_self, shaped, shapedL, kndOf, cEd, sGoes, sTarget, iOf, hX, hT, hG, Int.reduceNeg, hle, hgt]; done) | (simp only [and_self, implies_true, true_and, and_true, forall_const, false_implies, true_implies, Bool.not_eq_true', imp_self, shaped, shapedL, kndOf, cEd, sGoes, sTarget, iOf, hX, hT, hG, Int.reduceNeg, hle, hgt]; (repeat' (first | assumption | exact True.intro | omega | apply And.intro))) | ((repeat' (first | assumption | exact True.intro | omega | apply And.intro)))); done))
        · first | rfl | (simp only [push_cast, ↓Int.cast_ofNat_Int, ↓ofV_m1, ↓ofV_min, Nat.reduceAdd, Nat.reduceEqDiff, Nat.reduceLT, Nat.reduceMul, Nat.reduceLeDiff, reduceCtorEq, reduceIte, noDefer, List.drop_zero, List.drop_succ_cons, cEd, sGoes, sTarget, iOf, hX, hT, hG, Int.reduceNeg, hle, hgt]; done)
        · exact hrec
        · exact hcf
        · rfl
        · rfl
        · rfl
        intro lb E2 next hE2 hnext
        repeat' (first
          | with_reducible (first | apply WF.seq | refine At.code ?_ | apply At.thenNormal | apply At.thenRet | apply At.thenExit | apply At.thenGoto | apply At.inNormal | apply At.inRet | apply At.inGoto | apply At.inHit | apply At.noGotoNormal | apply At.noGotoRet | apply At.noGotoExit | apply WF.skip | apply WF.ret | apply WF.exit | apply WF.goto | apply WF.label | apply WF.block | apply WF.scope)
          | ((with_reducible apply At.inMiss); · rfl)
          | ((with_reducible intro hif); first | (focus (cases hif; done)) | (simp only [Bool.not_eq_true', Bool.not_eq_false', decide_eq_true_eq, decide_eq_false_iff_not, Bool.and_eq_true, Bool.or_eq_true] at hif; try (exfalso; omega)) | (try (exfalso; omega)))
          | ((first | ((with_reducible apply WF.region cEd_ok tab_ok); · rfl) | ((with_reducible apply WF.drawn fol cEd_ok tab_ok); · rfl) | with_reducible apply WF.cond)
             · simp only [push_cast, ↓Int.cast_ofNat_Int, ↓ofV_m1, ↓ofV_min, Nat.reduceAdd, Nat.reduceEqDiff, Nat.reduceLT, Nat.reduceMul, Nat.reduceLeDiff, reduceCtorEq, reduceIte, cEd, sGoes, sTarget, iOf, hX, hT, hG, Int.reduceNeg, hle, hgt]; rfl
             try kernel_rfl
             try (focus ((first | exact True.intro | (simp only [and_self, implies_true, true_and, and_true, forall_const, false_implies, true_implies, Bool.not_eq_true', imp_self, shaped, shapedL, kndOf, cEd, sGoes, sTarget, iOf, hX, hT, hG, Int.reduceNeg, hle, hgt]; done) | (simp only [and_self, implies_true, true_and, and_true, forall_const, false_implies, true_implies, Bool.not_eq_true', imp_self, shaped, shapedL, kndOf, cEd, sGoes, sTarget, iOf, hX, hT, hG, Int.reduceNeg, hle, hgt]; (repeat' (first | assumption | exact True.intro | omega | apply And.intro))) | ((repeat' (first | assumption | exact True.intro | omega | apply And.intro)))); done)))
          | fail)
        with_reducible apply At.begins hrec
        · rfl
        with_reducible refine At.code ?_
        repeat' (first
          | with_reducible (first | apply WF.seq | refine At.code ?_ | apply At.thenNormal | apply At.thenRet | apply At.thenExit | apply At.thenGoto | apply At.inNormal | apply At.inRet | apply At.inGoto | apply At.inHit | apply At.noGotoNormal | apply At.noGotoRet | apply At.noGotoExit | apply WF.skip | apply WF.ret | apply WF.exit | apply WF.goto | apply WF.label | apply WF.block | apply WF.scope)
          | ((with_reducible apply At.inMiss); · rfl)
          | ((with_reducible intro hif); first | (focus (cases hif; done)) | (simp only [Bool.not_eq_true', Bool.not_eq_false', decide_eq_true_eq, decide_eq_false_iff_not, Bool.and_eq_true, Bool.or_eq_true] at hif; try (exfalso; omega)) | (try (exfalso; omega)))
          | ((first | ((with_reducible apply WF.region cEd_ok tab_ok); · rfl) | ((with_reducible apply WF.drawn fol cEd_ok tab_ok); · rfl) | with_reducible apply WF.cond)
             · simp only [push_cast, ↓Int.cast_ofNat_Int, ↓ofV_m1, ↓ofV_min, Nat.reduceAdd, Nat.reduceEqDiff, Nat.reduceLT, Nat.reduceMul, Nat.reduceLeDiff, reduceCtorEq, reduceIte, cEd, sGoes, sTarget, iOf, hX, hT, hG, Int.reduceNeg, hle, hgt, inN, inR]; rfl
             try kernel_rfl
             try (focus ((first | exact True.intro | (simp only [and_self, implies_true, true_and, and_true, forall_const, false_implies, true_implies, Bool.not_eq_true', imp_self, shaped, shapedL, kndOf, cEd, sGoes, sTarget, iOf, hX, hT, hG, Int.reduceNeg, hle, hgt, inN, inR]; done) | (simp only [and_self, implies_true, true_and, and_true, forall_const, false_implies, true_implies, Bool.not_eq_true', imp_self, shaped, shapedL, kndOf, cEd, sGoes, sTarget, iOf, hX, hT, hG, Int.reduceNeg, hle, hgt, inN, inR]; (repeat' (first | assumption | exact True.intro | omega | apply And.intro))) | ((repeat' (first | assumption | exact True.intro | omega | apply And.intro)))); done)))
          | fail)
        with_reducible apply At.roundNormal
        · first | rfl | (simp only [push_cast, ↓Int.cast_ofNat_Int, ↓ofV_m1, ↓ofV_min, Nat.reduceAdd, Nat.reduceEqDiff, Nat.reduceLT, Nat.reduceMul, Nat.reduceLeDiff, reduceCtorEq, reduceIte, noDefer, List.drop_zero, List.drop_succ_cons, cEd, sGoes, sTarget, iOf, hX, hT, hG, Int.reduceNeg, hle, hgt]; done)
        apply hnext
        with_reducible apply At.runEnd cEd_ok tab_ok
        · rfl
        · rfl
        · rfl
        · simp only [push_cast, ↓Int.cast_ofNat_Int, ↓ofV_m1, ↓ofV_min, Nat.reduceAdd, Nat.reduceEqDiff, Nat.reduceLT, Nat.reduceMul, Nat.reduceLeDiff, reduceCtorEq, reduceIte, noDefer, List.drop_zero, List.drop_succ_cons, cEd, sGoes, sTarget, iOf, hX, hT, hG, Int.reduceNeg, hle, hgt]; rfl
        · (focus ((first | exact True.intro | (simp only [and_self, implies_true, true_and, and_true, forall_const, false_implies, true_implies, Bool.not_eq_true', imp_self, shaped, shapedL, kndOf, cEd, sGoes, sTarget, iOf, hX, hT, hG, Int.reduceNeg, hle, hgt]; done) | (simp only [and_self, implies_true, true_and, and_true, forall_const, false_implies, true_implies, Bool.not_eq_true', imp_self, shaped, shapedL, kndOf, cEd, sGoes, sTarget, iOf, hX, hT, hG, Int.reduceNeg, hle, hgt]; (repeat' (first | assumption | exact True.intro | omega | apply And.intro))) | ((repeat' (first | assumption | exact True.intro | omega | apply And.intro)))); done))
        repeat' (first
          | with_reducible (first | apply WF.seq | refine At.code ?_ | apply At.thenNormal | apply At.thenRet | apply At.thenExit | apply At.thenGoto | apply At.inNormal | apply At.inRet | apply At.inGoto | apply At.inHit | apply At.noGotoNormal | apply At.noGotoRet | apply At.noGotoExit | apply WF.skip | apply WF.ret | apply WF.exit | apply WF.goto | apply WF.label | apply WF.block | apply WF.scope)
          | ((with_reducible apply At.inMiss); · rfl)
          | ((with_reducible intro hif); first | (focus (cases hif; done)) | (simp only [Bool.not_eq_true', Bool.not_eq_false', decide_eq_true_eq, decide_eq_false_iff_not, Bool.and_eq_true, Bool.or_eq_true] at hif; try (exfalso; omega)) | (try (exfalso; omega)))
          | ((first | ((with_reducible apply WF.region cEd_ok tab_ok); · rfl) | ((with_reducible apply WF.drawn fol cEd_ok tab_ok); · rfl) | with_reducible apply WF.cond)
             · simp only [push_cast, ↓Int.cast_ofNat_Int, ↓ofV_m1, ↓ofV_min, Nat.reduceAdd, Nat.reduceEqDiff, Nat.reduceLT, Nat.reduceMul, Nat.reduceLeDiff, reduceCtorEq, reduceIte, cEd, sGoes, sTarget, iOf, hX, hT, hG, Int.reduceNeg, hle, hgt]; rfl
             try kernel_rfl
             try (focus ((first | exact True.intro | (simp only [and_self, implies_true, true_and, and_true, forall_const, false_implies, true_implies, Bool.not_eq_true', imp_self, shaped, shapedL, kndOf, cEd, sGoes, sTarget, iOf, hX, hT, hG, Int.reduceNeg, hle, hgt]; done) | (simp only [and_self, implies_true, true_and, and_true, forall_const, false_implies, true_implies, Bool.not_eq_true', imp_self, shaped, shapedL, kndOf, cEd, sGoes, sTarget, iOf, hX, hT, hG, Int.reduceNeg, hle, hgt]; (repeat' (first | assumption | exact True.intro | omega | apply And.intro))) | ((repeat' (first | assumption | exact True.intro | omega | apply And.intro)))); done)))
          | fail)
        with_reducible apply At.itNormal .ready
        · rfl
        · rfl
        · intro h; cases h
        apply haft
        intro w1 M1 D1 hA
        dsimp only
        repeat' (first
          | with_reducible (first | apply WF.seq | refine At.code ?_ | apply At.thenNormal | apply At.thenRet | apply At.thenExit | apply At.thenGoto | apply At.inNormal | apply At.inRet | apply At.inGoto | apply At.inHit | apply At.noGotoNormal | apply At.noGotoRet | apply At.noGotoExit | apply WF.skip | apply WF.ret | apply WF.exit | apply WF.goto | apply WF.label | apply WF.block | apply WF.scope)
          | ((with_reducible apply At.inMiss); · rfl)
          | ((with_reducible intro hif); first | (focus (cases hif; done)) | (simp only [Bool.not_eq_true', Bool.not_eq_false', decide_eq_true_eq, decide_eq_false_iff_not, Bool.and_eq_true, Bool.or_eq_true] at hif; try (exfalso; omega)) | (try (exfalso; omega)))
          | ((first | ((with_reducible apply WF.region cEd_ok tab_ok); · rfl) | ((with_reducible apply WF.drawn fol cEd_ok tab_ok); · rfl) | with_reducible apply WF.cond)
             · simp only [push_cast, ↓Int.cast_ofNat_Int, ↓ofV_m1, ↓ofV_min, Nat.reduceAdd, Nat.reduceEqDiff, Nat.reduceLT, Nat.reduceMul, Nat.reduceLeDiff, reduceCtorEq, reduceIte]; rfl
             try kernel_rfl
             try (focus ((first | exact True.intro | (simp only [and_self, implies_true, true_and, and_true, forall_const, false_implies, true_implies, Bool.not_eq_true', imp_self, shaped, shapedL, kndOf]; done) | (simp only [and_self, implies_true, true_and, and_true, forall_const, false_implies, true_implies, Bool.not_eq_true', imp_self, shaped, shapedL, kndOf]; (repeat' (first | assumption | exact True.intro | omega | apply And.intro))) | ((repeat' (first | assumption | exact True.intro | omega | apply And.intro)))); done)))
          | fail)
        apply At.endsPick [0, 1, 2, 3, 4, 11] tab_ok (fn := Try.f122) (rs := [.tmp 4]) hA hro (Nat.le_of_ble_eq_true rfl) rfl
        · simp only [push_cast, ↓Int.cast_ofNat_Int, ↓ofV_m1, ↓ofV_min, Nat.reduceAdd, Nat.reduceEqDiff, Nat.reduceLT, Nat.reduceMul, Nat.reduceLeDiff, reduceCtorEq, reduceIte, resV, resV1]; rfl
        · (focus ((first | exact True.intro | (simp only [and_self, implies_true, true_and, and_true, forall_const, false_implies, true_implies, Bool.not_eq_true', imp_self, shaped, shapedL, kndOf]; done) | (simp only [and_self, implies_true, true_and, and_true, forall_const, false_implies, true_implies, Bool.not_eq_true', imp_self, shaped, shapedL, kndOf]; (repeat' (first | assumption | exact True.intro | omega | apply And.intro))) | ((repeat' (first | assumption | exact True.intro | omega | apply And.intro)))); done))
        · rfl
        · rfl
        · rfl
        · (repeat' (first | exact trivial | exact .inl rfl | exact .inr (.same _) | exact .inr .loose | exact .inr (.arr (by assumption)) | apply And.intro | exact .inr (.arr fun q hq => by rcases (show q = 0 ∨ q = 1 by omega) with rfl | rfl <;> rfl)))
        · rfl
        · (first | exact trivial | (repeat' (first | exact trivial | exact rfl | assumption | exact prS_stable _ | exact i64S_stable _ | exact sndsS_stable _ | exact insS_stable _ | exact sndS_stable _ | exact hst _ _ | exact hst1 _ _ | exact hst2 _ _ | apply Stable.ite | apply And.intro | intro _ | (simp only [Stable, StableL, i64S, prS, insS, sndsS, sndS]; done))))
        · (repeat' (first | exact trivial | exact .inl rfl | exact .inr rfl | exact rfl | apply And.intro))
        · exact fun β => rfl
        · (first | exact trivial | (repeat' (first | exact trivial | exact rfl | assumption | exact prS_stable _ | exact i64S_stable _ | exact sndsS_stable _ | exact insS_stable _ | exact sndS_stable _ | exact hst _ _ | exact hst1 _ _ | exact hst2 _ _ | apply Stable.ite | apply And.intro | intro _ | (simp only [Stable, StableL, i64S, prS, insS, sndsS, sndS]; done))))
      simp only [Bool.not_eq_true] at hG
      · have hE : edgesL x i = [targV x] := by unfold edgesL; simp [hT, hG, hle, hgt]
        rw [hE] at haft
        repeat' (first
          | with_reducible (first | apply WF.seq | refine At.code ?_ | apply At.thenNormal | apply At.thenRet | apply At.thenExit | apply At.thenGoto | apply At.inNormal | apply At.inRet | apply At.inGoto | apply At.inHit | apply At.noGotoNormal | apply At.noGotoRet | apply At.noGotoExit | apply WF.skip | apply WF.ret | apply WF.exit | apply WF.goto | apply WF.label | apply WF.block | apply WF.scope)
          | ((with_reducible apply At.inMiss); · rfl)
          | ((with_reducible intro hif); first | (focus (cases hif; done)) | (simp only [Bool.not_eq_true', Bool.not_eq_false', decide_eq_true_eq, decide_eq_false_iff_not, Bool.and_eq_true, Bool.or_eq_true] at hif; try (exfalso; omega)) | (try (exfalso; omega)))
          | ((first | ((with_reducible apply WF.region cEd_ok tab_ok); · rfl) | ((with_reducible apply WF.drawn fol cEd_ok tab_ok); · rfl) | with_reducible apply WF.cond)
             · simp only [push_cast, ↓Int.cast_ofNat_Int, ↓ofV_m1, ↓ofV_min, Nat.reduceAdd, Nat.reduceEqDiff, Nat.reduceLT, Nat.reduceMul, Nat.reduceLeDiff, reduceCtorEq, reduceIte, cEd, sGoes, sTarget, iOf, hX, hT, hG, Int.reduceNeg, hle, hgt]; rfl
             try kernel_rfl
             try (focus ((first | exact True.intro | (simp only [and_self, implies_true, true_and, and_true, forall_const, false_implies, true_implies, Bool.not_eq_true', imp_self, shaped, shapedL, kndOf, cEd, sGoes, sTarget, iOf, hX, hT, hG, Int.reduceNeg, hle, hgt]; done) | (simp only [and_self, implies_true, true_and, and_true, forall_const, false_implies, true_implies, Bool.not_eq_true', imp_self, shaped, shapedL, kndOf, cEd, sGoes, sTarget, iOf, hX, hT, hG, Int.reduceNeg, hle, hgt]; (repeat' (first | assumption | exact True.intro | omega | apply And.intro))) | ((repeat' (first | assumption | exact True.intro | omega | apply And.intro)))); done)))
          | fail)
        with_reducible apply WF.split 9 2
        · rfl
        with_reducible apply At.run cEd_ok tab_ok
        · rfl
        · rfl
        · rfl
        · simp only [push_cast, ↓Int.cast_ofNat_Int, ↓ofV_m1, ↓ofV_min, Nat.reduceAdd, Nat.reduceEqDiff, Nat.reduceLT, Nat.reduceMul, Nat.reduceLeDiff, reduceCtorEq, reduceIte, noDefer, List.drop_zero, List.drop_succ_cons, cEd, sGoes, sTarget, iOf, hX, hT, hG, Int.reduceNeg, hle, hgt]; rfl
        · (focus ((first | exact True.intro | (simp only [and_self, implies_true, true_and, and_true, forall_const, false_implies, true_implies, Bool.not_eq_true', imp_self, shaped, shapedL, kndOf, cEd, sGoes, sTarget, iOf, hX, hT, hG, Int.reduceNeg, hle, hgt]; done) | (simp only [and_self, implies_true, true_and, and_true, forall_const, false_implies, true_implies, Bool.not_eq_true', imp_self, shaped, shapedL, kndOf, cEd, sGoes, sTarget, iOf, hX, hT, hG, Int.reduceNeg, hle, hgt]; (repeat' (first | assumption | exact True.intro | omega | apply And.intro))) | ((repeat' (first | assumption | exact True.intro | omega | apply And.intro)))); done))
        with_reducible apply At.yield (gr := _)
        · rfl
        · rfl
        · rfl
        · rfl
        · rfl
        · rfl
        · simp only [push_cast, ↓Int.cast_ofNat_Int, ↓ofV_m1, ↓ofV_min, Nat.reduceAdd, Nat.reduceEqDiff, Nat.reduceLT, Nat.reduceMul, Nat.reduceLeDiff, reduceCtorEq, reduceIte, noDefer, List.drop_zero, List.drop_succ_cons, cEd, sGoes, sTarget, iOf, hX, hT, hG, Int.reduceNeg, hle, hgt]; rfl
        · first | rfl | (simp only [push_cast, ↓Int.cast_ofNat_Int, ↓ofV_m1, ↓ofV_min, Nat.reduceAdd, Nat.reduceEqDiff, Nat.reduceLT, Nat.reduceMul, Nat.reduceLeDiff, reduceCtorEq, reduceIte, noDefer, List.drop_zero, List.drop_succ_cons, cEd, sGoes, sTarget, iOf, hX, hT, hG, Int.reduceNeg, hle, hgt]; done)
        · simp only [push_cast, ↓Int.cast_ofNat_Int, ↓ofV_m1, ↓ofV_min, Nat.reduceAdd, Nat.reduceEqDiff, Nat.reduceLT, Nat.reduceMul, Nat.reduceLeDiff, reduceCtorEq, reduceIte, noDefer, List.drop_zero, List.drop_succ_cons, cEd, sGoes, sTarget, iOf, hX, hT, hG, Int.reduceNeg, hle, hgt]; rfl
        · (focus ((first | exact True.intro | (simp only [and_self, implies_true, true_and, and_true, forall_const, false_implies, true_implies, Bool.not_eq_true', imp_self, shaped, shapedL, kndOf, cEd, sGoes, sTarget, iOf, hX, hT, hG, Int.reduceNeg, hle, hgt]; done) | (simp only [and_self, implies_true, true_and, and_true, forall_const, false_implies, true_implies, Bool.not_eq_true', imp_self, shaped, shapedL, kndOf, cEd, sGoes, sTarget, iOf, hX, hT, hG, Int.reduceNeg, hle, hgt]; (repeat' (first | assumption | exact True.intro | omega | apply And.intro))) | ((repeat' (first | assumption | exact True.intro | omega | apply And.intro)))); done))
        · simp only [push_cast, ↓Int.cast_ofNat_Int, ↓ofV_m1, ↓ofV_min, Nat.reduceAdd, Nat.reduceEqDiff, Nat.reduceLT, Nat.reduceMul, Nat.reduceLeDiff, reduceCtorEq, reduceIte, noDefer, List.drop_zero, List.drop_succ_cons, cEd, sGoes, sTarget, iOf, hX, hT, hG, Int.reduceNeg, hle, hgt]; rfl
        · (focus ((first | exact True.intro | (simp only [and_self, implies_true, true_and, and_true, forall_const, false_implies, true_implies, Bool.not_eq_true', imp_self, shaped, shapedL, kndOf, cEd, sGoes, sTarget, iOf, hX, hT, hG, Int.reduceNeg, hle, hgt]; done) | (simp only [and_self, implies_true, true_and, and_true, forall_const, false_implies, true_implies, Bool.not_eq_true', imp_self, shaped, shapedL, kndOf, cEd, sGoes, sTarget, iOf, hX, hT, hG, Int.reduceNeg, hle, hgt]; (repeat' (first | assumption | exact True.intro | omega | apply And.intro))) | ((repeat' (first | assumption | exact True.intro | omega | apply And.intro)))); done))
        · first | rfl | (simp only [push_cast, ↓Int.cast_ofNat_Int, ↓ofV_m1, ↓ofV_min, Nat.reduceAdd, Nat.reduceEqDiff, Nat.reduceLT, Nat.reduceMul, Nat.reduceLeDiff, reduceCtorEq, reduceIte, noDefer, List.drop_zero, List.drop_succ_cons, cEd, sGoes, sTarget, iOf, hX, hT, hG, Int.reduceNeg, hle, hgt]; done)
        · exact hrec
        · exact hcf
        · rfl
        · rfl
        · rfl
        intro lb E2 next hE2 hnext
        repeat' (first
          | with_reducible (first | apply WF.seq | refine At.code ?_ | apply At.thenNormal | apply At.thenRet | apply At.thenExit | apply At.thenGoto | apply At.inNormal | apply At.inRet | apply At.inGoto | apply At.inHit | apply At.noGotoNormal | apply At.noGotoRet | apply At.noGotoExit | apply WF.skip | apply WF.ret | apply WF.exit | apply WF.goto | apply WF.label | apply WF.block | apply WF.scope)
          | ((with_reducible apply At.inMiss); · rfl)
          | ((with_reducible intro hif); first | (focus (cases hif; done)) | (simp only [Bool.not_eq_true', Bool.not_eq_false', decide_eq_true_eq, decide_eq_false_iff_not, Bool.and_eq_true, Bool.or_eq_true] at hif; try (exfalso; omega)) | (try (exfalso; omega)))
          | ((first | ((with_reducible apply WF.region cEd_ok tab_ok); · rfl) | ((with_reducible apply WF.drawn fol cEd_ok tab_ok); · rfl) | with_reducible apply WF.cond)
             · simp only [push_cast, ↓Int.cast_ofNat_Int, ↓ofV_m1, ↓ofV_min, Nat.reduceAdd, Nat.reduceEqDiff, Nat.reduceLT, Nat.reduceMul, Nat.reduceLeDiff, reduceCtorEq, reduceIte, cEd, sGoes, sTarget, iOf, hX, hT, hG, Int.reduceNeg, hle, hgt]; rfl
             try kernel_rfl
             try (focus ((first | exact True.intro | (simp only [and_self, implies_true, true_and, and_true, forall_const, false_implies, true_implies, Bool.not_eq_true', imp_self, shaped, shapedL, kndOf, cEd, sGoes, sTarget, iOf, hX, hT, hG, Int.reduceNeg, hle, hgt]; done) | (simp only [and_self, implies_true, true_and, and_true, forall_const, false_implies, true_implies, Bool.not_eq_true', imp_self, shaped, shapedL, kndOf, cEd, sGoes, sTarget, iOf, hX, hT, hG, Int.reduceNeg, hle, hgt]; (repeat' (first | assumption | exact True.intro | omega | apply And.intro))) | ((repeat' (first | assumption | exact True.intro | omega | apply And.intro)))); done)))
          | fail)
        with_reducible apply At.begins hrec
        · rfl
        with_reducible refine At.code ?_
        repeat' (first
          | with_reducible (first | apply WF.seq | refine At.code ?_ | apply At.thenNormal | apply At.thenRet | apply At.thenExit | apply At.thenGoto | apply At.inNormal | apply At.inRet | apply At.inGoto | apply At.inHit | apply At.noGotoNormal | apply At.noGotoRet | apply At.noGotoExit | apply WF.skip | apply WF.ret | apply WF.exit | apply WF.goto | apply WF.label | apply WF.block | apply WF.scope)
          | ((with_reducible apply At.inMiss); · rfl)
          | ((with_reducible intro hif); first | (focus (cases hif; done)) | (simp only [Bool.not_eq_true', Bool.not_eq_false', decide_eq_true_eq, decide_eq_false_iff_not, Bool.and_eq_true, Bool.or_eq_true] at hif; try (exfalso; omega)) | (try (exfalso; omega)))
          | ((first | ((with_reducible apply WF.region cEd_ok tab_ok); · rfl) | ((with_reducible apply WF.drawn fol cEd_ok tab_ok); · rfl) | with_reducible apply WF.cond)
             · simp only [push_cast, ↓Int.cast_ofNat_Int, ↓ofV_m1, ↓ofV_min, Nat.reduceAdd, Nat.reduceEqDiff, Nat.reduceLT, Nat.reduceMul, Nat.reduceLeDiff, reduceCtorEq, reduceIte, cEd, sGoes, sTarget, iOf, hX, hT, hG, Int.reduceNeg, hle, hgt, inN, inR]; rfl
             try kernel_rfl
             try (focus ((first | exact True.intro | (simp only [and_self, implies_true, true_and, and_true, forall_const, false_implies, true_implies, Bool.not_eq_true', imp_self, shaped, shapedL, kndOf, cEd, sGoes, sTarget, iOf, hX, hT, hG, Int.reduceNeg, hle, hgt, inN, inR]; done) | (simp only [and_self, implies_true, true_and, and_true, forall_const, false_implies, true_implies, Bool.not_eq_true', imp_self, shaped, shapedL, kndOf, cEd, sGoes, sTarget, iOf, hX, hT, hG, Int.reduceNeg, hle, hgt, inN, inR]; (repeat' (first | assumption | exact True.intro | omega | apply And.intro))) | ((repeat' (first | assumption | exact True.intro | omega | apply And.intro)))); done)))
          | fail)
        with_reducible apply At.roundNormal
        · first | rfl | (simp only [push_cast, ↓Int.cast_ofNat_Int, ↓ofV_m1, ↓ofV_min, Nat.reduceAdd, Nat.reduceEqDiff, Nat.reduceLT, Nat.reduceMul, Nat.reduceLeDiff, reduceCtorEq, reduceIte, noDefer, List.drop_zero, List.drop_succ_cons, cEd, sGoes, sTarget, iOf, hX, hT, hG, Int.reduceNeg, hle, hgt]; done)
        apply hnext
        with_reducible apply At.runEnd cEd_ok tab_ok
        · rfl
        · rfl
        · rfl
        · simp only [push_cast, ↓Int.cast_ofNat_Int, ↓ofV_m1, ↓ofV_min, Nat.reduceAdd, Nat.reduceEqDiff, Nat.reduceLT, Nat.reduceMul, Nat.reduceLeDiff, reduceCtorEq, reduceIte, noDefer, List.drop_zero, List.drop_succ_cons, cEd, sGoes, sTarget, iOf, hX, hT, hG, Int.reduceNeg, hle, hgt]; rfl
        · (focus ((first | exact True.intro | (simp only [and_self, implies_true, true_and, and_true, forall_const, false_implies, true_implies, Bool.not_eq_true', imp_self, shaped, shapedL, kndOf, cEd, sGoes, sTarget, iOf, hX, hT, hG, Int.reduceNeg, hle, hgt]; done) | (simp only [and_self, implies_true, true_and, and_true, forall_const, false_implies, true_implies, Bool.not_eq_true', imp_self, shaped, shapedL, kndOf, cEd, sGoes, sTarget, iOf, hX, hT, hG, Int.reduceNeg, hle, hgt]; (repeat' (first | assumption | exact True.intro | omega | apply And.intro))) | ((repeat' (first | assumption | exact True.intro | omega | apply And.intro)))); done))
        repeat' (first
          | with_reducible (first | apply WF.seq | refine At.code ?_ | apply At.thenNormal | apply At.thenRet | apply At.thenExit | apply At.thenGoto | apply At.inNormal | apply At.inRet | apply At.inGoto | apply At.inHit | apply At.noGotoNormal | apply At.noGotoRet | apply At.noGotoExit | apply WF.skip | apply WF.ret | apply WF.exit | apply WF.goto | apply WF.label | apply WF.block | apply WF.scope)
          | ((with_reducible apply At.inMiss); · rfl)
          | ((with_reducible intro hif); first | (focus (cases hif; done)) | (simp only [Bool.not_eq_true', Bool.not_eq_false', decide_eq_true_eq, decide_eq_false_iff_not, Bool.and_eq_true, Bool.or_eq_true] at hif; try (exfalso; omega)) | (try (exfalso; omega)))
          | ((first | ((with_reducible apply WF.region cEd_ok tab_ok); · rfl) | ((with_reducible apply WF.drawn fol cEd_ok tab_ok); · rfl) | with_reducible apply WF.cond)
             · simp only [push_cast, ↓Int.cast_ofNat_Int, ↓ofV_m1, ↓ofV_min, Nat.reduceAdd, Nat.reduceEqDiff, Nat.reduceLT, Nat.reduceMul, Nat.reduceLeDiff, reduceCtorEq, reduceIte, cEd, sGoes, sTarget, iOf, hX, hT, hG, Int.reduceNeg, hle, hgt]; rfl
             try kernel_rfl
             try (focus ((first | exact True.intro | (simp only [and_self, implies_true, true_and, and_true, forall_const, false_implies, true_implies, Bool.not_eq_true', imp_self, shaped, shapedL, kndOf, cEd, sGoes, sTarget, iOf, hX, hT, hG, Int.reduceNeg, hle, hgt]; done) | (simp only [and_self, implies_true, true_and, and_true, forall_const, false_implies, true_implies, Bool.not_eq_true', imp_self, shaped, shapedL, kndOf, cEd, sGoes, sTarget, iOf, hX, hT, hG, Int.reduceNeg, hle, hgt]; (repeat' (first | assumption | exact True.intro | omega | apply And.intro))) | ((repeat' (first | assumption | exact True.intro | omega | apply And.intro)))); done)))
          | fail)
        with_reducible apply At.itNormal .ready
        · rfl
        · rfl
        · intro h; cases h
        apply haft
        intro w1 M1 D1 hA
        dsimp only
        repeat' (first
          | with_reducible (first | apply WF.seq | refine At.code ?_ | apply At.thenNormal | apply At.thenRet | apply At.thenExit | apply At.thenGoto | apply At.inNormal | apply At.inRet | apply At.inGoto | apply At.inHit | apply At.noGotoNormal | apply At.noGotoRet | apply At.noGotoExit | apply WF.skip | apply WF.ret | apply WF.exit | apply WF.goto | apply WF.label | apply WF.block | apply WF.scope)
          | ((with_reducible apply At.inMiss); · rfl)
          | ((with_reducible intro hif); first | (focus (cases hif; done)) | (simp only [Bool.not_eq_true', Bool.not_eq_false', decide_eq_true_eq, decide_eq_false_iff_not, Bool.and_eq_true, Bool.or_eq_true] at hif; try (exfalso; omega)) | (try (exfalso; omega)))
          | ((first | ((with_reducible apply WF.region cEd_ok tab_ok); · rfl) | ((with_reducible apply WF.drawn fol cEd_ok tab_ok); · rfl) | with_reducible apply WF.cond)
             · simp only [push_cast, ↓Int.cast_ofNat_Int, ↓ofV_m1, ↓ofV_min, Nat.reduceAdd, Nat.reduceEqDiff, Nat.reduceLT, Nat.reduceMul, Nat.reduceLeDiff, reduceCtorEq, reduceIte]; rfl
             try kernel_rfl
             try (focus ((first | exact True.intro | (simp only [and_self, implies_true, true_and, and_true, forall_const, false_implies, true_implies, Bool.not_eq_true', imp_self, shaped, shapedL, kndOf]; done) | (simp only [and_self, implies_true, true_and, and_true, forall_const, false_implies, true_implies, Bool.not_eq_true', imp_self, shaped, shapedL, kndOf]; (repeat' (first | assumption | exact True.intro | omega | apply And.intro))) | ((repeat' (first | assumption | exact True.intro | omega | apply And.intro)))); done)))
          | fail)
        apply At.endsPick [0, 1, 2, 3, 4, 9] tab_ok (fn := Try.f122) (rs := [.tmp 4]) hA hro (Nat.le_of_ble_eq_true rfl) rfl
        · simp only [push_cast, ↓Int.cast_ofNat_Int, ↓ofV_m1, ↓ofV_min, Nat.reduceAdd, Nat.reduceEqDiff, Nat.reduceLT, Nat.reduceMul, Nat.reduceLeDiff, reduceCtorEq, reduceIte, resV, resV1]; rfl
        · (focus ((first | exact True.intro | (simp only [and_self, implies_true, true_and, and_true, forall_const, false_implies, true_implies, Bool.not_eq_true', imp_self, shaped, shapedL, kndOf]; done) | (simp only [and_self, implies_true, true_and, and_true, forall_const, false_implies, true_implies, Bool.not_eq_true', imp_self, shaped, shapedL, kndOf]; (repeat' (first | assumption | exact True.intro | omega | apply And.intro))) | ((repeat' (first | assumption | exact True.intro | omega | apply And.intro)))); done))
        · rfl
        · rfl
        · rfl
        · (repeat' (first | exact trivial | exact .inl rfl | exact .inr (.same _) | exact .inr .loose | exact .inr (.arr (by assumption)) | apply And.intro | exact .inr (.arr fun q hq => (by have h0 : q = 0 := (by omega); subst h0; rfl))))
        · rfl
        · (first | exact trivial | (repeat' (first | exact trivial | exact rfl | assumption | exact prS_stable _ | exact i64S_stable _ | exact sndsS_stable _ | exact insS_stable _ | exact sndS_stable _ | exact hst _ _ | exact hst1 _ _ | exact hst2 _ _ | apply Stable.ite | apply And.intro | intro _ | (simp only [Stable, StableL, i64S, prS, insS, sndsS, sndS]; done))))
        · (repeat' (first | exact trivial | exact .inl rfl | exact .inr rfl | exact rfl | apply And.intro))
        · exact fun β => rfl
        · (first | exact trivial | (repeat' (first | exact trivial | exact rfl | assumption | exact prS_stable _ | exact i64S_stable _ | exact sndsS_stable _ | exact insS_stable _ | exact sndS_stable _ | exact hst _ _ | exact hst1 _ _ | exact hst2 _ _ | apply Stable.ite | apply And.intro | intro _ | (simp only [Stable, StableL, i64S, prS, insS, sndsS, sndS]; done))))
    · have hgt : i < targV x := by omega
      by_cases hG : goesB x = true
      · by_cases hg : i + 1 < targV x
        · have hE : edgesL x i = [i + 1, targV x] := by unfold edgesL; simp [hT, hG, hle, hgt, hg]
          rw [hE] at haft
          repeat' (first
            | with_reducible (first | apply WF.seq | refine At.code ?_ | apply At.thenNormal | apply At.thenRet | apply At.thenExit | apply At.thenGoto | apply At.inNormal | apply At.inRet | apply At.inGoto | apply At.inHit | apply At.noGotoNormal | apply At.noGotoRet | apply At.noGotoExit | apply WF.skip | apply WF.ret | apply WF.exit | apply WF.goto | apply WF.label | apply WF.block | apply WF.scope)
            | ((with_reducible apply At.inMiss); · rfl)
            | ((with_reducible intro hif); first | (focus (cases hif; done)) | (simp only [Bool.not_eq_true', Bool.not_eq_false', decide_eq_true_eq, decide_eq_false_iff_not, Bool.and_eq_true, Bool.or_eq_true] at hif; try (exfalso; omega)) | (try (exfalso; omega)))
            | ((first | ((with_reducible apply WF.region cEd_ok tab_ok); · rfl) | ((with_reducible apply WF.drawn fol cEd_ok tab_ok); · rfl) | with_reducible apply WF.cond)
               · simp only [push_cast, ↓Int.cast_ofNat_Int, ↓ofV_m1, ↓ofV_min, Nat.reduceAdd, Nat.reduceEqDiff, Nat.reduceLT, Nat.reduceMul, Nat.reduceLeDiff, reduceCtorEq, reduceIte, cEd, sGoes, sTarget, iOf, hX, hT, hG, Int.reduceNeg, hle, hgt, hg]; rfl
               try kernel_rfl
               try (focus ((first | exact True.intro | (simp only [and_self, implies_true, true_and, and_true, forall_const, false_implies, true_implies, Bool.not_eq_true', imp_self, shaped, shapedL, kndOf, cEd, sGoes, sTarget, iOf, hX, hT, hG, Int.reduceNeg, hle, hgt, hg]; done) | (simp only [and_self, implies_true, true_and, and_true, forall_const, false_implies, true_implies, Bool.not_eq_true', imp_self, shaped, shapedL, kndOf, cEd, sGoes, sTarget, iOf, hX, hT, hG, Int.reduceNeg, hle, hgt, hg]; (repeat' (first | assumption | exact True.intro | omega | apply And.intro))) | ((repeat' (first | assumption | exact True.intro | omega | apply And.intro)))); done)))
            | fail)
          with_reducible apply WF.split 5 2
          · rfl
          with_reducible apply At.run cEd_ok tab_ok
          · rfl
          · rfl
          · rfl
          · simp only [push_cast, ↓Int.cast_ofNat_Int, ↓ofV_m1, ↓ofV_min, Nat.reduceAdd, Nat.reduceEqDiff, Nat.reduceLT, Nat.reduceMul, Nat.reduceLeDiff, reduceCtorEq, reduceIte, noDefer, List.drop_zero, List.drop_succ_cons, cEd, sGoes, sTarget, iOf, hX, hT, hG, Int.reduceNeg, hle, hgt, hg]; rfl
          · (focus ((first | exact True.intro | (simp only [and_self, implies_true, true_and, and_true, forall_const, false_implies, true_implies, Bool.not_eq_true', imp_self, shaped, shapedL, kndOf, cEd, sGoes, sTarget, iOf, hX, hT, hG, Int.reduceNeg, hle, hgt, hg]; done) | (simp only [and_self, implies_true, true_and, and_true, forall_const, false_implies, true_implies, Bool.not_eq_true', imp_self, shaped, shapedL, kndOf, cEd, sGoes, sTarget, iOf, hX, hT, hG, Int.reduceNeg, hle, hgt, hg]; (repeat' (first | assumption | exact True.intro | omega | apply And.intro))) | ((repeat' (first | assumption | exact True.intro | omega | apply And.intro)))); done))
          with_reducible apply At.yield (gr := _)
          · rfl
          · rfl
          · rfl
          · rfl
          · rfl
          · rfl
          · simp only [push_cast, ↓Int.cast_ofNat_Int, ↓ofV_m1, ↓ofV_min, Nat.reduceAdd, Nat.reduceEqDiff, Nat.reduceLT, Nat.reduceMul, Nat.reduceLeDiff, reduceCtorEq, reduceIte, noDefer, List.drop_zero, List.drop_succ_cons, cEd, sGoes, sTarget, iOf, hX, hT, hG, Int.reduceNeg, hle, hgt, hg]; rfl
          · first | rfl | (simp only [push_cast, ↓Int.cast_ofNat_Int, ↓ofV_m1, ↓ofV_min, Nat.reduceAdd, Nat.reduceEqDiff, Nat.reduceLT, Nat.reduceMul, Nat.reduceLeDiff, reduceCtorEq, reduceIte, noDefer, List.drop_zero, List.drop_succ_cons, cEd, sGoes, sTarget, iOf, hX, hT, hG, Int.reduceNeg, hle, hgt, hg]; done)
          · simp only [push_cast, ↓Int.cast_ofNat_Int, ↓ofV_m1, ↓ofV_min, Nat.reduceAdd, Nat.reduceEqDiff, Nat.reduceLT, Nat.reduceMul, Nat.reduceLeDiff, reduceCtorEq, reduceIte, noDefer, List.drop_zero, List.drop_succ_cons, cEd, sGoes, sTarget, iOf, hX, hT, hG, Int.reduceNeg, hle, hgt, hg]; rfl
          · (focus ((first | exact True.intro | (simp only [and_self, implies_true, true_and, and_true, forall_const, false_implies, true_implies, Bool.not_eq_true', imp_self, shaped, shapedL, kndOf, cEd, sGoes, sTarget, iOf, hX, hT, hG, Int.reduceNeg, hle, hgt, hg]; done) | (simp only [and_self, implies_true, true_and, and_true, forall_const, false_implies, true_implies, Bool.not_eq_true', imp_self, shaped, shapedL, kndOf, cEd, sGoes, sTarget, iOf, hX, hT, hG, Int.reduceNeg, hle, hgt, hg]; (repeat' (first | assumption | exact True.intro | omega | apply And.intro))) | ((repeat' (first | assumption | exact True.intro | omega | apply And.intro)))); done))
          · simp only [push_cast, ↓Int.cast_ofNat_Int, ↓ofV_m1, ↓ofV_min, Nat.reduceAdd, Nat.reduceEqDiff, Nat.reduceLT, Nat.reduceMul, Nat.reduceLeDiff, reduceCtorEq, reduceIte, noDefer, List.drop_zero, List.drop_succ_cons, cEd, sGoes, sTarget, iOf, hX, hT, hG, Int.reduceNeg, hle, hgt, hg]; rfl
          · (focus ((first | exact True.intro | (simp only [and_self, implies_true, true_and, and_true, forall_const, false_implies, true_implies, Bool.not_eq_true', imp_self, shaped, shapedL, kndOf, cEd, sGoes, sTarget, iOf, hX, hT, hG, Int.reduceNeg, hle, hgt, hg]; done) | (simp only [and_self, implies_true, true_and, and_true, forall_const, false_implies, true_implies, Bool.not_eq_true', imp_self, shaped, shapedL, kndOf, cEd, sGoes, sTarget, iOf, hX, hT, hG, Int.reduceNeg, hle, hgt, hg]; (repeat' (first | assumption | exact True.intro | omega | apply And.intro))) | ((repeat' (first | assumption | exact True.intro | omega | apply And.intro)))); done))
          · first | rfl | (simp only [push_cast, ↓Int.cast_ofNat_Int, ↓ofV_m1, ↓ofV_min, Nat.reduceAdd, Nat.reduceEqDiff, Nat.reduceLT, Nat.reduceMul, Nat.reduceLeDiff, reduceCtorEq, reduceIte, noDefer, List.drop_zero, List.drop_succ_cons, cEd, sGoes, sTarget, iOf, hX, hT, hG, Int.reduceNeg, hle, hgt, hg]; done)
          · exact hrec
          · exact hcf
          · rfl
          · rfl
          · rfl
          intro lb E2 next hE2 hnext
          repeat' (first
            | with_reducible (first | apply WF.seq | refine At.code ?_ | apply At.thenNormal | apply At.thenRet | apply At.thenExit | apply At.thenGoto | apply At.inNormal | apply At.inRet | apply At.inGoto | apply At.inHit | apply At.noGotoNormal | apply At.noGotoRet | apply At.noGotoExit | apply WF.skip | apply WF.ret | apply WF.exit | apply WF.goto | apply WF.label | apply WF.block | apply WF.scope)
            | ((with_reducible apply At.inMiss); · rfl)
            | ((with_reducible intro hif); first | (focus (cases hif; done)) | (simp only [Bool.not_eq_true', Bool.not_eq_false', decide_eq_true_eq, decide_eq_false_iff_not, Bool.and_eq_true, Bool.or_eq_true] at hif; try (exfalso; omega)) | (try (exfalso; omega)))
            | ((first | ((with_reducible apply WF.region cEd_ok tab_ok); · rfl) | ((with_reducible apply WF.drawn fol cEd_ok tab_ok); · rfl) | with_reducible apply WF.cond)
               · simp only [push_cast, ↓Int.cast_ofNat_Int, ↓ofV_m1, ↓ofV_min, Nat.reduceAdd, Nat.reduceEqDiff, Nat.reduceLT, Nat.reduceMul, Nat.reduceLeDiff, reduceCtorEq, reduceIte, cEd, sGoes, sTarget, iOf, hX, hT, hG, Int.reduceNeg, hle, hgt, hg]; rfl
               try kernel_rfl
               try (focus ((first | exact True.intro | (simp only [and_self, implies_true, true_and, and_true, forall_const, false_implies, true_implies, Bool.not_eq_true', imp_self, shaped, shapedL, kndOf, cEd, sGoes, sTarget, iOf, hX, hT, hG, Int.reduceNeg, hle, hgt, hg]; done) | (simp only [and_self, implies_true, true_and, and_true, forall_const, false_implies, true_implies, Bool.not_eq_true', imp_self, shaped, shapedL, kndOf, cEd, sGoes, sTarget, iOf, hX, hT, hG, Int.reduceNeg, hle, hgt, hg]; (repeat' (first | assumption | exact True.intro | omega | apply And.intro))) | ((repeat' (first | assumption | exact True.intro | omega | apply And.intro)))); done)))
            | fail)
          with_reducible apply At.begins hrec
          · rfl
          with_reducible refine At.code ?_
          repeat' (first
            | with_reducible (first | apply WF.seq | refine At.code ?_ | apply At.thenNormal | apply At.thenRet | apply At.thenExit | apply At.thenGoto | apply At.inNormal | apply At.inRet | apply At.inGoto | apply At.inHit | apply At.noGotoNormal | apply At.noGotoRet | apply At.noGotoExit | apply WF.skip | apply WF.ret | apply WF.exit | apply WF.goto | apply WF.label | apply WF.block | apply WF.scope)
            | ((with_reducible apply At.inMiss); · rfl)
            | ((with_reducible intro hif); first | (focus (cases hif; done)) | (simp only [Bool.not_eq_true', Bool.not_eq_false', decide_eq_true_eq, decide_eq_false_iff_not, Bool.and_eq_true, Bool.or_eq_true] at hif; try (exfalso; omega)) | (try (exfalso; omega)))
            | ((first | ((with_reducible apply WF.region cEd_ok tab_ok); · rfl) | ((with_reducible apply WF.drawn fol cEd_ok tab_ok); · rfl) | with_reducible apply WF.cond)
               · simp only [push_cast, ↓Int.cast_ofNat_Int, ↓ofV_m1, ↓ofV_min, Nat.reduceAdd, Nat.reduceEqDiff, Nat.reduceLT, Nat.reduceMul, Nat.reduceLeDiff, reduceCtorEq, reduceIte, cEd, sGoes, sTarget, iOf, hX, hT, hG, Int.reduceNeg, hle, hgt, hg, inN, inR]; rfl
               try kernel_rfl
               try (focus ((first | exact True.intro | (simp only [and_self, implies_true, true_and, and_true, forall_const, false_implies, true_implies, Bool.not_eq_true', imp_self, shaped, shapedL, kndOf, cEd, sGoes, sTarget, iOf, hX, hT, hG, Int.reduceNeg, hle, hgt, hg, inN, inR]; done) | (simp only [and_self, implies_true, true_and, and_true, forall_const, false_implies, true_implies, Bool.not_eq_true', imp_self, shaped, shapedL, kndOf, cEd, sGoes, sTarget, iOf, hX, hT, hG, Int.reduceNeg, hle, hgt, hg, inN, inR]; (repeat' (first | assumption | exact True.intro | omega | apply And.intro))) | ((repeat' (first | assumption | exact True.intro | omega | apply And.intro)))); done)))
            | fail)
          with_reducible apply At.roundNormal
          · first | rfl | (simp only [push_cast, ↓Int.cast_ofNat_Int, ↓ofV_m1, ↓ofV_min, Nat.reduceAdd, Nat.reduceEqDiff, Nat.reduceLT, Nat.reduceMul, Nat.reduceLeDiff, reduceCtorEq, reduceIte, noDefer, List.drop_zero, List.drop_succ_cons, cEd, sGoes, sTarget, iOf, hX, hT, hG, Int.reduceNeg, hle, hgt, hg]; done)
          apply hnext
          with_reducible apply At.runEnd cEd_ok tab_ok
          · rfl
          · rfl
          · rfl
          · simp only [push_cast, ↓Int.cast_ofNat_Int, ↓ofV_m1, ↓ofV_min, Nat.reduceAdd, Nat.reduceEqDiff, Nat.reduceLT, Nat.reduceMul, Nat.reduceLeDiff, reduceCtorEq, reduceIte, noDefer, List.drop_zero, List.drop_succ_cons, cEd, sGoes, sTarget, iOf, hX, hT, hG, Int.reduceNeg, hle, hgt, hg]; rfl
          · (focus ((first | exact True.intro | (simp only [and_self, implies_true, true_and, and_true, forall_const, false_implies, true_implies, Bool.not_eq_true', imp_self, shaped, shapedL, kndOf, cEd, sGoes, sTarget, iOf, hX, hT, hG, Int.reduceNeg, hle, hgt, hg]; done) | (simp only [and_self, implies_true, true_and, and_true, forall_const, false_implies, true_implies, Bool.not_eq_true', imp_self, shaped, shapedL, kndOf, cEd, sGoes, sTarget, iOf, hX, hT, hG, Int.reduceNeg, hle, hgt, hg]; (repeat' (first | assumption | exact True.intro | omega | apply And.intro))) | ((repeat' (first | assumption | exact True.intro | omega | apply And.intro)))); done))
          repeat' (first
            | with_reducible (first | apply WF.seq | refine At.code ?_ | apply At.thenNormal | apply At.thenRet | apply At.thenExit | apply At.thenGoto | apply At.inNormal | apply At.inRet | apply At.inGoto | apply At.inHit | apply At.noGotoNormal | apply At.noGotoRet | apply At.noGotoExit | apply WF.skip | apply WF.ret | apply WF.exit | apply WF.goto | apply WF.label | apply WF.block | apply WF.scope)
            | ((with_reducible apply At.inMiss); · rfl)
            | ((with_reducible intro hif); first | (focus (cases hif; done)) | (simp only [Bool.not_eq_true', Bool.not_eq_false', decide_eq_true_eq, decide_eq_false_iff_not, Bool.and_eq_true, Bool.or_eq_true] at hif; try (exfalso; omega)) | (try (exfalso; omega)))
            | ((first | ((with_reducible apply WF.region cEd_ok tab_ok); · rfl) | ((with_reducible apply WF.drawn fol cEd_ok tab_ok); · rfl) | with_reducible apply WF.cond)
               · simp only [push_cast, ↓Int.cast_ofNat_Int, ↓ofV_m1, ↓ofV_min, Nat.reduceAdd, Nat.reduceEqDiff, Nat.reduceLT, Nat.reduceMul, Nat.reduceLeDiff, reduceCtorEq, reduceIte, cEd, sGoes, sTarget, iOf, hX, hT, hG, Int.reduceNeg, hle, hgt, hg]; rfl
               try kernel_rfl
               try (focus ((first | exact True.intro | (simp only [and_self, implies_true, true_and, and_true, forall_const, false_implies, true_implies, Bool.not_eq_true', imp_self, shaped, shapedL, kndOf, cEd, sGoes, sTarget, iOf, hX, hT, hG, Int.reduceNeg, hle, hgt, hg]; done) | (simp only [and_self, implies_true, true_and, and_true, forall_const, false_implies, true_implies, Bool.not_eq_true', imp_self, shaped, shapedL, kndOf, cEd, sGoes, sTarget, iOf, hX, hT, hG, Int.reduceNeg, hle, hgt, hg]; (repeat' (first | assumption | exact True.intro | omega | apply And.intro))) | ((repeat' (first | assumption | exact True.intro | omega | apply And.intro)))); done)))
            | fail)
          with_reducible apply WF.split 2 0
          · rfl
          with_reducible apply At.run cEd_ok tab_ok
          · rfl
          · rfl
          · rfl
          · simp only [push_cast, ↓Int.cast_ofNat_Int, ↓ofV_m1, ↓ofV_min, Nat.reduceAdd, Nat.reduceEqDiff, Nat.reduceLT, Nat.reduceMul, Nat.reduceLeDiff, reduceCtorEq, reduceIte, noDefer, List.drop_zero, List.drop_succ_cons, cEd, sGoes, sTarget, iOf, hX, hT, hG, Int.reduceNeg, hle, hgt, hg]; rfl
          · (focus ((first | exact True.intro | (simp only [and_self, implies_true, true_and, and_true, forall_const, false_implies, true_implies, Bool.not_eq_true', imp_self, shaped, shapedL, kndOf, cEd, sGoes, sTarget, iOf, hX, hT, hG, Int.reduceNeg, hle, hgt, hg]; done) | (simp only [and_self, implies_true, true_and, and_true, forall_const, false_implies, true_implies, Bool.not_eq_true', imp_self, shaped, shapedL, kndOf, cEd, sGoes, sTarget, iOf, hX, hT, hG, Int.reduceNeg, hle, hgt, hg]; (repeat' (first | assumption | exact True.intro | omega | apply And.intro))) | ((repeat' (first | assumption | exact True.intro | omega | apply And.intro)))); done))
          with_reducible apply At.yield (gr := _)
          · rfl
          · rfl
          · rfl
          · rfl
          · rfl
          · rfl
          · simp only [push_cast, ↓Int.cast_ofNat_Int, ↓ofV_m1, ↓ofV_min, Nat.reduceAdd, Nat.reduceEqDiff, Nat.reduceLT, Nat.reduceMul, Nat.reduceLeDiff, reduceCtorEq, reduceIte, noDefer, List.drop_zero, List.drop_succ_cons, cEd, sGoes, sTarget, iOf, hX, hT, hG, Int.reduceNeg, hle, hgt, hg]; rfl
          · first | rfl | (simp only [push_cast, ↓Int.cast_ofNat_Int, ↓ofV_m1, ↓ofV_min, Nat.reduceAdd, Nat.reduceEqDiff, Nat.reduceLT, Nat.reduceMul, Nat.reduceLeDiff, reduceCtorEq, reduceIte, noDefer, List.drop_zero, List.drop_succ_cons, cEd, sGoes, sTarget, iOf, hX, hT, hG, Int.reduceNeg, hle, hgt, hg]; done)
          · simp only [push_cast, ↓Int.cast_ofNat_Int, ↓ofV_m1, ↓ofV_min, Nat.reduceAdd, Nat.reduceEqDiff, Nat.reduceLT, Nat.reduceMul, Nat.reduceLeDiff, reduceCtorEq, reduceIte, noDefer, List.drop_zero, List.drop_succ_cons, cEd, sGoes, sTarget, iOf, hX, hT, hG, Int.reduceNeg, hle, hgt, hg]; rfl
          · (focus ((first | exact True.intro | (simp only [and_self, implies_true, true_and, and_true, forall_const, false_implies, true_implies, Bool.not_eq_true', imp_self, shaped, shapedL, kndOf, cEd, sGoes, sTarget, iOf, hX, hT, hG, Int.reduceNeg, hle, hgt, hg]; done) | (simp only [and_self, implies_true, true_and, and_true, forall_const, false_implies, true_implies, Bool.not_eq_true', imp_self, shaped, shapedL, kndOf, cEd, sGoes, sTarget, iOf, hX, hT, hG, Int.reduceNeg, hle, hgt, hg]; (repeat' (first | assumption | exact True.intro | omega | apply And.intro))) | ((repeat' (first | assumption | exact True.intro | omega | apply And.intro)))); done))
          · simp only [push_cast, ↓Int.cast_ofNat_Int, ↓ofV_m1, ↓ofV_min, Nat.reduceAdd, Nat.reduceEqDiff, Nat.reduceLT, Nat.reduceMul, Nat.reduceLeDiff, reduceCtorEq, reduceIte, noDefer, List.drop_zero, List.drop_succ_cons, cEd, sGoes, sTarget, iOf, hX, hT, hG, Int.reduceNeg, hle, hgt, hg]; rfl
          · (focus ((first | exact True.intro | (simp only [and_self, implies_true, true_and, and_true, forall_const, false_implies, true_implies, Bool.not_eq_true', imp_self, shaped, shapedL, kndOf, cEd, sGoes, sTarget, iOf, hX, hT, hG, Int.reduceNeg, hle, hgt, hg]; done) | (simp only [and_self, implies_true, true_and, and_true, forall_const, false_implies, true_implies, Bool.not_eq_true', imp_self, shaped, shapedL, kndOf, cEd, sGoes, sTarget, iOf, hX, hT, hG, Int.reduceNeg, hle, hgt, hg]; (repeat' (first | assumption | exact True.intro | omega | apply And.intro))) | ((repeat' (first | assumption | exact True.intro | omega | apply And.intro)))); done))
          · first | rfl | (simp only [push_cast, ↓Int.cast_ofNat_Int, ↓ofV_m1, ↓ofV_min, Nat.reduceAdd, Nat.reduceEqDiff, Nat.reduceLT, Nat.reduceMul, Nat.reduceLeDiff, reduceCtorEq, reduceIte, noDefer, List.drop_zero, List.drop_succ_cons, cEd, sGoes, sTarget, iOf, hX, hT, hG, Int.reduceNeg, hle, hgt, hg]; done)
          · exact hrec
          · exact hcf
          · rfl
          · rfl
          · rfl
          intro lb E2 next hE2 hnext
          repeat' (first
            | with_reducible (first | apply WF.seq | refine At.code ?_ | apply At.thenNormal | apply At.thenRet | apply At.thenExit | apply At.thenGoto | apply At.inNormal | apply At.inRet | apply At.inGoto | apply At.inHit | apply At.noGotoNormal | apply At.noGotoRet | apply At.noGotoExit | apply WF.skip | apply WF.ret | apply WF.exit | apply WF.goto | apply WF.label | apply WF.block | apply WF.scope)
            | ((with_reducible apply At.inMiss); · rfl)
            | ((with_reducible intro hif); first | (focus (cases hif; done)) | (simp only [Bool.not_eq_true', Bool.not_eq_false', decide_eq_true_eq, decide_eq_false_iff_not, Bool.and_eq_true, Bool.or_eq_true] at hif; try (exfalso; omega)) | (try (exfalso; omega)))
            | ((first | ((with_reducible apply WF.region cEd_ok tab_ok); · rfl) | ((with_reducible apply WF.drawn fol cEd_ok tab_ok); · rfl) | with_reducible apply WF.cond)
               · simp only [push_cast, ↓Int.cast_ofNat_Int, ↓ofV_m1, ↓ofV_min, Nat.reduceAdd, Nat.reduceEqDiff, Nat.reduceLT, Nat.reduceMul, Nat.reduceLeDiff, reduceCtorEq, reduceIte, cEd, sGoes, sTarget, iOf, hX, hT, hG, Int.reduceNeg, hle, hgt, hg]; rfl
               try kernel_rfl
               try (focus ((first | exact True.intro | (simp only [and_self, implies_true, true_and, and_true, forall_const, false_implies, true_implies, Bool.not_eq_true', imp_self, shaped, shapedL, kndOf, cEd, sGoes, sTarget, iOf, hX, hT, hG, Int.reduceNeg, hle, hgt, hg]; done) | (simp only [and_self, implies_true, true_and, and_true, forall_const, false_implies, true_implies, Bool.not_eq_true', imp_self, shaped, shapedL, kndOf, cEd, sGoes, sTarget, iOf, hX, hT, hG, Int.reduceNeg, hle, hgt, hg]; (repeat' (first | assumption | exact True.intro | omega | apply And.intro))) | ((repeat' (first | assumption | exact True.intro | omega | apply And.intro)))); done)))
            | fail)
          with_reducible apply At.begins hrec
          · rfl
          with_reducible refine At.code ?_
          repeat' (first
            | with_reducible (first | apply WF.seq | refine At.code ?_ | apply At.thenNormal | apply At.thenRet | apply At.thenExit | apply At.thenGoto | apply At.inNormal | apply At.inRet | apply At.inGoto | apply At.inHit | apply At.noGotoNormal | apply At.noGotoRet | apply At.noGotoExit | apply WF.skip | apply WF.ret | apply WF.exit | apply WF.goto | apply WF.label | apply WF.block | apply WF.scope)
            | ((with_reducible apply At.inMiss); · rfl)
            | ((with_reducible intro hif); first | (focus (cases hif; done)) | (simp only [Bool.not_eq_true', Bool.not_eq_false', decide_eq_true_eq, decide_eq_false_iff_not, Bool.and_eq_true, Bool.or_eq_true] at hif; try (exfalso; omega)) | (try (exfalso; omega)))
            | ((first | ((with_reducible apply WF.region cEd_ok tab_ok); · rfl) | ((with_reducible apply WF.drawn fol cEd_ok tab_ok); · rfl) | with_reducible apply WF.cond)
               · simp only [push_cast, ↓Int.cast_ofNat_Int, ↓ofV_m1, ↓ofV_min, Nat.reduceAdd, Nat.reduceEqDiff, Nat.reduceLT, Nat.reduceMul, Nat.reduceLeDiff, reduceCtorEq, reduceIte, cEd, sGoes, sTarget, iOf, hX, hT, hG, Int.reduceNeg, hle, hgt, hg, inN, inR]; rfl
               try kernel_rfl
               try (focus ((first | exact True.intro | (simp only [and_self, implies_true, true_and, and_true, forall_const, false_implies, true_implies, Bool.not_eq_true', imp_self, shaped, shapedL, kndOf, cEd, sGoes, sTarget, iOf, hX, hT, hG, Int.reduceNeg, hle, hgt, hg, inN, inR]; done) | (simp only [and_self, implies_true, true_and, and_true, forall_const, false_implies, true_implies, Bool.not_eq_true', imp_self, shaped, shapedL, kndOf, cEd, sGoes, sTarget, iOf, hX, hT, hG, Int.reduceNeg, hle, hgt, hg, inN, inR]; (repeat' (first | assumption | exact True.intro | omega | apply And.intro))) | ((repeat' (first | assumption | exact True.intro | omega | apply And.intro)))); done)))
            | fail)
          with_reducible apply At.roundNormal
          · first | rfl | (simp only [push_cast, ↓Int.cast_ofNat_Int, ↓ofV_m1, ↓ofV_min, Nat.reduceAdd, Nat.reduceEqDiff, Nat.reduceLT, Nat.reduceMul, Nat.reduceLeDiff, reduceCtorEq, reduceIte, noDefer, List.drop_zero, List.drop_succ_cons, cEd, sGoes, sTarget, iOf, hX, hT, hG, Int.reduceNeg, hle, hgt, hg]; done)
          apply hnext
          with_reducible apply At.runEnd cEd_ok tab_ok
          · rfl
          · rfl
          · rfl
          · simp only [push_cast, ↓Int.cast_ofNat_Int, ↓ofV_m1, ↓ofV_min, Nat.reduceAdd, Nat.reduceEqDiff, Nat.reduceLT, Nat.reduceMul, Nat.reduceLeDiff, reduceCtorEq, reduceIte, noDefer, List.drop_zero, List.drop_succ_cons, cEd, sGoes, sTarget, iOf, hX, hT, hG, Int.reduceNeg, hle, hgt, hg]; rfl
          · (focus ((first | exact True.intro | (simp only [and_self, implies_true, true_and, and_true, forall_const, false_implies, true_implies, Bool.not_eq_true', imp_self, shaped, shapedL, kndOf, cEd, sGoes, sTarget, iOf, hX, hT, hG, Int.reduceNeg, hle, hgt, hg]; done) | (simp only [and_self, implies_true, true_and, and_true, forall_const, false_implies, true_implies, Bool.not_eq_true', imp_self, shaped, shapedL, kndOf, cEd, sGoes, sTarget, iOf, hX, hT, hG, Int.reduceNeg, hle, hgt, hg]; (repeat' (first | assumption | exact True.intro | omega | apply And.intro))) | ((repeat' (first | assumption | exact True.intro | omega | apply And.intro)))); done))
          repeat' (first
            | with_reducible (first | apply WF.seq | refine At.code ?_ | apply At.thenNormal | apply At.thenRet | apply At.thenExit | apply At.thenGoto | apply At.inNormal | apply At.inRet | apply At.inGoto | apply At.inHit | apply At.noGotoNormal | apply At.noGotoRet | apply At.noGotoExit | apply WF.skip | apply WF.ret | apply WF.exit | apply WF.goto | apply WF.label | apply WF.block | apply WF.scope)
            | ((with_reducible apply At.inMiss); · rfl)
            | ((with_reducible intro hif); first | (focus (cases hif; done)) | (simp only [Bool.not_eq_true', Bool.not_eq_false', decide_eq_true_eq, decide_eq_false_iff_not, Bool.and_eq_true, Bool.or_eq_true] at hif; try (exfalso; omega)) | (try (exfalso; omega)))
            | ((first | ((with_reducible apply WF.region cEd_ok tab_ok); · rfl) | ((with_reducible apply WF.drawn fol cEd_ok tab_ok); · rfl) | with_reducible apply WF.cond)
               · simp only [push_cast, ↓Int.cast_ofNat_Int, ↓ofV_m1, ↓ofV_min, Nat.reduceAdd, Nat.reduceEqDiff, Nat.reduceLT, Nat.reduceMul, Nat.reduceLeDiff, reduceCtorEq, reduceIte, cEd, sGoes, sTarget, iOf, hX, hT, hG, Int.reduceNeg, hle, hgt, hg]; rfl
               try kernel_rfl
               try (focus ((first | exact True.intro | (simp only [and_self, implies_true, true_and, and_true, forall_const, false_implies, true_implies, Bool.not_eq_true', imp_self, shaped, shapedL, kndOf, cEd, sGoes, sTarget, iOf, hX, hT, hG, Int.reduceNeg, hle, hgt, hg]; done) | (simp only [and_self, implies_true, true_and, and_true, forall_const, false_implies, true_implies, Bool.not_eq_true', imp_self, shaped, shapedL, kndOf, cEd, sGoes, sTarget, iOf, hX, hT, hG, Int.reduceNeg, hle, hgt, hg]; (repeat' (first | assumption | exact True.intro | omega | apply And.intro))) | ((repeat' (first | assumption | exact True.intro | omega | apply And.intro)))); done)))
            | fail)
          with_reducible apply At.itNormal .ready
          · rfl
          · rfl
          · intro h; cases h
          apply haft
          intro w1 M1 D1 hA
          dsimp only
          repeat' (first
            | with_reducible (first | apply WF.seq | refine At.code ?_ | apply At.thenNormal | apply At.thenRet | apply At.thenExit | apply At.thenGoto | apply At.inNormal | apply At.inRet | apply At.inGoto | apply At.inHit | apply At.noGotoNormal | apply At.noGotoRet | apply At.noGotoExit | apply WF.skip | apply WF.ret | apply WF.exit | apply WF.goto | apply WF.label | apply WF.block | apply WF.scope)
            | ((with_reducible apply At.inMiss); · rfl)
            | ((with_reducible intro hif); first | (focus (cases hif; done)) | (simp only [Bool.not_eq_true', Bool.not_eq_false', decide_eq_true_eq, decide_eq_false_iff_not, Bool.and_eq_true, Bool.or_eq_true] at hif; try (exfalso; omega)) | (try (exfalso; omega)))
            | ((first | ((with_reducible apply WF.region cEd_ok tab_ok); · rfl) | ((with_reducible apply WF.drawn fol cEd_ok tab_ok); · rfl) | with_reducible apply WF.cond)
               · simp only [push_cast, ↓Int.cast_ofNat_Int, ↓ofV_m1, ↓ofV_min, Nat.reduceAdd, Nat.reduceEqDiff, Nat.reduceLT, Nat.reduceMul, Nat.reduceLeDiff, reduceCtorEq, reduceIte]; rfl
               try kernel_rfl
               try (focus ((first | exact True.intro | (simp only [and_self, implies_true, true_and, and_true, forall_const, false_implies, true_implies, Bool.not_eq_true', imp_self, shaped, shapedL, kndOf]; done) | (simp only [and_self, implies_true, true_and, and_true, forall_const, false_implies, true_implies, Bool.not_eq_true', imp_self, shaped, shapedL, kndOf]; (repeat' (first | assumption | exact True.intro | omega | apply And.intro))) | ((repeat' (first | assumption | exact True.intro | omega | apply And.intro)))); done)))
            | fail)
          apply At.endsPick [0, 1, 2, 3, 4, 11] tab_ok (fn := Try.f122) (rs := [.tmp 4]) hA hro (Nat.le_of_ble_eq_true rfl) rfl
          · simp only [push_cast, ↓Int.cast_ofNat_Int, ↓ofV_m1, ↓ofV_min, Nat.reduceAdd, Nat.reduceEqDiff, Nat.reduceLT, Nat.reduceMul, Nat.reduceLeDiff, reduceCtorEq, reduceIte, resV, resV1]; rfl
          · (focus ((first | exact True.intro | (simp only [and_self, implies_true, true_and, and_true, forall_const, false_implies, true_implies, Bool.not_eq_true', imp_self, shaped, shapedL, kndOf]; done) | (simp only [and_self, implies_true, true_and, and_true, forall_const, false_implies, true_implies, Bool.not_eq_true', imp_self, shaped, shapedL, kndOf]; (repeat' (first | assumption | exact True.intro | omega | apply And.intro))) | ((repeat' (first | assumption | exact True.intro | omega | apply And.intro)))); done))
          · rfl
          · rfl
          · rfl
          · (repeat' (first | exact trivial | exact .inl rfl | exact .inr (.same _) | exact .inr .loose | exact .inr (.arr (by assumption)) | apply And.intro | exact .inr (.arr fun q hq => by rcases (show q = 0 ∨ q = 1 by omega) with rfl | rfl <;> rfl)))
          · rfl
          · (first | exact trivial | (repeat' (first | exact trivial | exact rfl | assumption | exact prS_stable _ | exact i64S_stable _ | exact sndsS_stable _ | exact insS_stable _ | exact sndS_stable _ | exact hst _ _ | exact hst1 _ _ | exact hst2 _ _ | apply Stable.ite | apply And.intro | intro _ | (simp only [Stable, StableL, i64S, prS, insS, sndsS, sndS]; done))))
          · (repeat' (first | exact trivial | exact .inl rfl | exact .inr rfl | exact rfl | apply And.intro))
          · exact fun β => rfl
          · (first | exact trivial | (repeat' (first | exact trivial | exact rfl | assumption | exact prS_stable _ | exact i64S_stable _ | exact sndsS_stable _ | exact insS_stable _ | exact sndS_stable _ | exact hst _ _ | exact hst1 _ _ | exact hst2 _ _ | apply Stable.ite | apply And.intro | intro _ | (simp only [Stable, StableL, i64S, prS, insS, sndsS, sndS]; done))))
        · have hE : edgesL x i = [i + 1] := by unfold edgesL; simp [hT, hG, hle, hgt, hg]
          rw [hE] at haft
          repeat' (first
            | with_reducible (first | apply WF.seq | refine At.code ?_ | apply At.thenNormal | apply At.thenRet | apply At.thenExit | apply At.thenGoto | apply At.inNormal | apply At.inRet | apply At.inGoto | apply At.inHit | apply At.noGotoNormal | apply At.noGotoRet | apply At.noGotoExit | apply WF.skip | apply WF.ret | apply WF.exit | apply WF.goto | apply WF.label | apply WF.block | apply WF.scope)
            | ((with_reducible apply At.inMiss); · rfl)
            | ((with_reducible intro hif); first | (focus (cases hif; done)) | (simp only [Bool.not_eq_true', Bool.not_eq_false', decide_eq_true_eq, decide_eq_false_iff_not, Bool.and_eq_true, Bool.or_eq_true] at hif; try (exfalso; omega)) | (try (exfalso; omega)))
            | ((first | ((with_reducible apply WF.region cEd_ok tab_ok); · rfl) | ((with_reducible apply WF.drawn fol cEd_ok tab_ok); · rfl) | with_reducible apply WF.cond)
               · simp only [push_cast, ↓Int.cast_ofNat_Int, ↓ofV_m1, ↓ofV_min, Nat.reduceAdd, Nat.reduceEqDiff, Nat.reduceLT, Nat.reduceMul, Nat.reduceLeDiff, reduceCtorEq, reduceIte, cEd, sGoes, sTarget, iOf, hX, hT, hG, Int.reduceNeg, hle, hgt, hg]; rfl
               try kernel_rfl
               try (focus ((first | exact True.intro | (simp only [and_self, implies_true, true_and, and_true, forall_const, false_implies, true_implies, Bool.not_eq_true', imp_self, shaped, shapedL, kndOf, cEd, sGoes, sTarget, iOf, hX, hT, hG, Int.reduceNeg, hle, hgt, hg]; done) | (simp only [and_self, implies_true, true_and, and_true, forall_const, false_implies, true_implies, Bool.not_eq_true', imp_self, shaped, shapedL, kndOf, cEd, sGoes, sTarget, iOf, hX, hT, hG, Int.reduceNeg, hle, hgt, hg]; (repeat' (first | assumption | exact True.intro | omega | apply And.intro))) | ((repeat' (first | assumption | exact True.intro | omega | apply And.intro)))); done)))
            | fail)
          with_reducible apply WF.split 5 2
          · rfl
          with_reducible apply At.run cEd_ok tab_ok
          · rfl
          · rfl
          · rfl
          · simp only [push_cast, ↓Int.cast_ofNat_Int, ↓ofV_m1, ↓ofV_min, Nat.reduceAdd, Nat.reduceEqDiff, Nat.reduceLT, Nat.reduceMul, Nat.reduceLeDiff, reduceCtorEq, reduceIte, noDefer, List.drop_zero, List.drop_succ_cons, cEd, sGoes, sTarget, iOf, hX, hT, hG, Int.reduceNeg, hle, hgt, hg]; rfl
          · (focus ((first | exact True.intro | (simp only [and_self, implies_true, true_and, and_true, forall_const, false_implies, true_implies, Bool.not_eq_true', imp_self, shaped, shapedL, kndOf, cEd, sGoes, sTarget, iOf, hX, hT, hG, Int.reduceNeg, hle, hgt, hg]; done) | (simp only [and_self, implies_true, true_and, and_true, forall_const, false_implies, true_implies, Bool.not_eq_true', imp_self, shaped, shapedL, kndOf, cEd, sGoes, sTarget, iOf, hX, hT, hG, Int.reduceNeg, hle, hgt, hg]; (repeat' (first | assumption | exact True.intro | omega | apply And.intro))) | ((repeat' (first | assumption | exact True.intro | omega | apply And.intro)))); done))
          with_reducible apply At.yield (gr := _)
          · rfl
          · rfl
          · rfl
          · rfl
          · rfl
          · rfl
          · simp only [push_cast, ↓Int.cast_ofNat_Int, ↓ofV_m1, ↓ofV_min, Nat.reduceAdd, Nat.reduceEqDiff, Nat.reduceLT, Nat.reduceMul, Nat.reduceLeDiff, reduceCtorEq, reduceIte, noDefer, List.drop_zero, List.drop_succ_cons, cEd, sGoes, sTarget, iOf, hX, hT, hG, Int.reduceNeg, hle, hgt, hg]; rfl
          · first | rfl | (simp only [push_cast, ↓Int.cast_ofNat_Int, ↓ofV_m1, ↓ofV_min, Nat.reduceAdd, Nat.reduceEqDiff, Nat.reduceLT, Nat.reduceMul, Nat.reduceLeDiff, reduceCtorEq, reduceIte, noDefer, List.drop_zero, List.drop_succ_cons, cEd, sGoes, sTarget, iOf, hX, hT, hG, Int.reduceNeg, hle, hgt, hg]; done)
          · simp only [push_cast, ↓Int.cast_ofNat_Int, ↓ofV_m1, ↓ofV_min, Nat.reduceAdd, Nat.reduceEqDiff, Nat.reduceLT, Nat.reduceMul, Nat.reduceLeDiff, reduceCtorEq, reduceIte, noDefer, List.drop_zero, List.drop_succ_cons, cEd, sGoes, sTarget, iOf, hX, hT, hG, Int.reduceNeg, hle, hgt, hg]; rfl
          · (focus ((first | exact True.intro | (simp only [and_self, implies_true, true_and, and_true, forall_const, false_implies, true_implies, Bool.not_eq_true', imp_self, shaped, shapedL, kndOf, cEd, sGoes, sTarget, iOf, hX, hT, hG, Int.reduceNeg, hle, hgt, hg]; done) | (simp only [and_self, implies_true, true_and, and_true, forall_const, false_implies, true_implies, Bool.not_eq_true', imp_self, shaped, shapedL, kndOf, cEd, sGoes, sTarget, iOf, hX, hT, hG, Int.reduceNeg, hle, hgt, hg]; (repeat' (first | assumption | exact True.intro | omega | apply And.intro))) | ((repeat' (first | assumption | exact True.intro | omega | apply And.intro)))); done))
          · simp only [push_cast, ↓Int.cast_ofNat_Int, ↓ofV_m1, ↓ofV_min, Nat.reduceAdd, Nat.reduceEqDiff, Nat.reduceLT, Nat.reduceMul, Nat.reduceLeDiff, reduceCtorEq, reduceIte, noDefer, List.drop_zero, List.drop_succ_cons, cEd, sGoes, sTarget, iOf, hX, hT, hG, Int.reduceNeg, hle, hgt, hg]; rfl
          · (focus ((first | exact True.intro | (simp only [and_self, implies_true, true_and, and_true, forall_const, false_implies, true_implies, Bool.not_eq_true', imp_self, shaped, shapedL, kndOf, cEd, sGoes, sTarget, iOf, hX, hT, hG, Int.reduceNeg, hle, hgt, hg]; done) | (simp only [and_self, implies_true, true_and, and_true, forall_const, false_implies, true_implies, Bool.not_eq_true', imp_self, shaped, shapedL, kndOf, cEd, sGoes, sTarget, iOf, hX, hT, hG, Int.reduceNeg, hle, hgt, hg]; (repeat' (first | assumption | exact True.intro | omega | apply And.intro))) | ((repeat' (first | assumption | exact True.intro | omega | apply And.intro)))); done))
          · first | rfl | (simp only [push_cast, ↓Int.cast_ofNat_Int, ↓ofV_m1, ↓ofV_min, Nat.reduceAdd, Nat.reduceEqDiff, Nat.reduceLT, Nat.reduceMul, Nat.reduceLeDiff, reduceCtorEq, reduceIte, noDefer, List.drop_zero, List.drop_succ_cons, cEd, sGoes, sTarget, iOf, hX, hT, hG, Int.reduceNeg, hle, hgt, hg]; done)
          · exact hrec
          · exact hcf
          · rfl
          · rfl
          · rfl
          intro lb E2 next hE2 hnext
          repeat' (first
            | with_reducible (first | apply WF.seq | refine At.code ?_ | apply At.thenNormal | apply At.thenRet | apply At.thenExit | apply At.thenGoto | apply At.inNormal | apply At.inRet | apply At.inGoto | apply At.inHit | apply At.noGotoNormal | apply At.noGotoRet | apply At.noGotoExit | apply WF.skip | apply WF.ret | apply WF.exit | apply WF.goto | apply WF.label | apply WF.block | apply WF.scope)
            | ((with_reducible apply At.inMiss); · rfl)
            | ((with_reducible intro hif); first | (focus (cases hif; done)) | (simp only [Bool.not_eq_true', Bool.not_eq_false', decide_eq_true_eq, decide_eq_false_iff_not, Bool.and_eq_true, Bool.or_eq_true] at hif; try (exfalso; omega)) | (try (exfalso; omega)))
            | ((first | ((with_reducible apply WF.region cEd_ok tab_ok); · rfl) | ((with_reducible apply WF.drawn fol cEd_ok tab_ok); · rfl) | with_reducible apply WF.cond)
               · simp only [push_cast, ↓Int.cast_ofNat_Int, ↓ofV_m1, ↓ofV_min, Nat.reduceAdd, Nat.reduceEqDiff, Nat.reduceLT, Nat.reduceMul, Nat.reduceLeDiff, reduceCtorEq, reduceIte, cEd, sGoes, sTarget, iOf, hX, hT, hG, Int.reduceNeg, hle, hgt, hg]; rfl
               try kernel_rfl
               try (focus ((first | exact True.intro | (simp only [and_self, implies_true, true_and, and_true, forall_const, false_implies, true_implies, Bool.not_eq_true', imp_self, shaped, shapedL, kndOf, cEd, sGoes, sTarget, iOf, hX, hT, hG, Int.reduceNeg, hle, hgt, hg]; done) | (simp only [and_self, implies_true, true_and, and_true, forall_const, false_implies, true_implies, Bool.not_eq_true', imp_self, shaped, shapedL, kndOf, cEd, sGoes, sTarget, iOf, hX, hT, hG, Int.reduceNeg, hle, hgt, hg]; (repeat' (first | assumption | exact True.intro | omega | apply And.intro))) | ((repeat' (first | assumption | exact True.intro | omega | apply And.intro)))); done)))
            | fail)
          with_reducible apply At.begins hrec
          · rfl
          with_reducible refine At.code ?_
          repeat' (first
            | with_reducible (first | apply WF.seq | refine At.code ?_ | apply At.thenNormal | apply At.thenRet | apply At.thenExit | apply At.thenGoto | apply At.inNormal | apply At.inRet | apply At.inGoto | apply At.inHit | apply At.noGotoNormal | apply At.noGotoRet | apply At.noGotoExit | apply WF.skip | apply WF.ret | apply WF.exit | apply WF.goto | apply WF.label | apply WF.block | apply WF.scope)
            | ((with_reducible apply At.inMiss); · rfl)
            | ((with_reducible intro hif); first | (focus (cases hif; done)) | (simp only [Bool.not_eq_true', Bool.not_eq_false', decide_eq_true_eq, decide_eq_false_iff_not, Bool.and_eq_true, Bool.or_eq_true] at hif; try (exfalso; omega)) | (try (exfalso; omega)))
            | ((first | ((with_reducible apply WF.region cEd_ok tab_ok); · rfl) | ((with_reducible apply WF.drawn fol cEd_ok tab_ok); · rfl) | with_reducible apply WF.cond)
               · simp only [push_cast, ↓Int.cast_ofNat_Int, ↓ofV_m1, ↓ofV_min, Nat.reduceAdd, Nat.reduceEqDiff, Nat.reduceLT, Nat.reduceMul, Nat.reduceLeDiff, reduceCtorEq, reduceIte, cEd, sGoes, sTarget, iOf, hX, hT, hG, Int.reduceNeg, hle, hgt, hg, inN, inR]; rfl
               try kernel_rfl
               try (focus ((first | exact True.intro | (simp only [and_self, implies_true, true_and, and_true, forall_const, false_implies, true_implies, Bool.not_eq_true', imp_self, shaped, shapedL, kndOf, cEd, sGoes, sTarget, iOf, hX, hT, hG, Int.reduceNeg, hle, hgt, hg, inN, inR]; done) | (simp only [and_self, implies_true, true_and, and_true, forall_const, false_implies, true_implies, Bool.not_eq_true', imp_self, shaped, shapedL, kndOf, cEd, sGoes, sTarget, iOf, hX, hT, hG, Int.reduceNeg, hle, hgt, hg, inN, inR]; (repeat' (first | assumption | exact True.intro | omega | apply And.intro))) | ((repeat' (first | assumption | exact True.intro | omega | apply And.intro)))); done)))
            | fail)
          with_reducible apply At.roundNormal
          · first | rfl | (simp only [push_cast, ↓Int.cast_ofNat_Int, ↓ofV_m1, ↓ofV_min, Nat.reduceAdd, Nat.reduceEqDiff, Nat.reduceLT, Nat.reduceMul, Nat.reduceLeDiff, reduceCtorEq, reduceIte, noDefer, List.drop_zero, List.drop_succ_cons, cEd, sGoes, sTarget, iOf, hX, hT, hG, Int.reduceNeg, hle, hgt, hg]; done)
          apply hnext
          with_reducible apply At.runEnd cEd_ok tab_ok
          · rfl
          · rfl
          · rfl
          · simp only [push_cast, ↓Int.cast_ofNat_Int, ↓ofV_m1, ↓ofV_min, Nat.reduceAdd, Nat.reduceEqDiff, Nat.reduceLT, Nat.reduceMul, Nat.reduceLeDiff, reduceCtorEq, reduceIte, noDefer, List.drop_zero, List.drop_succ_cons, cEd, sGoes, sTarget, iOf, hX, hT, hG, Int.reduceNeg, hle, hgt, hg]; rfl
          · (focus ((first | exact True.intro | (simp only [and_self, implies_true, true_and, and_true, forall_const, false_implies, true_implies, Bool.not_eq_true', imp_self, shaped, shapedL, kndOf, cEd, sGoes, sTarget, iOf, hX, hT, hG, Int.reduceNeg, hle, hgt, hg]; done) | (simp only [and_self, implies_true, true_and, and_true, forall_const, false_implies, true_implies, Bool.not_eq_true', imp_self, shaped, shapedL, kndOf, cEd, sGoes, sTarget, iOf, hX, hT, hG, Int.reduceNeg, hle, hgt, hg]; (repeat' (first | assumption | exact True.intro | omega | apply And.intro))) | ((repeat' (first | assumption | exact True.intro | omega | apply And.intro)))); done))
          repeat' (first
            | with_reducible (first | apply WF.seq | refine At.code ?_ | apply At.thenNormal | apply At.thenRet | apply At.thenExit | apply At.thenGoto | apply At.inNormal | apply At.inRet | apply At.inGoto | apply At.inHit | apply At.noGotoNormal | apply At.noGotoRet | apply At.noGotoExit | apply WF.skip | apply WF.ret | apply WF.exit | apply WF.goto | apply WF.label | apply WF.block | apply WF.scope)
            | ((with_reducible apply At.inMiss); · rfl)
            | ((with_reducible intro hif); first | (focus (cases hif; done)) | (simp only [Bool.not_eq_true', Bool.not_eq_false', decide_eq_true_eq, decide_eq_false_iff_not, Bool.and_eq_true, Bool.or_eq_true] at hif; try (exfalso; omega)) | (try (exfalso; omega)))
            | ((first | ((with_reducible apply WF.region cEd_ok tab_ok); · rfl) | ((with_reducible apply WF.drawn fol cEd_ok tab_ok); · rfl) | with_reducible apply WF.cond)
               · simp only [push_cast, ↓Int.cast_ofNat_Int, ↓ofV_m1, ↓ofV_min, Nat.reduceAdd, Nat.reduceEqDiff, Nat.reduceLT, Nat.reduceMul, Nat.reduceLeDiff, reduceCtorEq, reduceIte, cEd, sGoes, sTarget, iOf, hX, hT, hG, Int.reduceNeg, hle, hgt, hg]; rfl
               try kernel_rfl
               try (focus ((first | exact True.intro | (simp only [and_self, implies_true, true_and, and_true, forall_const, false_implies, true_implies, Bool.not_eq_true', imp_self, shaped, shapedL, kndOf, cEd, sGoes, sTarget, iOf, hX, hT, hG, Int.reduceNeg, hle, hgt, hg]; done) | (simp only [and_self, implies_true, true_and, and_true, forall_const, false_implies, true_implies, Bool.not_eq_true', imp_self, shaped, shapedL, kndOf, cEd, sGoes, sTarget, iOf, hX, hT, hG, Int.reduceNeg, hle, hgt, hg]; (repeat' (first | assumption | exact True.intro | omega | apply And.intro))) | ((repeat' (first | assumption | exact True.intro | omega | apply And.intro)))); done)))
            | fail)
          with_reducible apply At.itNormal .ready
          · rfl
          · rfl
          · intro h; cases h
          apply haft
          intro w1 M1 D1 hA
          dsimp only
          repeat' (first
            | with_reducible (first | apply WF.seq | refine At.code ?_ | apply At.thenNormal | apply At.thenRet | apply At.thenExit | apply At.thenGoto | apply At.inNormal | apply At.inRet | apply At.inGoto | apply At.inHit | apply At.noGotoNormal | apply At.noGotoRet | apply At.noGotoExit | apply WF.skip | apply WF.ret | apply WF.exit | apply WF.goto | apply WF.label | apply WF.block | apply WF.scope)
            | ((with_reducible apply At.inMiss); · rfl)
            | ((with_reducible intro hif); first | (focus (cases hif; done)) | (simp only [Bool.not_eq_true', Bool.not_eq_false', decide_eq_true_eq, decide_eq_false_iff_not, Bool.and_eq_true, Bool.or_eq_true] at hif; try (exfalso; omega)) | (try (exfalso; omega)))
            | ((first | ((with_reducible apply WF.region cEd_ok tab_ok); · rfl) | ((with_reducible apply WF.drawn fol cEd_ok tab_ok); · rfl) | with_reducible apply WF.cond)
               · simp only [push_cast, ↓Int.cast_ofNat_Int, ↓ofV_m1, ↓ofV_min, Nat.reduceAdd, Nat.reduceEqDiff, Nat.reduceLT, Nat.reduceMul, Nat.reduceLeDiff, reduceCtorEq, reduceIte]; rfl
               try kernel_rfl
               try (focus ((first | exact True.intro | (simp only [and_self, implies_true, true_and, and_true, forall_const, false_implies, true_implies, Bool.not_eq_true', imp_self, shaped, shapedL, kndOf]; done) | (simp only [and_self, implies_true, true_and, and_true, forall_const, false_implies, true_implies, Bool.not_eq_true', imp_self, shaped, shapedL, kndOf]; (repeat' (first | assumption | exact True.intro | omega | apply And.intro))) | ((repeat' (first | assumption | exact True.intro | omega | apply And.intro)))); done)))
            | fail)
          apply At.endsPick [0, 1, 2, 3, 4, 9] tab_ok (fn := Try.f122) (rs := [.tmp 4]) hA hro (Nat.le_of_ble_eq_true rfl) rfl
          · simp only [push_cast, ↓Int.cast_ofNat_Int, ↓ofV_m1, ↓ofV_min, Nat.reduceAdd, Nat.reduceEqDiff, Nat.reduceLT, Nat.reduceMul, Nat.reduceLeDiff, reduceCtorEq, reduceIte, resV, resV1]; rfl
          · (focus ((first | exact True.intro | (simp only [and_self, implies_true, true_and, and_true, forall_const, false_implies, true_implies, Bool.not_eq_true', imp_self, shaped, shapedL, kndOf]; done) | (simp only [and_self, implies_true, true_and, and_true, forall_const, false_implies, true_implies, Bool.not_eq_true', imp_self, shaped, shapedL, kndOf]; (repeat' (first | assumption | exact True.intro | omega | apply And.intro))) | ((repeat' (first | assumption | exact True.intro | omega | apply And.intro)))); done))
          · rfl
          · rfl
          · rfl
          · (repeat' (first | exact trivial | exact .inl rfl | exact .inr (.same _) | exact .inr .loose | exact .inr (.arr (by assumption)) | apply And.intro | exact .inr (.arr fun q hq => (by have h0 : q = 0 := (by omega); subst h0; rfl))))
          · rfl
          · (first | exact trivial | (repeat' (first | exact trivial | exact rfl | assumption | exact prS_stable _ | exact i64S_stable _ | exact sndsS_stable _ | exact insS_stable _ | exact sndS_stable _ | exact hst _ _ | exact hst1 _ _ | exact hst2 _ _ | apply Stable.ite | apply And.intro | intro _ | (simp only [Stable, StableL, i64S, prS, insS, sndsS, sndS]; done))))
          · (repeat' (first | exact trivial | exact .inl rfl | exact .inr rfl | exact rfl | apply And.intro))
          · exact fun β => rfl
          · (first | exact trivial | (repeat' (first | exact trivial | exact rfl | assumption | exact prS_stable _ | exact i64S_stable _ | exact sndsS_stable _ | exact insS_stable _ | exact sndS_stable _ | exact hst _ _ | exact hst1 _ _ | exact hst2 _ _ | apply Stable.ite | apply And.intro | intro _ | (simp only [Stable, StableL, i64S, prS, insS, sndsS, sndS]; done))))
      simp only [Bool.not_eq_true] at hG
      · have hE : edgesL x i = [targV x] := by unfold edgesL; simp [hT, hG, hle, hgt]
        rw [hE] at haft
        repeat' (first
          | with_reducible (first | apply WF.seq | refine At.code ?_ | apply At.thenNormal | apply At.thenRet | apply At.thenExit | apply At.thenGoto | apply At.inNormal | apply At.inRet | apply At.inGoto | apply At.inHit | apply At.noGotoNormal | apply At.noGotoRet | apply At.noGotoExit | apply WF.skip | apply WF.ret | apply WF.exit | apply WF.goto | apply WF.label | apply WF.block | apply WF.scope)
          | ((with_reducible apply At.inMiss); · rfl)
          | ((with_reducible intro hif); first | (focus (cases hif; done)) | (simp only [Bool.not_eq_true', Bool.not_eq_false', decide_eq_true_eq, decide_eq_false_iff_not, Bool.and_eq_true, Bool.or_eq_true] at hif; try (exfalso; omega)) | (try (exfalso; omega)))
          | ((first | ((with_reducible apply WF.region cEd_ok tab_ok); · rfl) | ((with_reducible apply WF.drawn fol cEd_ok tab_ok); · rfl) | with_reducible apply WF.cond)
             · simp only [push_cast, ↓Int.cast_ofNat_Int, ↓ofV_m1, ↓ofV_min, Nat.reduceAdd, Nat.reduceEqDiff, Nat.reduceLT, Nat.reduceMul, Nat.reduceLeDiff, reduceCtorEq, reduceIte, cEd, sGoes, sTarget, iOf, hX, hT, hG, Int.reduceNeg, hle, hgt]; rfl
             try kernel_rfl
             try (focus ((first | exact True.intro | (simp only [and_self, implies_true, true_and, and_true, forall_const, false_implies, true_implies, Bool.not_eq_true', imp_self, shaped, shapedL, kndOf, cEd, sGoes, sTarget, iOf, hX, hT, hG, Int.reduceNeg, hle, hgt]; done) | (simp only [and_self, implies_true, true_and, and_true, forall_const, false_implies, true_implies, Bool.not_eq_true', imp_self, shaped, shapedL, kndOf, cEd, sGoes, sTarget, iOf, hX, hT, hG, Int.reduceNeg, hle, hgt]; (repeat' (first | assumption | exact True.intro | omega | apply And.intro))) | ((repeat' (first | assumption | exact True.intro | omega | apply And.intro)))); done)))
          | fail)
        with_reducible apply WF.split 2 0
        · rfl
        with_reducible apply At.run cEd_ok tab_ok
        · rfl
        · rfl
        · rfl
        · simp only [push_cast, ↓Int.cast_ofNat_Int, ↓ofV_m1, ↓ofV_min, Nat.reduceAdd, Nat.reduceEqDiff, Nat.reduceLT, Nat.reduceMul, Nat.reduceLeDiff, reduceCtorEq, reduceIte, noDefer, List.drop_zero, List.drop_succ_cons, cEd, sGoes, sTarget, iOf, hX, hT, hG, Int.reduceNeg, hle, hgt]; rfl
        · (focus ((first | exact True.intro | (simp only [and_self, implies_true, true_and, and_true, forall_const, false_implies, true_implies, Bool.not_eq_true', imp_self, shaped, shapedL, kndOf, cEd, sGoes, sTarget, iOf, hX, hT, hG, Int.reduceNeg, hle, hgt]; done) | (simp only [and_self, implies_true, true_and, and_true, forall_const, false_implies, true_implies, Bool.not_eq_true', imp_self, shaped, shapedL, kndOf, cEd, sGoes, sTarget, iOf, hX, hT, hG, Int.reduceNeg, hle, hgt]; (repeat' (first | assumption | exact True.intro | omega | apply And.intro))) | ((repeat' (first | assumption | exact True.intro | omega | apply And.intro)))); done))
        with_reducible apply At.yield (gr := _)
        · rfl
        · rfl
        · rfl
        · rfl
        · rfl
        · rfl
        · simp only [push_cast, ↓Int.cast_ofNat_Int, ↓ofV_m1, ↓ofV_min, Nat.reduceAdd, Nat.reduceEqDiff, Nat.reduceLT, Nat.reduceMul, Nat.reduceLeDiff, reduceCtorEq, reduceIte, noDefer, List.drop_zero, List.drop_succ_cons, cEd, sGoes, sTarget, iOf, hX, hT, hG, Int.reduceNeg, hle, hgt]; rfl
        · first | rfl | (simp only [push_cast, ↓Int.cast_ofNat_Int, ↓ofV_m1, ↓ofV_min, Nat.reduceAdd, Nat.reduceEqDiff, Nat.reduceLT, Nat.reduceMul, Nat.reduceLeDiff, reduceCtorEq, reduceIte, noDefer, List.drop_zero, List.drop_succ_cons, cEd, sGoes, sTarget, iOf, hX, hT, hG, Int.reduceNeg, hle, hgt]; done)
        · simp only [push_cast, ↓Int.cast_ofNat_Int, ↓ofV_m1, ↓ofV_min, Nat.reduceAdd, Nat.reduceEqDiff, Nat.reduceLT, Nat.reduceMul, Nat.reduceLeDiff, reduceCtorEq, reduceIte, noDefer, List.drop_zero, List.drop_succ_cons, cEd, sGoes, sTarget, iOf, hX, hT, hG, Int.reduceNeg, hle, hgt]; rfl
        · (focus ((first | exact True.intro | (simp only [and_self, implies_true, true_and, and_true, forall_const, false_implies, true_implies, Bool.not_eq_true', imp_self, shaped, shapedL, kndOf, cEd, sGoes, sTarget, iOf, hX, hT, hG, Int.reduceNeg, hle, hgt]; done) | (simp only [and_self, implies_true, true_and, and_true, forall_const, false_implies, true_implies, Bool.not_eq_true', imp_self, shaped, shapedL, kndOf, cEd, sGoes, sTarget, iOf, hX, hT, hG, Int.reduceNeg, hle, hgt]; (repeat' (first | assumption | exact True.intro | omega | apply And.intro))) | ((repeat' (first | assumption | exact True.intro | omega | apply And.intro)))); done))
        · simp only [push_cast, ↓Int.cast_ofNat_Int, ↓ofV_m1, ↓ofV_min, Nat.reduceAdd, Nat.reduceEqDiff, Nat.reduceLT, Nat.reduceMul, Nat.reduceLeDiff, reduceCtorEq, reduceIte, noDefer, List.drop_zero, List.drop_succ_cons, cEd, sGoes, sTarget, iOf, hX, hT, hG, Int.reduceNeg, hle, hgt]; rfl
        · (focus ((first | exact True.intro | (simp only [and_self, implies_true, true_and, and_true, forall_const, false_implies, true_implies, Bool.not_eq_true', imp_self, shaped, shapedL, kndOf, cEd, sGoes, sTarget, iOf, hX, hT, hG, Int.reduceNeg, hle, hgt]; done) | (simp only [and_self, implies_true, true_and, and_true, forall_const, false_implies, true_implies, Bool.not_eq_true', imp_self, shaped, shapedL, kndOf, cEd, sGoes, sTarget, iOf, hX, hT, hG, Int.reduceNeg, hle, hgt]; (repeat' (first | assumption | exact True.intro | omega | apply And.intro))) | ((repeat' (first | assumption | exact True.intro | omega | apply And.intro)))); done))
        · first | rfl | (simp only [push_cast, ↓Int.cast_ofNat_Int, ↓ofV_m1, ↓ofV_min, Nat.reduceAdd, Nat.reduceEqDiff, Nat.reduceLT, Nat.reduceMul, Nat.reduceLeDiff, reduceCtorEq, reduceIte, noDefer, List.drop_zero, List.drop_succ_cons, cEd, sGoes, sTarget, iOf, hX, hT, hG, Int.reduceNeg, hle, hgt]; done)
        · exact hrec
        · exact hcf
        · rfl
        · rfl
        · rfl
        intro lb E2 next hE2 hnext
        repeat' (first
          | with_reducible (first | apply WF.seq | refine At.code ?_ | apply At.thenNormal | apply At.thenRet | apply At.thenExit | apply At.thenGoto | apply At.inNormal | apply At.inRet | apply At.inGoto | apply At.inHit | apply At.noGotoNormal | apply At.noGotoRet | apply At.noGotoExit | apply WF.skip | apply WF.ret | apply WF.exit | apply WF.goto | apply WF.label | apply WF.block | apply WF.scope)
          | ((with_reducible apply At.inMiss); · rfl)
          | ((with_reducible intro hif); first | (focus (cases hif; done)) | (simp only [Bool.not_eq_true', Bool.not_eq_false', decide_eq_true_eq, decide_eq_false_iff_not, Bool.and_eq_true, Bool.or_eq_true] at hif; try (exfalso; omega)) | (try (exfalso; omega)))
          | ((first | ((with_reducible apply WF.region cEd_ok tab_ok); · rfl) | ((with_reducible apply WF.drawn fol cEd_ok tab_ok); · rfl) | with_reducible apply WF.cond)
             · simp only [push_cast, ↓Int.cast_ofNat_Int, ↓ofV_m1, ↓ofV_min, Nat.reduceAdd, Nat.reduceEqDiff, Nat.reduceLT, Nat.reduceMul, Nat.reduceLeDiff, reduceCtorEq, reduceIte, cEd, sGoes, sTarget, iOf, hX, hT, hG, Int.reduceNeg, hle, hgt]; rfl
             try kernel_rfl
             try (focus ((first | exact True.intro | (simp only [and_self, implies_true, true_and, and_true, forall_const, false_implies, true_implies, Bool.not_eq_true', imp_self, shaped, shapedL, kndOf, cEd, sGoes, sTarget, iOf, hX, hT, hG, Int.reduceNeg, hle, hgt]; done) | (simp only [and_self, implies_true, true_and, and_true, forall_const, false_implies, true_implies, Bool.not_eq_true', imp_self, shaped, shapedL, kndOf, cEd, sGoes, sTarget, iOf, hX, hT, hG, Int.reduceNeg, hle, hgt]; (repeat' (first | assumption | exact True.intro | omega | apply And.intro))) | ((repeat' (first | assumption | exact True.intro | omega | apply And.intro)))); done)))
          | fail)
        with_reducible apply At.begins hrec
        · rfl
        with_reducible refine At.code ?_
        repeat' (first
          | with_reducible (first | apply WF.seq | refine At.code ?_ | apply At.thenNormal | apply At.thenRet | apply At.thenExit | apply At.thenGoto | apply At.inNormal | apply At.inRet | apply At.inGoto | apply At.inHit | apply At.noGotoNormal | apply At.noGotoRet | apply At.noGotoExit | apply WF.skip | apply WF.ret | apply WF.exit | apply WF.goto | apply WF.label | apply WF.block | apply WF.scope)
          | ((with_reducible apply At.inMiss); · rfl)
          | ((with_reducible intro hif); first | (focus (cases hif; done)) | (simp only [Bool.not_eq_true', Bool.not_eq_false', decide_eq_true_eq, decide_eq_false_iff_not, Bool.and_eq_true, Bool.or_eq_true] at hif; try (exfalso; omega)) | (try (exfalso; omega)))
          | ((first | ((with_reducible apply WF.region cEd_ok tab_ok); · rfl) | ((with_reducible apply WF.drawn fol cEd_ok tab_ok); · rfl) | with_reducible apply WF.cond)
             · simp only [push_cast, ↓Int.cast_ofNat_Int, ↓ofV_m1, ↓ofV_min, Nat.reduceAdd, Nat.reduceEqDiff, Nat.reduceLT, Nat.reduceMul, Nat.reduceLeDiff, reduceCtorEq, reduceIte, cEd, sGoes, sTarget, iOf, hX, hT, hG, Int.reduceNeg, hle, hgt, inN, inR]; rfl
             try kernel_rfl
             try (focus ((first | exact True.intro | (simp only [and_self, implies_true, true_and, and_true, forall_const, false_implies, true_implies, Bool.not_eq_true', imp_self, shaped, shapedL, kndOf, cEd, sGoes, sTarget, iOf, hX, hT, hG, Int.reduceNeg, hle, hgt, inN, inR]; done) | (simp only [and_self, implies_true, true_and, and_true, forall_const, false_implies, true_implies, Bool.not_eq_true', imp_self, shaped, shapedL, kndOf, cEd, sGoes, sTarget, iOf, hX, hT, hG, Int.reduceNeg, hle, hgt, inN, inR]; (repeat' (first | assumption | exact True.intro | omega | apply And.intro))) | ((repeat' (first | assumption | exact True.intro | omega | apply And.intro)))); done)))
          | fail)
        with_reducible apply At.roundNormal
        · first | rfl | (simp only [push_cast, ↓Int.cast_ofNat_Int, ↓ofV_m1, ↓ofV_min, Nat.reduceAdd, Nat.reduceEqDiff, Nat.reduceLT, Nat.reduceMul, Nat.reduceLeDiff, reduceCtorEq, reduceIte, noDefer, List.drop_zero, List.drop_succ_cons, cEd, sGoes, sTarget, iOf, hX, hT, hG, Int.reduceNeg, hle, hgt]; done)
        apply hnext
        with_reducible apply At.runEnd cEd_ok tab_ok
        · rfl
        · rfl
        · rfl
        · simp only [push_cast, ↓Int.cast_ofNat_Int, ↓ofV_m1, ↓ofV_min, Nat.reduceAdd, Nat.reduceEqDiff, Nat.reduceLT, Nat.reduceMul, Nat.reduceLeDiff, reduceCtorEq, reduceIte, noDefer, List.drop_zero, List.drop_succ_cons, cEd, sGoes, sTarget, iOf, hX, hT, hG, Int.reduceNeg, hle, hgt]; rfl
        · (focus ((first | exact True.intro | (simp only [and_self, implies_true, true_and, and_true, forall_const, false_implies, true_implies, Bool.not_eq_true', imp_self, shaped, shapedL, kndOf, cEd, sGoes, sTarget, iOf, hX, hT, hG, Int.reduceNeg, hle, hgt]; done) | (simp only [and_self, implies_true, true_and, and_true, forall_const, false_implies, true_implies, Bool.not_eq_true', imp_self, shaped, shapedL, kndOf, cEd, sGoes, sTarget, iOf, hX, hT, hG, Int.reduceNeg, hle, hgt]; (repeat' (first | assumption | exact True.intro | omega | apply And.intro))) | ((repeat' (first | assumption | exact True.intro | omega | apply And.intro)))); done))
        repeat' (first
          | with_reducible (first | apply WF.seq | refine At.code ?_ | apply At.thenNormal | apply At.thenRet | apply At.thenExit | apply At.thenGoto | apply At.inNormal | apply At.inRet | apply At.inGoto | apply At.inHit | apply At.noGotoNormal | apply At.noGotoRet | apply At.noGotoExit | apply WF.skip | apply WF.ret | apply WF.exit | apply WF.goto | apply WF.label | apply WF.block | apply WF.scope)
          | ((with_reducible apply At.inMiss); · rfl)
          | ((with_reducible intro hif); first | (focus (cases hif; done)) | (simp only [Bool.not_eq_true', Bool.not_eq_false', decide_eq_true_eq, decide_eq_false_iff_not, Bool.and_eq_true, Bool.or_eq_true] at hif; try (exfalso; omega)) | (try (exfalso; omega)))
          | ((first | ((with_reducible apply WF.region cEd_ok tab_ok); · rfl) | ((with_reducible apply WF.drawn fol cEd_ok tab_ok); · rfl) | with_reducible apply WF.cond)
             · simp only [push_cast, ↓Int.cast_ofNat_Int, ↓ofV_m1, ↓ofV_min, Nat.reduceAdd, Nat.reduceEqDiff, Nat.reduceLT, Nat.reduceMul, Nat.reduceLeDiff, reduceCtorEq, reduceIte, cEd, sGoes, sTarget, iOf, hX, hT, hG, Int.reduceNeg, hle, hgt]; rfl
             try kernel_rfl
             try (focus ((first | exact True.intro | (simp only [and_self, implies_true, true_and, and_true, forall_const, false_implies, true_implies, Bool.not_eq_true', imp_self, shaped, shapedL, kndOf, cEd, sGoes, sTarget, iOf, hX, hT, hG, Int.reduceNeg, hle, hgt]; done) | (simp only [and_self, implies_true, true_and, and_true, forall_const, false_implies, true_implies, Bool.not_eq_true', imp_self, shaped, shapedL, kndOf, cEd, sGoes, sTarget, iOf, hX, hT, hG, Int.reduceNeg, hle, hgt]; (repeat' (first | assumption | exact True.intro | omega | apply And.intro))) | ((repeat' (first | assumption | exact True.intro | omega | apply And.intro)))); done)))
          | fail)
        with_reducible apply At.itNormal .ready
        · rfl
        · rfl
        · intro h; cases h
        apply haft
        intro w1 M1 D1 hA
        dsimp only
        repeat' (first
          | with_reducible (first | apply WF.seq | refine At.code ?_ | apply At.thenNormal | apply At.thenRet | apply At.thenExit | apply At.thenGoto | apply At.inNormal | apply At.inRet | apply At.inGoto | apply At.inHit | apply At.noGotoNormal | apply At.noGotoRet | apply At.noGotoExit | apply WF.skip | apply WF.ret | apply WF.exit | apply WF.goto | apply WF.label | apply WF.block | apply WF.scope)
          | ((with_reducible apply At.inMiss); · rfl)
          | ((with_reducible intro hif); first | (focus (cases hif; done)) | (simp only [Bool.not_eq_true', Bool.not_eq_false', decide_eq_true_eq, decide_eq_false_iff_not, Bool.and_eq_true, Bool.or_eq_true] at hif; try (exfalso; omega)) | (try (exfalso; omega)))
          | ((first | ((with_reducible apply WF.region cEd_ok tab_ok); · rfl) | ((with_reducible apply WF.drawn fol cEd_ok tab_ok); · rfl) | with_reducible apply WF.cond)
             · simp only [push_cast, ↓Int.cast_ofNat_Int, ↓ofV_m1, ↓ofV_min, Nat.reduceAdd, Nat.reduceEqDiff, Nat.reduceLT, Nat.reduceMul, Nat.reduceLeDiff, reduceCtorEq, reduceIte]; rfl
             try kernel_rfl
             try (focus ((first | exact True.intro | (simp only [and_self, implies_true, true_and, and_true, forall_const, false_implies, true_implies, Bool.not_eq_true', imp_self, shaped, shapedL, kndOf]; done) | (simp only [and_self, implies_true, true_and, and_true, forall_const, false_implies, true_implies, Bool.not_eq_true', imp_self, shaped, shapedL, kndOf]; (repeat' (first | assumption | exact True.intro | omega | apply And.intro))) | ((repeat' (first | assumption | exact True.intro | omega | apply And.intro)))); done)))
          | fail)
        apply At.endsPick [0, 1, 2, 3, 4, 9] tab_ok (fn := Try.f122) (rs := [.tmp 4]) hA hro (Nat.le_of_ble_eq_true rfl) rfl
        · simp only [push_cast, ↓Int.cast_ofNat_Int, ↓ofV_m1, ↓ofV_min, Nat.reduceAdd, Nat.reduceEqDiff, Nat.reduceLT, Nat.reduceMul, Nat.reduceLeDiff, reduceCtorEq, reduceIte, resV, resV1]; rfl
        · (focus ((first | exact True.intro | (simp only [and_self, implies_true, true_and, and_true, forall_const, false_implies, true_implies, Bool.not_eq_true', imp_self, shaped, shapedL, kndOf]; done) | (simp only [and_self, implies_true, true_and, and_true, forall_const, false_implies, true_implies, Bool.not_eq_true', imp_self, shaped, shapedL, kndOf]; (repeat' (first | assumption | exact True.intro | omega | apply And.intro))) | ((repeat' (first | assumption | exact True.intro | omega | apply And.intro)))); done))
        · rfl
        · rfl
        · rfl
        · (repeat' (first | exact trivial | exact .inl rfl | exact .inr (.same _) | exact .inr .loose | exact .inr (.arr (by assumption)) | apply And.intro | exact .inr (.arr fun q hq => (by have h0 : q = 0 := (by omega); subst h0; rfl))))
        · rfl
        · (first | exact trivial | (repeat' (first | exact trivial | exact rfl | assumption | exact prS_stable _ | exact i64S_stable _ | exact sndsS_stable _ | exact insS_stable _ | exact sndS_stable _ | exact hst _ _ | exact hst1 _ _ | exact hst2 _ _ | apply Stable.ite | apply And.intro | intro _ | (simp only [Stable, StableL, i64S, prS, insS, sndsS, sndS]; done))))
        · (repeat' (first | exact trivial | exact .inl rfl | exact .inr rfl | exact rfl | apply And.intro))
        · exact fun β => rfl
        · (first | exact trivial | (repeat' (first | exact trivial | exact rfl | assumption | exact prS_stable _ | exact i64S_stable _ | exact sndsS_stable _ | exact insS_stable _ | exact sndS_stable _ | exact hst _ _ | exact hst1 _ _ | exact hst2 _ _ | apply Stable.ite | apply And.intro | intro _ | (simp only [Stable, StableL, i64S, prS, insS, sndsS, sndS]; done))))
  · simp only [Bool.not_eq_true] at hT
    by_cases hG : goesB x = true
    · have hE : edgesL x i = [i + 1] := by unfold edgesL; simp [hT, hG, hT]
      rw [hE] at haft
      repeat' (first
        | with_reducible (first | apply WF.seq | refine At.code ?_ | apply At.thenNormal | apply At.thenRet | apply At.thenExit | apply At.thenGoto | apply At.inNormal | apply At.inRet | apply At.inGoto | apply At.inHit | apply At.noGotoNormal | apply At.noGotoRet | apply At.noGotoExit | apply WF.skip | apply WF.ret | apply WF.exit | apply WF.goto | apply WF.label | apply WF.block | apply WF.scope)
        | ((with_reducible apply At.inMiss); · rfl)
        | ((with_reducible intro hif); first | (focus (cases hif; done)) | (simp only [Bool.not_eq_true', Bool.not_eq_false', decide_eq_true_eq, decide_eq_false_iff_not, Bool.and_eq_true, Bool.or_eq_true] at hif; try (exfalso; omega)) | (try (exfalso; omega)))
        | ((first | ((with_reducible apply WF.region cEd_ok tab_ok); · rfl) | ((with_reducible apply WF.drawn fol cEd_ok tab_ok); · rfl) | with_reducible apply WF.cond)
           · simp only [push_cast, ↓Int.cast_ofNat_Int, ↓ofV_m1, ↓ofV_min, Nat.reduceAdd, Nat.reduceEqDiff, Nat.reduceLT, Nat.reduceMul, Nat.reduceLeDiff, reduceCtorEq, reduceIte, cEd, sGoes, sTarget, iOf, hX, hT, hG, Int.reduceNeg, hT]; rfl
           try kernel_rfl
           try (focus ((first | exact True.intro | (simp only [and_self, implies_true, true_and, and_true, forall_const, false_implies, true_implies, Bool.not_eq_true', imp_self, shaped, shapedL, kndOf, cEd, sGoes, sTarget, iOf, hX, hT, hG, Int.reduceNeg, hT]; done) | (simp only [and_self, implies_true, true_and, and_true, forall_const, false_implies, true_implies, Bool.not_eq_true', imp_self, shaped, shapedL, kndOf, cEd, sGoes, sTarget, iOf, hX, hT, hG, Int.reduceNeg, hT]; (repeat' (first | assumption | exact True.intro | omega | apply And.intro))) | ((repeat' (first | assumption | exact True.intro | omega | apply And.intro)))); done)))
        | fail)
      with_reducible apply WF.split 5 2
      · rfl
      with_reducible apply At.run cEd_ok tab_ok
      · rfl
      · rfl
      · rfl
      · simp only [push_cast, ↓Int.cast_ofNat_Int, ↓ofV_m1, ↓ofV_min, Nat.reduceAdd, Nat.reduceEqDiff, Nat.reduceLT, Nat.reduceMul, Nat.reduceLeDiff, reduceCtorEq, reduceIte, noDefer, List.drop_zero, List.drop_succ_cons, cEd, sGoes, sTarget, iOf, hX, hT, hG, Int.reduceNeg, hT]; rfl
      · (focus ((first | exact True.intro | (simp only [and_self, implies_true, true_and, and_true, forall_const, false_implies, true_implies, Bool.not_eq_true', imp_self, shaped, shapedL, kndOf, cEd, sGoes, sTarget, iOf, hX, hT, hG, Int.reduceNeg, hT]; done) | (simp only [and_self, implies_true, true_and, and_true, forall_const, false_implies, true_implies, Bool.not_eq_true', imp_self, shaped, shapedL, kndOf, cEd, sGoes, sTarget, iOf, hX, hT, hG, Int.reduceNeg, hT]; (repeat' (first | assumption | exact True.intro | omega | apply And.intro))) | ((repeat' (first | assumption | exact True.intro | omega | apply And.intro)))); done))
      with_reducible apply At.yield (gr := _)
      · rfl
      · rfl
      · rfl
      · rfl
      · rfl
      · rfl
      · simp only [push_cast, ↓Int.cast_ofNat_Int, ↓ofV_m1, ↓ofV_min, Nat.reduceAdd, Nat.reduceEqDiff, Nat.reduceLT, Nat.reduceMul, Nat.reduceLeDiff, reduceCtorEq, reduceIte, noDefer, List.drop_zero, List.drop_succ_cons, cEd, sGoes, sTarget, iOf, hX, hT, hG, Int.reduceNeg, hT]; rfl
      · first | rfl | (simp only [push_cast, ↓Int.cast_ofNat_Int, ↓ofV_m1, ↓ofV_min, Nat.reduceAdd, Nat.reduceEqDiff, Nat.reduceLT, Nat.reduceMul, Nat.reduceLeDiff, reduceCtorEq, reduceIte, noDefer, List.drop_zero, List.drop_succ_cons, cEd, sGoes, sTarget, iOf, hX, hT, hG, Int.reduceNeg, hT]; done)
      · simp only [push_cast, ↓Int.cast_ofNat_Int, ↓ofV_m1, ↓ofV_min, Nat.reduceAdd, Nat.reduceEqDiff, Nat.reduceLT, Nat.reduceMul, Nat.reduceLeDiff, reduceCtorEq, reduceIte, noDefer, List.drop_zero, List.drop_succ_cons, cEd, sGoes, sTarget, iOf, hX, hT, hG, Int.reduceNeg, hT]; rfl
      · (focus ((first | exact True.intro | (simp only [and_self, implies_true, true_and, and_true, forall_const, false_implies, true_implies, Bool.not_eq_true', imp_self, shaped, shapedL, kndOf, cEd, sGoes, sTarget, iOf, hX, hT, hG, Int.reduceNeg, hT]; done) | (simp only [and_self, implies_true, true_and, and_true, forall_const, false_implies, true_implies, Bool.not_eq_true', imp_self, shaped, shapedL, kndOf, cEd, sGoes, sTarget, iOf, hX, hT, hG, Int.reduceNeg, hT]; (repeat' (first | assumption | exact True.intro | omega | apply And.intro))) | ((repeat' (first | assumption | exact True.intro | omega | apply And.intro)))); done))
      · simp only [push_cast, ↓Int.cast_ofNat_Int, ↓ofV_m1, ↓ofV_min, Nat.reduceAdd, Nat.reduceEqDiff, Nat.reduceLT, Nat.reduceMul, Nat.reduceLeDiff, reduceCtorEq, reduceIte, noDefer, List.drop_zero, List.drop_succ_cons, cEd, sGoes, sTarget, iOf, hX, hT, hG, Int.reduceNeg, hT]; rfl
      · (focus ((first | exact True.intro | (simp only [and_self, implies_true, true_and, and_true, forall_const, false_implies, true_implies, Bool.not_eq_true', imp_self, shaped, shapedL, kndOf, cEd, sGoes, sTarget, iOf, hX, hT, hG, Int.reduceNeg, hT]; done) | (simp only [and_self, implies_true, true_and, and_true, forall_const, false_implies, true_implies, Bool.not_eq_true', imp_self, shaped, shapedL, kndOf, cEd, sGoes, sTarget, iOf, hX, hT, hG, Int.reduceNeg, hT]; (repeat' (first | assumption | exact True.intro | omega | apply And.intro))) | ((repeat' (first | assumption | exact True.intro | omega | apply And.intro)))); done))
      · first | rfl | (simp only [push_cast, ↓Int.cast_ofNat_Int, ↓ofV_m1, ↓ofV_min, Nat.reduceAdd, Nat.reduceEqDiff, Nat.reduceLT, Nat.reduceMul, Nat.reduceLeDiff, reduceCtorEq, reduceIte, noDefer, List.drop_zero, List.drop_succ_cons, cEd, sGoes, sTarget, iOf, hX, hT, hG, Int.reduceNeg, hT]; done)
      · exact hrec
      · exact hcf
      · rfl
      · rfl
      · rfl
      intro lb E2 next hE2 hnext
      repeat' (first
        | with_reducible (first | apply WF.seq | refine At.code ?_ | apply At.thenNormal | apply At.thenRet | apply At.thenExit | apply At.thenGoto | apply At.inNormal | apply At.inRet | apply At.inGoto | apply At.inHit | apply At.noGotoNormal | apply At.noGotoRet | apply At.noGotoExit | apply WF.skip | apply WF.ret | apply WF.exit | apply WF.goto | apply WF.label | apply WF.block | apply WF.scope)
        | ((with_reducible apply At.inMiss); · rfl)
        | ((with_reducible intro hif); first | (focus (cases hif; done)) | (simp only [Bool.not_eq_true', Bool.not_eq_false', decide_eq_true_eq, decide_eq_false_iff_not, Bool.and_eq_true, Bool.or_eq_true] at hif; try (exfalso; omega)) | (try (exfalso; omega)))
        | ((first | ((with_reducible apply WF.region cEd_ok tab_ok); · rfl) | ((with_reducible apply WF.drawn fol cEd_ok tab_ok); · rfl) | with_reducible apply WF.cond)
           · simp only [push_cast, ↓Int.cast_ofNat_Int, ↓ofV_m1, ↓ofV_min, Nat.reduceAdd, Nat.reduceEqDiff, Nat.reduceLT, Nat.reduceMul, Nat.reduceLeDiff, reduceCtorEq, reduceIte, cEd, sGoes, sTarget, iOf, hX, hT, hG, Int.reduceNeg, hT]; rfl
           try kernel_rfl
           try (focus ((first | exact True.intro | (simp only [and_self, implies_true, true_and, and_true, forall_const, false_implies, true_implies, Bool.not_eq_true', imp_self, shaped, shapedL, kndOf, cEd, sGoes, sTarget, iOf, hX, hT, hG, Int.reduceNeg, hT]; done) | (simp only [and_self, implies_true, true_and, and_true, forall_const, false_implies, true_implies, Bool.not_eq_true', imp_self, shaped, shapedL, kndOf, cEd, sGoes, sTarget, iOf, hX, hT, hG, Int.reduceNeg, hT]; (repeat' (first | assumption | exact True.intro | omega | apply And.intro))) | ((repeat' (first | assumption | exact True.intro | omega | apply And.intro)))); done)))
        | fail)
      with_reducible apply At.begins hrec
      · rfl
      with_reducible refine At.code ?_
      repeat' (first
        | with_reducible (first | apply WF.seq | refine At.code ?_ | apply At.thenNormal | apply At.thenRet | apply At.thenExit | apply At.thenGoto | apply At.inNormal | apply At.inRet | apply At.inGoto | apply At.inHit | apply At.noGotoNormal | apply At.noGotoRet | apply At.noGotoExit | apply WF.skip | apply WF.ret | apply WF.exit | apply WF.goto | apply WF.label | apply WF.block | apply WF.scope)
        | ((with_reducible apply At.inMiss); · rfl)
        | ((with_reducible intro hif); first | (focus (cases hif; done)) | (simp only [Bool.not_eq_true', Bool.not_eq_false', decide_eq_true_eq, decide_eq_false_iff_not, Bool.and_eq_true, Bool.or_eq_true] at hif; try (exfalso; omega)) | (try (exfalso; omega)))
        | ((first | ((with_reducible apply WF.region cEd_ok tab_ok); · rfl) | ((with_reducible apply WF.drawn fol cEd_ok tab_ok); · rfl) | with_reducible apply WF.cond)
           · simp only [push_cast, ↓Int.cast_ofNat_Int, ↓ofV_m1, ↓ofV_min, Nat.reduceAdd, Nat.reduceEqDiff, Nat.reduceLT, Nat.reduceMul, Nat.reduceLeDiff, reduceCtorEq, reduceIte, cEd, sGoes, sTarget, iOf, hX, hT, hG, Int.reduceNeg, hT, inN, inR]; rfl
           try kernel_rfl
           try (focus ((first | exact True.intro | (simp only [and_self, implies_true, true_and, and_true, forall_const, false_implies, true_implies, Bool.not_eq_true', imp_self, shaped, shapedL, kndOf, cEd, sGoes, sTarget, iOf, hX, hT, hG, Int.reduceNeg, hT, inN, inR]; done) | (simp only [and_self, implies_true, true_and, and_true, forall_const, false_implies, true_implies, Bool.not_eq_true', imp_self, shaped, shapedL, kndOf, cEd, sGoes, sTarget, iOf, hX, hT, hG, Int.reduceNeg, hT, inN, inR]; (repeat' (first | assumption | exact True.intro | omega | apply And.intro))) | ((repeat' (first | assumption | exact True.intro | omega | apply And.intro)))); done)))
        | fail)
      with_reducible apply At.roundNormal
      · first | rfl | (simp only [push_cast, ↓Int.cast_ofNat_Int, ↓ofV_m1, ↓ofV_min, Nat.reduceAdd, Nat.reduceEqDiff, Nat.reduceLT, Nat.reduceMul, Nat.reduceLeDiff, reduceCtorEq, reduceIte, noDefer, List.drop_zero, List.drop_succ_cons, cEd, sGoes, sTarget, iOf, hX, hT, hG, Int.reduceNeg, hT]; done)
      apply hnext
      with_reducible apply At.runEnd cEd_ok tab_ok
      · rfl
      · rfl
      · rfl
      · simp only [push_cast, ↓Int.cast_ofNat_Int, ↓ofV_m1, ↓ofV_min, Nat.reduceAdd, Nat.reduceEqDiff, Nat.reduceLT, Nat.reduceMul, Nat.reduceLeDiff, reduceCtorEq, reduceIte, noDefer, List.drop_zero, List.drop_succ_cons, cEd, sGoes, sTarget, iOf, hX, hT, hG, Int.reduceNeg, hT]; rfl
      · (focus ((first | exact True.intro | (simp only [and_self, implies_true, true_and, and_true, forall_const, false_implies, true_implies, Bool.not_eq_true', imp_self, shaped, shapedL, kndOf, cEd, sGoes, sTarget, iOf, hX, hT, hG, Int.reduceNeg, hT]; done) | (simp only [and_self, implies_true, true_and, and_true, forall_const, false_implies, true_implies, Bool.not_eq_true', imp_self, shaped, shapedL, kndOf, cEd, sGoes, sTarget, iOf, hX, hT, hG, Int.reduceNeg, hT]; (repeat' (first | assumption | exact True.intro | omega | apply And.intro))) | ((repeat' (first | assumption | exact True.intro | omega | apply And.intro)))); done))
      repeat' (first
        | with_reducible (first | apply WF.seq | refine At.code ?_ | apply At.thenNormal | apply At.thenRet | apply At.thenExit | apply At.thenGoto | apply At.inNormal | apply At.inRet | apply At.inGoto | apply At.inHit | apply At.noGotoNormal | apply At.noGotoRet | apply At.noGotoExit | apply WF.skip | apply WF.ret | apply WF.exit | apply WF.goto | apply WF.label | apply WF.block | apply WF.scope)
        | ((with_reducible apply At.inMiss); · rfl)
        | ((with_reducible intro hif); first | (focus (cases hif; done)) | (simp only [Bool.not_eq_true', Bool.not_eq_false', decide_eq_true_eq, decide_eq_false_iff_not, Bool.and_eq_true, Bool.or_eq_true] at hif; try (exfalso; omega)) | (try (exfalso; omega)))
        | ((first | ((with_reducible apply WF.region cEd_ok tab_ok); · rfl) | ((with_reducible apply WF.drawn fol cEd_ok tab_ok); · rfl) | with_reducible apply WF.cond)
           · simp only [push_cast, ↓Int.cast_ofNat_Int, ↓ofV_m1, ↓ofV_min, Nat.reduceAdd, Nat.reduceEqDiff, Nat.reduceLT, Nat.reduceMul, Nat.reduceLeDiff, reduceCtorEq, reduceIte, cEd, sGoes, sTarget, iOf, hX, hT, hG, Int.reduceNeg, hT]; rfl
           try kernel_rfl
           try (focus ((first | exact True.intro | (simp only [and_self, implies_true, true_and, and_true, forall_const, false_implies, true_implies, Bool.not_eq_true', imp_self, shaped, shapedL, kndOf, cEd, sGoes, sTarget, iOf, hX, hT, hG, Int.reduceNeg, hT]; done) | (simp only [and_self, implies_true, true_and, and_true, forall_const, false_implies, true_implies, Bool.not_eq_true', imp_self, shaped, shapedL, kndOf, cEd, sGoes, sTarget, iOf, hX, hT, hG, Int.reduceNeg, hT]; (repeat' (first | assumption | exact True.intro | omega | apply And.intro))) | ((repeat' (first | assumption | exact True.intro | omega | apply And.intro)))); done)))
        | fail)
      with_reducible apply At.itNormal .ready
      · rfl
      · rfl
      · intro h; cases h
      apply haft
      intro w1 M1 D1 hA
      dsimp only
      repeat' (first
        | with_reducible (first | apply WF.seq | refine At.code ?_ | apply At.thenNormal | apply At.thenRet | apply At.thenExit | apply At.thenGoto | apply At.inNormal | apply At.inRet | apply At.inGoto | apply At.inHit | apply At.noGotoNormal | apply At.noGotoRet | apply At.noGotoExit | apply WF.skip | apply WF.ret | apply WF.exit | apply WF.goto | apply WF.label | apply WF.block | apply WF.scope)
        | ((with_reducible apply At.inMiss); · rfl)
        | ((with_reducible intro hif); first | (focus (cases hif; done)) | (simp only [Bool.not_eq_true', Bool.not_eq_false', decide_eq_true_eq, decide_eq_false_iff_not, Bool.and_eq_true, Bool.or_eq_true] at hif; try (exfalso; omega)) | (try (exfalso; omega)))
        | ((first | ((with_reducible apply WF.region cEd_ok tab_ok); · rfl) | ((with_reducible apply WF.drawn fol cEd_ok tab_ok); · rfl) | with_reducible apply WF.cond)
           · simp only [push_cast, ↓Int.cast_ofNat_Int, ↓ofV_m1, ↓ofV_min, Nat.reduceAdd, Nat.reduceEqDiff, Nat.reduceLT, Nat.reduceMul, Nat.reduceLeDiff, reduceCtorEq, reduceIte]; rfl
           try kernel_rfl
           try (focus ((first | exact True.intro | (simp only [and_self, implies_true, true_and, and_true, forall_const, false_implies, true_implies, Bool.not_eq_true', imp_self, shaped, shapedL, kndOf]; done) | (simp only [and_self, implies_true, true_and, and_true, forall_const, false_implies, true_implies, Bool.not_eq_true', imp_self, shaped, shapedL, kndOf]; (repeat' (first | assumption | exact True.intro | omega | apply And.intro))) | ((repeat' (first | assumption | exact True.intro | omega | apply And.intro)))); done)))
        | fail)
      apply At.endsPick [0, 1, 2, 3, 4, 9] tab_ok (fn := Try.f122) (rs := [.tmp 4]) hA hro (Nat.le_of_ble_eq_true rfl) rfl
      · simp only [push_cast, ↓Int.cast_ofNat_Int, ↓ofV_m1, ↓ofV_min, Nat.reduceAdd, Nat.reduceEqDiff, Nat.reduceLT, Nat.reduceMul, Nat.reduceLeDiff, reduceCtorEq, reduceIte, resV, resV1]; rfl
      · (focus ((first | exact True.intro | (simp only [and_self, implies_true, true_and, and_true, forall_const, false_implies, true_implies, Bool.not_eq_true', imp_self, shaped, shapedL, kndOf]; done) | (simp only [and_self, implies_true, true_and, and_true, forall_const, false_implies, true_implies, Bool.not_eq_true', imp_self, shaped, shapedL, kndOf]; (repeat' (first | assumption | exact True.intro | omega | apply And.intro))) | ((repeat' (first | assumption | exact True.intro | omega | apply And.intro)))); done))
      · rfl
      · rfl
      · rfl
      · (repeat' (first | exact trivial | exact .inl rfl | exact .inr (.same _) | exact .inr .loose | exact .inr (.arr (by assumption)) | apply And.intro | exact .inr (.arr fun q hq => (by have h0 : q = 0 := (by omega); subst h0; rfl))))
      · rfl
      · (first | exact trivial | (repeat' (first | exact trivial | exact rfl | assumption | exact prS_stable _ | exact i64S_stable _ | exact sndsS_stable _ | exact insS_stable _ | exact sndS_stable _ | exact hst _ _ | exact hst1 _ _ | exact hst2 _ _ | apply Stable.ite | apply And.intro | intro _ | (simp only [Stable, StableL, i64S, prS, insS, sndsS, sndS]; done))))
      · (repeat' (first | exact trivial | exact .inl rfl | exact .inr rfl | exact rfl | apply And.intro))
      · exact fun β => rfl
      · (first | exact trivial | (repeat' (first | exact trivial | exact rfl | assumption | exact prS_stable _ | exact i64S_stable _ | exact sndsS_stable _ | exact insS_stable _ | exact sndS_stable _ | exact hst _ _ | exact hst1 _ _ | exact hst2 _ _ | apply Stable.ite | apply And.intro | intro _ | (simp only [Stable, StableL, i64S, prS, insS, sndsS, sndS]; done))))
    simp only [Bool.not_eq_true] at hG
    · have hE : edgesL x i = [] := by unfold edgesL; simp [hT, hG, hT]
      rw [hE] at haft
      repeat' (first
        | with_reducible (first | apply WF.seq | refine At.code ?_ | apply At.thenNormal | apply At.thenRet | apply At.thenExit | apply At.thenGoto | apply At.inNormal | apply At.inRet | apply At.inGoto | apply At.inHit | apply At.noGotoNormal | apply At.noGotoRet | apply At.noGotoExit | apply WF.skip | apply WF.ret | apply WF.exit | apply WF.goto | apply WF.label | apply WF.block | apply WF.scope)
        | ((with_reducible apply At.inMiss); · rfl)
        | ((with_reducible intro hif); first | (focus (cases hif; done)) | (simp only [Bool.not_eq_true', Bool.not_eq_false', decide_eq_true_eq, decide_eq_false_iff_not, Bool.and_eq_true, Bool.or_eq_true] at hif; try (exfalso; omega)) | (try (exfalso; omega)))
        | ((first | ((with_reducible apply WF.region cEd_ok tab_ok); · rfl) | ((with_reducible apply WF.drawn fol cEd_ok tab_ok); · rfl) | with_reducible apply WF.cond)
           · simp only [push_cast, ↓Int.cast_ofNat_Int, ↓ofV_m1, ↓ofV_min, Nat.reduceAdd, Nat.reduceEqDiff, Nat.reduceLT, Nat.reduceMul, Nat.reduceLeDiff, reduceCtorEq, reduceIte, cEd, sGoes, sTarget, iOf, hX, hT, hG, Int.reduceNeg, hT]; rfl
           try kernel_rfl
           try (focus ((first | exact True.intro | (simp only [and_self, implies_true, true_and, and_true, forall_const, false_implies, true_implies, Bool.not_eq_true', imp_self, shaped, shapedL, kndOf, cEd, sGoes, sTarget, iOf, hX, hT, hG, Int.reduceNeg, hT]; done) | (simp only [and_self, implies_true, true_and, and_true, forall_const, false_implies, true_implies, Bool.not_eq_true', imp_self, shaped, shapedL, kndOf, cEd, sGoes, sTarget, iOf, hX, hT, hG, Int.reduceNeg, hT]; (repeat' (first | assumption | exact True.intro | omega | apply And.intro))) | ((repeat' (first | assumption | exact True.intro | omega | apply And.intro)))); done)))
        | fail)
      with_reducible apply At.itNormal .ready
      · rfl
      · rfl
      · intro h; cases h
      apply haft
      intro w1 M1 D1 hA
      dsimp only
      repeat' (first
        | with_reducible (first | apply WF.seq | refine At.code ?_ | apply At.thenNormal | apply At.thenRet | apply At.thenExit | apply At.thenGoto | apply At.inNormal | apply At.inRet | apply At.inGoto | apply At.inHit | apply At.noGotoNormal | apply At.noGotoRet | apply At.noGotoExit | apply WF.skip | apply WF.ret | apply WF.exit | apply WF.goto | apply WF.label | apply WF.block | apply WF.scope)
        | ((with_reducible apply At.inMiss); · rfl)
        | ((with_reducible intro hif); first | (focus (cases hif; done)) | (simp only [Bool.not_eq_true', Bool.not_eq_false', decide_eq_true_eq, decide_eq_false_iff_not, Bool.and_eq_true, Bool.or_eq_true] at hif; try (exfalso; omega)) | (try (exfalso; omega)))
        | ((first | ((with_reducible apply WF.region cEd_ok tab_ok); · rfl) | ((with_reducible apply WF.drawn fol cEd_ok tab_ok); · rfl) | with_reducible apply WF.cond)
           · simp only [push_cast, ↓Int.cast_ofNat_Int, ↓ofV_m1, ↓ofV_min, Nat.reduceAdd, Nat.reduceEqDiff, Nat.reduceLT, Nat.reduceMul, Nat.reduceLeDiff, reduceCtorEq, reduceIte]; rfl
           try kernel_rfl
           try (focus ((first | exact True.intro | (simp only [and_self, implies_true, true_and, and_true, forall_const, false_implies, true_implies, Bool.not_eq_true', imp_self, shaped, shapedL, kndOf]; done) | (simp only [and_self, implies_true, true_and, and_true, forall_const, false_implies, true_implies, Bool.not_eq_true', imp_self, shaped, shapedL, kndOf]; (repeat' (first | assumption | exact True.intro | omega | apply And.intro))) | ((repeat' (first | assumption | exact True.intro | omega | apply And.intro)))); done)))
        | fail)
      refine At.nil 4 3 1 (i64S []) rfl (fun h q => i64S_stable q) ?_
      apply At.endsPick [0, 1, 2, 3, 4, 8] tab_ok (fn := Try.f122) (rs := [.tmp 4]) hA hro (Nat.le_of_ble_eq_true rfl) rfl
      · simp only [push_cast, ↓Int.cast_ofNat_Int, ↓ofV_m1, ↓ofV_min, Nat.reduceAdd, Nat.reduceEqDiff, Nat.reduceLT, Nat.reduceMul, Nat.reduceLeDiff, reduceCtorEq, reduceIte, resV, resV1]; rfl
      · (focus ((first | exact True.intro | (simp only [and_self, implies_true, true_and, and_true, forall_const, false_implies, true_implies, Bool.not_eq_true', imp_self, shaped, shapedL, kndOf]; done) | (simp only [and_self, implies_true, true_and, and_true, forall_const, false_implies, true_implies, Bool.not_eq_true', imp_self, shaped, shapedL, kndOf]; (repeat' (first | assumption | exact True.intro | omega | apply And.intro))) | ((repeat' (first | assumption | exact True.intro | omega | apply And.intro)))); done))
      · rfl
      · rfl
      · rfl
      · (repeat' (first | exact trivial | exact .inl rfl | exact .inr (.same _) | exact .inr .loose | exact .inr (.arr (by assumption)) | apply And.intro | exact .inr (.arr fun q hq => absurd hq (Nat.not_lt_zero q))))
      · rfl
      · (first | exact trivial | (repeat' (first | exact trivial | exact rfl | assumption | exact prS_stable _ | exact i64S_stable _ | exact sndsS_stable _ | exact insS_stable _ | exact sndS_stable _ | exact hst _ _ | exact hst1 _ _ | exact hst2 _ _ | apply Stable.ite | apply And.intro | intro _ | (simp only [Stable, StableL, i64S, prS, insS, sndsS, sndS]; done))))
      · (repeat' (first | exact trivial | exact .inl rfl | exact .inr rfl | exact rfl | apply And.intro))
      · exact fun β => rfl
      · (first | exact trivial | (repeat' (first | exact trivial | exact rfl | assumption | exact prS_stable _ | exact i64S_stable _ | exact sndsS_stable _ | exact insS_stable _ | exact sndS_stable _ | exact hst _ _ | exact hst1 _ _ | exact hst2 _ _ | apply Stable.ite | apply And.intro | intro _ | (simp only [Stable, StableL, i64S, prS, insS, sndsS, sndS]; done))))
end Go.Proofs.Ytmljmabbopkpiaa.Vm
end
