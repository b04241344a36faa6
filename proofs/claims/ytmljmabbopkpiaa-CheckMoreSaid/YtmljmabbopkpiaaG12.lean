import Derived.Test.YtmljmabbopkpiaaG6
import Derived.Test.YtmljmabbopkpiaaG7
import Derived.Test.YtmljmabbopkpiaaG11
import Derived.IntWalk
import Derived.Laws.ResultCell
import Derived.Laws.OwnMore
import Derived.Lib.OthersKept
import Derived.Deep.RegionHeld3
section
/- check: Check; Doomed as a call. -/
namespace Go.Proofs.Ytmljmabbopkpiaa.Vm
open Go.RowKit
attribute [local push_cast] runR opG gtmp gval gus opX tmpsOf tm tmO tmP restr look look2 tab tys zs ets eqB eqBL allB numOf ieq Int.cast_ofNat_Int Int.ofNat_zero beq_true beq_false frameOf ev evL ofV opV loadV noW pushF wrsL setH allBorn allGone HB.born HB.isGone HB.val SV.plain dstOk hp nav fitsT SV.size sizeL SV.isAgg TK.size TK.agg bin binE binN binI arN arI cmpN cmpI keq kn narrow callV storeV setp fillV buildV buildSliceV makeV sliceV appendV copyV List.isEmpty_nil srcV evO asN ite_t ite_f ite_bool ite_int ite_nat maxV v_beq v_ble v_blt cond_true cond_false List.getElem?_cons_zero List.getElem?_cons_succ List.getD_cons_zero List.getD_cons_succ List.getD_nil List.length_cons List.length_nil List.take_succ_cons List.take_zero List.set_cons_zero List.set_cons_succ List.cons_append List.nil_append List.append_assoc List.replicate_succ List.replicate_zero Nat.zero_add Nat.add_zero decide_true decide_false Bool.true_and Bool.and_true Bool.false_and Bool.and_false Bool.true_or Bool.or_true Bool.false_or Bool.or_false beq_self_eq_true Bool.or_self Nat.lt_irrefl Nat.not_lt_zero Nat.le_refl Option.getD_some Option.getD_none BEq.rfl Bool.not_true Bool.not_false Bool.cond_true_left Bool.cond_false_right prS sndsS i64S nav_ins nav_ins0 nav_ins1 nav_ins2 nav_ins3 nav_ins4 nav_snd nav_snd0 nav_snd1 nav_snd2 isIns_insS insOf_insS isSnd_sndS sndOf_sndS isI_int isI_nat iOf nav_k nav_k0 nav_k1 nav_ka nav_kai nav_ft nav_ft0 nav_ft1 isKn_kS knOf_kS isKa_kaS kaOf_kaS isFt_ftS ftOf_ftS setp_ka setp_ftk setp_ftr setp_fti evm_ins evm_snd evm_k evm_ka evm_ft
set_option linter.unusedVariables false
set_option linter.unusedSimpArgs false
set_option maxRecDepth 100000
set_option maxHeartbeats 4000000
/-- the error of the k-th one -/
def whyK (xs : List Ins) (F : List Ft) (c p l : Int) (k : Nat) : Int := whyE c p l (xs.getD k ⟨0, 0, 0, 0, 0⟩) (getF F k)
def badB (xs : List Ins) (F : List Ft) (c p l : Int) (k : Nat) : Bool := decide (whyK xs F c p l k ≠ 0) && decide (whyK xs F c p l k ≠ 176)
def chkR (xs : List Ins) (F : List Ft) (c p l : Int) : Int × Int := match (List.range xs.length).find? (badB xs F c p l) with
  | some k => ((k : Int), whyK xs F c p l k)
  | none => (-1, 0)
theorem chkR_some {xs : List Ins} {F : List Ft} {c p l : Int} {k : Nat} (hk : k < xs.length) (h : badB xs F c p l k = true) (hm : ∀ j, j < k → badB xs F c p l j = false) : chkR xs F c p l = ((k : Int), whyK xs F c p l k) := by
  have e : (List.range xs.length).find? (badB xs F c p l) = some k := by
    rw [List.find?_range_eq_some]
    exact ⟨h, List.mem_range.2 hk, fun j hj => by rw [hm j hj]; rfl⟩
  unfold chkR
  rw [e]
theorem chkR_none {xs : List Ins} {F : List Ft} {c p l : Int} (hm : ∀ j, j < xs.length → badB xs F c p l j = false) : chkR xs F c p l = (-1, 0) := by
  have e : (List.range xs.length).find? (badB xs F c p l) = none := by
    rw [List.find?_eq_none]
    intro j hj
    rw [hm j (List.mem_range.1 hj)]
    decide
  unfold chkR
  rw [e]
theorem Check_lit (xs : List Ins) (p1 : Nat) (c p l : Int) (hx : ∀ x ∈ xs, x.ok) (hc : (checkI xs).2 = 0) (hl : limB c p l = true) : LitOk Try.prog 35 [.sl 1 2 [] 5 0 xs.length (some p1), .agg [.int .i64 c, .int .i64 p, .int .i64 l]] [.gone, .gone, .ro (.arr xs.length 5 (prS xs))]
    (.tup [.int .i64 (chkR xs (factsS xs) c p l).1, .int .i64 (chkR xs (factsS xs) c p l).2]) [.gone] := by
  refine litOkM (fn := Try.f35) 3 24 0 rfl rfl rfl rfl rfl (by simp only [StableL, Stable, hp]; simp [HB.born]) rfl fun w0 M E hro => ?_
  have hl6 : xs.length ≤ 256 := (right_last' hc).2.1
  have hfit : fitE xs c p l = 0 := by unfold fitE; rw [if_pos hc, if_pos hl]
  obtain ⟨F, hF⟩ : ∃ F, F = factsS xs := ⟨_, rfl⟩
  rw [← hF]
  repeat' (first | with_reducible (first | apply J1 | apply J3 | apply J4 | apply J5 | apply J6 | apply J7 | apply J8 | apply J9 | apply J10 | apply J11 | apply J12 | apply J13 | apply J14 | apply J15 | apply J16 | apply J17 | apply J18 | apply J19 | apply J20 | refine J2 ?_) | ((with_reducible apply J21); (· rfl)) | ((with_reducible intro hif); first | (focus (cases hif; done)) | (simp only [JH] at hif; try (exfalso; omega)) | (try (exfalso; omega))) | ((first | ((with_reducible apply J22 cWys_ok tab_ok); (· rfl)) | ((with_reducible apply J23 fol cWys_ok tab_ok); (· rfl)) | with_reducible apply J24); (· (simp only [push_cast, ↓JP, Nat.reduceAdd, Nat.reduceEqDiff, Nat.reduceLT, Nat.reduceMul, Nat.reduceLeDiff, reduceCtorEq, reduceIte, ↓JK, ↓JF, cWys, sFits, sWhys, ls_prS, ls_prS', ls_prS2, hfit]; rfl)); (try kernel_rfl); (try (focus (first | exact True.intro | ((try simp only [JS, implies_true, forall_const, shaped, shapedL, kndOf, cWys, sFits, sWhys, ls_prS, ls_prS', ls_prS2, hfit]); (first | exact ⟨fun q _ => rfl, hx, by omega⟩ | (repeat' (first | assumption | exact True.intro | omega | apply And.intro))); done) | ((first | exact ⟨fun q _ => rfl, hx, by omega⟩ | (repeat' (first | assumption | exact True.intro | omega | apply And.intro))); done))))) | fail)
  with_reducible apply WF.range (fn' := Try.f117) 32
  · simp only [push_cast, ↓JP, Nat.reduceAdd, Nat.reduceEqDiff, Nat.reduceLT, Nat.reduceMul, Nat.reduceLeDiff, reduceCtorEq, reduceIte, ↓JK, ↓JF]; rfl
  · (focus (first | exact True.intro | ((try simp only [JS, implies_true, forall_const, shaped, shapedL, kndOf]); (repeat' (first | assumption | exact True.intro | omega | apply And.intro)); done) | ((repeat' (first | assumption | exact True.intro | omega | apply And.intro)); done)))
  · rfl
  · rfl
  · rfl
  · rfl
  · rfl
  · rfl
  · rfl
  intro E1 rec tmps after hE1 hrec hcf haft
  repeat' (first | with_reducible (first | apply J1 | apply J3 | apply J4 | apply J5 | apply J6 | apply J7 | apply J8 | apply J9 | apply J10 | apply J11 | apply J12 | apply J13 | apply J14 | apply J15 | apply J16 | apply J17 | apply J18 | apply J19 | apply J20 | refine J2 ?_) | ((with_reducible apply J21); (· rfl)) | ((with_reducible intro hif); first | (focus (cases hif; done)) | (simp only [JH] at hif; try (exfalso; omega)) | (try (exfalso; omega))) | ((first | ((with_reducible apply J22 cWys_ok tab_ok); (· rfl)) | ((with_reducible apply J23 fol cWys_ok tab_ok); (· rfl)) | with_reducible apply J24); (· (simp only [push_cast, ↓JP, Nat.reduceAdd, Nat.reduceEqDiff, Nat.reduceLT, Nat.reduceMul, Nat.reduceLeDiff, reduceCtorEq, reduceIte, ↓JK, ↓JF, cWys, sFactsI, ls_prS, ls_prS', ls_prS2, hc, ← hF]; rfl)); (try kernel_rfl); (try (focus (first | exact True.intro | ((try simp only [JS, implies_true, forall_const, shaped, shapedL, kndOf, cWys, sFactsI, ls_prS, ls_prS', ls_prS2, hc, ← hF]); (repeat' (first | assumption | exact True.intro | omega | apply And.intro)); done) | ((repeat' (first | assumption | exact True.intro | omega | apply And.intro)); done))))) | fail)
  refine WF.loopAt (fun k => k ≤ xs.length ∧ ∀ j, j < k → badB xs F c p l j = false) (fun k => [(0, .yl 9), (1, .ptr 7 []), (2, .ptr 6 []), (8, .sl 10 10 [] 17 0 xs.length none), (9, .nat .i64 xs.length), (10, .nat .i64 k)]) (fun k => [.gone, .gone, .ro (.arr xs.length 5 (prS xs)), .gone, .own 3 (.nat .i64 0) true, .own 32 (.nat .i64 0) true, .own 31 (.agg [.int .i64 c, .int .i64 p, .int .i64 l]) true, .own 25 (.sl 1 2 [] 5 0 xs.length (some p1)) true, .raw (.deferred (some [])), .raw (.loop (rec .ready none)), .own 44 (.arr xs.length 17 (ftsS F)) false]) (fun k => xs.length - k) 0 ⟨Nat.zero_le _, fun j hj => absurd hj (Nat.not_lt_zero j)⟩ ?_ ?_ rfl ?_ ?_ rfl ?_
  · ((repeat' (first | exact trivial | apply And.intro)) <;> (first | rfl | (simp only [look, cond_true, cond_false]; done)))
  · (repeat' (first | exact trivial | exact .same _ | exact .dead _ | exact .gone rfl | exact .loose | assumption | exact .arr (by assumption) | apply And.intro))
  · (repeat' (first | exact trivial | exact rfl | assumption | apply Stable.ite | exact nilOr_st rfl rfl | apply And.intro | intro _ | (simp only [Stable, StableL, i64S, prS, insS, sndsS, sndS, kS, kaS, ftS, ftsS]; done)))
  · (repeat' (first | exact trivial | exact rfl | assumption | apply Stable.ite | exact nilOr_st rfl rfl | apply And.intro | intro _ | (simp only [Stable, StableL, i64S, prS, insS, sndsS, sndS, kS, kaS, ftS, ftsS]; done)))
  · rintro k ⟨hk, hno⟩
    by_cases hkl : k < xs.length
    · obtain ⟨x, hX⟩ : ∃ x, xs.getD k ⟨0, 0, 0, 0, 0⟩ = x := ⟨_, rfl⟩
      have hR := right_at hx hc hkl
      rw [hX] at hR
      have hok := hR.ok
      have ha8 := hR.a
      have hb8 := hR.b
      have hc8 := hR.c
      have hW : whyK xs F c p l k = whyE c p l x (getF F k) := by unfold whyK; rw [hX]
      have nxt : badB xs F c p l k = false → ∀ j, j < k + 1 → badB xs F c p l j = false := fun h j hj => by
        by_cases q : j = k
        · rw [q]; exact h
        · exact hno j (by omega)
      by_cases he : whyE c p l x (getF F k) = 0
      · have hb := nxt (by unfold badB; rw [hW, he]; rfl)
        repeat' (first | with_reducible (first | apply J1 | apply J3 | apply J4 | apply J5 | apply J6 | apply J7 | apply J8 | apply J9 | apply J10 | apply J11 | apply J12 | apply J13 | apply J14 | apply J15 | apply J16 | apply J17 | apply J18 | apply J19 | apply J20 | refine J2 ?_) | ((with_reducible apply J21); (· rfl)) | ((with_reducible intro hif); first | (focus (cases hif; done)) | (simp only [JH] at hif; try (exfalso; omega)) | (try (exfalso; omega))) | ((first | ((with_reducible apply J22 cWys_ok tab_ok); (· rfl)) | ((with_reducible apply J23 fol cWys_ok tab_ok); (· rfl)) | with_reducible apply J24); (· (simp only [push_cast, ↓JP, Nat.reduceAdd, Nat.reduceEqDiff, Nat.reduceLT, Nat.reduceMul, Nat.reduceLeDiff, reduceCtorEq, reduceIte, ↓JK, ↓JF, cWys, sWhyL, ftsS, hX, inN, hkl, he]; rfl)); (try kernel_rfl); (try (focus (first | exact True.intro | ((try simp only [JS, implies_true, forall_const, shaped, shapedL, kndOf, cWys, sWhyL, ftsS, hX, inN, hkl, he]); (repeat' (first | assumption | exact True.intro | omega | apply And.intro)); done) | ((repeat' (first | assumption | exact True.intro | omega | apply And.intro)); done))))) | fail)
        refine At.next (k + 1) ?_ ?_ ?_ rfl ?_ ?_ rfl
        · exact ⟨⟨hkl, hb⟩, by omega⟩
        · ((repeat' (first | exact trivial | apply And.intro)) <;> (first | rfl | (simp only [look, cond_true, cond_false]; done)))
        · (repeat' (first | exact trivial | exact .same _ | exact .dead _ | exact .gone rfl | exact .loose | assumption | exact .arr (by assumption) | apply And.intro))
        · (repeat' (first | exact trivial | exact rfl | assumption | apply Stable.ite | exact nilOr_st rfl rfl | apply And.intro | intro _ | (simp only [Stable, StableL, i64S, prS, insS, sndsS, sndS, kS, kaS, ftS, ftsS]; done)))
        · (repeat' (first | exact trivial | exact rfl | assumption | apply Stable.ite | exact nilOr_st rfl rfl | apply And.intro | intro _ | (simp only [Stable, StableL, i64S, prS, insS, sndsS, sndS, kS, kaS, ftS, ftsS]; done)))
      · by_cases hf : whyE c p l x (getF F k) = 176
        · have hb := nxt (by unfold badB; rw [hW, hf]; rfl)
          have h176 : ¬ ((176 : Int) = 0) := by decide
          repeat' (first | with_reducible (first | apply J1 | apply J3 | apply J4 | apply J5 | apply J6 | apply J7 | apply J8 | apply J9 | apply J10 | apply J11 | apply J12 | apply J13 | apply J14 | apply J15 | apply J16 | apply J17 | apply J18 | apply J19 | apply J20 | refine J2 ?_) | ((with_reducible apply J21); (· rfl)) | ((with_reducible intro hif); first | (focus (cases hif; done)) | (simp only [JH] at hif; try (exfalso; omega)) | (try (exfalso; omega))) | ((first | ((with_reducible apply J22 cWys_ok tab_ok); (· rfl)) | ((with_reducible apply J23 fol cWys_ok tab_ok); (· rfl)) | with_reducible apply J24); (· (simp only [push_cast, ↓JP, Nat.reduceAdd, Nat.reduceEqDiff, Nat.reduceLT, Nat.reduceMul, Nat.reduceLeDiff, reduceCtorEq, reduceIte, ↓JK, ↓JF, cWys, sWhyL, ftsS, hX, inN, hkl, hf, h176]; rfl)); (try kernel_rfl); (try (focus (first | exact True.intro | ((try simp only [JS, implies_true, forall_const, shaped, shapedL, kndOf, cWys, sWhyL, ftsS, hX, inN, hkl, hf, h176]); (repeat' (first | assumption | exact True.intro | omega | apply And.intro)); done) | ((repeat' (first | assumption | exact True.intro | omega | apply And.intro)); done))))) | fail)
          with_reducible apply WF.split 6 2
          · rfl
          with_reducible apply At.run cWys_ok tab_ok
          · rfl
          · rfl
          · rfl
          · simp only [push_cast, ↓JP, Nat.reduceAdd, Nat.reduceEqDiff, Nat.reduceLT, Nat.reduceMul, Nat.reduceLeDiff, reduceCtorEq, reduceIte, ↓JK, ↓JF, noDefer, List.drop_zero, List.drop_succ_cons, cWys, inN, hf, h176]; rfl
          · (focus (first | exact True.intro | ((try simp only [JS, implies_true, forall_const, shaped, shapedL, kndOf, cWys, inN, hf, h176]); (repeat' (first | assumption | exact True.intro | omega | apply And.intro)); done) | ((repeat' (first | assumption | exact True.intro | omega | apply And.intro)); done)))
          with_reducible apply At.yield (gr := _)
          · rfl
          · rfl
          · rfl
          · rfl
          · rfl
          · rfl
          · simp only [push_cast, ↓JP, Nat.reduceAdd, Nat.reduceEqDiff, Nat.reduceLT, Nat.reduceMul, Nat.reduceLeDiff, reduceCtorEq, reduceIte, ↓JK, ↓JF, noDefer, List.drop_zero, List.drop_succ_cons, cWys, inN, hf, h176]; rfl
          · first | rfl | (simp only [push_cast, ↓JP, Nat.reduceAdd, Nat.reduceEqDiff, Nat.reduceLT, Nat.reduceMul, Nat.reduceLeDiff, reduceCtorEq, reduceIte, ↓JK, ↓JF, noDefer, List.drop_zero, List.drop_succ_cons, cWys, inN, hf, h176]; done)
          · simp only [push_cast, ↓JP, Nat.reduceAdd, Nat.reduceEqDiff, Nat.reduceLT, Nat.reduceMul, Nat.reduceLeDiff, reduceCtorEq, reduceIte, ↓JK, ↓JF, noDefer, List.drop_zero, List.drop_succ_cons, cWys, inN, hf, h176]; rfl
          · (focus (first | exact True.intro | ((try simp only [JS, implies_true, forall_const, shaped, shapedL, kndOf, cWys, inN, hf, h176]); (repeat' (first | assumption | exact True.intro | omega | apply And.intro)); done) | ((repeat' (first | assumption | exact True.intro | omega | apply And.intro)); done)))
          · simp only [push_cast, ↓JP, Nat.reduceAdd, Nat.reduceEqDiff, Nat.reduceLT, Nat.reduceMul, Nat.reduceLeDiff, reduceCtorEq, reduceIte, ↓JK, ↓JF, noDefer, List.drop_zero, List.drop_succ_cons, cWys, inN, hf, h176]; rfl
          · (focus (first | exact True.intro | ((try simp only [JS, implies_true, forall_const, shaped, shapedL, kndOf, cWys, inN, hf, h176]); (repeat' (first | assumption | exact True.intro | omega | apply And.intro)); done) | ((repeat' (first | assumption | exact True.intro | omega | apply And.intro)); done)))
          · first | rfl | (simp only [push_cast, ↓JP, Nat.reduceAdd, Nat.reduceEqDiff, Nat.reduceLT, Nat.reduceMul, Nat.reduceLeDiff, reduceCtorEq, reduceIte, ↓JK, ↓JF, noDefer, List.drop_zero, List.drop_succ_cons, cWys, inN, hf, h176]; done)
          · exact hrec
          · exact hcf
          · rfl
          · rfl
          · rfl
          intro lb E2 next hE2 hnext
          repeat' (first | with_reducible (first | apply J1 | apply J3 | apply J4 | apply J5 | apply J6 | apply J7 | apply J8 | apply J9 | apply J10 | apply J11 | apply J12 | apply J13 | apply J14 | apply J15 | apply J16 | apply J17 | apply J18 | apply J19 | apply J20 | refine J2 ?_) | ((with_reducible apply J21); (· rfl)) | ((with_reducible intro hif); first | (focus (cases hif; done)) | (simp only [JH] at hif; try (exfalso; omega)) | (try (exfalso; omega))) | ((first | ((with_reducible apply J22 cWys_ok tab_ok); (· rfl)) | ((with_reducible apply J23 fol cWys_ok tab_ok); (· rfl)) | with_reducible apply J24); (· (simp only [push_cast, ↓JP, Nat.reduceAdd, Nat.reduceEqDiff, Nat.reduceLT, Nat.reduceMul, Nat.reduceLeDiff, reduceCtorEq, reduceIte, ↓JK, ↓JF, cWys, inN, hf]; rfl)); (try kernel_rfl); (try (focus (first | exact True.intro | ((try simp only [JS, implies_true, forall_const, shaped, shapedL, kndOf, cWys, inN, hf]); (repeat' (first | assumption | exact True.intro | omega | apply And.intro)); done) | ((repeat' (first | assumption | exact True.intro | omega | apply And.intro)); done))))) | fail)
          with_reducible apply At.begins hrec
          · rfl
          with_reducible refine At.code ?_
          repeat' (first | with_reducible (first | apply J1 | apply J3 | apply J4 | apply J5 | apply J6 | apply J7 | apply J8 | apply J9 | apply J10 | apply J11 | apply J12 | apply J13 | apply J14 | apply J15 | apply J16 | apply J17 | apply J18 | apply J19 | apply J20 | refine J2 ?_) | ((with_reducible apply J21); (· rfl)) | ((with_reducible intro hif); first | (focus (cases hif; done)) | (simp only [JH] at hif; try (exfalso; omega)) | (try (exfalso; omega))) | ((first | ((with_reducible apply J22 cWys_ok tab_ok); (· rfl)) | ((with_reducible apply J23 fol cWys_ok tab_ok); (· rfl)) | with_reducible apply J24); (· (simp only [push_cast, ↓JP, Nat.reduceAdd, Nat.reduceEqDiff, Nat.reduceLT, Nat.reduceMul, Nat.reduceLeDiff, reduceCtorEq, reduceIte, ↓JK, ↓JF, cWys, inN, hf]; rfl)); (try kernel_rfl); (try (focus (first | exact True.intro | ((try simp only [JS, implies_true, forall_const, shaped, shapedL, kndOf, cWys, inN, hf]); (repeat' (first | assumption | exact True.intro | omega | apply And.intro)); done) | ((repeat' (first | assumption | exact True.intro | omega | apply And.intro)); done))))) | fail)
          with_reducible apply At.roundNormal
          · first | rfl | (simp only [push_cast, ↓JP, Nat.reduceAdd, Nat.reduceEqDiff, Nat.reduceLT, Nat.reduceMul, Nat.reduceLeDiff, reduceCtorEq, reduceIte, ↓JK, ↓JF, noDefer, List.drop_zero, List.drop_succ_cons, cWys, inN, hf]; done)
          apply hnext
          with_reducible apply At.runEnd cWys_ok tab_ok
          · rfl
          · rfl
          · rfl
          · simp only [push_cast, ↓JP, Nat.reduceAdd, Nat.reduceEqDiff, Nat.reduceLT, Nat.reduceMul, Nat.reduceLeDiff, reduceCtorEq, reduceIte, ↓JK, ↓JF, noDefer, List.drop_zero, List.drop_succ_cons, cWys, inN, hf]; rfl
          · (focus (first | exact True.intro | ((try simp only [JS, implies_true, forall_const, shaped, shapedL, kndOf, cWys, inN, hf]); (repeat' (first | assumption | exact True.intro | omega | apply And.intro)); done) | ((repeat' (first | assumption | exact True.intro | omega | apply And.intro)); done)))
          repeat' (first | with_reducible (first | apply J1 | apply J3 | apply J4 | apply J5 | apply J6 | apply J7 | apply J8 | apply J9 | apply J10 | apply J11 | apply J12 | apply J13 | apply J14 | apply J15 | apply J16 | apply J17 | apply J18 | apply J19 | apply J20 | refine J2 ?_) | ((with_reducible apply J21); (· rfl)) | ((with_reducible intro hif); first | (focus (cases hif; done)) | (simp only [JH] at hif; try (exfalso; omega)) | (try (exfalso; omega))) | ((first | ((with_reducible apply J22 cWys_ok tab_ok); (· rfl)) | ((with_reducible apply J23 fol cWys_ok tab_ok); (· rfl)) | with_reducible apply J24); (· (simp only [push_cast, ↓JP, Nat.reduceAdd, Nat.reduceEqDiff, Nat.reduceLT, Nat.reduceMul, Nat.reduceLeDiff, reduceCtorEq, reduceIte, ↓JK, ↓JF, cWys, inN, hf]; rfl)); (try kernel_rfl); (try (focus (first | exact True.intro | ((try simp only [JS, implies_true, forall_const, shaped, shapedL, kndOf, cWys, inN, hf]); (repeat' (first | assumption | exact True.intro | omega | apply And.intro)); done) | ((repeat' (first | assumption | exact True.intro | omega | apply And.intro)); done))))) | fail)
          refine At.next (k + 1) ?_ ?_ ?_ rfl ?_ ?_ rfl
          · exact ⟨⟨hkl, hb⟩, by omega⟩
          · ((repeat' (first | exact trivial | apply And.intro)) <;> (first | rfl | (simp only [look, cond_true, cond_false]; done)))
          · (repeat' (first | exact trivial | exact .same _ | exact .dead _ | exact .gone rfl | exact .loose | assumption | exact .arr (by assumption) | apply And.intro))
          · (repeat' (first | exact trivial | exact rfl | assumption | apply Stable.ite | exact nilOr_st rfl rfl | apply And.intro | intro _ | (simp only [Stable, StableL, i64S, prS, insS, sndsS, sndS, kS, kaS, ftS, ftsS]; done)))
          · (repeat' (first | exact trivial | exact rfl | assumption | apply Stable.ite | exact nilOr_st rfl rfl | apply And.intro | intro _ | (simp only [Stable, StableL, i64S, prS, insS, sndsS, sndS, kS, kaS, ftS, ftsS]; done)))
        · have hb : chkR xs F c p l = ((k : Int), whyE c p l x (getF F k)) := by rw [chkR_some hkl (by unfold badB; rw [hW]; simp [he, hf]) hno, hW]
          repeat' (first | with_reducible (first | apply J1 | apply J3 | apply J4 | apply J5 | apply J6 | apply J7 | apply J8 | apply J9 | apply J10 | apply J11 | apply J12 | apply J13 | apply J14 | apply J15 | apply J16 | apply J17 | apply J18 | apply J19 | apply J20 | refine J2 ?_) | ((with_reducible apply J21); (· rfl)) | ((with_reducible intro hif); first | (focus (cases hif; done)) | (simp only [JH] at hif; try (exfalso; omega)) | (try (exfalso; omega))) | ((first | ((with_reducible apply J22 cWys_ok tab_ok); (· rfl)) | ((with_reducible apply J23 fol cWys_ok tab_ok); (· rfl)) | with_reducible apply J24); (· (simp only [push_cast, ↓JP, Nat.reduceAdd, Nat.reduceEqDiff, Nat.reduceLT, Nat.reduceMul, Nat.reduceLeDiff, reduceCtorEq, reduceIte, ↓JK, ↓JF, cWys, sWhyL, ftsS, hX, inN, hkl, he, hf]; rfl)); (try kernel_rfl); (try (focus (first | exact True.intro | ((try simp only [JS, implies_true, forall_const, shaped, shapedL, kndOf, cWys, sWhyL, ftsS, hX, inN, hkl, he, hf]); (repeat' (first | assumption | exact True.intro | omega | apply And.intro)); done) | ((repeat' (first | assumption | exact True.intro | omega | apply And.intro)); done))))) | fail)
          with_reducible apply WF.split 6 2
          · rfl
          with_reducible apply At.run cWys_ok tab_ok
          · rfl
          · rfl
          · rfl
          · simp only [push_cast, ↓JP, Nat.reduceAdd, Nat.reduceEqDiff, Nat.reduceLT, Nat.reduceMul, Nat.reduceLeDiff, reduceCtorEq, reduceIte, ↓JK, ↓JF, noDefer, List.drop_zero, List.drop_succ_cons, cWys, inN, he, hf]; rfl
          · (focus (first | exact True.intro | ((try simp only [JS, implies_true, forall_const, shaped, shapedL, kndOf, cWys, inN, he, hf]); (repeat' (first | assumption | exact True.intro | omega | apply And.intro)); done) | ((repeat' (first | assumption | exact True.intro | omega | apply And.intro)); done)))
          with_reducible apply At.yield (gr := _)
          · rfl
          · rfl
          · rfl
          · rfl
          · rfl
          · rfl
          · simp only [push_cast, ↓JP, Nat.reduceAdd, Nat.reduceEqDiff, Nat.reduceLT, Nat.reduceMul, Nat.reduceLeDiff, reduceCtorEq, reduceIte, ↓JK, ↓JF, noDefer, List.drop_zero, List.drop_succ_cons, cWys, inN, he, hf]; rfl
          · first | rfl | (simp only [push_cast, ↓JP, Nat.reduceAdd, Nat.reduceEqDiff, Nat.reduceLT, Nat.reduceMul, Nat.reduceLeDiff, reduceCtorEq, reduceIte, ↓JK, ↓JF, noDefer, List.drop_zero, List.drop_succ_cons, cWys, inN, he, hf]; done)
          · simp only [push_cast, ↓JP, Nat.reduceAdd, Nat.reduceEqDiff, Nat.reduceLT, Nat.reduceMul, Nat.reduceLeDiff, reduceCtorEq, reduceIte, ↓JK, ↓JF, noDefer, List.drop_zero, List.drop_succ_cons, cWys, inN, he, hf]; rfl
          · (focus (first | exact True.intro | ((try simp only [JS, implies_true, forall_const, shaped, shapedL, kndOf, cWys, inN, he, hf]); (repeat' (first | assumption | exact True.intro | omega | apply And.intro)); done) | ((repeat' (first | assumption | exact True.intro | omega | apply And.intro)); done)))
          · simp only [push_cast, ↓JP, Nat.reduceAdd, Nat.reduceEqDiff, Nat.reduceLT, Nat.reduceMul, Nat.reduceLeDiff, reduceCtorEq, reduceIte, ↓JK, ↓JF, noDefer, List.drop_zero, List.drop_succ_cons, cWys, inN, he, hf]; rfl
          · (focus (first | exact True.intro | ((try simp only [JS, implies_true, forall_const, shaped, shapedL, kndOf, cWys, inN, he, hf]); (repeat' (first | assumption | exact True.intro | omega | apply And.intro)); done) | ((repeat' (first | assumption | exact True.intro | omega | apply And.intro)); done)))
          · first | rfl | (simp only [push_cast, ↓JP, Nat.reduceAdd, Nat.reduceEqDiff, Nat.reduceLT, Nat.reduceMul, Nat.reduceLeDiff, reduceCtorEq, reduceIte, ↓JK, ↓JF, noDefer, List.drop_zero, List.drop_succ_cons, cWys, inN, he, hf]; done)
          · exact hrec
          · exact hcf
          · rfl
          · rfl
          · rfl
          intro lb E2 next hE2 hnext
          repeat' (first | with_reducible (first | apply J1 | apply J3 | apply J4 | apply J5 | apply J6 | apply J7 | apply J8 | apply J9 | apply J10 | apply J11 | apply J12 | apply J13 | apply J14 | apply J15 | apply J16 | apply J17 | apply J18 | apply J19 | apply J20 | refine J2 ?_) | ((with_reducible apply J21); (· rfl)) | ((with_reducible intro hif); first | (focus (cases hif; done)) | (simp only [JH] at hif; try (exfalso; omega)) | (try (exfalso; omega))) | ((first | ((with_reducible apply J22 cWys_ok tab_ok); (· rfl)) | ((with_reducible apply J23 fol cWys_ok tab_ok); (· rfl)) | with_reducible apply J24); (· (simp only [push_cast, ↓JP, Nat.reduceAdd, Nat.reduceEqDiff, Nat.reduceLT, Nat.reduceMul, Nat.reduceLeDiff, reduceCtorEq, reduceIte, ↓JK, ↓JF, cWys, inN, he, hf]; rfl)); (try kernel_rfl); (try (focus (first | exact True.intro | ((try simp only [JS, implies_true, forall_const, shaped, shapedL, kndOf, cWys, inN, he, hf]); (repeat' (first | assumption | exact True.intro | omega | apply And.intro)); done) | ((repeat' (first | assumption | exact True.intro | omega | apply And.intro)); done))))) | fail)
          with_reducible apply At.begins hrec
          · rfl
          with_reducible refine At.code ?_
          repeat' (first | with_reducible (first | apply J1 | apply J3 | apply J4 | apply J5 | apply J6 | apply J7 | apply J8 | apply J9 | apply J10 | apply J11 | apply J12 | apply J13 | apply J14 | apply J15 | apply J16 | apply J17 | apply J18 | apply J19 | apply J20 | refine J2 ?_) | ((with_reducible apply J21); (· rfl)) | ((with_reducible intro hif); first | (focus (cases hif; done)) | (simp only [JH] at hif; try (exfalso; omega)) | (try (exfalso; omega))) | ((first | ((with_reducible apply J22 cWys_ok tab_ok); (· rfl)) | ((with_reducible apply J23 fol cWys_ok tab_ok); (· rfl)) | with_reducible apply J24); (· (simp only [push_cast, ↓JP, Nat.reduceAdd, Nat.reduceEqDiff, Nat.reduceLT, Nat.reduceMul, Nat.reduceLeDiff, reduceCtorEq, reduceIte, ↓JK, ↓JF, cWys, inN, he, hf]; rfl)); (try kernel_rfl); (try (focus (first | exact True.intro | ((try simp only [JS, implies_true, forall_const, shaped, shapedL, kndOf, cWys, inN, he, hf]); (repeat' (first | assumption | exact True.intro | omega | apply And.intro)); done) | ((repeat' (first | assumption | exact True.intro | omega | apply And.intro)); done))))) | fail)
          with_reducible apply At.roundRet
          · first | rfl | (simp only [push_cast, ↓JP, Nat.reduceAdd, Nat.reduceEqDiff, Nat.reduceLT, Nat.reduceMul, Nat.reduceLeDiff, reduceCtorEq, reduceIte, ↓JK, ↓JF, noDefer, List.drop_zero, List.drop_succ_cons, cWys, inN, he, hf]; done)
          apply hnext
          with_reducible apply At.runEnd cWys_ok tab_ok
          · rfl
          · rfl
          · rfl
          · simp only [push_cast, ↓JP, Nat.reduceAdd, Nat.reduceEqDiff, Nat.reduceLT, Nat.reduceMul, Nat.reduceLeDiff, reduceCtorEq, reduceIte, ↓JK, ↓JF, noDefer, List.drop_zero, List.drop_succ_cons, cWys, inN, he, hf]; rfl
          · (focus (first | exact True.intro | ((try simp only [JS, implies_true, forall_const, shaped, shapedL, kndOf, cWys, inN, he, hf]); (repeat' (first | assumption | exact True.intro | omega | apply And.intro)); done) | ((repeat' (first | assumption | exact True.intro | omega | apply And.intro)); done)))
          repeat' (first | with_reducible (first | apply J1 | apply J3 | apply J4 | apply J5 | apply J6 | apply J7 | apply J8 | apply J9 | apply J10 | apply J11 | apply J12 | apply J13 | apply J14 | apply J15 | apply J16 | apply J17 | apply J18 | apply J19 | apply J20 | refine J2 ?_) | ((with_reducible apply J21); (· rfl)) | ((with_reducible intro hif); first | (focus (cases hif; done)) | (simp only [JH] at hif; try (exfalso; omega)) | (try (exfalso; omega))) | ((first | ((with_reducible apply J22 cWys_ok tab_ok); (· rfl)) | ((with_reducible apply J23 fol cWys_ok tab_ok); (· rfl)) | with_reducible apply J24); (· (simp only [push_cast, ↓JP, Nat.reduceAdd, Nat.reduceEqDiff, Nat.reduceLT, Nat.reduceMul, Nat.reduceLeDiff, reduceCtorEq, reduceIte, ↓JK, ↓JF, cWys, inN, he, hf]; rfl)); (try kernel_rfl); (try (focus (first | exact True.intro | ((try simp only [JS, implies_true, forall_const, shaped, shapedL, kndOf, cWys, inN, he, hf]); (repeat' (first | assumption | exact True.intro | omega | apply And.intro)); done) | ((repeat' (first | assumption | exact True.intro | omega | apply And.intro)); done))))) | fail)
          with_reducible apply At.itRet .done
          · rfl
          · rfl
          · intro h; cases h
          apply haft
          intro w1 M1 D1 hA
          dsimp only
          rw [hb]
          repeat' (first | with_reducible (first | apply J1 | apply J3 | apply J4 | apply J5 | apply J6 | apply J7 | apply J8 | apply J9 | apply J10 | apply J11 | apply J12 | apply J13 | apply J14 | apply J15 | apply J16 | apply J17 | apply J18 | apply J19 | apply J20 | refine J2 ?_) | ((with_reducible apply J21); (· rfl)) | ((with_reducible intro hif); first | (focus (cases hif; done)) | (simp only [JH] at hif; try (exfalso; omega)) | (try (exfalso; omega))) | ((first | ((with_reducible apply J22 cWys_ok tab_ok); (· rfl)) | ((with_reducible apply J23 fol cWys_ok tab_ok); (· rfl)) | with_reducible apply J24); (· (simp only [push_cast, ↓JP, Nat.reduceAdd, Nat.reduceEqDiff, Nat.reduceLT, Nat.reduceMul, Nat.reduceLeDiff, reduceCtorEq, reduceIte, ↓JK, ↓JF, cWys, inN]; rfl)); (try kernel_rfl); (try (focus (first | exact True.intro | ((try simp only [JS, implies_true, forall_const, shaped, shapedL, kndOf, cWys, inN]); (repeat' (first | assumption | exact True.intro | omega | apply And.intro)); done) | ((repeat' (first | assumption | exact True.intro | omega | apply And.intro)); done))))) | fail)
          apply At.endsRet tab_ok (fn := Try.f35) (rs := [.cell 4 3, .cell 5 32]) hA hro (Nat.le_of_ble_eq_true rfl) rfl
          · simp only [push_cast, ↓JP, Nat.reduceAdd, Nat.reduceEqDiff, Nat.reduceLT, Nat.reduceMul, Nat.reduceLeDiff, reduceCtorEq, reduceIte, ↓JK, ↓JF, resV, resV1]; rfl
          · (first | trivial | (simp only [and_self]; done))
          · (repeat' (first | exact trivial | exact .same _ | exact .dead _ | exact .gone rfl | exact .loose | assumption | exact .arr (by assumption) | apply And.intro))
          · rfl
          · (repeat' (first | exact trivial | exact rfl | assumption | apply Stable.ite | exact nilOr_st rfl rfl | apply And.intro | intro _ | (simp only [Stable, StableL, i64S, prS, insS, sndsS, sndS, kS, kaS, ftS, ftsS]; done)))
          · (repeat' (first | exact trivial | exact .inl rfl | exact .inr rfl | exact rfl | apply And.intro))
          · exact fun β => rfl
          · (repeat' (first | exact trivial | exact rfl | assumption | apply Stable.ite | exact nilOr_st rfl rfl | apply And.intro | intro _ | (simp only [Stable, StableL, i64S, prS, insS, sndsS, sndS, kS, kaS, ftS, ftsS]; done)))
    · obtain rfl : k = xs.length := by omega
      have hb := chkR_none hno
      repeat' (first | with_reducible (first | apply J1 | apply J3 | apply J4 | apply J5 | apply J6 | apply J7 | apply J8 | apply J9 | apply J10 | apply J11 | apply J12 | apply J13 | apply J14 | apply J15 | apply J16 | apply J17 | apply J18 | apply J19 | apply J20 | refine J2 ?_) | ((with_reducible apply J21); (· rfl)) | ((with_reducible intro hif); first | (focus (cases hif; done)) | (simp only [JH] at hif; try (exfalso; omega)) | (try (exfalso; omega))) | ((first | ((with_reducible apply J22 cWys_ok tab_ok); (· rfl)) | ((with_reducible apply J23 fol cWys_ok tab_ok); (· rfl)) | with_reducible apply J24); (· (simp only [push_cast, ↓JP, Nat.reduceAdd, Nat.reduceEqDiff, Nat.reduceLT, Nat.reduceMul, Nat.reduceLeDiff, reduceCtorEq, reduceIte, ↓JK, ↓JF, cWys, inN]; rfl)); (try kernel_rfl); (try (focus (first | exact True.intro | ((try simp only [JS, implies_true, forall_const, shaped, shapedL, kndOf, cWys, inN]); (repeat' (first | assumption | exact True.intro | omega | apply And.intro)); done) | ((repeat' (first | assumption | exact True.intro | omega | apply And.intro)); done))))) | fail)
      with_reducible apply At.itNormal .ready
      · rfl
      · rfl
      · intro h; cases h
      apply haft
      intro w1 M1 D1 hA
      dsimp only
      rw [hb]
      repeat' (first | with_reducible (first | apply J1 | apply J3 | apply J4 | apply J5 | apply J6 | apply J7 | apply J8 | apply J9 | apply J10 | apply J11 | apply J12 | apply J13 | apply J14 | apply J15 | apply J16 | apply J17 | apply J18 | apply J19 | apply J20 | refine J2 ?_) | ((with_reducible apply J21); (· rfl)) | ((with_reducible intro hif); first | (focus (cases hif; done)) | (simp only [JH] at hif; try (exfalso; omega)) | (try (exfalso; omega))) | ((first | ((with_reducible apply J22 cWys_ok tab_ok); (· rfl)) | ((with_reducible apply J23 fol cWys_ok tab_ok); (· rfl)) | with_reducible apply J24); (· (simp only [push_cast, ↓JP, Nat.reduceAdd, Nat.reduceEqDiff, Nat.reduceLT, Nat.reduceMul, Nat.reduceLeDiff, reduceCtorEq, reduceIte, ↓JK, ↓JF, cWys, inN]; rfl)); (try kernel_rfl); (try (focus (first | exact True.intro | ((try simp only [JS, implies_true, forall_const, shaped, shapedL, kndOf, cWys, inN]); (repeat' (first | assumption | exact True.intro | omega | apply And.intro)); done) | ((repeat' (first | assumption | exact True.intro | omega | apply And.intro)); done))))) | fail)
      apply At.endsRet tab_ok (fn := Try.f35) (rs := [.cell 4 3, .cell 5 32]) hA hro (Nat.le_of_ble_eq_true rfl) rfl
      · simp only [push_cast, ↓JP, Nat.reduceAdd, Nat.reduceEqDiff, Nat.reduceLT, Nat.reduceMul, Nat.reduceLeDiff, reduceCtorEq, reduceIte, ↓JK, ↓JF, resV, resV1]; rfl
      · (first | trivial | (simp only [and_self]; done))
      · (repeat' (first | exact trivial | exact .same _ | exact .dead _ | exact .gone rfl | exact .loose | assumption | exact .arr (by assumption) | apply And.intro))
      · rfl
      · (repeat' (first | exact trivial | exact rfl | assumption | apply Stable.ite | exact nilOr_st rfl rfl | apply And.intro | intro _ | (simp only [Stable, StableL, i64S, prS, insS, sndsS, sndS, kS, kaS, ftS, ftsS]; done)))
      · (repeat' (first | exact trivial | exact .inl rfl | exact .inr rfl | exact rfl | apply And.intro))
      · exact fun β => rfl
      · (repeat' (first | exact trivial | exact rfl | assumption | apply Stable.ite | exact nilOr_st rfl rfl | apply And.intro | intro _ | (simp only [Stable, StableL, i64S, prS, insS, sndsS, sndS, kS, kaS, ftS, ftsS]; done)))
def sChk17 : Spec := fun args h m => match args with
  | [v1, .agg [v2, v3, v4]] => match srcV h 5 (.tup []) v1 with
    | some (c1, n1, f1, r1) => bif isI .i64 v2 && isI .i64 v3 && isI .i64 v4 then some (c1 ∧ (∀ q, q < n1 → isIns (f1 q) = true) ∧ ((∀ x ∈ (ls insOf n1 f1), x.ok)) ∧ ((checkI (ls insOf n1 f1)).2 = 0) ∧ (limB (iOf v2) (iOf v3) (iOf v4) = true), .tup [.int .i64 (chkR (ls insOf n1 f1) (factsS (ls insOf n1 f1)) (iOf v2) (iOf v3) (iOf v4)).1, .int .i64 (chkR (ls insOf n1 f1) (factsS (ls insOf n1 f1)) (iOf v2) (iOf v3) (iOf v4)).2], r1, []) else none
    | _ => none
  | _ => none
theorem sChk17_ok : CallOk Try.prog 35 sChk17 := by
  refine ⟨named_spec (by kernel_rfl), fun args h m c v rd wr hs hm hc w0 M β h' w R hrd hwr hst => ?_⟩
  unfold sChk17 at hs
  split at hs
  · rename_i v1 v2 v3 v4
    split at hs
    · rename_i c1 n1 f1 r1 a1
      obtain ⟨hb, hs⟩ := bif_some hs
      simp only [Option.some.injEq, Prod.mk.injEq] at hs
      obtain ⟨rfl, rfl, rfl, rfl⟩ := hs
      simp only [Bool.and_eq_true] at hb
      obtain ⟨⟨b2, b3⟩, b4⟩ := hb
      obtain ⟨k1, g1, y1, y2, y3⟩ := hc
      obtain ⟨A1, p1, d1, e1, t1⟩ := reads_src R a1 k1 (fun i hi => hrd i hi) (by omega)
      refine callRo (views := [⟨5, (ls insOf n1 f1).length, prS (ls insOf n1 f1), A1, p1⟩]) (Check_lit (ls insOf n1 f1) p1 (iOf v2) (iOf v3) (iOf v4) y1 y2 y3) ?_ R hm hwr ?_ ?_ ?_
      · intro x hx
        simp only [List.mem_cons, List.not_mem_nil, or_false] at hx
        subst hx
        · exact viewIns t1 e1 g1
      · intro β1 hv
        simp only [Vd, ls_length, and_true] at hv
        have z1 := hv
        simp only [denL, aggDen, intDen, natDen, boolDen, ls_length, z1, d1, isI_den b2, isI_den b3, isI_den b4]
      · (repeat' (first | exact trivial | exact rfl | assumption | apply Stable.ite | exact nilOr_st rfl rfl | apply And.intro | intro _ | (simp only [Stable, StableL, i64S, prS, insS, sndsS, sndS, kS, kaS, ftS, ftsS]; done)))
      · (repeat' (first | exact trivial | exact rfl | assumption | apply Stable.ite | exact nilOr_st rfl rfl | apply And.intro | intro _ | (simp only [Stable, StableL, i64S, prS, insS, sndsS, sndS, kS, kaS, ftS, ftsS]; done)))
    · cases hs
  · cases hs

/-! ### Doomed, as a call -/
theorem doomN_lit (xs : List Ins) (p1 : Nat) (c p l : Int) (hx : ∀ x ∈ xs, x.ok) (hc : (checkI xs).2 = 0) (hl : limB c p l = true) (hD : (doomK xs (factsS xs) c p l xs.length).isEmpty = true) : LitOk Try.prog 34 [.sl 1 2 [] 5 0 xs.length (some p1), .agg [.int .i64 c, .int .i64 p, .int .i64 l]] [.gone, .gone, .ro (.arr xs.length 5 (prS xs))] (.tup [.sl 0 0 [] 0 0 0 (some 0), .int .i64 0]) [.gone, .gone, .gone, .own 3 (.arr (doomK xs (factsS xs) c p l xs.length).length 1 (i64S (doomK xs (factsS xs) c p l xs.length))) false] := by
  have := Doomed_lit xs p1 c p l hx hc hl
  rwa [nilOr_t hD] at this
theorem doomS_lit (xs : List Ins) (p1 : Nat) (c p l : Int) (hx : ∀ x ∈ xs, x.ok) (hc : (checkI xs).2 = 0) (hl : limB c p l = true) (hD : (doomK xs (factsS xs) c p l xs.length).isEmpty = false) : LitOk Try.prog 34 [.sl 1 2 [] 5 0 xs.length (some p1), .agg [.int .i64 c, .int .i64 p, .int .i64 l]] [.gone, .gone, .ro (.arr xs.length 5 (prS xs))] (.tup [.sl 3 3 [] 1 0 (doomK xs (factsS xs) c p l xs.length).length none, .int .i64 0]) [.gone, .gone, .gone, .own 3 (.arr (doomK xs (factsS xs) c p l xs.length).length 1 (i64S (doomK xs (factsS xs) c p l xs.length))) false] := by
  have := Doomed_lit xs p1 c p l hx hc hl
  rwa [nilOr_f hD] at this
def sDoomN : Spec := fun args h m => match args with
  | [v1, .agg [v2, v3, v4]] => match srcV h 5 (.tup []) v1 with
    | some (c1, n1, f1, r1) => bif isI .i64 v2 && isI .i64 v3 && isI .i64 v4 then some (c1 ∧ (∀ q, q < n1 → isIns (f1 q) = true) ∧ ((∀ x ∈ (ls insOf n1 f1), x.ok)) ∧ ((checkI (ls insOf n1 f1)).2 = 0) ∧ (limB (iOf v2) (iOf v3) (iOf v4) = true) ∧ ((doomK (ls insOf n1 f1) (factsS (ls insOf n1 f1)) (iOf v2) (iOf v3) (iOf v4) (ls insOf n1 f1).length).isEmpty = true), .tup [.sl 0 0 [] 0 0 0 (some 0), .int .i64 0], r1, [(m, .own 3 (.arr (doomK (ls insOf n1 f1) (factsS (ls insOf n1 f1)) (iOf v2) (iOf v3) (iOf v4) (ls insOf n1 f1).length).length 1 (i64S (doomK (ls insOf n1 f1) (factsS (ls insOf n1 f1)) (iOf v2) (iOf v3) (iOf v4) (ls insOf n1 f1).length))) false)]) else none
    | _ => none
  | _ => none
theorem sDoomN_ok : CallOk Try.prog 34 sDoomN := by
  refine ⟨named_spec (by kernel_rfl), fun args h m c v rd wr hs hm hc w0 M β h' w R hrd hwr hst => ?_⟩
  unfold sDoomN at hs
  split at hs
  · rename_i v1 v2 v3 v4
    split at hs
    · rename_i c1 n1 f1 r1 a1
      obtain ⟨hb, hs⟩ := bif_some hs
      simp only [Option.some.injEq, Prod.mk.injEq] at hs
      obtain ⟨rfl, rfl, rfl, rfl⟩ := hs
      simp only [Bool.and_eq_true] at hb
      obtain ⟨⟨b2, b3⟩, b4⟩ := hb
      obtain ⟨k1, g1, y1, y2, y3, y4⟩ := hc
      obtain ⟨A1, p1, d1, e1, t1⟩ := reads_src R a1 k1 (fun i hi => hrd i hi) (by omega)
      refine callRo (views := [⟨5, (ls insOf n1 f1).length, prS (ls insOf n1 f1), A1, p1⟩]) (doomN_lit (ls insOf n1 f1) p1 (iOf v2) (iOf v3) (iOf v4) y1 y2 y3 y4) ?_ R hm hwr ?_ ?_ ?_
      · intro x hx
        simp only [List.mem_cons, List.not_mem_nil, or_false] at hx
        subst hx
        · exact viewIns t1 e1 g1
      · intro β1 hv
        simp only [Vd, ls_length, and_true] at hv
        have z1 := hv
        simp only [denL, aggDen, intDen, natDen, boolDen, ls_length, z1, d1, isI_den b2, isI_den b3, isI_den b4]
      · (repeat' (first | exact trivial | exact rfl | assumption | apply Stable.ite | exact nilOr_st rfl rfl | apply And.intro | intro _ | (simp only [Stable, StableL, i64S, prS, insS, sndsS, sndS, kS, kaS, ftS, ftsS]; done)))
      · (repeat' (first | exact trivial | exact rfl | assumption | apply Stable.ite | exact nilOr_st rfl rfl | apply And.intro | intro _ | (simp only [Stable, StableL, i64S, prS, insS, sndsS, sndS, kS, kaS, ftS, ftsS]; done)))
    · cases hs
  · cases hs
def sDoomS : Spec := fun args h m => match args with
  | [v1, .agg [v2, v3, v4]] => match srcV h 5 (.tup []) v1 with
    | some (c1, n1, f1, r1) => bif isI .i64 v2 && isI .i64 v3 && isI .i64 v4 then some (c1 ∧ (∀ q, q < n1 → isIns (f1 q) = true) ∧ ((∀ x ∈ (ls insOf n1 f1), x.ok)) ∧ ((checkI (ls insOf n1 f1)).2 = 0) ∧ (limB (iOf v2) (iOf v3) (iOf v4) = true) ∧ ((doomK (ls insOf n1 f1) (factsS (ls insOf n1 f1)) (iOf v2) (iOf v3) (iOf v4) (ls insOf n1 f1).length).isEmpty = false), .tup [.sl m m [] 1 0 (doomK (ls insOf n1 f1) (factsS (ls insOf n1 f1)) (iOf v2) (iOf v3) (iOf v4) (ls insOf n1 f1).length).length none, .int .i64 0], r1, [(m, .own 3 (.arr (doomK (ls insOf n1 f1) (factsS (ls insOf n1 f1)) (iOf v2) (iOf v3) (iOf v4) (ls insOf n1 f1).length).length 1 (i64S (doomK (ls insOf n1 f1) (factsS (ls insOf n1 f1)) (iOf v2) (iOf v3) (iOf v4) (ls insOf n1 f1).length))) false)]) else none
    | _ => none
  | _ => none
theorem sDoomS_ok : CallOk Try.prog 34 sDoomS := by
  refine ⟨named_spec (by kernel_rfl), fun args h m c v rd wr hs hm hc w0 M β h' w R hrd hwr hst => ?_⟩
  unfold sDoomS at hs
  split at hs
  · rename_i v1 v2 v3 v4
    split at hs
    · rename_i c1 n1 f1 r1 a1
      obtain ⟨hb, hs⟩ := bif_some hs
      simp only [Option.some.injEq, Prod.mk.injEq] at hs
      obtain ⟨rfl, rfl, rfl, rfl⟩ := hs
      simp only [Bool.and_eq_true] at hb
      obtain ⟨⟨b2, b3⟩, b4⟩ := hb
      obtain ⟨k1, g1, y1, y2, y3, y4⟩ := hc
      obtain ⟨A1, p1, d1, e1, t1⟩ := reads_src R a1 k1 (fun i hi => hrd i hi) (by omega)
      refine callRo (views := [⟨5, (ls insOf n1 f1).length, prS (ls insOf n1 f1), A1, p1⟩]) (doomS_lit (ls insOf n1 f1) p1 (iOf v2) (iOf v3) (iOf v4) y1 y2 y3 y4) ?_ R hm hwr ?_ ?_ ?_
      · intro x hx
        simp only [List.mem_cons, List.not_mem_nil, or_false] at hx
        subst hx
        · exact viewIns t1 e1 g1
      · intro β1 hv
        simp only [Vd, ls_length, and_true] at hv
        have z1 := hv
        simp only [denL, aggDen, intDen, natDen, boolDen, ls_length, z1, d1, isI_den b2, isI_den b3, isI_den b4]
      · (repeat' (first | exact trivial | exact rfl | assumption | apply Stable.ite | exact nilOr_st rfl rfl | apply And.intro | intro _ | (simp only [Stable, StableL, i64S, prS, insS, sndsS, sndS, kS, kaS, ftS, ftsS]; done)))
      · (repeat' (first | exact trivial | exact rfl | assumption | apply Stable.ite | exact nilOr_st rfl rfl | apply And.intro | intro _ | (simp only [Stable, StableL, i64S, prS, insS, sndsS, sndS, kS, kaS, ftS, ftsS]; done)))
    · cases hs
  · cases hs
theorem callOk_or {P : Program} {f : FuncId} {S1 S2 : Spec} (b : List SV → HM → Bool) (h1 : CallOk P f S1) (h2 : CallOk P f S2) : CallOk P f (fun args h m => bif b args h then S1 args h m else S2 args h m) := by
  refine ⟨h1.1, fun args h m c v rd wr hs => ?_⟩
  cases hb : b args h
  · simp only [hb, cond_false] at hs; exact h2.2 args h m c v rd wr hs
  · simp only [hb, cond_true] at hs; exact h1.2 args h m c v rd wr hs
def doomE (args : List SV) (h : HM) : Bool := match args with
  | [v, .agg [v2, v3, v4]] => match srcV h 5 (.tup []) v with
    | some (_, n, f, _) => (doomK (ls insOf n f) (factsS (ls insOf n f)) (iOf v2) (iOf v3) (iOf v4) n).isEmpty
    | none => true
  | _ => true
def sDoomed : Spec := fun args h m => bif doomE args h then sDoomN args h m else sDoomS args h m
theorem sDoomed_ok : CallOk Try.prog 34 sDoomed := callOk_or doomE sDoomN_ok sDoomS_ok
end Go.Proofs.Ytmljmabbopkpiaa.Vm
end

section
/- slices.Equal at more types. (printed by gen_vs3.py b) -/
namespace Go.Proofs.Ytmljmabbopkpiaa.Vm
open Go.RowKit
attribute [local push_cast] runR opG gtmp gval gus opX tmpsOf tm tmO tmP restr look look2 tab tys zs ets eqB eqBL allB numOf ieq Int.cast_ofNat_Int Int.ofNat_zero beq_true beq_false frameOf ev evL ofV opV loadV noW pushF wrsL setH allBorn allGone HB.born HB.isGone HB.val SV.plain dstOk hp nav fitsT SV.size sizeL SV.isAgg TK.size TK.agg bin binE binN binI arN arI cmpN cmpI keq kn narrow callV storeV setp fillV buildV buildSliceV makeV sliceV appendV copyV List.isEmpty_nil srcV evO asN ite_t ite_f ite_bool ite_int ite_nat maxV v_beq v_ble v_blt cond_true cond_false List.getElem?_cons_zero List.getElem?_cons_succ List.getD_cons_zero List.getD_cons_succ List.getD_nil List.length_cons List.length_nil List.take_succ_cons List.take_zero List.set_cons_zero List.set_cons_succ List.cons_append List.nil_append List.append_assoc List.replicate_succ List.replicate_zero Nat.zero_add Nat.add_zero decide_true decide_false Bool.true_and Bool.and_true Bool.false_and Bool.and_false Bool.true_or Bool.or_true Bool.false_or Bool.or_false beq_self_eq_true Bool.or_self Nat.lt_irrefl Nat.not_lt_zero Nat.le_refl Option.getD_some Option.getD_none BEq.rfl Bool.not_true Bool.not_false Bool.cond_true_left Bool.cond_false_right
set_option linter.unusedVariables false
set_option linter.unusedSimpArgs false
set_option maxRecDepth 100000
set_option maxHeartbeats 4000000
theorem eqZ_lit (xs ys : List Int) (p1 p2 : Nat) (hx : xs.length ≤ 281474976710656) : LitOk Try.prog 53 [.sl 1 2 [] 1 0 xs.length (some p1), .sl 3 4 [] 1 0 ys.length (some p2)] [.gone, .gone, .ro (.arr xs.length 1 (i64S xs)), .gone, .ro (.arr ys.length 1 (i64S ys))] (.bool (eqL xs ys)) [.gone] := by
  refine litOkM (fn := Try.f53) 5 26 0 rfl rfl rfl rfl rfl (by simp only [StableL, Stable, hp]; simp [HB.born]) rfl fun w0 M E hro => ?_
  repeat' (first | with_reducible (first | apply J1 | apply J3 | apply J4 | apply J5 | apply J6 | apply J7 | apply J8 | apply J9 | apply J10 | apply J11 | apply J12 | apply J13 | apply J14 | apply J15 | apply J16 | apply J17 | apply J18 | apply J19 | apply J20 | refine J2 ?_) | ((with_reducible apply J21); (· rfl)) | ((with_reducible intro hif); first | (focus (cases hif; done)) | (simp only [JH] at hif; try (exfalso; omega)) | (try (exfalso; omega))) | ((first | ((with_reducible apply J22 c1_ok tab_ok); (· rfl)) | ((with_reducible apply J23 fol c1_ok tab_ok); (· rfl)) | with_reducible apply J24); (· (simp only [push_cast, ↓JP, Nat.reduceAdd, Nat.reduceEqDiff, Nat.reduceLT, Nat.reduceMul, Nat.reduceLeDiff, reduceCtorEq, reduceIte]; rfl)); (try kernel_rfl); (try (focus (first | exact True.intro | ((try simp only [JS, implies_true, forall_const, shaped, shapedL, kndOf]); (repeat' (first | assumption | exact True.intro | omega | apply And.intro)); done) | ((repeat' (first | assumption | exact True.intro | omega | apply And.intro)); done))))) | fail)
  · have hne : xs ≠ ys := fun e => hif (by rw [e])
    apply At.endsRet tab_ok (fn := Try.f53) (rs := [.tmp 4]) Anc.refl hro (Nat.le_of_ble_eq_true rfl) rfl
    · simp only [push_cast, ↓JP, Nat.reduceAdd, Nat.reduceEqDiff, Nat.reduceLT, Nat.reduceMul, Nat.reduceLeDiff, reduceCtorEq, reduceIte, resV, resV1]; rfl
    · (first | trivial | (simp only [and_self]; done))
    · (repeat' (first | exact trivial | exact .same _ | exact .dead _ | exact .gone rfl | exact .loose | assumption | exact .arr (by assumption) | apply And.intro))
    · rfl
    · (repeat' (first | exact trivial | exact rfl | assumption | apply Stable.ite | apply And.intro | intro _ | (simp only [Stable, StableL, i64S, prS, insS, sndsS, sndS]; done)))
    · (repeat' (first | exact trivial | exact .inl rfl | exact .inr rfl | exact rfl | apply And.intro))
    · rw [eqL_false hne]; exact fun β => rfl
    · (repeat' (first | exact trivial | exact rfl | assumption | apply Stable.ite | apply And.intro | intro _ | (simp only [Stable, StableL, i64S, prS, insS, sndsS, sndS]; done)))
  · refine WF.loopAt (fun j => j ≤ xs.length ∧ ∀ q, q < j → xs.getD q 0 = ys.getD q 0) (fun j => [(0, .sl 1 2 [] 1 0 xs.length (some p1)), (1, .sl 3 4 [] 1 0 ys.length (some p2)), (12, .nat .i64 xs.length), (13, .nat .i64 j)]) (fun j => [.gone, .gone, .ro (.arr xs.length 1 (i64S xs)), .gone, .ro (.arr ys.length 1 (i64S ys))]) (fun j => xs.length - j) 0 ⟨Nat.zero_le _, fun q hq => absurd hq (Nat.not_lt_zero q)⟩ ?_ ?_ rfl ?_ ?_ rfl ?_
    · ((repeat' (first | exact trivial | apply And.intro)) <;> (first | rfl | (simp only [look, cond_true, cond_false]; done)))
    · (repeat' (first | exact trivial | exact .same _ | exact .dead _ | exact .gone rfl | exact .loose | assumption | exact .arr (by assumption) | apply And.intro))
    · (repeat' (first | exact trivial | exact rfl | assumption | apply Stable.ite | apply And.intro | intro _ | (simp only [Stable, StableL, i64S, prS, insS, sndsS, sndS]; done)))
    · (repeat' (first | exact trivial | exact rfl | assumption | apply Stable.ite | apply And.intro | intro _ | (simp only [Stable, StableL, i64S, prS, insS, sndsS, sndS]; done)))
    have hlen := hif
    rintro j ⟨hj, heq⟩
    repeat' (first | with_reducible (first | apply J1 | apply J3 | apply J4 | apply J5 | apply J6 | apply J7 | apply J8 | apply J9 | apply J10 | apply J11 | apply J12 | apply J13 | apply J14 | apply J15 | apply J16 | apply J17 | apply J18 | apply J19 | apply J20 | refine J2 ?_) | ((with_reducible apply J21); (· rfl)) | ((with_reducible intro hif); first | (focus (cases hif; done)) | (simp only [JH] at hif; try (exfalso; omega)) | (try (exfalso; omega))) | ((first | ((with_reducible apply J22 c1_ok tab_ok); (· rfl)) | ((with_reducible apply J23 fol c1_ok tab_ok); (· rfl)) | with_reducible apply J24); (· (simp only [push_cast, ↓JP, Nat.reduceAdd, Nat.reduceEqDiff, Nat.reduceLT, Nat.reduceMul, Nat.reduceLeDiff, reduceCtorEq, reduceIte, i64S, i64S, inN]; rfl)); (try kernel_rfl); (try (focus (first | exact True.intro | ((try simp only [JS, implies_true, forall_const, shaped, shapedL, kndOf, i64S, i64S, inN]); (repeat' (first | assumption | exact True.intro | omega | apply And.intro)); done) | ((repeat' (first | assumption | exact True.intro | omega | apply And.intro)); done))))) | fail)
    · have hne : xs ≠ ys := by rintro rfl; simp at hif
      apply At.endsRet tab_ok (fn := Try.f53) (rs := [.tmp 4]) Anc.refl hro (Nat.le_of_ble_eq_true rfl) rfl
      · simp only [push_cast, ↓JP, Nat.reduceAdd, Nat.reduceEqDiff, Nat.reduceLT, Nat.reduceMul, Nat.reduceLeDiff, reduceCtorEq, reduceIte, resV, resV1]; rfl
      · (first | trivial | (simp only [and_self]; done))
      · (repeat' (first | exact trivial | exact .same _ | exact .dead _ | exact .gone rfl | exact .loose | assumption | exact .arr (by assumption) | apply And.intro))
      · rfl
      · (repeat' (first | exact trivial | exact rfl | assumption | apply Stable.ite | apply And.intro | intro _ | (simp only [Stable, StableL, i64S, prS, insS, sndsS, sndS]; done)))
      · (repeat' (first | exact trivial | exact .inl rfl | exact .inr rfl | exact rfl | apply And.intro))
      · rw [eqL_false hne]; exact fun β => rfl
      · (repeat' (first | exact trivial | exact rfl | assumption | apply Stable.ite | apply And.intro | intro _ | (simp only [Stable, StableL, i64S, prS, insS, sndsS, sndS]; done)))
    · have hq : xs.getD j 0 = ys.getD j 0 := hif
      refine At.next (j + 1) ?_ ?_ ?_ rfl ?_ ?_ rfl
      · refine ⟨⟨by omega, fun q hq' => ?_⟩, by omega⟩; by_cases e : q = j; (rw [e]; exact hq); exact heq q (by omega)
      · ((repeat' (first | exact trivial | apply And.intro)) <;> (first | rfl | (simp only [look, cond_true, cond_false]; done)))
      · (repeat' (first | exact trivial | exact .same _ | exact .dead _ | exact .gone rfl | exact .loose | assumption | exact .arr (by assumption) | apply And.intro))
      · (repeat' (first | exact trivial | exact rfl | assumption | apply Stable.ite | apply And.intro | intro _ | (simp only [Stable, StableL, i64S, prS, insS, sndsS, sndS]; done)))
      · (repeat' (first | exact trivial | exact rfl | assumption | apply Stable.ite | apply And.intro | intro _ | (simp only [Stable, StableL, i64S, prS, insS, sndsS, sndS]; done)))
    · have hjn : j = xs.length := by omega
      subst hjn
      have he : xs = ys := ext_getD 0 hlen heq
      apply At.endsRet tab_ok (fn := Try.f53) (rs := [.tmp 4]) Anc.refl hro (Nat.le_of_ble_eq_true rfl) rfl
      · simp only [push_cast, ↓JP, Nat.reduceAdd, Nat.reduceEqDiff, Nat.reduceLT, Nat.reduceMul, Nat.reduceLeDiff, reduceCtorEq, reduceIte, resV, resV1]; rfl
      · (first | trivial | (simp only [and_self]; done))
      · (repeat' (first | exact trivial | exact .same _ | exact .dead _ | exact .gone rfl | exact .loose | assumption | exact .arr (by assumption) | apply And.intro))
      · rfl
      · (repeat' (first | exact trivial | exact rfl | assumption | apply Stable.ite | apply And.intro | intro _ | (simp only [Stable, StableL, i64S, prS, insS, sndsS, sndS]; done)))
      · (repeat' (first | exact trivial | exact .inl rfl | exact .inr rfl | exact rfl | apply And.intro))
      · rw [eqL_true he]; exact fun β => rfl
      · (repeat' (first | exact trivial | exact rfl | assumption | apply Stable.ite | apply And.intro | intro _ | (simp only [Stable, StableL, i64S, prS, insS, sndsS, sndS]; done)))
def sEqZ : Spec := fun args h m => match args with
  | [v1, v2] => match srcV h 1 (.tup []) v1, srcV h 1 (.tup []) v2 with
    | some (c1, n1, f1, r1), some (c2, n2, f2, r2) => some (c1 ∧ c2 ∧ (∀ q, q < n1 → isI .i64 (f1 q) = true) ∧ (∀ q, q < n2 → isI .i64 (f2 q) = true) ∧ ((ls iOf n1 f1).length ≤ 281474976710656), .bool (eqL (ls iOf n1 f1) (ls iOf n2 f2)), r1 ++ r2, [])
    | _, _ => none
  | _ => none
theorem sEqZ_ok : CallOk Try.prog 53 sEqZ := by
  refine ⟨named_spec (by kernel_rfl), fun args h m c v rd wr hs hm hc w0 M β h' w R hrd hwr hst => ?_⟩
  unfold sEqZ at hs
  split at hs
  · rename_i v1 v2
    split at hs
    · rename_i c1 n1 f1 r1 c2 n2 f2 r2 a1 a2
      simp only [Option.some.injEq, Prod.mk.injEq] at hs
      obtain ⟨rfl, rfl, rfl, rfl⟩ := hs
      obtain ⟨k1, k2, g1, g2, y1⟩ := hc
      obtain ⟨A1, p1, d1, e1, t1⟩ := reads_src R a1 k1 (fun i hi => hrd i (List.mem_append_left _ hi)) (by omega)
      obtain ⟨A2, p2, d2, e2, t2⟩ := reads_src R a2 k2 (fun i hi => hrd i (List.mem_append_right _ hi)) (by omega)
      refine callRo (views := [⟨1, (ls iOf n1 f1).length, i64S (ls iOf n1 f1), A1, p1⟩, ⟨1, (ls iOf n2 f2).length, i64S (ls iOf n2 f2), A2, p2⟩]) (eqZ_lit (ls iOf n1 f1) (ls iOf n2 f2) p1 p2 y1) ?_ R hm hwr ?_ ?_ ?_
      · intro x hx
        simp only [List.mem_cons, List.not_mem_nil, or_false] at hx
        rcases hx with rfl | rfl
        · exact viewI64 t1 e1 g1
        · exact viewI64 t2 e2 g2
      · intro β1 hv
        simp only [Vd, ls_length, and_true] at hv
        obtain ⟨z1, z2⟩ := hv
        simp only [denL, aggDen, intDen, natDen, boolDen, ls_length, z1, z2, d1, d2]
      · (repeat' (first | exact trivial | exact rfl | assumption | apply Stable.ite | apply And.intro | intro _ | (simp only [Stable, StableL, i64S, prS, insS, sndsS, sndS]; done)))
      · (repeat' (first | exact trivial | exact rfl | assumption | apply Stable.ite | apply And.intro | intro _ | (simp only [Stable, StableL, i64S, prS, insS, sndsS, sndS]; done)))
    · cases hs
  · cases hs
theorem eqI64_lit (xs ys : List Int) (p1 p2 : Nat) (hx : xs.length ≤ 281474976710656) : LitOk Try.prog 61 [.sl 1 2 [] 1 0 xs.length (some p1), .sl 3 4 [] 1 0 ys.length (some p2)] [.gone, .gone, .ro (.arr xs.length 1 (i64S xs)), .gone, .ro (.arr ys.length 1 (i64S ys))] (.bool (eqL xs ys)) [.gone] := by
  refine litOkM (fn := Try.f61) 5 26 0 rfl rfl rfl rfl rfl (by simp only [StableL, Stable, hp]; simp [HB.born]) rfl fun w0 M E hro => ?_
  repeat' (first | with_reducible (first | apply J1 | apply J3 | apply J4 | apply J5 | apply J6 | apply J7 | apply J8 | apply J9 | apply J10 | apply J11 | apply J12 | apply J13 | apply J14 | apply J15 | apply J16 | apply J17 | apply J18 | apply J19 | apply J20 | refine J2 ?_) | ((with_reducible apply J21); (· rfl)) | ((with_reducible intro hif); first | (focus (cases hif; done)) | (simp only [JH] at hif; try (exfalso; omega)) | (try (exfalso; omega))) | ((first | ((with_reducible apply J22 c1_ok tab_ok); (· rfl)) | ((with_reducible apply J23 fol c1_ok tab_ok); (· rfl)) | with_reducible apply J24); (· (simp only [push_cast, ↓JP, Nat.reduceAdd, Nat.reduceEqDiff, Nat.reduceLT, Nat.reduceMul, Nat.reduceLeDiff, reduceCtorEq, reduceIte]; rfl)); (try kernel_rfl); (try (focus (first | exact True.intro | ((try simp only [JS, implies_true, forall_const, shaped, shapedL, kndOf]); (repeat' (first | assumption | exact True.intro | omega | apply And.intro)); done) | ((repeat' (first | assumption | exact True.intro | omega | apply And.intro)); done))))) | fail)
  · have hne : xs ≠ ys := fun e => hif (by rw [e])
    apply At.endsRet tab_ok (fn := Try.f61) (rs := [.tmp 4]) Anc.refl hro (Nat.le_of_ble_eq_true rfl) rfl
    · simp only [push_cast, ↓JP, Nat.reduceAdd, Nat.reduceEqDiff, Nat.reduceLT, Nat.reduceMul, Nat.reduceLeDiff, reduceCtorEq, reduceIte, resV, resV1]; rfl
    · (first | trivial | (simp only [and_self]; done))
    · (repeat' (first | exact trivial | exact .same _ | exact .dead _ | exact .gone rfl | exact .loose | assumption | exact .arr (by assumption) | apply And.intro))
    · rfl
    · (repeat' (first | exact trivial | exact rfl | assumption | apply Stable.ite | apply And.intro | intro _ | (simp only [Stable, StableL, i64S, prS, insS, sndsS, sndS]; done)))
    · (repeat' (first | exact trivial | exact .inl rfl | exact .inr rfl | exact rfl | apply And.intro))
    · rw [eqL_false hne]; exact fun β => rfl
    · (repeat' (first | exact trivial | exact rfl | assumption | apply Stable.ite | apply And.intro | intro _ | (simp only [Stable, StableL, i64S, prS, insS, sndsS, sndS]; done)))
  · refine WF.loopAt (fun j => j ≤ xs.length ∧ ∀ q, q < j → xs.getD q 0 = ys.getD q 0) (fun j => [(0, .sl 1 2 [] 1 0 xs.length (some p1)), (1, .sl 3 4 [] 1 0 ys.length (some p2)), (12, .nat .i64 xs.length), (13, .nat .i64 j)]) (fun j => [.gone, .gone, .ro (.arr xs.length 1 (i64S xs)), .gone, .ro (.arr ys.length 1 (i64S ys))]) (fun j => xs.length - j) 0 ⟨Nat.zero_le _, fun q hq => absurd hq (Nat.not_lt_zero q)⟩ ?_ ?_ rfl ?_ ?_ rfl ?_
    · ((repeat' (first | exact trivial | apply And.intro)) <;> (first | rfl | (simp only [look, cond_true, cond_false]; done)))
    · (repeat' (first | exact trivial | exact .same _ | exact .dead _ | exact .gone rfl | exact .loose | assumption | exact .arr (by assumption) | apply And.intro))
    · (repeat' (first | exact trivial | exact rfl | assumption | apply Stable.ite | apply And.intro | intro _ | (simp only [Stable, StableL, i64S, prS, insS, sndsS, sndS]; done)))
    · (repeat' (first | exact trivial | exact rfl | assumption | apply Stable.ite | apply And.intro | intro _ | (simp only [Stable, StableL, i64S, prS, insS, sndsS, sndS]; done)))
    have hlen := hif
    rintro j ⟨hj, heq⟩
    repeat' (first | with_reducible (first | apply J1 | apply J3 | apply J4 | apply J5 | apply J6 | apply J7 | apply J8 | apply J9 | apply J10 | apply J11 | apply J12 | apply J13 | apply J14 | apply J15 | apply J16 | apply J17 | apply J18 | apply J19 | apply J20 | refine J2 ?_) | ((with_reducible apply J21); (· rfl)) | ((with_reducible intro hif); first | (focus (cases hif; done)) | (simp only [JH] at hif; try (exfalso; omega)) | (try (exfalso; omega))) | ((first | ((with_reducible apply J22 c1_ok tab_ok); (· rfl)) | ((with_reducible apply J23 fol c1_ok tab_ok); (· rfl)) | with_reducible apply J24); (· (simp only [push_cast, ↓JP, Nat.reduceAdd, Nat.reduceEqDiff, Nat.reduceLT, Nat.reduceMul, Nat.reduceLeDiff, reduceCtorEq, reduceIte, i64S, i64S, inN]; rfl)); (try kernel_rfl); (try (focus (first | exact True.intro | ((try simp only [JS, implies_true, forall_const, shaped, shapedL, kndOf, i64S, i64S, inN]); (repeat' (first | assumption | exact True.intro | omega | apply And.intro)); done) | ((repeat' (first | assumption | exact True.intro | omega | apply And.intro)); done))))) | fail)
    · have hne : xs ≠ ys := by rintro rfl; simp at hif
      apply At.endsRet tab_ok (fn := Try.f61) (rs := [.tmp 4]) Anc.refl hro (Nat.le_of_ble_eq_true rfl) rfl
      · simp only [push_cast, ↓JP, Nat.reduceAdd, Nat.reduceEqDiff, Nat.reduceLT, Nat.reduceMul, Nat.reduceLeDiff, reduceCtorEq, reduceIte, resV, resV1]; rfl
      · (first | trivial | (simp only [and_self]; done))
      · (repeat' (first | exact trivial | exact .same _ | exact .dead _ | exact .gone rfl | exact .loose | assumption | exact .arr (by assumption) | apply And.intro))
      · rfl
      · (repeat' (first | exact trivial | exact rfl | assumption | apply Stable.ite | apply And.intro | intro _ | (simp only [Stable, StableL, i64S, prS, insS, sndsS, sndS]; done)))
      · (repeat' (first | exact trivial | exact .inl rfl | exact .inr rfl | exact rfl | apply And.intro))
      · rw [eqL_false hne]; exact fun β => rfl
      · (repeat' (first | exact trivial | exact rfl | assumption | apply Stable.ite | apply And.intro | intro _ | (simp only [Stable, StableL, i64S, prS, insS, sndsS, sndS]; done)))
    · have hq : xs.getD j 0 = ys.getD j 0 := hif
      refine At.next (j + 1) ?_ ?_ ?_ rfl ?_ ?_ rfl
      · refine ⟨⟨by omega, fun q hq' => ?_⟩, by omega⟩; by_cases e : q = j; (rw [e]; exact hq); exact heq q (by omega)
      · ((repeat' (first | exact trivial | apply And.intro)) <;> (first | rfl | (simp only [look, cond_true, cond_false]; done)))
      · (repeat' (first | exact trivial | exact .same _ | exact .dead _ | exact .gone rfl | exact .loose | assumption | exact .arr (by assumption) | apply And.intro))
      · (repeat' (first | exact trivial | exact rfl | assumption | apply Stable.ite | apply And.intro | intro _ | (simp only [Stable, StableL, i64S, prS, insS, sndsS, sndS]; done)))
      · (repeat' (first | exact trivial | exact rfl | assumption | apply Stable.ite | apply And.intro | intro _ | (simp only [Stable, StableL, i64S, prS, insS, sndsS, sndS]; done)))
    · have hjn : j = xs.length := by omega
      subst hjn
      have he : xs = ys := ext_getD 0 hlen heq
      apply At.endsRet tab_ok (fn := Try.f61) (rs := [.tmp 4]) Anc.refl hro (Nat.le_of_ble_eq_true rfl) rfl
      · simp only [push_cast, ↓JP, Nat.reduceAdd, Nat.reduceEqDiff, Nat.reduceLT, Nat.reduceMul, Nat.reduceLeDiff, reduceCtorEq, reduceIte, resV, resV1]; rfl
      · (first | trivial | (simp only [and_self]; done))
      · (repeat' (first | exact trivial | exact .same _ | exact .dead _ | exact .gone rfl | exact .loose | assumption | exact .arr (by assumption) | apply And.intro))
      · rfl
      · (repeat' (first | exact trivial | exact rfl | assumption | apply Stable.ite | apply And.intro | intro _ | (simp only [Stable, StableL, i64S, prS, insS, sndsS, sndS]; done)))
      · (repeat' (first | exact trivial | exact .inl rfl | exact .inr rfl | exact rfl | apply And.intro))
      · rw [eqL_true he]; exact fun β => rfl
      · (repeat' (first | exact trivial | exact rfl | assumption | apply Stable.ite | apply And.intro | intro _ | (simp only [Stable, StableL, i64S, prS, insS, sndsS, sndS]; done)))
def sEqI64 : Spec := fun args h m => match args with
  | [v1, v2] => match srcV h 1 (.tup []) v1, srcV h 1 (.tup []) v2 with
    | some (c1, n1, f1, r1), some (c2, n2, f2, r2) => some (c1 ∧ c2 ∧ (∀ q, q < n1 → isI .i64 (f1 q) = true) ∧ (∀ q, q < n2 → isI .i64 (f2 q) = true) ∧ ((ls iOf n1 f1).length ≤ 281474976710656), .bool (eqL (ls iOf n1 f1) (ls iOf n2 f2)), r1 ++ r2, [])
    | _, _ => none
  | _ => none
theorem sEqI64_ok : CallOk Try.prog 61 sEqI64 := by
  refine ⟨named_spec (by kernel_rfl), fun args h m c v rd wr hs hm hc w0 M β h' w R hrd hwr hst => ?_⟩
  unfold sEqI64 at hs
  split at hs
  · rename_i v1 v2
    split at hs
    · rename_i c1 n1 f1 r1 c2 n2 f2 r2 a1 a2
      simp only [Option.some.injEq, Prod.mk.injEq] at hs
      obtain ⟨rfl, rfl, rfl, rfl⟩ := hs
      obtain ⟨k1, k2, g1, g2, y1⟩ := hc
      obtain ⟨A1, p1, d1, e1, t1⟩ := reads_src R a1 k1 (fun i hi => hrd i (List.mem_append_left _ hi)) (by omega)
      obtain ⟨A2, p2, d2, e2, t2⟩ := reads_src R a2 k2 (fun i hi => hrd i (List.mem_append_right _ hi)) (by omega)
      refine callRo (views := [⟨1, (ls iOf n1 f1).length, i64S (ls iOf n1 f1), A1, p1⟩, ⟨1, (ls iOf n2 f2).length, i64S (ls iOf n2 f2), A2, p2⟩]) (eqI64_lit (ls iOf n1 f1) (ls iOf n2 f2) p1 p2 y1) ?_ R hm hwr ?_ ?_ ?_
      · intro x hx
        simp only [List.mem_cons, List.not_mem_nil, or_false] at hx
        rcases hx with rfl | rfl
        · exact viewI64 t1 e1 g1
        · exact viewI64 t2 e2 g2
      · intro β1 hv
        simp only [Vd, ls_length, and_true] at hv
        obtain ⟨z1, z2⟩ := hv
        simp only [denL, aggDen, intDen, natDen, boolDen, ls_length, z1, z2, d1, d2]
      · (repeat' (first | exact trivial | exact rfl | assumption | apply Stable.ite | apply And.intro | intro _ | (simp only [Stable, StableL, i64S, prS, insS, sndsS, sndS]; done)))
      · (repeat' (first | exact trivial | exact rfl | assumption | apply Stable.ite | apply And.intro | intro _ | (simp only [Stable, StableL, i64S, prS, insS, sndsS, sndS]; done)))
    · cases hs
  · cases hs
theorem eqIns_lit (xs ys : List Ins) (p1 p2 : Nat) (hx : xs.length ≤ 281474976710656) : LitOk Try.prog 71 [.sl 1 2 [] 5 0 xs.length (some p1), .sl 3 4 [] 5 0 ys.length (some p2)] [.gone, .gone, .ro (.arr xs.length 5 (prS xs)), .gone, .ro (.arr ys.length 5 (prS ys))] (.bool (eqL xs ys)) [.gone] := by
  refine litOkM (fn := Try.f71) 5 26 0 rfl rfl rfl rfl rfl (by simp only [StableL, Stable, hp]; simp [HB.born]) rfl fun w0 M E hro => ?_
  repeat' (first | with_reducible (first | apply J1 | apply J3 | apply J4 | apply J5 | apply J6 | apply J7 | apply J8 | apply J9 | apply J10 | apply J11 | apply J12 | apply J13 | apply J14 | apply J15 | apply J16 | apply J17 | apply J18 | apply J19 | apply J20 | refine J2 ?_) | ((with_reducible apply J21); (· rfl)) | ((with_reducible intro hif); first | (focus (cases hif; done)) | (simp only [JH] at hif; try (exfalso; omega)) | (try (exfalso; omega))) | ((first | ((with_reducible apply J22 c1_ok tab_ok); (· rfl)) | ((with_reducible apply J23 fol c1_ok tab_ok); (· rfl)) | with_reducible apply J24); (· (simp only [push_cast, ↓JP, Nat.reduceAdd, Nat.reduceEqDiff, Nat.reduceLT, Nat.reduceMul, Nat.reduceLeDiff, reduceCtorEq, reduceIte]; rfl)); (try kernel_rfl); (try (focus (first | exact True.intro | ((try simp only [JS, implies_true, forall_const, shaped, shapedL, kndOf]); (repeat' (first | assumption | exact True.intro | omega | apply And.intro)); done) | ((repeat' (first | assumption | exact True.intro | omega | apply And.intro)); done))))) | fail)
  · have hne : xs ≠ ys := fun e => hif (by rw [e])
    apply At.endsRet tab_ok (fn := Try.f71) (rs := [.tmp 4]) Anc.refl hro (Nat.le_of_ble_eq_true rfl) rfl
    · simp only [push_cast, ↓JP, Nat.reduceAdd, Nat.reduceEqDiff, Nat.reduceLT, Nat.reduceMul, Nat.reduceLeDiff, reduceCtorEq, reduceIte, resV, resV1]; rfl
    · (first | trivial | (simp only [and_self]; done))
    · (repeat' (first | exact trivial | exact .same _ | exact .dead _ | exact .gone rfl | exact .loose | assumption | exact .arr (by assumption) | apply And.intro))
    · rfl
    · (repeat' (first | exact trivial | exact rfl | assumption | apply Stable.ite | apply And.intro | intro _ | (simp only [Stable, StableL, i64S, prS, insS, sndsS, sndS]; done)))
    · (repeat' (first | exact trivial | exact .inl rfl | exact .inr rfl | exact rfl | apply And.intro))
    · rw [eqL_false hne]; exact fun β => rfl
    · (repeat' (first | exact trivial | exact rfl | assumption | apply Stable.ite | apply And.intro | intro _ | (simp only [Stable, StableL, i64S, prS, insS, sndsS, sndS]; done)))
  · refine WF.loopAt (fun j => j ≤ xs.length ∧ ∀ q, q < j → xs.getD q ⟨0, 0, 0, 0, 0⟩ = ys.getD q ⟨0, 0, 0, 0, 0⟩) (fun j => [(0, .sl 1 2 [] 5 0 xs.length (some p1)), (1, .sl 3 4 [] 5 0 ys.length (some p2)), (12, .nat .i64 xs.length), (13, .nat .i64 j)]) (fun j => [.gone, .gone, .ro (.arr xs.length 5 (prS xs)), .gone, .ro (.arr ys.length 5 (prS ys))]) (fun j => xs.length - j) 0 ⟨Nat.zero_le _, fun q hq => absurd hq (Nat.not_lt_zero q)⟩ ?_ ?_ rfl ?_ ?_ rfl ?_
    · ((repeat' (first | exact trivial | apply And.intro)) <;> (first | rfl | (simp only [look, cond_true, cond_false]; done)))
    · (repeat' (first | exact trivial | exact .same _ | exact .dead _ | exact .gone rfl | exact .loose | assumption | exact .arr (by assumption) | apply And.intro))
    · (repeat' (first | exact trivial | exact rfl | assumption | apply Stable.ite | apply And.intro | intro _ | (simp only [Stable, StableL, i64S, prS, insS, sndsS, sndS]; done)))
    · (repeat' (first | exact trivial | exact rfl | assumption | apply Stable.ite | apply And.intro | intro _ | (simp only [Stable, StableL, i64S, prS, insS, sndsS, sndS]; done)))
    have hlen := hif
    rintro j ⟨hj, heq⟩
    repeat' (first | with_reducible (first | apply J1 | apply J3 | apply J4 | apply J5 | apply J6 | apply J7 | apply J8 | apply J9 | apply J10 | apply J11 | apply J12 | apply J13 | apply J14 | apply J15 | apply J16 | apply J17 | apply J18 | apply J19 | apply J20 | refine J2 ?_) | ((with_reducible apply J21); (· rfl)) | ((with_reducible intro hif); first | (focus (cases hif; done)) | (simp only [JH] at hif; try (exfalso; omega)) | (try (exfalso; omega))) | ((first | ((with_reducible apply J22 c1_ok tab_ok); (· rfl)) | ((with_reducible apply J23 fol c1_ok tab_ok); (· rfl)) | with_reducible apply J24); (· (simp only [push_cast, ↓JP, Nat.reduceAdd, Nat.reduceEqDiff, Nat.reduceLT, Nat.reduceMul, Nat.reduceLeDiff, reduceCtorEq, reduceIte, prS, insS, inN]; rfl)); (try kernel_rfl); (try (focus (first | exact True.intro | ((try simp only [JS, implies_true, forall_const, shaped, shapedL, kndOf, prS, insS, inN]); (repeat' (first | assumption | exact True.intro | omega | apply And.intro)); done) | ((repeat' (first | assumption | exact True.intro | omega | apply And.intro)); done))))) | fail)
    · have hne : xs ≠ ys := by rintro rfl; simp at hif
      apply At.endsRet tab_ok (fn := Try.f71) (rs := [.tmp 4]) Anc.refl hro (Nat.le_of_ble_eq_true rfl) rfl
      · simp only [push_cast, ↓JP, Nat.reduceAdd, Nat.reduceEqDiff, Nat.reduceLT, Nat.reduceMul, Nat.reduceLeDiff, reduceCtorEq, reduceIte, resV, resV1]; rfl
      · (first | trivial | (simp only [and_self]; done))
      · (repeat' (first | exact trivial | exact .same _ | exact .dead _ | exact .gone rfl | exact .loose | assumption | exact .arr (by assumption) | apply And.intro))
      · rfl
      · (repeat' (first | exact trivial | exact rfl | assumption | apply Stable.ite | apply And.intro | intro _ | (simp only [Stable, StableL, i64S, prS, insS, sndsS, sndS]; done)))
      · (repeat' (first | exact trivial | exact .inl rfl | exact .inr rfl | exact rfl | apply And.intro))
      · rw [eqL_false hne]; exact fun β => rfl
      · (repeat' (first | exact trivial | exact rfl | assumption | apply Stable.ite | apply And.intro | intro _ | (simp only [Stable, StableL, i64S, prS, insS, sndsS, sndS]; done)))
    · have hq : xs.getD j ⟨0, 0, 0, 0, 0⟩ = ys.getD j ⟨0, 0, 0, 0, 0⟩ := ins_ext (of_decide_eq_true hif.1) (of_decide_eq_true hif.2.1) (of_decide_eq_true hif.2.2.1) (of_decide_eq_true hif.2.2.2.1) (of_decide_eq_true hif.2.2.2.2)
      refine At.next (j + 1) ?_ ?_ ?_ rfl ?_ ?_ rfl
      · refine ⟨⟨by omega, fun q hq' => ?_⟩, by omega⟩; by_cases e : q = j; (rw [e]; exact hq); exact heq q (by omega)
      · ((repeat' (first | exact trivial | apply And.intro)) <;> (first | rfl | (simp only [look, cond_true, cond_false]; done)))
      · (repeat' (first | exact trivial | exact .same _ | exact .dead _ | exact .gone rfl | exact .loose | assumption | exact .arr (by assumption) | apply And.intro))
      · (repeat' (first | exact trivial | exact rfl | assumption | apply Stable.ite | apply And.intro | intro _ | (simp only [Stable, StableL, i64S, prS, insS, sndsS, sndS]; done)))
      · (repeat' (first | exact trivial | exact rfl | assumption | apply Stable.ite | apply And.intro | intro _ | (simp only [Stable, StableL, i64S, prS, insS, sndsS, sndS]; done)))
    · have hjn : j = xs.length := by omega
      subst hjn
      have he : xs = ys := ext_getD ⟨0, 0, 0, 0, 0⟩ hlen heq
      apply At.endsRet tab_ok (fn := Try.f71) (rs := [.tmp 4]) Anc.refl hro (Nat.le_of_ble_eq_true rfl) rfl
      · simp only [push_cast, ↓JP, Nat.reduceAdd, Nat.reduceEqDiff, Nat.reduceLT, Nat.reduceMul, Nat.reduceLeDiff, reduceCtorEq, reduceIte, resV, resV1]; rfl
      · (first | trivial | (simp only [and_self]; done))
      · (repeat' (first | exact trivial | exact .same _ | exact .dead _ | exact .gone rfl | exact .loose | assumption | exact .arr (by assumption) | apply And.intro))
      · rfl
      · (repeat' (first | exact trivial | exact rfl | assumption | apply Stable.ite | apply And.intro | intro _ | (simp only [Stable, StableL, i64S, prS, insS, sndsS, sndS]; done)))
      · (repeat' (first | exact trivial | exact .inl rfl | exact .inr rfl | exact rfl | apply And.intro))
      · rw [eqL_true he]; exact fun β => rfl
      · (repeat' (first | exact trivial | exact rfl | assumption | apply Stable.ite | apply And.intro | intro _ | (simp only [Stable, StableL, i64S, prS, insS, sndsS, sndS]; done)))
def sEqIns : Spec := fun args h m => match args with
  | [v1, v2] => match srcV h 5 (.tup []) v1, srcV h 5 (.tup []) v2 with
    | some (c1, n1, f1, r1), some (c2, n2, f2, r2) => some (c1 ∧ c2 ∧ (∀ q, q < n1 → isIns (f1 q) = true) ∧ (∀ q, q < n2 → isIns (f2 q) = true) ∧ ((ls insOf n1 f1).length ≤ 281474976710656), .bool (eqL (ls insOf n1 f1) (ls insOf n2 f2)), r1 ++ r2, [])
    | _, _ => none
  | _ => none
theorem sEqIns_ok : CallOk Try.prog 71 sEqIns := by
  refine ⟨named_spec (by kernel_rfl), fun args h m c v rd wr hs hm hc w0 M β h' w R hrd hwr hst => ?_⟩
  unfold sEqIns at hs
  split at hs
  · rename_i v1 v2
    split at hs
    · rename_i c1 n1 f1 r1 c2 n2 f2 r2 a1 a2
      simp only [Option.some.injEq, Prod.mk.injEq] at hs
      obtain ⟨rfl, rfl, rfl, rfl⟩ := hs
      obtain ⟨k1, k2, g1, g2, y1⟩ := hc
      obtain ⟨A1, p1, d1, e1, t1⟩ := reads_src R a1 k1 (fun i hi => hrd i (List.mem_append_left _ hi)) (by omega)
      obtain ⟨A2, p2, d2, e2, t2⟩ := reads_src R a2 k2 (fun i hi => hrd i (List.mem_append_right _ hi)) (by omega)
      refine callRo (views := [⟨5, (ls insOf n1 f1).length, prS (ls insOf n1 f1), A1, p1⟩, ⟨5, (ls insOf n2 f2).length, prS (ls insOf n2 f2), A2, p2⟩]) (eqIns_lit (ls insOf n1 f1) (ls insOf n2 f2) p1 p2 y1) ?_ R hm hwr ?_ ?_ ?_
      · intro x hx
        simp only [List.mem_cons, List.not_mem_nil, or_false] at hx
        rcases hx with rfl | rfl
        · exact viewIns t1 e1 g1
        · exact viewIns t2 e2 g2
      · intro β1 hv
        simp only [Vd, ls_length, and_true] at hv
        obtain ⟨z1, z2⟩ := hv
        simp only [denL, aggDen, intDen, natDen, boolDen, ls_length, z1, z2, d1, d2]
      · (repeat' (first | exact trivial | exact rfl | assumption | apply Stable.ite | apply And.intro | intro _ | (simp only [Stable, StableL, i64S, prS, insS, sndsS, sndS]; done)))
      · (repeat' (first | exact trivial | exact rfl | assumption | apply Stable.ite | apply And.intro | intro _ | (simp only [Stable, StableL, i64S, prS, insS, sndsS, sndS]; done)))
    · cases hs
  · cases hs
end Go.Proofs.Ytmljmabbopkpiaa.Vm
end

section
/- What check answers at the examples of the chapter. -/
namespace Go.Proofs.Ytmljmabbopkpiaa.Vm
open Go.RowKit
set_option linter.unusedVariables false
set_option linter.unusedSimpArgs false
set_option maxRecDepth 100000
set_option maxHeartbeats 4000000
def P1 : List Ins := [⟨3, 3, 0, 0, 5⟩, ⟨5, 4, 3, 0, 0⟩, ⟨1, 0, 0, 0, 0⟩]
def P2 : List Ins := [⟨10, 3, 0, 0, 2⟩, ⟨5, 0, 3, 0, 0⟩, ⟨1, 0, 0, 0, 0⟩]
def P3 : List Ins := [⟨3, 1, 0, 0, 0⟩, ⟨36, 2, 0, 1, 0⟩, ⟨5, 0, 0, 0, 0⟩, ⟨1, 0, 0, 0, 0⟩]
def P4 : List Ins := [⟨3, 0, 0, 0, 3⟩, ⟨8, 0, 1, 0, 2⟩, ⟨1, 0, 0, 0, 0⟩]
def P5 : List Ins := [⟨3, 3, 0, 0, 1⟩, ⟨33, 3, 3, 3, 0⟩, ⟨10, 0, 0, 0, 1⟩, ⟨1, 0, 0, 0, 0⟩]
theorem p1_eq : ([⟨3, 3, 0, 0, 5⟩, ⟨5, 4, 3, 0, 0⟩, ⟨1, 0, 0, 0, 0⟩] : List Ins) = P1 := rfl
theorem p2_eq : ([⟨10, 3, 0, 0, 2⟩, ⟨5, 0, 3, 0, 0⟩, ⟨1, 0, 0, 0, 0⟩] : List Ins) = P2 := rfl
theorem p3_eq : ([⟨3, 1, 0, 0, 0⟩, ⟨36, 2, 0, 1, 0⟩, ⟨5, 0, 0, 0, 0⟩, ⟨1, 0, 0, 0, 0⟩] : List Ins) = P3 := rfl
theorem p4_eq : ([⟨3, 0, 0, 0, 3⟩, ⟨8, 0, 1, 0, 2⟩, ⟨1, 0, 0, 0, 0⟩] : List Ins) = P4 := rfl
theorem p5_eq : ([⟨3, 3, 0, 0, 1⟩, ⟨33, 3, 3, 3, 0⟩, ⟨10, 0, 0, 0, 1⟩, ⟨1, 0, 0, 0, 0⟩] : List Ins) = P5 := rfl
theorem p1_len : P1.length = 3 := rfl
theorem p2_len : P2.length = 3 := rfl
theorem p3_len : P3.length = 4 := rfl
theorem p4_len : P4.length = 3 := rfl
theorem p5_len : P5.length = 4 := rfl
def okB (i : Ins) : Bool := decide (0 ≤ i.op) && (decide (i.op ≤ 255) && (decide (0 ≤ i.a) && (decide (i.a ≤ 255) && (decide (0 ≤ i.b) && (decide (i.b ≤ 255) && (decide (0 ≤ i.c) && (decide (i.c ≤ 255) && (decide (-9223372036854775808 ≤ i.n) && decide (i.n ≤ 9223372036854775807)))))))))
theorem okB_ok {p : List Ins} (h : p.all okB = true) : ∀ x ∈ p, x.ok := fun x hx => by
  have := List.all_eq_true.1 h x hx
  simp only [okB, Bool.and_eq_true, decide_eq_true_eq] at this
  obtain ⟨h0, h1, h2, h3, h4, h5, h6, h7, h8, h9⟩ := this
  exact ⟨h0, h1, h2, h3, h4, h5, h6, h7, h8, h9⟩
theorem p1_ok : ∀ x ∈ P1, x.ok := okB_ok rfl
theorem p2_ok : ∀ x ∈ P2, x.ok := okB_ok rfl
theorem p3_ok : ∀ x ∈ P3, x.ok := okB_ok rfl
theorem p4_ok : ∀ x ∈ P4, x.ok := okB_ok rfl
theorem p5_ok : ∀ x ∈ P5, x.ok := okB_ok rfl
theorem p1_chk : (checkI P1).2 = 0 := by kernel_rfl
theorem p2_chk : (checkI P2).2 = 0 := by kernel_rfl
theorem p3_chk : (checkI P3).2 = 0 := by kernel_rfl
theorem p4_chk : (checkI P4).2 = 0 := by kernel_rfl
theorem p5_chk : (checkI P5).2 = 0 := by kernel_rfl
theorem a1 : chkR P1 (factsS P1) 5 0 1 = (1, 172) := by kernel_rfl
theorem a2 : chkR P1 (factsS P1) 6 0 1 = (-1, 0) := by kernel_rfl
theorem a3 : leastK P1 (factsS P1) 3 = (6, 0) := by kernel_rfl
theorem a4 : doomK P2 (factsS P2) 0 0 1 3 = [] := by kernel_rfl
theorem a5 : doomK P3 (factsS P3) 0 0 1 3 = [1] := by kernel_rfl
theorem a5' : doomK P3 (factsS P3) 0 0 1 4 = [1] := by kernel_rfl
theorem a6 : whyR P3 0 0 1 1 = (131, 0) := by kernel_rfl
theorem a7 : ftB (getF (factsS P3) 2) F0 = true := by kernel_rfl
theorem a8 : chkR P4 (factsS P4) 0 2 4 = (1, 173) := by kernel_rfl
theorem a9 : chkR P4 (factsS P4) 0 3 4 = (1, 174) := by kernel_rfl
theorem a10 : (getF (factsS P5) 1).reached = true := by kernel_rfl
theorem a11 : ((getF (factsS P5) 1).regs 3).is_ = false := by kernel_rfl
theorem a12 : (getF (factsS P5) 1).regs 4 = ⟨true, 0⟩ := by kernel_rfl
end Go.Proofs.Ytmljmabbopkpiaa.Vm
end

section
/- fermatalaw17.awake. -/
namespace Go.Proofs.Ytmljmabbopkpiaa.Vm
open Go.RowKit
attribute [local push_cast] runR opG gtmp gval gus opX tmpsOf tm tmO tmP restr look look2 tab tys zs ets eqB eqBL allB numOf ieq Int.cast_ofNat_Int Int.ofNat_zero beq_true beq_false frameOf ev evL ofV opV loadV noW pushF wrsL setH allBorn allGone HB.born HB.isGone HB.val SV.plain dstOk hp nav fitsT SV.size sizeL SV.isAgg TK.size TK.agg bin binE binN binI arN arI cmpN cmpI keq kn narrow callV storeV setp fillV buildV buildSliceV makeV sliceV appendV copyV List.isEmpty_nil srcV evO asN ite_t ite_f ite_bool ite_int ite_nat maxV v_beq v_ble v_blt cond_true cond_false List.getElem?_cons_zero List.getElem?_cons_succ List.getD_cons_zero List.getD_cons_succ List.getD_nil List.length_cons List.length_nil List.take_succ_cons List.take_zero List.set_cons_zero List.set_cons_succ List.cons_append List.nil_append List.append_assoc List.replicate_succ List.replicate_zero Nat.zero_add Nat.add_zero decide_true decide_false Bool.true_and Bool.and_true Bool.false_and Bool.and_false Bool.true_or Bool.or_true Bool.false_or Bool.or_false beq_self_eq_true Bool.or_self Nat.lt_irrefl Nat.not_lt_zero Nat.le_refl Option.getD_some Option.getD_none BEq.rfl Bool.not_true Bool.not_false Bool.cond_true_left Bool.cond_false_right prS sndsS i64S nav_ins nav_ins0 nav_ins1 nav_ins2 nav_ins3 nav_ins4 nav_snd nav_snd0 nav_snd1 nav_snd2 isIns_insS insOf_insS isSnd_sndS sndOf_sndS isI_int isI_nat iOf nav_k nav_k0 nav_k1 nav_ka nav_kai nav_ft nav_ft0 nav_ft1 isKn_kS knOf_kS isKa_kaS kaOf_kaS isFt_ftS ftOf_ftS setp_ka setp_ftk setp_ftr setp_fti evm_ins evm_snd evm_k evm_ka evm_ft
set_option linter.unusedVariables false
set_option linter.unusedSimpArgs false
set_option maxRecDepth 100000
set_option maxHeartbeats 4000000
def cAw : FuncId → Option Spec := look2 [(35, sChk17), (20, sLeast), (34, sDoomed), (22, sWhy17), (21, sFactsR), (53, sEqZ)]
theorem cAw_ok : ∀ f S, cAw f = some S → CallOk Try.prog f S := allOk_spec ⟨sChk17_ok, sLeast_ok, sDoomed_ok, sWhy17_ok, sFactsR_ok, sEqZ_ok, trivial⟩
theorem ls_1 {α : Type} (g : SV → α) (f : Nat → SV) : ls g 1 f = [g (f 0)] := rfl
theorem ls_3 {α : Type} (g : SV → α) (f : Nat → SV) : ls g 3 f = [g (f 0), g (f 1), g (f 2)] := rfl
theorem ls_4 {α : Type} (g : SV → α) (f : Nat → SV) : ls g 4 f = [g (f 0), g (f 1), g (f 2), g (f 3)] := rfl
theorem insOf_agg (a b c d e : SV) : insOf (.agg [a, b, c, d, e]) = ⟨iOf a, iOf b, iOf c, iOf d, iOf e⟩ := rfl
theorem ft_eqz (a : Ft) : eqB (.struct [.bool, .arr 8 2 (.struct [.bool, .int .i64])]) (ftS a) (.agg [.bool false, .arr 8 2 fun _ => .agg [.bool false, .nat .i64 0]]) = ftB a F0 := by
  rw [← ft_eq]; rfl
theorem ft_shz : shaped (.struct [.bool, .arr 8 2 (.struct [.bool, .int .i64])]) (.agg [.bool false, .arr 8 2 fun _ => .agg [.bool false, .nat .i64 0]]) = True := by
  simp [shaped, shapedL, kndOf]
theorem lim_1 : limB 5 0 1 = true := rfl
theorem lim_2 : limB 6 0 1 = true := rfl
theorem lim_3 : limB 0 0 1 = true := rfl
theorem lim_4 : limB 0 2 4 = true := rfl
theorem lim_5 : limB 0 3 4 = true := rfl
theorem all_1 {p : Nat → Prop} (h0 : p 0) : ∀ q, q < 1 → p q := fun q hq => by
  obtain rfl : q = 0 := by omega
  assumption
theorem all_3 {p : Nat → Prop} (h0 : p 0) (h1 : p 1) (h2 : p 2) : ∀ q, q < 3 → p q := fun q hq => by
  rcases (show q = 0 ∨ q = 1 ∨ q = 2 by omega) with rfl | rfl | rfl <;> assumption
theorem all_4 {p : Nat → Prop} (h0 : p 0) (h1 : p 1) (h2 : p 2) (h3 : p 3) : ∀ q, q < 4 → p q := fun q hq => by
  rcases (show q = 0 ∨ q = 1 ∨ q = 2 ∨ q = 3 by omega) with rfl | rfl | rfl | rfl <;> assumption
theorem awake17_lit : LitOk Try.prog 18 [] [.gone] (.bool true) [.gone] := by
  refine litOkM (fn := Try.f18) 1 186 0 rfl rfl rfl rfl rfl (by simp only [StableL, Stable, hp]) rfl fun w0 M E hro => ?_
  repeat' (first | with_reducible (first | apply J1 | apply J3 | apply J4 | apply J5 | apply J6 | apply J7 | apply J8 | apply J9 | apply J10 | apply J11 | apply J12 | apply J13 | apply J14 | apply J15 | apply J16 | apply J17 | apply J18 | apply J19 | apply J20 | refine J2 ?_) | ((with_reducible apply J21); (· rfl)) | ((with_reducible intro hif); first | (focus (cases hif; done)) | (simp only [JH] at hif; try (exfalso; omega)) | (try (exfalso; omega))) | ((first | ((with_reducible apply J22 cAw_ok tab_ok); (· rfl)) | ((with_reducible apply J23 fol cAw_ok tab_ok); (· rfl)) | with_reducible apply J24); (· (simp only [push_cast, ↓JP, Nat.reduceAdd, Nat.reduceEqDiff, Nat.reduceLT, Nat.reduceMul, Nat.reduceLeDiff, reduceCtorEq, reduceIte, ↓JK, ↓JF, cAw, sChk17, sLeast, sDoomed, doomE, sDoomN, sDoomS, sWhy17, sFactsR, sEqZ, ls_1, ls_3, ls_4, insOf_agg, p1_eq, p2_eq, p3_eq, p4_eq, p5_eq, p1_len, p2_len, p3_len, p4_len, p5_len, p1_chk, p2_chk, p3_chk, p4_chk, p5_chk, a1, a2, a3, a4, a5, a5', a6, a7, a8, a9, a10, a11, a12, ftsS, inN, inR, lim_1, lim_2, lim_3, lim_4, lim_5, ↓kn_eqZ, ↓ft_eqz, List.isEmpty_nil, List.isEmpty_cons, ↓ft_shz, eqL, Int.reduceAdd, Int.reduceEq, Int.reduceLE, Int.reduceLT, Int.reduceNeg, eq_self, List.getD_cons_zero, List.getD_cons_succ]; rfl)); (try kernel_rfl); (try (focus (first | exact True.intro | ((first | ((repeat' (first | exact True.intro | exact p1_ok | exact p2_ok | exact p3_ok | exact p4_ok | exact p5_ok | omega | exact all_1 rfl | exact all_3 rfl rfl rfl | exact all_4 rfl rfl rfl rfl | rfl | apply And.intro)); done) | (simp only [push_cast, ↓JP, Nat.reduceAdd, Nat.reduceEqDiff, Nat.reduceLT, Nat.reduceMul, Nat.reduceLeDiff, reduceCtorEq, reduceIte, ↓JK, ↓JF, cAw, sChk17, sLeast, sDoomed, doomE, sDoomN, sDoomS, sWhy17, sFactsR, sEqZ, ls_1, ls_3, ls_4, insOf_agg, p1_eq, p2_eq, p3_eq, p4_eq, p5_eq, p1_len, p2_len, p3_len, p4_len, p5_len, p1_chk, p2_chk, p3_chk, p4_chk, p5_chk, a1, a2, a3, a4, a5, a5', a6, a7, a8, a9, a10, a11, a12, ftsS, inN, inR, lim_1, lim_2, lim_3, lim_4, lim_5, ↓kn_eqZ, ↓ft_eqz, List.isEmpty_nil, List.isEmpty_cons, ↓ft_shz, eqL, Int.reduceAdd, Int.reduceEq, Int.reduceLE, Int.reduceLT, Int.reduceNeg, eq_self, List.getD_cons_zero, List.getD_cons_succ, and_self, implies_true, true_implies, forall_const, Bool.false_eq_true, false_implies]; (repeat' (first | exact True.intro | exact p1_ok | exact p2_ok | exact p3_ok | exact p4_ok | exact p5_ok | omega | exact all_1 rfl | exact all_3 rfl rfl rfl | exact all_4 rfl rfl rfl rfl | rfl | apply And.intro)))); done) | ((try simp only [JS, implies_true, forall_const, shaped, shapedL, kndOf, cAw, sChk17, sLeast, sDoomed, doomE, sDoomN, sDoomS, sWhy17, sFactsR, sEqZ, ls_1, ls_3, ls_4, insOf_agg, p1_eq, p2_eq, p3_eq, p4_eq, p5_eq, p1_len, p2_len, p3_len, p4_len, p5_len, p1_chk, p2_chk, p3_chk, p4_chk, p5_chk, a1, a2, a3, a4, a5, a5', a6, a7, a8, a9, a10, a11, a12, ftsS, inN, inR, lim_1, lim_2, lim_3, lim_4, lim_5, ↓kn_eqZ, ↓ft_eqz, List.isEmpty_nil, List.isEmpty_cons, ↓ft_shz, eqL, Int.reduceAdd, Int.reduceEq, Int.reduceLE, Int.reduceLT, Int.reduceNeg, eq_self, List.getD_cons_zero, List.getD_cons_succ]); (repeat' (first | assumption | exact True.intro | omega | apply And.intro)); done) | ((repeat' (first | assumption | exact True.intro | omega | apply And.intro)); done))))) | fail)
  apply At.endsRet tab_ok (fn := Try.f18) (rs := [.tmp 0]) Anc.refl hro (Nat.le_of_ble_eq_true rfl) rfl
  · simp only [push_cast, ↓JP, Nat.reduceAdd, Nat.reduceEqDiff, Nat.reduceLT, Nat.reduceMul, Nat.reduceLeDiff, reduceCtorEq, reduceIte, ↓JK, ↓JF, resV, resV1]; rfl
  · (first | trivial | (simp only [and_self]; done))
  · (repeat' (first | exact trivial | exact .same _ | exact .dead _ | exact .gone rfl | exact .loose | assumption | exact .arr (by assumption) | apply And.intro))
  · rfl
  · (repeat' (first | exact trivial | exact rfl | assumption | apply Stable.ite | apply And.intro | intro _ | (simp only [Stable, StableL, i64S, prS, insS, sndsS, sndS, kS, kaS, ftS, ftsS]; done)))
  · (repeat' (first | exact trivial | exact .inl rfl | exact .inr rfl | exact rfl | apply And.intro))
  · exact fun β => rfl
  · (repeat' (first | exact trivial | exact rfl | assumption | apply Stable.ite | apply And.intro | intro _ | (simp only [Stable, StableL, i64S, prS, insS, sndsS, sndS, kS, kaS, ftS, ftsS]; done)))
def sAwake17 : Spec := fun args h m => match args with
  | [] => some (True, .bool true, [], [])
  | _ => none
theorem sAwake17_ok : CallOk Try.prog 18 sAwake17 := by
  refine ⟨named_spec (by kernel_rfl), fun args h m c v rd wr hs hm hc w0 M β h' w R hrd hwr hst => ?_⟩
  unfold sAwake17 at hs
  split at hs
  · simp only [Option.some.injEq, Prod.mk.injEq] at hs
    obtain ⟨rfl, rfl, rfl, rfl⟩ := hs
    refine callRo (views := []) awake17_lit ?_ R hm hwr ?_ ?_ ?_
    · intro x hx; cases hx
    · intro β1 hv
      rfl
    · trivial
    · trivial
  · cases hs
end Go.Proofs.Ytmljmabbopkpiaa.Vm
end

section
/- fermatalaw14.Small: op and One. (printed by gen_one14.py) -/
namespace Go.Proofs.Ytmljmabbopkpiaa
open Go.RowKit
set_option linter.unusedVariables false
set_option linter.unusedSimpArgs false

theorem below_drewN4 {B : Nat} {a w : World} (h : Below B a w) (q : Nat) : Below B a (w.drewN q) := ⟨h.os, h.tape, h.output, h.size, h.block⟩
theorem u64_bd4 (z : Int) : 0 ≤ IntKind.u64.wrap z ∧ IntKind.u64.wrap z < 18446744073709551616 := by
  have e : IntKind.u64.wrap z = z % 18446744073709551616 := by simp [IntKind.wrap, IntKind.bits, IntKind.signed]
  rw [e]; omega
/-! ### the Op of a small instruction: a Small has the fields of an instruction -/
def tbl14 : List Int := [3, 3, 3, 3, 3, 4, 5, 5, 5, 6, 6, 6, 7, 8, 8, 9, 10, 10, 10, 11, 11, 1, 2]
def op14 (o : Int) : Int := if o % 40 < 17 then 33 + o % 40 else tbl14.getD (o % 40 - 17).toNat 0
def tblV : Array Value := #[.int .u8 3, .int .u8 3, .int .u8 3, .int .u8 3, .int .u8 3, .int .u8 4, .int .u8 5, .int .u8 5, .int .u8 5, .int .u8 6, .int .u8 6, .int .u8 6, .int .u8 7, .int .u8 8, .int .u8 8, .int .u8 9, .int .u8 10, .int .u8 10, .int .u8 10, .int .u8 11, .int .u8 11, .int .u8 1, .int .u8 2]
theorem tblV_at (k : Nat) (h : k < 23) : tblV[k]? = some (.int .u8 (tbl14.getD k 0)) := by
  match k, h with
  | 0, _ => rfl
  | 1, _ => rfl
  | 2, _ => rfl
  | 3, _ => rfl
  | 4, _ => rfl
  | 5, _ => rfl
  | 6, _ => rfl
  | 7, _ => rfl
  | 8, _ => rfl
  | 9, _ => rfl
  | 10, _ => rfl
  | 11, _ => rfl
  | 12, _ => rfl
  | 13, _ => rfl
  | 14, _ => rfl
  | 15, _ => rfl
  | 16, _ => rfl
  | 17, _ => rfl
  | 18, _ => rfl
  | 19, _ => rfl
  | 20, _ => rfl
  | 21, _ => rfl
  | 22, _ => rfl
  | n + 23, h => exact absurd h (by omega)
theorem tblV_get (k : Nat) (h : k < ([.int .u8 3, .int .u8 3, .int .u8 3, .int .u8 3, .int .u8 3, .int .u8 4, .int .u8 5, .int .u8 5, .int .u8 5, .int .u8 6, .int .u8 6, .int .u8 6, .int .u8 7, .int .u8 8, .int .u8 8, .int .u8 9, .int .u8 10, .int .u8 10, .int .u8 10, .int .u8 11, .int .u8 11, .int .u8 1, .int .u8 2] : List Value).length) : ([.int .u8 3, .int .u8 3, .int .u8 3, .int .u8 3, .int .u8 3, .int .u8 4, .int .u8 5, .int .u8 5, .int .u8 5, .int .u8 6, .int .u8 6, .int .u8 6, .int .u8 7, .int .u8 8, .int .u8 8, .int .u8 9, .int .u8 10, .int .u8 10, .int .u8 10, .int .u8 11, .int .u8 11, .int .u8 1, .int .u8 2] : List Value)[k] = .int .u8 (tbl14.getD k 0) := by
  have := tblV_at k h
  unfold tblV at this
  rw [List.getElem?_toArray] at this
  exact Option.some.inj ((List.getElem?_eq_getElem h).symm.trans this)
theorem op14_bd (o : Int) : 1 ≤ op14 o ∧ op14 o ≤ 49 ∧ formC (op14 o) ≠ 0 := by
  unfold op14
  by_cases h : o % 40 < 17
  · rw [if_pos h]
    refine ⟨by omega, by omega, ?_⟩
    unfold formC
    rw [if_pos (by omega)]
    decide
  · rw [if_neg h]
    obtain ⟨k, hk, hk2⟩ : ∃ k : Nat, (o % 40 - 17).toNat = k ∧ k < 23 := ⟨_, rfl, by omega⟩
    rw [hk]
    match k, hk2 with
    | 0, _ => exact (by decide)
    | 1, _ => exact (by decide)
    | 2, _ => exact (by decide)
    | 3, _ => exact (by decide)
    | 4, _ => exact (by decide)
    | 5, _ => exact (by decide)
    | 6, _ => exact (by decide)
    | 7, _ => exact (by decide)
    | 8, _ => exact (by decide)
    | 9, _ => exact (by decide)
    | 10, _ => exact (by decide)
    | 11, _ => exact (by decide)
    | 12, _ => exact (by decide)
    | 13, _ => exact (by decide)
    | 14, _ => exact (by decide)
    | 15, _ => exact (by decide)
    | 16, _ => exact (by decide)
    | 17, _ => exact (by decide)
    | 18, _ => exact (by decide)
    | 19, _ => exact (by decide)
    | 20, _ => exact (by decide)
    | 21, _ => exact (by decide)
    | 22, _ => exact (by decide)
    | n + 23, h => exact absurd h (by omega)
set_option maxRecDepth 100000 in
set_option maxHeartbeats 1000000 in
theorem op14_c (x : Ins) (hx : x.ok) (w : World) : Calls Try.prog 96 #[x.v] w fun e w' => e = .returned (.int .u8 (op14 x.op)) ∧ Below w.heap.size w w' := by
  obtain ⟨o0, o1, -, -, -, -, -, -, -, -⟩ := hx
  obtain ⟨op, a, b, c, n⟩ := x
  dsimp only at o0 o1 ⊢
  unfold Ins.v
  dsimp only
  have m1 : Int.tmod op 40 = op % 40 := Int.tmod_eq_emod_of_nonneg o0
  have hv : op14 op = if op % 40 < 17 then 33 + op % 40 else tbl14.getD (op % 40 - 17).toNat 0 := rfl
  obtain ⟨M, hM⟩ : ∃ M, M = op % 40 := ⟨_, rfl⟩
  have hM0 : 0 ≤ M ∧ M < 40 := by omega
  rw [← hM] at m1 hv
  have hM' : op % 40 = M := hM.symm
  clear hM
  by_cases h : M < 17
  · rw [if_pos h] at hv
    rw [hv]
    have d1 := decide_eq_true h
    have w1 : IntKind.u8.wrap (33 + M) = 33 + M := IntWalk.u8_in _ (by omega)
    clear hv
    go_enter Try.func96, Try.ntmps96
    go_wp2_with fail
    go_ret
    exact ⟨rfl, (Below.refl _ w).alloc (Nat.le_refl _) _⟩
  · rw [if_neg h] at hv
    rw [hv]
    have d1 := decide_eq_false h
    have w1 : IntKind.u8.wrap (M - 17) = M - 17 := IntWalk.u8_in _ (by omega)
    obtain ⟨k, hk⟩ : ∃ k : Nat, M - 17 = k := ⟨(M - 17).toNat, by omega⟩
    have hk23 : k < 23 := by omega
    have hk0 : (0 : Int) ≤ (k : Int) := by omega
    have hk1 : (k : Int) < 23 := by omega
    rw [hk] at w1
    have hz : ((M - 17).toNat) = k := by omega
    rw [hz]
    have hb := tblV_get k
    obtain ⟨V, hV⟩ : ∃ V, V = tbl14.getD k 0 := ⟨_, rfl⟩
    rw [← hV] at hb ⊢
    clear hv hV hz h
    go_enter Try.func96, Try.ntmps96
    go_wp2_with fail
    go_ret
    exact ⟨rfl, ((Below.refl _ w).alloc (Nat.le_refl _) _).alloc (by simp) _⟩

/-! ### one small instruction -/
def fld14 (x : Ins) : Nat → Int | 0 => x.a | 1 => x.b | _ => x.c
def setF14 (i : Ins) (k : Nat) (v : Int) : Ins := match k with | 0 => { i with a := v } | 1 => { i with b := v } | _ => { i with c := v }
def step14 (x : Ins) (M : Int) (st : Nat × Ins) (l : UInt8) : Nat × Ins :=
  if l.toNat = 114 then (st.1 + 1, if st.1 < 3 then setF14 st.2 st.1 (fld14 x st.1 % 8) else st.2)
  else if l.toNat = 110 then (st.1, { st.2 with n := x.n })
  else if l.toNat = 112 then (st.1, { st.2 with n := IntKind.u64.wrap x.n % 16 })
  else (st.1, { st.2 with n := IntKind.u64.wrap x.n % M })
def fold14 (x : Ins) (M : Int) (S : ByteArray) (p : Nat) : Nat × Ins := (S.data.toList.take p).foldl (step14 x M) (0, ⟨op14 x.op, 0, 0, 0, 0⟩)
theorem fold14_succ (x : Ins) (M : Int) (S : ByteArray) (p : Nat) (h : p < S.size) : fold14 x M S (p + 1) = step14 x M (fold14 x M S p) (S[p]'h) := by
  unfold fold14
  rw [List.take_add_one]
  have : S.data.toList[p]? = some (S[p]'h) := by
    rw [Array.getElem?_toList]
    exact Array.getElem?_eq_getElem (show p < S.data.size from h)
  rw [this]
  simp
def itPos (S : ByteArray) (g : Nat) (X : World) : Nat := match X.heap[g]? with | some (.stringIter _ p) => S.size - p | _ => 0
theorem itPos_eq {S : ByteArray} {g p : Nat} {X : World} (h : X.heap[g]? = some (.stringIter S p)) : itPos S g X = S.size - p := by unfold itPos; rw [h]
structure MI (w : World) (B : Nat) (x : Ins) (S : ByteArray) (p : Nat) (out : Ins) (X : World) : Prop where
  it : X.heap[B + 2]? = some (.stringIter S p)
  b8 : Blk X B 28 #[.int .u8 out.op, .int .u8 out.a, .int .u8 out.b, .int .u8 out.c, .int .i64 out.n]
  b2 : Blk X w.heap.size 121 #[.int .u8 x.op, .int .u8 x.a, .int .u8 x.b, .int .u8 x.c, .int .i64 x.n]
  b9 : Blk X (B + 1) 187 #[.pointer (some ⟨B, 1, none⟩), .pointer (some ⟨B, 2, none⟩), .pointer (some ⟨B, 3, none⟩)]
  b4 : Blk X (w.heap.size + 1) 28 #[.int .u8 0, .int .u8 0, .int .u8 0, .int .u8 0, .int .i64 0]
  below : Below w.heap.size w X
section
variable {w X : World} {B : Nat} {x out : Ins} {S : ByteArray} {p : Nat}
theorem MI.next (h : MI w B x S p out X) (hB : w.heap.size + 1 < B) (q : Nat) : MI w B x S q out (X.iterAt (B + 2) S q) :=
  have f : ∀ {g t cs}, g ≠ B + 2 → Blk X g t cs → Blk (X.iterAt (B + 2) S q) g t cs := fun hg hb => (Lib.iterAt_other X (B + 2) _ S q hg).trans hb
  ⟨Lib.iterAt_heap X (B + 2) S p q h.it, f (by omega) h.b8, f (by omega) h.b2, f (by omega) h.b9, f (by omega) h.b4, Lib.below_iterAt h.below (by omega) S q⟩
theorem MI.alloc (h : MI w B x S p out X) (o : Obj) : MI w B x S p out (X.alloc o) :=
  ⟨(Below.heap_alloc X o _ (Array.getElem?_eq_some_iff.1 h.it).1).trans h.it, h.b8.alloc o, h.b2.alloc o, h.b9.alloc o, h.b4.alloc o, h.below.alloc h.below.size o⟩
theorem MI.drew (h : MI w B x S p out X) : MI w B x S p out X.drew := ⟨h.it, h.b8, h.b2, h.b9, h.b4, h.below.drew⟩
theorem MI.drewN (h : MI w B x S p out X) (n : Nat) : MI w B x S p out (X.drewN n) := ⟨h.it, h.b8, h.b2, h.b9, h.b4, below_drewN4 h.below n⟩
theorem MI.set (h : MI w B x S p out X) (hB : w.heap.size + 1 < B) (i : Nat) (u : Value) (out' : Ins) (ho : (#[.int .u8 out.op, .int .u8 out.a, .int .u8 out.b, .int .u8 out.c, .int .i64 out.n] : Array Value).setIfInBounds i u = #[.int .u8 out'.op, .int .u8 out'.a, .int .u8 out'.b, .int .u8 out'.c, .int .i64 out'.n]) :
    MI w B x S p out' (X.setCell ⟨B, i, none⟩ u) :=
  ⟨(Below.heap_setCell X ⟨B, i, none⟩ u (B + 2) (by show B + 2 ≠ B; omega)).trans h.it, ho ▸ h.b8.set_ i u, h.b2.far (p := ⟨B, i, none⟩) (by show w.heap.size ≠ B; omega) u, h.b9.far (p := ⟨B, i, none⟩) (by show B + 1 ≠ B; omega) u, h.b4.far (p := ⟨B, i, none⟩) (by show w.heap.size + 1 ≠ B; omega) u, h.below.setCell (p := ⟨B, i, none⟩) (by show w.heap.size ≤ B; omega) u⟩
end
set_option maxRecDepth 100000 in
set_option maxHeartbeats 4000000 in
theorem one14_w (x : Ins) (hx : x.ok) (n : Int) (hn : 1 ≤ n ∧ n ≤ 1000000) (S : ByteArray) (hS : S.size ≤ 100) (hasc : ∀ p (h : p < S.size), (S[p]'h).toNat < 128) (w : World)
    (hform : ∀ w, Calls Try.prog 39 #[.int .u8 (op14 x.op)] w fun e w' => e = .returned (.tuple #[.string S, .bool true]) ∧ Below w.heap.size w w') :
    Calls Try.prog 54 #[x.v, .int .i64 n] w fun e w' => e = .returned (fold14 x n S S.size).2.v ∧ Below w.heap.size w w' := by
  have HOP := Lib.hid (fun W => op14_c x hx W)
  have HF := Lib.hid hform
  clear hform
  obtain ⟨o0, o1, a0, a1, b0, b1, c0, c1, n0, n1⟩ := hx
  have f0 : fold14 x n S 0 = (0, ⟨op14 x.op, 0, 0, 0, 0⟩) := by simp [fold14]
  have hfs := fun p h => fold14_succ x n S p h
  obtain ⟨op, hop⟩ : ∃ op, op = op14 x.op := ⟨_, rfl⟩
  rw [← hop] at HOP HF f0
  clear hop
  obtain ⟨F, hF⟩ : ∃ F, F = fold14 x n S := ⟨_, rfl⟩
  rw [← hF] at f0 hfs ⊢
  clear hF
  obtain ⟨x0, xa, xb, xc, xn⟩ := x
  unfold Ins.v at HOP ⊢
  dsimp only at o0 o1 a0 a1 b0 b1 c0 c1 n0 n1 HOP ⊢
  obtain ⟨U, hU⟩ : ∃ U, U = IntKind.u64.wrap xn := ⟨_, rfl⟩
  have hU0 := u64_bd4 xn
  rw [← hU] at hU0
  have HFS := Lib.hid hfs
  have HU := Lib.hid hU
  have u1 : IntKind.u64.wrap xn = U := hU.symm
  clear hfs hU
  go_enter Try.func54, Try.ntmps54
  go_upto_region 1 with fail
  have hA0 : AW w [] [] w := ⟨Below.refl _ _, by simp, by simp⟩
  have hA1 := (hA0.put 121 #[.int .u8 x0, .int .u8 xa, .int .u8 xb, .int .u8 xc, .int .i64 xn]).put' (g := w.heap.size + 1) 28 #[.int .u8 0, .int .u8 0, .int .u8 0, .int .u8 0, .int .i64 0] (by simp)
  obtain ⟨W, hW⟩ : ∃ W, W = ((w.alloc (.cells #[.int .u8 x0, .int .u8 xa, .int .u8 xb, .int .u8 xc, .int .i64 xn] 121)).alloc (.cells #[.int .u8 0, .int .u8 0, .int .u8 0, .int .u8 0, .int .i64 0] 28)) := ⟨_, rfl⟩
  rw [← hW] at hA1 ⊢
  clear hW hA0
  obtain ⟨⟨z0, z1, z2, z3, z4⟩, zf⟩ := blk5 (hA1.l _ (.tail _ (.head _)))
  dsimp only at z0 z1 z2 z3 z4
  clear zf
  go_wp2_with fail
  clear z0 z1 z2 z3 z4
  go_at_call 96
  refine (HOP.out W).mono ?_
  rintro e W1 ⟨rfl, hb⟩
  have hA2 := hA1.call hb
  clear hb hA1 HOP
  go_wp2_with fail
  go_at_call 39
  refine (HF.out W1).mono ?_
  rintro e W2 ⟨rfl, hb⟩
  have hA3 := hA2.call hb
  clear hb hA2 HF
  go_upto_region 5 with fail
  have hA4 := (hA3.put 28 #[.int .u8 op, .int .u8 0, .int .u8 0, .int .u8 0, .int .i64 0]).put' (g := W2.heap.size + 1) 187 #[.pointer (some ⟨W2.heap.size, 1, none⟩), .pointer (some ⟨W2.heap.size, 2, none⟩), .pointer (some ⟨W2.heap.size, 3, none⟩)] (by simp)
  have hlt : w.heap.size + 1 < W2.heap.size := (hA3.l _ (.head _)).lt
  obtain ⟨W3, hW⟩ : ∃ W, W = ((W2.alloc (.cells #[.int .u8 op, .int .u8 0, .int .u8 0, .int .u8 0, .int .i64 0] 28)).alloc (.cells #[.pointer (some ⟨W2.heap.size, 1, none⟩), .pointer (some ⟨W2.heap.size, 2, none⟩), .pointer (some ⟨W2.heap.size, 3, none⟩)] 187)) := ⟨_, rfl⟩
  have hz3 : W3.heap.size = W2.heap.size + 2 := by rw [hW]; simp
  rw [← hW] at hA4 ⊢
  clear hW hA3
  obtain ⟨B, hB⟩ : ∃ B, B = W2.heap.size := ⟨_, rfl⟩
  rw [← hB] at hA4 hlt hz3 ⊢
  have hI0 : MI w B ⟨x0, xa, xb, xc, xn⟩ S 0 ⟨op, 0, 0, 0, 0⟩ (W3.iter S 0) := ⟨hz3 ▸ heap_alloc_new W3 _, (hA4.l _ (.tail _ (.head _))).alloc _, (hA4.l _ (.tail _ (.tail _ (.tail _ (.head _))))).alloc _, (hA4.l _ (.head _)).alloc _, (hA4.l _ (.tail _ (.tail _ (.head _)))).alloc _, hA4.b.alloc hA4.b.size _⟩
  clear hB hA4
  go_wp2
  go_loopw [10] (fun k wr => ∃ (p u : Nat) (out : Ins), k = .int .i64 u ∧ p ≤ S.size ∧ u ≤ p ∧ F p = (u, out) ∧ MI w B ⟨x0, xa, xb, xc, xn⟩ S p out wr) (fun _ wr => itPos S (B + 2) wr)
  case atStart => exact ⟨0, 0, _, rfl, by omega, by omega, f0, hI0⟩
  case round =>
    obtain ⟨p, u, out, rfl, hp, hup, hF, hI⟩ := hrel
    clear hI0 f0 hz3
    have hm := itPos_eq hI.it
    by_cases hps : p < S.size
    · have hn := fun ty => Lib.run_next_ascii_at (P := Try.prog) wr (B + 2) S p ty hI.it hps (hasc p hps)
      have hI' := hI.next hlt (p + 1)
      obtain ⟨X, hX⟩ : ∃ X, X = wr.iterAt (B + 2) S (p + 1) := ⟨_, rfl⟩
      rw [← hX] at hn hI'
      clear hX hI
      have hs := HFS.out p hps
      rw [hF] at hs
      obtain ⟨l, hl⟩ : ∃ l, l = S[p]'hps := ⟨_, rfl⟩
      rw [← hl] at hs hn
      obtain ⟨z, hz⟩ : ∃ z : Nat, z = l.toNat := ⟨_, rfl⟩
      rw [← hz] at hn
      unfold step14 at hs
      rw [← hz] at hs
      dsimp only at hs
      have HM := Lib.hid hm
      clear hz hl hF hm hasc
      obtain ⟨⟨y0, y1, y2, y3, y4⟩, yf⟩ := blk5 hI'.b2
      dsimp only at y0 y1 y2 y3 y4
      clear yf
      have t0 : X.cell? ⟨B + 1, 0, none⟩ = some (.pointer (some ⟨B, 1, none⟩)) := hI'.b9.cell 0
      have t1 : X.cell? ⟨B + 1, 1, none⟩ = some (.pointer (some ⟨B, 2, none⟩)) := hI'.b9.cell 1
      have t2 : X.cell? ⟨B + 1, 2, none⟩ = some (.pointer (some ⟨B, 3, none⟩)) := hI'.b9.cell 2
      obtain ⟨⟨k0, k1, k2, k3, k4⟩, kf⟩ := blk5 hI'.b8
      have hlX : B < X.heap.size := hI'.b8.lt
      have hlX1 : B + 1 < X.heap.size := hI'.b9.lt
      have hlw : w.heap.size < X.heap.size := hI'.b2.lt
      by_cases h114 : z = 114
      · rw [if_pos h114] at hs
        subst h114
        by_cases hu3 : u < 3
        · rw [if_pos hu3] at hs
          have hu : u = 0 ∨ u = 1 ∨ u = 2 := by omega
          rcases hu with rfl | rfl | rfl
          · have v1 : Int.tmod xa 8 = xa % 8 := Int.tmod_eq_emod_of_nonneg a0
            have hJ : MI w B ⟨x0, xa, xb, xc, xn⟩ S (p + 1) (setF14 out 0 (xa % 8)) _ := ((hI'.set hlt 1 (.int .u8 (xa % 8)) _ rfl).alloc (.cells #[.int .u8 xa, .int .u8 xb, .int .u8 xc] 5)).drew
            have HJ := Lib.hid hJ
            clear hJ
            go_wp2_with go_region
            all_goals (try go_wp2)
            all_goals exact ⟨⟨p + 1, 1, _, rfl, by omega, by omega, hs, HJ.out⟩, by rw [itPos_eq HJ.out.it, HM.out]; omega⟩
          · have v1 : Int.tmod xb 8 = xb % 8 := Int.tmod_eq_emod_of_nonneg b0
            have hJ : MI w B ⟨x0, xa, xb, xc, xn⟩ S (p + 1) (setF14 out 1 (xb % 8)) _ := ((hI'.set hlt 2 (.int .u8 (xb % 8)) _ rfl).alloc (.cells #[.int .u8 xa, .int .u8 xb, .int .u8 xc] 5)).drew
            have HJ := Lib.hid hJ
            clear hJ
            go_wp2_with go_region
            all_goals (try go_wp2)
            all_goals exact ⟨⟨p + 1, 2, _, rfl, by omega, by omega, hs, HJ.out⟩, by rw [itPos_eq HJ.out.it, HM.out]; omega⟩
          · have v1 : Int.tmod xc 8 = xc % 8 := Int.tmod_eq_emod_of_nonneg c0
            have hJ : MI w B ⟨x0, xa, xb, xc, xn⟩ S (p + 1) (setF14 out 2 (xc % 8)) _ := ((hI'.set hlt 3 (.int .u8 (xc % 8)) _ rfl).alloc (.cells #[.int .u8 xa, .int .u8 xb, .int .u8 xc] 5)).drew
            have HJ := Lib.hid hJ
            clear hJ
            go_wp2_with go_region
            all_goals (try go_wp2)
            all_goals exact ⟨⟨p + 1, 3, _, rfl, by omega, by omega, hs, HJ.out⟩, by rw [itPos_eq HJ.out.it, HM.out]; omega⟩
        · rw [if_neg hu3] at hs
          have d3 : decide ((u : Int) < 3) = false := decide_eq_false (by omega)
          have d4 : ¬ (u : Int) < 3 := by omega
          clear y0 y1 y2 y3 y4 t0 t1 t2 k0 k1 k2 k3 k4 kf
          go_wp2_with fail
          go_roundw
          case rel => exact ⟨p + 1, u + 1, out, by go_num, by omega, by omega, hs, hI'⟩
          case measure => rw [itPos_eq hI'.it, HM.out]; omega
      · rw [if_neg h114] at hs
        have q1 : ((z : Int) == 114) = false := by simp; omega
        have q2 : decide ((z : Int) = 114) = false := decide_eq_false (by omega)
        have q3 : ¬ (z : Int) = 114 := by omega
        by_cases h110 : z = 110
        · rw [if_pos h110] at hs
          subst h110
          clear q1 q2 q3 h114
          go_wp2_with fail
          go_roundw
          case rel => exact ⟨p + 1, u, _, by go_num, by omega, by omega, hs, hI'.set hlt 4 _ _ rfl⟩
          case measure => rw [itPos_eq (hI'.set hlt 4 _ ⟨out.op, out.a, out.b, out.c, xn⟩ rfl).it, HM.out]; omega
        · rw [if_neg h110] at hs
          have r1 : ((z : Int) == 110) = false := by simp; omega
          have r2 : decide ((z : Int) = 110) = false := decide_eq_false (by omega)
          have r3 : ¬ (z : Int) = 110 := by omega
          by_cases h112 : z = 112
          · rw [if_pos h112] at hs
            subst h112
            rw [u1] at hs
            have v1 : Int.tmod U 16 = U % 16 := Int.tmod_eq_emod_of_nonneg hU0.1
            have v2 : IntKind.i64.wrap (U % 16) = U % 16 := by simp [IntKind.wrap, IntKind.bits, IntKind.signed]; omega
            clear q1 q2 q3 r1 r2 r3 h114 h110
            go_wp2_with fail
            go_roundw
            case rel => exact ⟨p + 1, u, _, by go_num, by omega, by omega, hs, hI'.set hlt 4 _ _ rfl⟩
            case measure => rw [itPos_eq (hI'.set hlt 4 _ ⟨out.op, out.a, out.b, out.c, U % 16⟩ rfl).it, HM.out]; omega
          · rw [if_neg h112] at hs
            have s1 : ((z : Int) == 112) = false := by simp; omega
            have s2 : decide ((z : Int) = 112) = false := decide_eq_false (by omega)
            have s3 : ¬ (z : Int) = 112 := by omega
            rw [u1] at hs
            have v1 : Int.tmod U n = U % n := Int.tmod_eq_emod_of_nonneg hU0.1
            have v2 : IntKind.i64.wrap (U % n) = U % n := by
              have := Int.emod_nonneg U (b := n) (by omega)
              have := Int.emod_lt_of_pos U (b := n) (by omega)
              simp [IntKind.wrap, IntKind.bits, IntKind.signed]; omega
            have v3 : IntKind.u64.wrap n = n := by simp [IntKind.wrap, IntKind.bits, IntKind.signed]; omega
            have v4 : (n == 0) = false := by simp; omega
            have v5 : ¬ n = 0 := by omega
            have v6 : n ≠ 0 := by omega
            have hmax : ∀ W : World, (Builtin.max_ #[3, 3] 3 #[.int .i64 n, .int .i64 1]).run Try.prog W = .ok (.int .i64 n) W := fun W => max_i64 _ _ _ _ 0 _ (by split <;> omega) W
            clear h114 h110 h112
            go_wp2_with fail
            go_roundw
            case rel => exact ⟨p + 1, u, _, by go_num, by omega, by omega, hs, hI'.set hlt 4 _ _ rfl⟩
            case measure => rw [itPos_eq (hI'.set hlt 4 _ ⟨out.op, out.a, out.b, out.c, U % n⟩ rfl).it, HM.out]; omega
    · have hpe : p = S.size := by omega
      have hn := fun ty => Lib.run_next_end_at (P := Try.prog) wr (B + 2) S p ty hI.it hps
      have b8 := hI.b8
      have b4 := hI.b4
      have hb := hI.below
      have hv : (F S.size).2 = out := by rw [← hpe, hF]
      have HV := Lib.hid hv
      clear hI hF hm hv
      go_wp2_with (first
        | refine wpList_load_row (P := Try.prog) rfl 28 (.tmp 8) rfl B rfl 28 _ (0, 0) _ b8 Try.underlying28 rfl (by kernel_rfl) ?_
        | refine wpList_store_row (P := Try.prog) rfl 28 (.tmp 4) (.tmp 76) rfl (w.heap.size + 1) #[.int .u8 out.op, .int .u8 out.a, .int .u8 out.b, .int .u8 out.c, .int .i64 out.n] rfl rfl 28 _ b4 (by kernel_rfl) rfl (by kernel_rfl) ?_)
      (try simp only [Exit.inBlock, Exit.then])
      refine bodyPost_ret (v := .agg #[.int .u8 out.op, .int .u8 out.a, .int .u8 out.b, .int .u8 out.c, .int .i64 out.n]) (results_cell_row (P := Try.prog) (p := 4) (ty := 28) rfl _ _ (w.heap.size + 1) 28 _ (0, 0) _ rfl (Blk.row b4 _) Try.underlying28 rfl (by kernel_rfl)) rfl ?_
      exact ⟨by rw [HV.out], below_setRow hb (Nat.le_succ _) _⟩

end Go.Proofs.Ytmljmabbopkpiaa
end
