import Derived.Test.YtmljmabbopkpiaaG6
import Derived.Test.YtmljmabbopkpiaaG7
section
/- check: divides, result, meet. -/
namespace Go.Proofs.Ytmljmabbopkpiaa.Vm
open Go.RowKit
attribute [local push_cast] runR opG gtmp gval gus opX tmpsOf tm tmO tmP restr look look2 tab tys zs ets eqB eqBL allB numOf ieq Int.cast_ofNat_Int Int.ofNat_zero beq_true beq_false frameOf ev evL ofV opV loadV noW pushF wrsL setH allBorn allGone HB.born HB.isGone HB.val SV.plain dstOk hp nav fitsT SV.size sizeL SV.isAgg TK.size TK.agg bin binE binN binI arN arI cmpN cmpI keq kn narrow callV storeV setp fillV buildV buildSliceV makeV sliceV appendV copyV List.isEmpty_nil srcV evO asN ite_t ite_f ite_bool ite_int ite_nat maxV v_beq v_ble v_blt cond_true cond_false List.getElem?_cons_zero List.getElem?_cons_succ List.getD_cons_zero List.getD_cons_succ List.getD_nil List.length_cons List.length_nil List.take_succ_cons List.take_zero List.set_cons_zero List.set_cons_succ List.cons_append List.nil_append List.append_assoc List.replicate_succ List.replicate_zero Nat.zero_add Nat.add_zero decide_true decide_false Bool.true_and Bool.and_true Bool.false_and Bool.and_false Bool.true_or Bool.or_true Bool.false_or Bool.or_false beq_self_eq_true Bool.or_self Nat.lt_irrefl Nat.not_lt_zero Nat.le_refl Option.getD_some Option.getD_none BEq.rfl Bool.not_true Bool.not_false Bool.cond_true_left Bool.cond_false_right prS sndsS i64S nav_ins nav_ins0 nav_ins1 nav_ins2 nav_ins3 nav_ins4 nav_snd nav_snd0 nav_snd1 nav_snd2 isIns_insS insOf_insS isSnd_sndS sndOf_sndS isI_int isI_nat iOf nav_k nav_k0 nav_k1 nav_ka nav_kai nav_ft nav_ft0 nav_ft1 isKn_kS knOf_kS isKa_kaS kaOf_kaS isFt_ftS ftOf_ftS setp_ka setp_ftk setp_ftr setp_fti evm_ins evm_snd evm_k evm_ka evm_ft
set_option linter.unusedVariables false
set_option linter.unusedSimpArgs false
set_option maxRecDepth 100000
set_option maxHeartbeats 4000000
/-! ### divides, result, meet -/
def noCk : FuncId → Option Spec := look2 []
theorem noCk_ok : ∀ f S, noCk f = some S → CallOk Try.prog f S := fun f S h => by cases h
theorem div_lit (i : Ins) : LitOk Try.prog 103 [insS i] [.gone] (.bool (divB i.op)) [.gone] := by
  refine litOkM (fn := Try.f103) 1 16 0 rfl rfl rfl rfl rfl (by simp only [StableL, Stable, hp]; simp [HB.born, insS, Stable, StableL]) rfl fun w0 M E hro => ?_
  by_cases h1 : i.op = 36
  · have e : divB i.op = true := by simp [divB, h1]
    rw [e]
    repeat' (first | with_reducible (first | apply J1 | apply J3 | apply J4 | apply J5 | apply J6 | apply J7 | apply J8 | apply J9 | apply J10 | apply J11 | apply J12 | apply J13 | apply J14 | apply J15 | apply J16 | apply J17 | apply J18 | apply J19 | apply J20 | refine J2 ?_) | ((with_reducible apply J21); (· rfl)) | ((with_reducible intro hif); first | (focus (cases hif; done)) | (simp only [JH] at hif; try (exfalso; omega)) | (try (exfalso; omega))) | ((first | ((with_reducible apply J22 noCk_ok tab_ok); (· rfl)) | ((with_reducible apply J23 fol noCk_ok tab_ok); (· rfl)) | with_reducible apply J24); (· (simp only [push_cast, ↓JP, Nat.reduceAdd, Nat.reduceEqDiff, Nat.reduceLT, Nat.reduceMul, Nat.reduceLeDiff, reduceCtorEq, reduceIte, ↓JK, ↓JF, h1]; rfl)); (try kernel_rfl); (try (focus (first | exact True.intro | ((try simp only [JS, implies_true, forall_const, shaped, shapedL, kndOf, h1]); (repeat' (first | assumption | exact True.intro | omega | apply And.intro)); done) | ((repeat' (first | assumption | exact True.intro | omega | apply And.intro)); done))))) | fail)
    apply At.endsRet tab_ok (fn := Try.f103) (rs := [.tmp 2]) Anc.refl hro (Nat.le_of_ble_eq_true rfl) rfl
    · simp only [push_cast, ↓JP, Nat.reduceAdd, Nat.reduceEqDiff, Nat.reduceLT, Nat.reduceMul, Nat.reduceLeDiff, reduceCtorEq, reduceIte, ↓JK, ↓JF, resV, resV1]; rfl
    · (first | trivial | (simp only [and_self]; done))
    · (repeat' (first | exact trivial | exact .same _ | exact .dead _ | exact .gone rfl | exact .loose | assumption | exact .arr (by assumption) | apply And.intro))
    · rfl
    · (repeat' (first | exact trivial | exact rfl | assumption | apply Stable.ite | apply And.intro | intro _ | (simp only [Stable, StableL, i64S, prS, insS, sndsS, sndS, kS, kaS, ftS, ftsS]; done)))
    · (repeat' (first | exact trivial | exact .inl rfl | exact .inr rfl | exact rfl | apply And.intro))
    · exact fun β => rfl
    · (repeat' (first | exact trivial | exact rfl | assumption | apply Stable.ite | apply And.intro | intro _ | (simp only [Stable, StableL, i64S, prS, insS, sndsS, sndS, kS, kaS, ftS, ftsS]; done)))
  · by_cases h2 : i.op = 37
    · have e : divB i.op = true := by simp [divB, h2]
      rw [e]
      repeat' (first | with_reducible (first | apply J1 | apply J3 | apply J4 | apply J5 | apply J6 | apply J7 | apply J8 | apply J9 | apply J10 | apply J11 | apply J12 | apply J13 | apply J14 | apply J15 | apply J16 | apply J17 | apply J18 | apply J19 | apply J20 | refine J2 ?_) | ((with_reducible apply J21); (· rfl)) | ((with_reducible intro hif); first | (focus (cases hif; done)) | (simp only [JH] at hif; try (exfalso; omega)) | (try (exfalso; omega))) | ((first | ((with_reducible apply J22 noCk_ok tab_ok); (· rfl)) | ((with_reducible apply J23 fol noCk_ok tab_ok); (· rfl)) | with_reducible apply J24); (· (simp only [push_cast, ↓JP, Nat.reduceAdd, Nat.reduceEqDiff, Nat.reduceLT, Nat.reduceMul, Nat.reduceLeDiff, reduceCtorEq, reduceIte, ↓JK, ↓JF, h2]; rfl)); (try kernel_rfl); (try (focus (first | exact True.intro | ((try simp only [JS, implies_true, forall_const, shaped, shapedL, kndOf, h2]); (repeat' (first | assumption | exact True.intro | omega | apply And.intro)); done) | ((repeat' (first | assumption | exact True.intro | omega | apply And.intro)); done))))) | fail)
      apply At.endsRet tab_ok (fn := Try.f103) (rs := [.tmp 2]) Anc.refl hro (Nat.le_of_ble_eq_true rfl) rfl
      · simp only [push_cast, ↓JP, Nat.reduceAdd, Nat.reduceEqDiff, Nat.reduceLT, Nat.reduceMul, Nat.reduceLeDiff, reduceCtorEq, reduceIte, ↓JK, ↓JF, resV, resV1]; rfl
      · (first | trivial | (simp only [and_self]; done))
      · (repeat' (first | exact trivial | exact .same _ | exact .dead _ | exact .gone rfl | exact .loose | assumption | exact .arr (by assumption) | apply And.intro))
      · rfl
      · (repeat' (first | exact trivial | exact rfl | assumption | apply Stable.ite | apply And.intro | intro _ | (simp only [Stable, StableL, i64S, prS, insS, sndsS, sndS, kS, kaS, ftS, ftsS]; done)))
      · (repeat' (first | exact trivial | exact .inl rfl | exact .inr rfl | exact rfl | apply And.intro))
      · exact fun β => rfl
      · (repeat' (first | exact trivial | exact rfl | assumption | apply Stable.ite | apply And.intro | intro _ | (simp only [Stable, StableL, i64S, prS, insS, sndsS, sndS, kS, kaS, ftS, ftsS]; done)))
    · by_cases h3 : i.op = 38
      · have e : divB i.op = true := by simp [divB, h3]
        rw [e]
        repeat' (first | with_reducible (first | apply J1 | apply J3 | apply J4 | apply J5 | apply J6 | apply J7 | apply J8 | apply J9 | apply J10 | apply J11 | apply J12 | apply J13 | apply J14 | apply J15 | apply J16 | apply J17 | apply J18 | apply J19 | apply J20 | refine J2 ?_) | ((with_reducible apply J21); (· rfl)) | ((with_reducible intro hif); first | (focus (cases hif; done)) | (simp only [JH] at hif; try (exfalso; omega)) | (try (exfalso; omega))) | ((first | ((with_reducible apply J22 noCk_ok tab_ok); (· rfl)) | ((with_reducible apply J23 fol noCk_ok tab_ok); (· rfl)) | with_reducible apply J24); (· (simp only [push_cast, ↓JP, Nat.reduceAdd, Nat.reduceEqDiff, Nat.reduceLT, Nat.reduceMul, Nat.reduceLeDiff, reduceCtorEq, reduceIte, ↓JK, ↓JF, h3]; rfl)); (try kernel_rfl); (try (focus (first | exact True.intro | ((try simp only [JS, implies_true, forall_const, shaped, shapedL, kndOf, h3]); (repeat' (first | assumption | exact True.intro | omega | apply And.intro)); done) | ((repeat' (first | assumption | exact True.intro | omega | apply And.intro)); done))))) | fail)
        apply At.endsRet tab_ok (fn := Try.f103) (rs := [.tmp 2]) Anc.refl hro (Nat.le_of_ble_eq_true rfl) rfl
        · simp only [push_cast, ↓JP, Nat.reduceAdd, Nat.reduceEqDiff, Nat.reduceLT, Nat.reduceMul, Nat.reduceLeDiff, reduceCtorEq, reduceIte, ↓JK, ↓JF, resV, resV1]; rfl
        · (first | trivial | (simp only [and_self]; done))
        · (repeat' (first | exact trivial | exact .same _ | exact .dead _ | exact .gone rfl | exact .loose | assumption | exact .arr (by assumption) | apply And.intro))
        · rfl
        · (repeat' (first | exact trivial | exact rfl | assumption | apply Stable.ite | apply And.intro | intro _ | (simp only [Stable, StableL, i64S, prS, insS, sndsS, sndS, kS, kaS, ftS, ftsS]; done)))
        · (repeat' (first | exact trivial | exact .inl rfl | exact .inr rfl | exact rfl | apply And.intro))
        · exact fun β => rfl
        · (repeat' (first | exact trivial | exact rfl | assumption | apply Stable.ite | apply And.intro | intro _ | (simp only [Stable, StableL, i64S, prS, insS, sndsS, sndS, kS, kaS, ftS, ftsS]; done)))
      · have e : divB i.op = false := by simp [divB, h1, h2, h3]
        rw [e]
        repeat' (first | with_reducible (first | apply J1 | apply J3 | apply J4 | apply J5 | apply J6 | apply J7 | apply J8 | apply J9 | apply J10 | apply J11 | apply J12 | apply J13 | apply J14 | apply J15 | apply J16 | apply J17 | apply J18 | apply J19 | apply J20 | refine J2 ?_) | ((with_reducible apply J21); (· rfl)) | ((with_reducible intro hif); first | (focus (cases hif; done)) | (simp only [JH] at hif; try (exfalso; omega)) | (try (exfalso; omega))) | ((first | ((with_reducible apply J22 noCk_ok tab_ok); (· rfl)) | ((with_reducible apply J23 fol noCk_ok tab_ok); (· rfl)) | with_reducible apply J24); (· (simp only [push_cast, ↓JP, Nat.reduceAdd, Nat.reduceEqDiff, Nat.reduceLT, Nat.reduceMul, Nat.reduceLeDiff, reduceCtorEq, reduceIte, ↓JK, ↓JF, h1, h2, h3]; rfl)); (try kernel_rfl); (try (focus (first | exact True.intro | ((try simp only [JS, implies_true, forall_const, shaped, shapedL, kndOf, h1, h2, h3]); (repeat' (first | assumption | exact True.intro | omega | apply And.intro)); done) | ((repeat' (first | assumption | exact True.intro | omega | apply And.intro)); done))))) | fail)
        apply At.endsRet tab_ok (fn := Try.f103) (rs := [.tmp 2]) Anc.refl hro (Nat.le_of_ble_eq_true rfl) rfl
        · simp only [push_cast, ↓JP, Nat.reduceAdd, Nat.reduceEqDiff, Nat.reduceLT, Nat.reduceMul, Nat.reduceLeDiff, reduceCtorEq, reduceIte, ↓JK, ↓JF, resV, resV1]; rfl
        · (first | trivial | (simp only [and_self]; done))
        · (repeat' (first | exact trivial | exact .same _ | exact .dead _ | exact .gone rfl | exact .loose | assumption | exact .arr (by assumption) | apply And.intro))
        · rfl
        · (repeat' (first | exact trivial | exact rfl | assumption | apply Stable.ite | apply And.intro | intro _ | (simp only [Stable, StableL, i64S, prS, insS, sndsS, sndS, kS, kaS, ftS, ftsS]; done)))
        · (repeat' (first | exact trivial | exact .inl rfl | exact .inr rfl | exact rfl | apply And.intro))
        · exact fun β => rfl
        · (repeat' (first | exact trivial | exact rfl | assumption | apply Stable.ite | apply And.intro | intro _ | (simp only [Stable, StableL, i64S, prS, insS, sndsS, sndS, kS, kaS, ftS, ftsS]; done)))
def sDiv : Spec := fun args h m => match args with
  | [v1] => bif isIns v1 then some (True, .bool (divB (insOf v1).op), [], []) else none
  | _ => none
theorem sDiv_ok : CallOk Try.prog 103 sDiv := by
  refine ⟨named_spec (by kernel_rfl), fun args h m c v rd wr hs hm hc w0 M β h' w R hrd hwr hst => ?_⟩
  unfold sDiv at hs
  split at hs
  · rename_i v1
    obtain ⟨hb, hs⟩ := bif_some hs
    simp only [Option.some.injEq, Prod.mk.injEq] at hs
    obtain ⟨rfl, rfl, rfl, rfl⟩ := hs
    have b1 := hb
    refine callRo (views := []) (div_lit (insOf v1)) ?_ R hm hwr ?_ ?_ ?_
    · intro x hx; cases hx
    · intro β1 hv
      simp only [denL, aggDen, intDen, natDen, boolDen, ls_length, den_insOf b1, den_insS]
    · (repeat' (first | exact trivial | exact rfl | assumption | apply Stable.ite | apply And.intro | intro _ | (simp only [Stable, StableL, i64S, prS, insS, sndsS, sndS, kS, kaS, ftS, ftsS]; done)))
    · (repeat' (first | exact trivial | exact rfl | assumption | apply Stable.ite | apply And.intro | intro _ | (simp only [Stable, StableL, i64S, prS, insS, sndsS, sndS, kS, kaS, ftS, ftsS]; done)))
  · cases hs
def sApply : Spec := fun args h m => match args with
  | [v1, v2, v3] => bif isI .u8 v1 && isI .i64 v2 && isI .i64 v3 then some (True, .tup [.int .i64 (applyV (iOf v1) (iOf v2) (iOf v3)), .int .i64 (wrongE (iOf v1) (iOf v3))], [], []) else none
  | _ => none
theorem sApply_ok : CallOk Try.prog 29 sApply := by
  refine ⟨named_spec (by kernel_rfl), fun args h m c v rd wr hs hm hc w0 M β h' w R hrd hwr hst => ?_⟩
  unfold sApply at hs
  split at hs
  · rename_i v1 v2 v3
    obtain ⟨hb, hs⟩ := bif_some hs
    simp only [Option.some.injEq, Prod.mk.injEq] at hs
    obtain ⟨rfl, rfl, rfl, rfl⟩ := hs
    simp only [Bool.and_eq_true] at hb
    obtain ⟨⟨b1, b2⟩, b3⟩ := hb
    simp only [denL, aggDen, intDen, natDen, boolDen, isI_den b1, isI_den b2, isI_den b3]
    exact (apply_c (iOf v1) (iOf v2) (iOf v3) w).mono fun e w' he => post_read R (by (repeat' (first | exact trivial | exact rfl | assumption | apply Stable.ite | apply And.intro | intro _ | (simp only [Stable, StableL, i64S, prS, insS, sndsS, sndS, kS, kaS, ftS, ftsS]; done)))) rfl he.1 he.2
  · cases hs
def cRes : FuncId → Option Spec := look2 [(103, sDiv), (29, sApply)]
theorem cRes_ok : ∀ f S, cRes f = some S → CallOk Try.prog f S := allOk_spec ⟨sDiv_ok, sApply_ok, trivial⟩
theorem result_lit (i : Ins) (r : Nat → Kn) (hi : i.ok) (hb : i.b < 8) (hc : i.c < 8) : LitOk Try.prog 126 [insS i, kaS r] [.gone] (.tup [kS (resK i r).1, .bool (resK i r).2]) [.gone] := by
  refine litOkM (fn := Try.f126) 1 71 0 rfl rfl rfl rfl rfl (by simp only [StableL, Stable, hp]; simp [HB.born, insS, kaS, kS, Stable, StableL]) rfl fun w0 M E hro => ?_
  obtain ⟨o0, o1, a0, a1, b0, b1, c0, c1, n0, n1⟩ := hi
  have hbn : i.b.toNat < 8 := by omega
  have hcn : i.c.toNat < 8 := by omega
  by_cases h3 : i.op = 3
  · have e : resK i r = (⟨true, i.n⟩, true) := by unfold resK; rw [if_pos h3]
    rw [e]
    repeat' (first | with_reducible (first | apply J1 | apply J3 | apply J4 | apply J5 | apply J6 | apply J7 | apply J8 | apply J9 | apply J10 | apply J11 | apply J12 | apply J13 | apply J14 | apply J15 | apply J16 | apply J17 | apply J18 | apply J19 | apply J20 | refine J2 ?_) | ((with_reducible apply J21); (· rfl)) | ((with_reducible intro hif); first | (focus (cases hif; done)) | (simp only [JH] at hif; try (exfalso; omega)) | (try (exfalso; omega))) | ((first | ((with_reducible apply J22 cRes_ok tab_ok); (· rfl)) | ((with_reducible apply J23 fol cRes_ok tab_ok); (· rfl)) | with_reducible apply J24); (· (simp only [push_cast, ↓JP, Nat.reduceAdd, Nat.reduceEqDiff, Nat.reduceLT, Nat.reduceMul, Nat.reduceLeDiff, reduceCtorEq, reduceIte, ↓JK, ↓JF, cRes, h3, inN, inR]; rfl)); (try kernel_rfl); (try (focus (first | exact True.intro | ((try simp only [JS, implies_true, forall_const, shaped, shapedL, kndOf, cRes, h3, inN, inR]); (repeat' (first | assumption | exact True.intro | omega | apply And.intro)); done) | ((repeat' (first | assumption | exact True.intro | omega | apply And.intro)); done))))) | fail)
    apply At.endsRet tab_ok (fn := Try.f126) (rs := [.cell 4 41, .tmp 5]) Anc.refl hro (Nat.le_of_ble_eq_true rfl) rfl
    · simp only [push_cast, ↓JP, Nat.reduceAdd, Nat.reduceEqDiff, Nat.reduceLT, Nat.reduceMul, Nat.reduceLeDiff, reduceCtorEq, reduceIte, ↓JK, ↓JF, resV, resV1]; rfl
    · (first | trivial | (simp only [and_self]; done))
    · (repeat' (first | exact trivial | exact .same _ | exact .dead _ | exact .gone rfl | exact .loose | assumption | exact .arr (by assumption) | apply And.intro))
    · rfl
    · (repeat' (first | exact trivial | exact rfl | assumption | apply Stable.ite | apply And.intro | intro _ | (simp only [Stable, StableL, i64S, prS, insS, sndsS, sndS, kS, kaS, ftS, ftsS]; done)))
    · (repeat' (first | exact trivial | exact .inl rfl | exact .inr rfl | exact rfl | apply And.intro))
    · exact fun β => rfl
    · (repeat' (first | exact trivial | exact rfl | assumption | apply Stable.ite | apply And.intro | intro _ | (simp only [Stable, StableL, i64S, prS, insS, sndsS, sndS, kS, kaS, ftS, ftsS]; done)))
  by_cases h4 : i.op = 4
  · have e : resK i r = (r i.b.toNat, true) := by unfold resK; rw [if_neg h3, if_pos h4]
    rw [e]
    repeat' (first | with_reducible (first | apply J1 | apply J3 | apply J4 | apply J5 | apply J6 | apply J7 | apply J8 | apply J9 | apply J10 | apply J11 | apply J12 | apply J13 | apply J14 | apply J15 | apply J16 | apply J17 | apply J18 | apply J19 | apply J20 | refine J2 ?_) | ((with_reducible apply J21); (· rfl)) | ((with_reducible intro hif); first | (focus (cases hif; done)) | (simp only [JH] at hif; try (exfalso; omega)) | (try (exfalso; omega))) | ((first | ((with_reducible apply J22 cRes_ok tab_ok); (· rfl)) | ((with_reducible apply J23 fol cRes_ok tab_ok); (· rfl)) | with_reducible apply J24); (· (simp only [push_cast, ↓JP, Nat.reduceAdd, Nat.reduceEqDiff, Nat.reduceLT, Nat.reduceMul, Nat.reduceLeDiff, reduceCtorEq, reduceIte, ↓JK, ↓JF, cRes, h3, h4, inN, inR]; rfl)); (try kernel_rfl); (try (focus (first | exact True.intro | ((try simp only [JS, implies_true, forall_const, shaped, shapedL, kndOf, cRes, h3, h4, inN, inR]); (repeat' (first | assumption | exact True.intro | omega | apply And.intro)); done) | ((repeat' (first | assumption | exact True.intro | omega | apply And.intro)); done))))) | fail)
    apply At.endsRet tab_ok (fn := Try.f126) (rs := [.cell 4 41, .tmp 5]) Anc.refl hro (Nat.le_of_ble_eq_true rfl) rfl
    · simp only [push_cast, ↓JP, Nat.reduceAdd, Nat.reduceEqDiff, Nat.reduceLT, Nat.reduceMul, Nat.reduceLeDiff, reduceCtorEq, reduceIte, ↓JK, ↓JF, resV, resV1]; rfl
    · (first | trivial | (simp only [and_self]; done))
    · (repeat' (first | exact trivial | exact .same _ | exact .dead _ | exact .gone rfl | exact .loose | assumption | exact .arr (by assumption) | apply And.intro))
    · rfl
    · (repeat' (first | exact trivial | exact rfl | assumption | apply Stable.ite | apply And.intro | intro _ | (simp only [Stable, StableL, i64S, prS, insS, sndsS, sndS, kS, kaS, ftS, ftsS]; done)))
    · (repeat' (first | exact trivial | exact .inl rfl | exact .inr rfl | exact rfl | apply And.intro))
    · exact fun β => rfl
    · (repeat' (first | exact trivial | exact rfl | assumption | apply Stable.ite | apply And.intro | intro _ | (simp only [Stable, StableL, i64S, prS, insS, sndsS, sndS, kS, kaS, ftS, ftsS]; done)))
  by_cases h32 : i.op ≤ 32
  · have e : resK i r = (K0, true) := by unfold resK; rw [if_neg h3, if_neg h4, if_pos h32]
    rw [e]
    repeat' (first | with_reducible (first | apply J1 | apply J3 | apply J4 | apply J5 | apply J6 | apply J7 | apply J8 | apply J9 | apply J10 | apply J11 | apply J12 | apply J13 | apply J14 | apply J15 | apply J16 | apply J17 | apply J18 | apply J19 | apply J20 | refine J2 ?_) | ((with_reducible apply J21); (· rfl)) | ((with_reducible intro hif); first | (focus (cases hif; done)) | (simp only [JH] at hif; try (exfalso; omega)) | (try (exfalso; omega))) | ((first | ((with_reducible apply J22 cRes_ok tab_ok); (· rfl)) | ((with_reducible apply J23 fol cRes_ok tab_ok); (· rfl)) | with_reducible apply J24); (· (simp only [push_cast, ↓JP, Nat.reduceAdd, Nat.reduceEqDiff, Nat.reduceLT, Nat.reduceMul, Nat.reduceLeDiff, reduceCtorEq, reduceIte, ↓JK, ↓JF, cRes, h3, h4, h32, inN, inR]; rfl)); (try kernel_rfl); (try (focus (first | exact True.intro | ((try simp only [JS, implies_true, forall_const, shaped, shapedL, kndOf, cRes, h3, h4, h32, inN, inR]); (repeat' (first | assumption | exact True.intro | omega | apply And.intro)); done) | ((repeat' (first | assumption | exact True.intro | omega | apply And.intro)); done))))) | fail)
    apply At.endsRet tab_ok (fn := Try.f126) (rs := [.cell 4 41, .tmp 5]) Anc.refl hro (Nat.le_of_ble_eq_true rfl) rfl
    · simp only [push_cast, ↓JP, Nat.reduceAdd, Nat.reduceEqDiff, Nat.reduceLT, Nat.reduceMul, Nat.reduceLeDiff, reduceCtorEq, reduceIte, ↓JK, ↓JF, resV, resV1]; rfl
    · (first | trivial | (simp only [and_self]; done))
    · (repeat' (first | exact trivial | exact .same _ | exact .dead _ | exact .gone rfl | exact .loose | assumption | exact .arr (by assumption) | apply And.intro))
    · rfl
    · (repeat' (first | exact trivial | exact rfl | assumption | apply Stable.ite | apply And.intro | intro _ | (simp only [Stable, StableL, i64S, prS, insS, sndsS, sndS, kS, kaS, ftS, ftsS]; done)))
    · (repeat' (first | exact trivial | exact .inl rfl | exact .inr rfl | exact rfl | apply And.intro))
    · exact fun β => rfl
    · (repeat' (first | exact trivial | exact rfl | assumption | apply Stable.ite | apply And.intro | intro _ | (simp only [Stable, StableL, i64S, prS, insS, sndsS, sndS, kS, kaS, ftS, ftsS]; done)))
  by_cases hd : divB i.op = true ∧ r i.c.toNat = ⟨true, 0⟩
  · have e : resK i r = (K0, false) := by unfold resK; rw [if_neg h3, if_neg h4, if_neg h32, if_pos hd]
    rw [e]
    repeat' (first | with_reducible (first | apply J1 | apply J3 | apply J4 | apply J5 | apply J6 | apply J7 | apply J8 | apply J9 | apply J10 | apply J11 | apply J12 | apply J13 | apply J14 | apply J15 | apply J16 | apply J17 | apply J18 | apply J19 | apply J20 | refine J2 ?_) | ((with_reducible apply J21); (· rfl)) | ((with_reducible intro hif); first | (focus (cases hif; done)) | (simp only [JH] at hif; try (exfalso; omega)) | (try (exfalso; omega))) | ((first | ((with_reducible apply J22 cRes_ok tab_ok); (· rfl)) | ((with_reducible apply J23 fol cRes_ok tab_ok); (· rfl)) | with_reducible apply J24); (· (simp only [push_cast, ↓JP, Nat.reduceAdd, Nat.reduceEqDiff, Nat.reduceLT, Nat.reduceMul, Nat.reduceLeDiff, reduceCtorEq, reduceIte, ↓JK, ↓JF, cRes, sDiv, h3, h4, h32, hd.1, hd.2, ↓kn_eqZ, inN, inR]; rfl)); (try kernel_rfl); (try (focus (first | exact True.intro | ((try simp only [JS, implies_true, forall_const, shaped, shapedL, kndOf, cRes, sDiv, h3, h4, h32, hd.1, hd.2, ↓kn_eqZ, inN, inR]); (repeat' (first | assumption | exact True.intro | omega | apply And.intro)); done) | ((repeat' (first | assumption | exact True.intro | omega | apply And.intro)); done))))) | fail)
    apply At.endsRet tab_ok (fn := Try.f126) (rs := [.cell 4 41, .tmp 5]) Anc.refl hro (Nat.le_of_ble_eq_true rfl) rfl
    · simp only [push_cast, ↓JP, Nat.reduceAdd, Nat.reduceEqDiff, Nat.reduceLT, Nat.reduceMul, Nat.reduceLeDiff, reduceCtorEq, reduceIte, ↓JK, ↓JF, resV, resV1]; rfl
    · (first | trivial | (simp only [and_self]; done))
    · (repeat' (first | exact trivial | exact .same _ | exact .dead _ | exact .gone rfl | exact .loose | assumption | exact .arr (by assumption) | apply And.intro))
    · rfl
    · (repeat' (first | exact trivial | exact rfl | assumption | apply Stable.ite | apply And.intro | intro _ | (simp only [Stable, StableL, i64S, prS, insS, sndsS, sndS, kS, kaS, ftS, ftsS]; done)))
    · (repeat' (first | exact trivial | exact .inl rfl | exact .inr rfl | exact rfl | apply And.intro))
    · exact fun β => rfl
    · (repeat' (first | exact trivial | exact rfl | assumption | apply Stable.ite | apply And.intro | intro _ | (simp only [Stable, StableL, i64S, prS, insS, sndsS, sndS, kS, kaS, ftS, ftsS]; done)))
  have hdz : divB i.op = true → (r i.c.toNat).is_ = true → (r i.c.toNat).n ≠ 0 := fun h1 h2 h3 => hd ⟨h1, by rw [← h2, ← h3]⟩
  have q1 : resK i r = if (r i.b.toNat).is_ = false ∨ (r i.c.toNat).is_ = false then (K0, true) else (⟨wrongE (i.op - 32) (r i.c.toNat).n == 0, applyV (i.op - 32) (r i.b.toNat).n (r i.c.toNat).n⟩, wrongE (i.op - 32) (r i.c.toNat).n == 0) := by
    unfold resK; rw [if_neg h3, if_neg h4, if_neg h32, if_neg hd]
  cases hdv : divB i.op <;> cases hb1 : (r i.b.toNat).is_ <;> cases hc1 : (r i.c.toNat).is_
  · -- false false false
    have e : resK i r = (K0, true) := by rw [q1, if_pos (by simp [hb1, hc1])]
    rw [e]
    repeat' (first | with_reducible (first | apply J1 | apply J3 | apply J4 | apply J5 | apply J6 | apply J7 | apply J8 | apply J9 | apply J10 | apply J11 | apply J12 | apply J13 | apply J14 | apply J15 | apply J16 | apply J17 | apply J18 | apply J19 | apply J20 | refine J2 ?_) | ((with_reducible apply J21); (· rfl)) | ((with_reducible intro hif); first | (focus (cases hif; done)) | (simp only [JH] at hif; try (exfalso; omega)) | (try (exfalso; omega))) | ((first | ((with_reducible apply J22 cRes_ok tab_ok); (· rfl)) | ((with_reducible apply J23 fol cRes_ok tab_ok); (· rfl)) | with_reducible apply J24); (· (simp only [push_cast, ↓JP, Nat.reduceAdd, Nat.reduceEqDiff, Nat.reduceLT, Nat.reduceMul, Nat.reduceLeDiff, reduceCtorEq, reduceIte, ↓JK, ↓JF, cRes, sDiv, sApply, h3, h4, h32, hdv, hb1, hc1, ↓kn_eqZ, inN, inR]; rfl)); (try kernel_rfl); (try (focus (first | exact True.intro | ((try simp only [JS, implies_true, forall_const, shaped, shapedL, kndOf, cRes, sDiv, sApply, h3, h4, h32, hdv, hb1, hc1, ↓kn_eqZ, inN, inR]); (repeat' (first | assumption | exact True.intro | omega | apply And.intro)); done) | ((repeat' (first | assumption | exact True.intro | omega | apply And.intro)); done))))) | fail)
    apply At.endsRet tab_ok (fn := Try.f126) (rs := [.cell 4 41, .tmp 5]) Anc.refl hro (Nat.le_of_ble_eq_true rfl) rfl
    · simp only [push_cast, ↓JP, Nat.reduceAdd, Nat.reduceEqDiff, Nat.reduceLT, Nat.reduceMul, Nat.reduceLeDiff, reduceCtorEq, reduceIte, ↓JK, ↓JF, resV, resV1]; rfl
    · (first | trivial | (simp only [and_self]; done))
    · (repeat' (first | exact trivial | exact .same _ | exact .dead _ | exact .gone rfl | exact .loose | assumption | exact .arr (by assumption) | apply And.intro))
    · rfl
    · (repeat' (first | exact trivial | exact rfl | assumption | apply Stable.ite | apply And.intro | intro _ | (simp only [Stable, StableL, i64S, prS, insS, sndsS, sndS, kS, kaS, ftS, ftsS]; done)))
    · (repeat' (first | exact trivial | exact .inl rfl | exact .inr rfl | exact rfl | apply And.intro))
    · exact fun β => rfl
    · (repeat' (first | exact trivial | exact rfl | assumption | apply Stable.ite | apply And.intro | intro _ | (simp only [Stable, StableL, i64S, prS, insS, sndsS, sndS, kS, kaS, ftS, ftsS]; done)))
  · -- false false true
    have e : resK i r = (K0, true) := by rw [q1, if_pos (by simp [hb1, hc1])]
    rw [e]
    repeat' (first | with_reducible (first | apply J1 | apply J3 | apply J4 | apply J5 | apply J6 | apply J7 | apply J8 | apply J9 | apply J10 | apply J11 | apply J12 | apply J13 | apply J14 | apply J15 | apply J16 | apply J17 | apply J18 | apply J19 | apply J20 | refine J2 ?_) | ((with_reducible apply J21); (· rfl)) | ((with_reducible intro hif); first | (focus (cases hif; done)) | (simp only [JH] at hif; try (exfalso; omega)) | (try (exfalso; omega))) | ((first | ((with_reducible apply J22 cRes_ok tab_ok); (· rfl)) | ((with_reducible apply J23 fol cRes_ok tab_ok); (· rfl)) | with_reducible apply J24); (· (simp only [push_cast, ↓JP, Nat.reduceAdd, Nat.reduceEqDiff, Nat.reduceLT, Nat.reduceMul, Nat.reduceLeDiff, reduceCtorEq, reduceIte, ↓JK, ↓JF, cRes, sDiv, sApply, h3, h4, h32, hdv, hb1, hc1, ↓kn_eqZ, inN, inR]; rfl)); (try kernel_rfl); (try (focus (first | exact True.intro | ((try simp only [JS, implies_true, forall_const, shaped, shapedL, kndOf, cRes, sDiv, sApply, h3, h4, h32, hdv, hb1, hc1, ↓kn_eqZ, inN, inR]); (repeat' (first | assumption | exact True.intro | omega | apply And.intro)); done) | ((repeat' (first | assumption | exact True.intro | omega | apply And.intro)); done))))) | fail)
    apply At.endsRet tab_ok (fn := Try.f126) (rs := [.cell 4 41, .tmp 5]) Anc.refl hro (Nat.le_of_ble_eq_true rfl) rfl
    · simp only [push_cast, ↓JP, Nat.reduceAdd, Nat.reduceEqDiff, Nat.reduceLT, Nat.reduceMul, Nat.reduceLeDiff, reduceCtorEq, reduceIte, ↓JK, ↓JF, resV, resV1]; rfl
    · (first | trivial | (simp only [and_self]; done))
    · (repeat' (first | exact trivial | exact .same _ | exact .dead _ | exact .gone rfl | exact .loose | assumption | exact .arr (by assumption) | apply And.intro))
    · rfl
    · (repeat' (first | exact trivial | exact rfl | assumption | apply Stable.ite | apply And.intro | intro _ | (simp only [Stable, StableL, i64S, prS, insS, sndsS, sndS, kS, kaS, ftS, ftsS]; done)))
    · (repeat' (first | exact trivial | exact .inl rfl | exact .inr rfl | exact rfl | apply And.intro))
    · exact fun β => rfl
    · (repeat' (first | exact trivial | exact rfl | assumption | apply Stable.ite | apply And.intro | intro _ | (simp only [Stable, StableL, i64S, prS, insS, sndsS, sndS, kS, kaS, ftS, ftsS]; done)))
  · -- false true false
    have e : resK i r = (K0, true) := by rw [q1, if_pos (by simp [hb1, hc1])]
    rw [e]
    repeat' (first | with_reducible (first | apply J1 | apply J3 | apply J4 | apply J5 | apply J6 | apply J7 | apply J8 | apply J9 | apply J10 | apply J11 | apply J12 | apply J13 | apply J14 | apply J15 | apply J16 | apply J17 | apply J18 | apply J19 | apply J20 | refine J2 ?_) | ((with_reducible apply J21); (· rfl)) | ((with_reducible intro hif); first | (focus (cases hif; done)) | (simp only [JH] at hif; try (exfalso; omega)) | (try (exfalso; omega))) | ((first | ((with_reducible apply J22 cRes_ok tab_ok); (· rfl)) | ((with_reducible apply J23 fol cRes_ok tab_ok); (· rfl)) | with_reducible apply J24); (· (simp only [push_cast, ↓JP, Nat.reduceAdd, Nat.reduceEqDiff, Nat.reduceLT, Nat.reduceMul, Nat.reduceLeDiff, reduceCtorEq, reduceIte, ↓JK, ↓JF, cRes, sDiv, sApply, h3, h4, h32, hdv, hb1, hc1, ↓kn_eqZ, inN, inR]; rfl)); (try kernel_rfl); (try (focus (first | exact True.intro | ((try simp only [JS, implies_true, forall_const, shaped, shapedL, kndOf, cRes, sDiv, sApply, h3, h4, h32, hdv, hb1, hc1, ↓kn_eqZ, inN, inR]); (repeat' (first | assumption | exact True.intro | omega | apply And.intro)); done) | ((repeat' (first | assumption | exact True.intro | omega | apply And.intro)); done))))) | fail)
    apply At.endsRet tab_ok (fn := Try.f126) (rs := [.cell 4 41, .tmp 5]) Anc.refl hro (Nat.le_of_ble_eq_true rfl) rfl
    · simp only [push_cast, ↓JP, Nat.reduceAdd, Nat.reduceEqDiff, Nat.reduceLT, Nat.reduceMul, Nat.reduceLeDiff, reduceCtorEq, reduceIte, ↓JK, ↓JF, resV, resV1]; rfl
    · (first | trivial | (simp only [and_self]; done))
    · (repeat' (first | exact trivial | exact .same _ | exact .dead _ | exact .gone rfl | exact .loose | assumption | exact .arr (by assumption) | apply And.intro))
    · rfl
    · (repeat' (first | exact trivial | exact rfl | assumption | apply Stable.ite | apply And.intro | intro _ | (simp only [Stable, StableL, i64S, prS, insS, sndsS, sndS, kS, kaS, ftS, ftsS]; done)))
    · (repeat' (first | exact trivial | exact .inl rfl | exact .inr rfl | exact rfl | apply And.intro))
    · exact fun β => rfl
    · (repeat' (first | exact trivial | exact rfl | assumption | apply Stable.ite | apply And.intro | intro _ | (simp only [Stable, StableL, i64S, prS, insS, sndsS, sndS, kS, kaS, ftS, ftsS]; done)))
  · -- false true true
    have e : resK i r = (⟨decide (wrongE (i.op - 32) (r i.c.toNat).n = 0), applyV (i.op - 32) (r i.b.toNat).n (r i.c.toNat).n⟩, decide (wrongE (i.op - 32) (r i.c.toNat).n = 0)) := by rw [q1, if_neg (by simp [hb1, hc1])]; rfl
    rw [e]
    repeat' (first | with_reducible (first | apply J1 | apply J3 | apply J4 | apply J5 | apply J6 | apply J7 | apply J8 | apply J9 | apply J10 | apply J11 | apply J12 | apply J13 | apply J14 | apply J15 | apply J16 | apply J17 | apply J18 | apply J19 | apply J20 | refine J2 ?_) | ((with_reducible apply J21); (· rfl)) | ((with_reducible intro hif); first | (focus (cases hif; done)) | (simp only [JH] at hif; try (exfalso; omega)) | (try (exfalso; omega))) | ((first | ((with_reducible apply J22 cRes_ok tab_ok); (· rfl)) | ((with_reducible apply J23 fol cRes_ok tab_ok); (· rfl)) | with_reducible apply J24); (· (simp only [push_cast, ↓JP, Nat.reduceAdd, Nat.reduceEqDiff, Nat.reduceLT, Nat.reduceMul, Nat.reduceLeDiff, reduceCtorEq, reduceIte, ↓JK, ↓JF, cRes, sDiv, sApply, h3, h4, h32, hdv, hb1, hc1, ↓kn_eqZ, inN, inR]; rfl)); (try kernel_rfl); (try (focus (first | exact True.intro | ((try simp only [JS, implies_true, forall_const, shaped, shapedL, kndOf, cRes, sDiv, sApply, h3, h4, h32, hdv, hb1, hc1, ↓kn_eqZ, inN, inR]); (repeat' (first | assumption | exact True.intro | omega | apply And.intro)); done) | ((repeat' (first | assumption | exact True.intro | omega | apply And.intro)); done))))) | fail)
    apply At.endsRet tab_ok (fn := Try.f126) (rs := [.cell 4 41, .tmp 5]) Anc.refl hro (Nat.le_of_ble_eq_true rfl) rfl
    · simp only [push_cast, ↓JP, Nat.reduceAdd, Nat.reduceEqDiff, Nat.reduceLT, Nat.reduceMul, Nat.reduceLeDiff, reduceCtorEq, reduceIte, ↓JK, ↓JF, resV, resV1]; rfl
    · (first | trivial | (simp only [and_self]; done))
    · (repeat' (first | exact trivial | exact .same _ | exact .dead _ | exact .gone rfl | exact .loose | assumption | exact .arr (by assumption) | apply And.intro))
    · rfl
    · (repeat' (first | exact trivial | exact rfl | assumption | apply Stable.ite | apply And.intro | intro _ | (simp only [Stable, StableL, i64S, prS, insS, sndsS, sndS, kS, kaS, ftS, ftsS]; done)))
    · (repeat' (first | exact trivial | exact .inl rfl | exact .inr rfl | exact rfl | apply And.intro))
    · exact fun β => rfl
    · (repeat' (first | exact trivial | exact rfl | assumption | apply Stable.ite | apply And.intro | intro _ | (simp only [Stable, StableL, i64S, prS, insS, sndsS, sndS, kS, kaS, ftS, ftsS]; done)))
  · -- true false false
    have e : resK i r = (K0, true) := by rw [q1, if_pos (by simp [hb1, hc1])]
    rw [e]
    repeat' (first | with_reducible (first | apply J1 | apply J3 | apply J4 | apply J5 | apply J6 | apply J7 | apply J8 | apply J9 | apply J10 | apply J11 | apply J12 | apply J13 | apply J14 | apply J15 | apply J16 | apply J17 | apply J18 | apply J19 | apply J20 | refine J2 ?_) | ((with_reducible apply J21); (· rfl)) | ((with_reducible intro hif); first | (focus (cases hif; done)) | (simp only [JH] at hif; try (exfalso; omega)) | (try (exfalso; omega))) | ((first | ((with_reducible apply J22 cRes_ok tab_ok); (· rfl)) | ((with_reducible apply J23 fol cRes_ok tab_ok); (· rfl)) | with_reducible apply J24); (· (simp only [push_cast, ↓JP, Nat.reduceAdd, Nat.reduceEqDiff, Nat.reduceLT, Nat.reduceMul, Nat.reduceLeDiff, reduceCtorEq, reduceIte, ↓JK, ↓JF, cRes, sDiv, sApply, h3, h4, h32, hdv, hb1, hc1, ↓kn_eqZ, inN, inR]; rfl)); (try kernel_rfl); (try (focus (first | exact True.intro | ((try simp only [JS, implies_true, forall_const, shaped, shapedL, kndOf, cRes, sDiv, sApply, h3, h4, h32, hdv, hb1, hc1, ↓kn_eqZ, inN, inR]); (repeat' (first | assumption | exact True.intro | omega | apply And.intro)); done) | ((repeat' (first | assumption | exact True.intro | omega | apply And.intro)); done))))) | fail)
    apply At.endsRet tab_ok (fn := Try.f126) (rs := [.cell 4 41, .tmp 5]) Anc.refl hro (Nat.le_of_ble_eq_true rfl) rfl
    · simp only [push_cast, ↓JP, Nat.reduceAdd, Nat.reduceEqDiff, Nat.reduceLT, Nat.reduceMul, Nat.reduceLeDiff, reduceCtorEq, reduceIte, ↓JK, ↓JF, resV, resV1]; rfl
    · (first | trivial | (simp only [and_self]; done))
    · (repeat' (first | exact trivial | exact .same _ | exact .dead _ | exact .gone rfl | exact .loose | assumption | exact .arr (by assumption) | apply And.intro))
    · rfl
    · (repeat' (first | exact trivial | exact rfl | assumption | apply Stable.ite | apply And.intro | intro _ | (simp only [Stable, StableL, i64S, prS, insS, sndsS, sndS, kS, kaS, ftS, ftsS]; done)))
    · (repeat' (first | exact trivial | exact .inl rfl | exact .inr rfl | exact rfl | apply And.intro))
    · exact fun β => rfl
    · (repeat' (first | exact trivial | exact rfl | assumption | apply Stable.ite | apply And.intro | intro _ | (simp only [Stable, StableL, i64S, prS, insS, sndsS, sndS, kS, kaS, ftS, ftsS]; done)))
  · -- true false true
    have e : resK i r = (K0, true) := by rw [q1, if_pos (by simp [hb1, hc1])]
    rw [e]
    have hn0 := hdz hdv hc1
    repeat' (first | with_reducible (first | apply J1 | apply J3 | apply J4 | apply J5 | apply J6 | apply J7 | apply J8 | apply J9 | apply J10 | apply J11 | apply J12 | apply J13 | apply J14 | apply J15 | apply J16 | apply J17 | apply J18 | apply J19 | apply J20 | refine J2 ?_) | ((with_reducible apply J21); (· rfl)) | ((with_reducible intro hif); first | (focus (cases hif; done)) | (simp only [JH] at hif; try (exfalso; omega)) | (try (exfalso; omega))) | ((first | ((with_reducible apply J22 cRes_ok tab_ok); (· rfl)) | ((with_reducible apply J23 fol cRes_ok tab_ok); (· rfl)) | with_reducible apply J24); (· (simp only [push_cast, ↓JP, Nat.reduceAdd, Nat.reduceEqDiff, Nat.reduceLT, Nat.reduceMul, Nat.reduceLeDiff, reduceCtorEq, reduceIte, ↓JK, ↓JF, cRes, sDiv, sApply, h3, h4, h32, hdv, hb1, hc1, ↓kn_eqZ, inN, inR, hn0]; rfl)); (try kernel_rfl); (try (focus (first | exact True.intro | ((try simp only [JS, implies_true, forall_const, shaped, shapedL, kndOf, cRes, sDiv, sApply, h3, h4, h32, hdv, hb1, hc1, ↓kn_eqZ, inN, inR, hn0]); (repeat' (first | assumption | exact True.intro | omega | apply And.intro)); done) | ((repeat' (first | assumption | exact True.intro | omega | apply And.intro)); done))))) | fail)
    apply At.endsRet tab_ok (fn := Try.f126) (rs := [.cell 4 41, .tmp 5]) Anc.refl hro (Nat.le_of_ble_eq_true rfl) rfl
    · simp only [push_cast, ↓JP, Nat.reduceAdd, Nat.reduceEqDiff, Nat.reduceLT, Nat.reduceMul, Nat.reduceLeDiff, reduceCtorEq, reduceIte, ↓JK, ↓JF, resV, resV1]; rfl
    · (first | trivial | (simp only [and_self]; done))
    · (repeat' (first | exact trivial | exact .same _ | exact .dead _ | exact .gone rfl | exact .loose | assumption | exact .arr (by assumption) | apply And.intro))
    · rfl
    · (repeat' (first | exact trivial | exact rfl | assumption | apply Stable.ite | apply And.intro | intro _ | (simp only [Stable, StableL, i64S, prS, insS, sndsS, sndS, kS, kaS, ftS, ftsS]; done)))
    · (repeat' (first | exact trivial | exact .inl rfl | exact .inr rfl | exact rfl | apply And.intro))
    · exact fun β => rfl
    · (repeat' (first | exact trivial | exact rfl | assumption | apply Stable.ite | apply And.intro | intro _ | (simp only [Stable, StableL, i64S, prS, insS, sndsS, sndS, kS, kaS, ftS, ftsS]; done)))
  · -- true true false
    have e : resK i r = (K0, true) := by rw [q1, if_pos (by simp [hb1, hc1])]
    rw [e]
    repeat' (first | with_reducible (first | apply J1 | apply J3 | apply J4 | apply J5 | apply J6 | apply J7 | apply J8 | apply J9 | apply J10 | apply J11 | apply J12 | apply J13 | apply J14 | apply J15 | apply J16 | apply J17 | apply J18 | apply J19 | apply J20 | refine J2 ?_) | ((with_reducible apply J21); (· rfl)) | ((with_reducible intro hif); first | (focus (cases hif; done)) | (simp only [JH] at hif; try (exfalso; omega)) | (try (exfalso; omega))) | ((first | ((with_reducible apply J22 cRes_ok tab_ok); (· rfl)) | ((with_reducible apply J23 fol cRes_ok tab_ok); (· rfl)) | with_reducible apply J24); (· (simp only [push_cast, ↓JP, Nat.reduceAdd, Nat.reduceEqDiff, Nat.reduceLT, Nat.reduceMul, Nat.reduceLeDiff, reduceCtorEq, reduceIte, ↓JK, ↓JF, cRes, sDiv, sApply, h3, h4, h32, hdv, hb1, hc1, ↓kn_eqZ, inN, inR]; rfl)); (try kernel_rfl); (try (focus (first | exact True.intro | ((try simp only [JS, implies_true, forall_const, shaped, shapedL, kndOf, cRes, sDiv, sApply, h3, h4, h32, hdv, hb1, hc1, ↓kn_eqZ, inN, inR]); (repeat' (first | assumption | exact True.intro | omega | apply And.intro)); done) | ((repeat' (first | assumption | exact True.intro | omega | apply And.intro)); done))))) | fail)
    apply At.endsRet tab_ok (fn := Try.f126) (rs := [.cell 4 41, .tmp 5]) Anc.refl hro (Nat.le_of_ble_eq_true rfl) rfl
    · simp only [push_cast, ↓JP, Nat.reduceAdd, Nat.reduceEqDiff, Nat.reduceLT, Nat.reduceMul, Nat.reduceLeDiff, reduceCtorEq, reduceIte, ↓JK, ↓JF, resV, resV1]; rfl
    · (first | trivial | (simp only [and_self]; done))
    · (repeat' (first | exact trivial | exact .same _ | exact .dead _ | exact .gone rfl | exact .loose | assumption | exact .arr (by assumption) | apply And.intro))
    · rfl
    · (repeat' (first | exact trivial | exact rfl | assumption | apply Stable.ite | apply And.intro | intro _ | (simp only [Stable, StableL, i64S, prS, insS, sndsS, sndS, kS, kaS, ftS, ftsS]; done)))
    · (repeat' (first | exact trivial | exact .inl rfl | exact .inr rfl | exact rfl | apply And.intro))
    · exact fun β => rfl
    · (repeat' (first | exact trivial | exact rfl | assumption | apply Stable.ite | apply And.intro | intro _ | (simp only [Stable, StableL, i64S, prS, insS, sndsS, sndS, kS, kaS, ftS, ftsS]; done)))
  · -- true true true
    have e : resK i r = (⟨decide (wrongE (i.op - 32) (r i.c.toNat).n = 0), applyV (i.op - 32) (r i.b.toNat).n (r i.c.toNat).n⟩, decide (wrongE (i.op - 32) (r i.c.toNat).n = 0)) := by rw [q1, if_neg (by simp [hb1, hc1])]; rfl
    rw [e]
    have hn0 := hdz hdv hc1
    repeat' (first | with_reducible (first | apply J1 | apply J3 | apply J4 | apply J5 | apply J6 | apply J7 | apply J8 | apply J9 | apply J10 | apply J11 | apply J12 | apply J13 | apply J14 | apply J15 | apply J16 | apply J17 | apply J18 | apply J19 | apply J20 | refine J2 ?_) | ((with_reducible apply J21); (· rfl)) | ((with_reducible intro hif); first | (focus (cases hif; done)) | (simp only [JH] at hif; try (exfalso; omega)) | (try (exfalso; omega))) | ((first | ((with_reducible apply J22 cRes_ok tab_ok); (· rfl)) | ((with_reducible apply J23 fol cRes_ok tab_ok); (· rfl)) | with_reducible apply J24); (· (simp only [push_cast, ↓JP, Nat.reduceAdd, Nat.reduceEqDiff, Nat.reduceLT, Nat.reduceMul, Nat.reduceLeDiff, reduceCtorEq, reduceIte, ↓JK, ↓JF, cRes, sDiv, sApply, h3, h4, h32, hdv, hb1, hc1, ↓kn_eqZ, inN, inR, hn0]; rfl)); (try kernel_rfl); (try (focus (first | exact True.intro | ((try simp only [JS, implies_true, forall_const, shaped, shapedL, kndOf, cRes, sDiv, sApply, h3, h4, h32, hdv, hb1, hc1, ↓kn_eqZ, inN, inR, hn0]); (repeat' (first | assumption | exact True.intro | omega | apply And.intro)); done) | ((repeat' (first | assumption | exact True.intro | omega | apply And.intro)); done))))) | fail)
    apply At.endsRet tab_ok (fn := Try.f126) (rs := [.cell 4 41, .tmp 5]) Anc.refl hro (Nat.le_of_ble_eq_true rfl) rfl
    · simp only [push_cast, ↓JP, Nat.reduceAdd, Nat.reduceEqDiff, Nat.reduceLT, Nat.reduceMul, Nat.reduceLeDiff, reduceCtorEq, reduceIte, ↓JK, ↓JF, resV, resV1]; rfl
    · (first | trivial | (simp only [and_self]; done))
    · (repeat' (first | exact trivial | exact .same _ | exact .dead _ | exact .gone rfl | exact .loose | assumption | exact .arr (by assumption) | apply And.intro))
    · rfl
    · (repeat' (first | exact trivial | exact rfl | assumption | apply Stable.ite | apply And.intro | intro _ | (simp only [Stable, StableL, i64S, prS, insS, sndsS, sndS, kS, kaS, ftS, ftsS]; done)))
    · (repeat' (first | exact trivial | exact .inl rfl | exact .inr rfl | exact rfl | apply And.intro))
    · exact fun β => rfl
    · (repeat' (first | exact trivial | exact rfl | assumption | apply Stable.ite | apply And.intro | intro _ | (simp only [Stable, StableL, i64S, prS, insS, sndsS, sndS, kS, kaS, ftS, ftsS]; done)))
def sResult : Spec := fun args h m => match args with
  | [v1, v2] => bif isIns v1 && isKa v2 then some (((insOf v1).ok) ∧ ((insOf v1).b < 8) ∧ ((insOf v1).c < 8), .tup [kS (resK (insOf v1) (kaOf v2)).1, .bool (resK (insOf v1) (kaOf v2)).2], [], []) else none
  | _ => none
theorem sResult_ok : CallOk Try.prog 126 sResult := by
  refine ⟨named_spec (by kernel_rfl), fun args h m c v rd wr hs hm hc w0 M β h' w R hrd hwr hst => ?_⟩
  unfold sResult at hs
  split at hs
  · rename_i v1 v2
    obtain ⟨hb, hs⟩ := bif_some hs
    simp only [Option.some.injEq, Prod.mk.injEq] at hs
    obtain ⟨rfl, rfl, rfl, rfl⟩ := hs
    simp only [Bool.and_eq_true] at hb
    obtain ⟨b1, b2⟩ := hb
    obtain ⟨y1, y2, y3⟩ := hc
    refine callRo (views := []) (result_lit (insOf v1) (kaOf v2) y1 y2 y3) ?_ R hm hwr ?_ ?_ ?_
    · intro x hx; cases hx
    · intro β1 hv
      simp only [denL, aggDen, intDen, natDen, boolDen, ls_length, den_insOf b1, kaOf_den b2, den_insS, kaS_den]
    · (repeat' (first | exact trivial | exact rfl | assumption | apply Stable.ite | apply And.intro | intro _ | (simp only [Stable, StableL, i64S, prS, insS, sndsS, sndS, kS, kaS, ftS, ftsS]; done)))
    · (repeat' (first | exact trivial | exact rfl | assumption | apply Stable.ite | apply And.intro | intro _ | (simp only [Stable, StableL, i64S, prS, insS, sndsS, sndS, kS, kaS, ftS, ftsS]; done)))
  · cases hs
end Go.Proofs.Ytmljmabbopkpiaa.Vm
end

section
/- check.meet. -/
namespace Go.Proofs.Ytmljmabbopkpiaa.Vm
open Go.RowKit
attribute [local push_cast] runR opG gtmp gval gus opX tmpsOf tm tmO tmP restr look look2 tab tys zs ets eqB eqBL allB numOf ieq Int.cast_ofNat_Int Int.ofNat_zero beq_true beq_false frameOf ev evL ofV opV loadV noW pushF wrsL setH allBorn allGone HB.born HB.isGone HB.val SV.plain dstOk hp nav fitsT SV.size sizeL SV.isAgg TK.size TK.agg bin binE binN binI arN arI cmpN cmpI keq kn narrow callV storeV setp fillV buildV buildSliceV makeV sliceV appendV copyV List.isEmpty_nil srcV evO asN ite_t ite_f ite_bool ite_int ite_nat maxV v_beq v_ble v_blt cond_true cond_false List.getElem?_cons_zero List.getElem?_cons_succ List.getD_cons_zero List.getD_cons_succ List.getD_nil List.length_cons List.length_nil List.take_succ_cons List.take_zero List.set_cons_zero List.set_cons_succ List.cons_append List.nil_append List.append_assoc List.replicate_succ List.replicate_zero Nat.zero_add Nat.add_zero decide_true decide_false Bool.true_and Bool.and_true Bool.false_and Bool.and_false Bool.true_or Bool.or_true Bool.false_or Bool.or_false beq_self_eq_true Bool.or_self Nat.lt_irrefl Nat.not_lt_zero Nat.le_refl Option.getD_some Option.getD_none BEq.rfl Bool.not_true Bool.not_false Bool.cond_true_left Bool.cond_false_right prS sndsS i64S nav_ins nav_ins0 nav_ins1 nav_ins2 nav_ins3 nav_ins4 nav_snd nav_snd0 nav_snd1 nav_snd2 isIns_insS insOf_insS isSnd_sndS sndOf_sndS isI_int isI_nat iOf nav_k nav_k0 nav_k1 nav_ka nav_kai nav_ft nav_ft0 nav_ft1 isKn_kS knOf_kS isKa_kaS kaOf_kaS isFt_ftS ftOf_ftS setp_ka setp_ftk setp_ftr setp_fti evm_ins evm_snd evm_k evm_ka evm_ft
set_option linter.unusedVariables false
set_option linter.unusedSimpArgs false
set_option maxRecDepth 100000
set_option maxHeartbeats 4000000
def meetTo (a b : Nat → Kn) (j : Nat) : Nat → Kn := fun k => if k < j then meetK (a k) (b k) else a k
theorem meetTo_self (a b : Nat → Kn) (j : Nat) : meetTo a b j j = a j := by unfold meetTo; rw [if_neg (Nat.lt_irrefl j)]
theorem meet_lit (a b : Ft) : LitOk Try.prog 101 [ftS a, ftS b] [.gone] (ftS ⟨a.reached, meetR a.regs b.regs⟩) [.gone] := by
  refine litOkM (fn := Try.f101) 1 24 0 rfl rfl rfl rfl rfl (by simp only [StableL, Stable, hp]; simp [HB.born, ftS, kaS, kS, Stable, StableL]) rfl fun w0 M E hro => ?_
  repeat' (first | with_reducible (first | apply J1 | apply J3 | apply J4 | apply J5 | apply J6 | apply J7 | apply J8 | apply J9 | apply J10 | apply J11 | apply J12 | apply J13 | apply J14 | apply J15 | apply J16 | apply J17 | apply J18 | apply J19 | apply J20 | refine J2 ?_) | ((with_reducible apply J21); (· rfl)) | ((with_reducible intro hif); first | (focus (cases hif; done)) | (simp only [JH] at hif; try (exfalso; omega)) | (try (exfalso; omega))) | ((first | ((with_reducible apply J22 noCk_ok tab_ok); (· rfl)) | ((with_reducible apply J23 fol noCk_ok tab_ok); (· rfl)) | with_reducible apply J24); (· (simp only [push_cast, ↓JP, Nat.reduceAdd, Nat.reduceEqDiff, Nat.reduceLT, Nat.reduceMul, Nat.reduceLeDiff, reduceCtorEq, reduceIte, ↓JK, ↓JF]; rfl)); (try kernel_rfl); (try (focus (first | exact True.intro | ((try simp only [JS, implies_true, forall_const, shaped, shapedL, kndOf]); (repeat' (first | assumption | exact True.intro | omega | apply And.intro)); done) | ((repeat' (first | assumption | exact True.intro | omega | apply And.intro)); done))))) | fail)
  have e0 : ∀ q, (meetTo a.regs b.regs 0) q = a.regs q := fun q => by unfold meetTo; rw [if_neg (Nat.not_lt_zero q)]
  have l0 : ∀ ex, Less (.own 44 (ftS a) ex) (.own 44 (ftS ⟨a.reached, meetTo a.regs b.regs 0⟩) ex) := fun ex => less_ft (F := fun q => kS (a.regs q)) fun q _ β => by rw [e0]
  have l0' := l0 true
  refine WF.loopAt (fun j => j ≤ 8) (fun j => [(2, .ptr 1 []), (3, .ptr 2 []), (4, .ptr 3 []), (6, .nat .i64 j)]) (fun j => [.gone, .own 44 (ftS ⟨a.reached, meetTo a.regs b.regs j⟩) true, .own 44 (ftS b) true, .own 44 (.agg [.bool false, .arr 8 2 fun _ => .agg [.bool false, .nat .i64 0]]) true]) (fun j => 8 - j) 0 (Nat.zero_le _) ?_ ?_ rfl ?_ ?_ rfl ?_
  · ((repeat' (first | exact trivial | apply And.intro)) <;> (first | rfl | (simp only [look, cond_true, cond_false]; done)))
  · (repeat' (first | exact trivial | exact .same _ | exact .dead _ | exact .gone rfl | exact .loose | assumption | exact .arr (by assumption) | apply And.intro))
  · (repeat' (first | exact trivial | exact rfl | assumption | apply Stable.ite | apply And.intro | intro _ | (simp only [Stable, StableL, i64S, prS, insS, sndsS, sndS, kS, kaS, ftS, ftsS]; done)))
  · (repeat' (first | exact trivial | exact rfl | assumption | apply Stable.ite | apply And.intro | intro _ | (simp only [Stable, StableL, i64S, prS, insS, sndsS, sndS, kS, kaS, ftS, ftsS]; done)))
  intro j hj
  repeat' (first | with_reducible (first | apply J1 | apply J3 | apply J4 | apply J5 | apply J6 | apply J7 | apply J8 | apply J9 | apply J10 | apply J11 | apply J12 | apply J13 | apply J14 | apply J15 | apply J16 | apply J17 | apply J18 | apply J19 | apply J20 | refine J2 ?_) | ((with_reducible apply J21); (· rfl)) | ((with_reducible intro hif); first | (focus (cases hif; done)) | (simp only [JH] at hif; try (exfalso; omega)) | (try (exfalso; omega))) | ((first | ((with_reducible apply J22 noCk_ok tab_ok); (· rfl)) | ((with_reducible apply J23 fol noCk_ok tab_ok); (· rfl)) | with_reducible apply J24); (· (simp only [push_cast, ↓JP, Nat.reduceAdd, Nat.reduceEqDiff, Nat.reduceLT, Nat.reduceMul, Nat.reduceLeDiff, reduceCtorEq, reduceIte, ↓JK, ↓JF, meetTo_self, ↓kn_eqZ, inN, inR, setp_ftz]; rfl)); (try kernel_rfl); (try (focus (first | exact True.intro | ((try simp only [JS, implies_true, forall_const, shaped, shapedL, kndOf, meetTo_self, ↓kn_eqZ, inN, inR, setp_ftz]); (repeat' (first | assumption | exact True.intro | omega | apply And.intro)); done) | ((repeat' (first | assumption | exact True.intro | omega | apply And.intro)); done))))) | fail)
  · have hne : a.regs j ≠ b.regs j := by simpa using hif
    have lj : Less (.own 44 (.agg [.bool a.reached, .arr 8 2 fun j_1 => SV.ite (decide (j_1 = j)) (.agg [.bool false, .nat .i64 0]) (kS (meetTo a.regs b.regs j j_1))]) true) (.own 44 (ftS ⟨a.reached, meetTo a.regs b.regs (j + 1)⟩) true) := less_ft fun q hq β => by
      rw [ite_eq]
      by_cases h : q = j
      · subst h
        simp only [decide_true, cond_true]
        unfold meetTo meetK
        rw [if_pos (by omega), if_neg hne]
        rfl
      · simp only [h, decide_false, cond_false]
        unfold meetTo
        by_cases h2 : q < j
        · rw [if_pos h2, if_pos (by omega)]
        · rw [if_neg h2, if_neg (by omega)]
    refine At.next (j + 1) ?_ ?_ ?_ rfl ?_ ?_ rfl
    · omega
    · ((repeat' (first | exact trivial | apply And.intro)) <;> (first | rfl | (simp only [look, cond_true, cond_false]; done)))
    · (repeat' (first | exact trivial | exact .same _ | exact .dead _ | exact .gone rfl | exact .loose | assumption | exact .arr (by assumption) | apply And.intro))
    · (repeat' (first | exact trivial | exact rfl | assumption | apply Stable.ite | apply And.intro | intro _ | (simp only [Stable, StableL, i64S, prS, insS, sndsS, sndS, kS, kaS, ftS, ftsS]; done)))
    · (repeat' (first | exact trivial | exact rfl | assumption | apply Stable.ite | apply And.intro | intro _ | (simp only [Stable, StableL, i64S, prS, insS, sndsS, sndS, kS, kaS, ftS, ftsS]; done)))
  · have he : a.regs j = b.regs j := by simpa using hif
    have lj : Less (.own 44 (ftS ⟨a.reached, meetTo a.regs b.regs j⟩) true) (.own 44 (ftS ⟨a.reached, meetTo a.regs b.regs (j + 1)⟩) true) := less_ft (F := fun q => kS (meetTo a.regs b.regs j q)) fun q hq β => by
      congr 2
      unfold meetTo
      by_cases h2 : q < j
      · rw [if_pos h2, if_pos (by omega)]
      · rw [if_neg h2]
        by_cases h : q = j
        · subst h
          rw [if_pos (by omega)]
          unfold meetK
          rw [if_pos he]
        · rw [if_neg (by omega)]
    refine At.next (j + 1) ?_ ?_ ?_ rfl ?_ ?_ rfl
    · omega
    · ((repeat' (first | exact trivial | apply And.intro)) <;> (first | rfl | (simp only [look, cond_true, cond_false]; done)))
    · (repeat' (first | exact trivial | exact .same _ | exact .dead _ | exact .gone rfl | exact .loose | assumption | exact .arr (by assumption) | apply And.intro))
    · (repeat' (first | exact trivial | exact rfl | assumption | apply Stable.ite | apply And.intro | intro _ | (simp only [Stable, StableL, i64S, prS, insS, sndsS, sndS, kS, kaS, ftS, ftsS]; done)))
    · (repeat' (first | exact trivial | exact rfl | assumption | apply Stable.ite | apply And.intro | intro _ | (simp only [Stable, StableL, i64S, prS, insS, sndsS, sndS, kS, kaS, ftS, ftsS]; done)))
  · have h8 : j = 8 := by omega
    subst h8
    apply At.endsRet tab_ok (fn := Try.f101) (rs := [.cell 4 44]) Anc.refl hro (Nat.le_of_ble_eq_true rfl) rfl
    · simp only [push_cast, ↓JP, Nat.reduceAdd, Nat.reduceEqDiff, Nat.reduceLT, Nat.reduceMul, Nat.reduceLeDiff, reduceCtorEq, reduceIte, ↓JK, ↓JF, resV, resV1]; rfl
    · (first | trivial | (simp only [and_self]; done))
    · (repeat' (first | exact trivial | exact .same _ | exact .dead _ | exact .gone rfl | exact .loose | assumption | exact .arr (by assumption) | apply And.intro))
    · rfl
    · (repeat' (first | exact trivial | exact rfl | assumption | apply Stable.ite | apply And.intro | intro _ | (simp only [Stable, StableL, i64S, prS, insS, sndsS, sndS, kS, kaS, ftS, ftsS]; done)))
    · (repeat' (first | exact trivial | exact .inl rfl | exact .inr rfl | exact rfl | apply And.intro))
    · intro β; show (ftS _).den β = (ftS _).den β; rw [ftS_den, ftS_den]; rfl
    · (repeat' (first | exact trivial | exact rfl | assumption | apply Stable.ite | apply And.intro | intro _ | (simp only [Stable, StableL, i64S, prS, insS, sndsS, sndS, kS, kaS, ftS, ftsS]; done)))
def sMeet : Spec := fun args h m => match args with
  | [v1, v2] => bif isFt v1 && isFt v2 then some (True, ftS ⟨(ftOf v1).reached, meetR (ftOf v1).regs (ftOf v2).regs⟩, [], []) else none
  | _ => none
theorem sMeet_ok : CallOk Try.prog 101 sMeet := by
  refine ⟨named_spec (by kernel_rfl), fun args h m c v rd wr hs hm hc w0 M β h' w R hrd hwr hst => ?_⟩
  unfold sMeet at hs
  split at hs
  · rename_i v1 v2
    obtain ⟨hb, hs⟩ := bif_some hs
    simp only [Option.some.injEq, Prod.mk.injEq] at hs
    obtain ⟨rfl, rfl, rfl, rfl⟩ := hs
    simp only [Bool.and_eq_true] at hb
    obtain ⟨b1, b2⟩ := hb
    refine callRo (views := []) (meet_lit (ftOf v1) (ftOf v2)) ?_ R hm hwr ?_ ?_ ?_
    · intro x hx; cases hx
    · intro β1 hv
      simp only [denL, aggDen, intDen, natDen, boolDen, ls_length, ftOf_den b1, ftOf_den b2, ftS_den]
    · (repeat' (first | exact trivial | exact rfl | assumption | apply Stable.ite | apply And.intro | intro _ | (simp only [Stable, StableL, i64S, prS, insS, sndsS, sndS, kS, kaS, ftS, ftsS]; done)))
    · (repeat' (first | exact trivial | exact rfl | assumption | apply Stable.ite | apply And.intro | intro _ | (simp only [Stable, StableL, i64S, prS, insS, sndsS, sndS, kS, kaS, ftS, ftsS]; done)))
  · cases hs
end Go.Proofs.Ytmljmabbopkpiaa.Vm
end

section
/- check.hands: its closure, as a call. -/
namespace Go.Proofs.Ytmljmabbopkpiaa.Vm
open Go.RowKit
attribute [local push_cast] runR opG gtmp gval gus opX tmpsOf tm tmO tmP restr look look2 tab tys zs ets eqB eqBL allB numOf ieq Int.cast_ofNat_Int Int.ofNat_zero beq_true beq_false frameOf ev evL ofV opV loadV noW pushF wrsL setH allBorn allGone HB.born HB.isGone HB.val SV.plain dstOk hp nav fitsT SV.size sizeL SV.isAgg TK.size TK.agg bin binE binN binI arN arI cmpN cmpI keq kn narrow callV storeV setp fillV buildV buildSliceV makeV sliceV appendV copyV List.isEmpty_nil srcV evO asN ite_t ite_f ite_bool ite_int ite_nat maxV v_beq v_ble v_blt cond_true cond_false List.getElem?_cons_zero List.getElem?_cons_succ List.getD_cons_zero List.getD_cons_succ List.getD_nil List.length_cons List.length_nil List.take_succ_cons List.take_zero List.set_cons_zero List.set_cons_succ List.cons_append List.nil_append List.append_assoc List.replicate_succ List.replicate_zero Nat.zero_add Nat.add_zero decide_true decide_false Bool.true_and Bool.and_true Bool.false_and Bool.and_false Bool.true_or Bool.or_true Bool.false_or Bool.or_false beq_self_eq_true Bool.or_self Nat.lt_irrefl Nat.not_lt_zero Nat.le_refl Option.getD_some Option.getD_none BEq.rfl Bool.not_true Bool.not_false Bool.cond_true_left Bool.cond_false_right prS sndsS i64S nav_ins nav_ins0 nav_ins1 nav_ins2 nav_ins3 nav_ins4 nav_snd nav_snd0 nav_snd1 nav_snd2 isIns_insS insOf_insS isSnd_sndS sndOf_sndS isI_int isI_nat iOf nav_k nav_k0 nav_k1 nav_ka nav_kai nav_ft nav_ft0 nav_ft1 isKn_kS knOf_kS isKa_kaS kaOf_kaS isFt_ftS ftOf_ftS setp_ka setp_ftk setp_ftr setp_fti evm_ins evm_snd evm_k evm_ka evm_ft
set_option linter.unusedVariables false
set_option linter.unusedSimpArgs false
set_option maxRecDepth 100000
set_option maxHeartbeats 4000000
theorem ftS_ren (ρ : Nat → Nat) (f : Ft) : (ftS f).ren ρ = ftS f := by simp only [ftS, kaS, kS, SV.ren, renL]
theorem hands_lit (n p k : Nat) (f : Ft) : LitOk Try.prog 100 [.sl 1 2 [] 5 0 n (some p), .nat .i64 k, ftS f] [.gone, .gone, .gone] (.fn 125 [.ptr 3 [], .ptr 4 [], .ptr 5 []]) [.gone, .gone, .gone, .own 25 (.sl 1 2 [] 5 0 n (some p)) true, .own 3 (.nat .i64 k) true, .own 44 (ftS f) true] := by
  refine litOkM (fn := Try.f100) 3 8 0 rfl rfl rfl rfl rfl (by simp only [StableL, Stable, hp]; simp [HB.born, ftS, kaS, kS, Stable, StableL]) rfl fun w0 M E hro => ?_
  repeat' (first | with_reducible (first | apply J1 | apply J3 | apply J4 | apply J5 | apply J6 | apply J7 | apply J8 | apply J9 | apply J10 | apply J11 | apply J12 | apply J13 | apply J14 | apply J15 | apply J16 | apply J17 | apply J18 | apply J19 | apply J20 | refine J2 ?_) | ((with_reducible apply J21); (· rfl)) | ((with_reducible intro hif); first | (focus (cases hif; done)) | (simp only [JH] at hif; try (exfalso; omega)) | (try (exfalso; omega))) | ((first | ((with_reducible apply J22 noCk_ok tab_ok); (· rfl)) | ((with_reducible apply J23 fol noCk_ok tab_ok); (· rfl)) | with_reducible apply J24); (· (simp only [push_cast, ↓JP, Nat.reduceAdd, Nat.reduceEqDiff, Nat.reduceLT, Nat.reduceMul, Nat.reduceLeDiff, reduceCtorEq, reduceIte, ↓JK, ↓JF]; rfl)); (try kernel_rfl); (try (focus (first | exact True.intro | ((try simp only [JS, implies_true, forall_const, shaped, shapedL, kndOf]); (repeat' (first | assumption | exact True.intro | omega | apply And.intro)); done) | ((repeat' (first | assumption | exact True.intro | omega | apply And.intro)); done))))) | fail)
  apply At.endsRet tab_ok (fn := Try.f100) (rs := [.tmp 6]) Anc.refl hro (Nat.le_of_ble_eq_true rfl) rfl
  · simp only [push_cast, ↓JP, Nat.reduceAdd, Nat.reduceEqDiff, Nat.reduceLT, Nat.reduceMul, Nat.reduceLeDiff, reduceCtorEq, reduceIte, ↓JK, ↓JF, resV, resV1]; rfl
  · (first | trivial | (simp only [and_self]; done))
  · (repeat' (first | exact trivial | exact .same _ | exact .dead _ | exact .gone rfl | exact .loose | assumption | exact .arr (by assumption) | apply And.intro))
  · rfl
  · (repeat' (first | exact trivial | exact rfl | assumption | apply Stable.ite | apply And.intro | intro _ | (simp only [Stable, StableL, i64S, prS, insS, sndsS, sndS, kS, kaS, ftS, ftsS]; done)))
  · (repeat' (first | exact trivial | exact .inl rfl | exact .inr rfl | exact rfl | apply And.intro))
  · exact fun β => rfl
  · (repeat' (first | exact trivial | exact rfl | assumption | apply Stable.ite | apply And.intro | intro _ | (simp only [Stable, StableL, i64S, prS, insS, sndsS, sndS, kS, kaS, ftS, ftsS]; done)))
def sHands : Spec := fun args h m => match args with
  | [.sl z i [] 5 0 n (some p), .nat .i64 k, u] => bif (h z).born && (h i).born && isFt u then some (True, .fn 125 [.ptr m [], .ptr (m + 1) [], .ptr (m + 2) []], [z, i], [(m, .own 25 (.sl z i [] 5 0 n (some p)) true), (m + 1, .own 3 (.nat .i64 k) true), (m + 2, .own 44 (ftS (ftOf u)) true)]) else none
  | _ => none
theorem sHands_ok : CallOk Try.prog 100 sHands := by
  refine ⟨named_spec (by kernel_rfl), fun args h m c v rd wr hs hm hc w0 M β h' w R hrd hwr hst => ?_⟩
  unfold sHands at hs
  split at hs
  · rename_i z i n p k u
    obtain ⟨hb, hs2⟩ := bif_some hs
    clear hs
    simp only [Bool.and_eq_true] at hb
    obtain ⟨⟨hz, hi⟩, hu⟩ := hb
    simp only [Option.some.injEq, Prod.mk.injEq] at hs2
    obtain ⟨rfl, rfl, rfl, rfl⟩ := hs2
    have ei : h' i = h i := hrd i (by simp)
    have ez : h' z = h z := hrd z (by simp)
    have C := callG (L1 := [.gone, .gone, .gone, .own 25 (.sl 1 2 [] 5 0 n (some p)) true, .own 3 (.nat .i64 k) true, .own 44 (ftS (ftOf u)) true]) (h := h) (m := m) [0, z, i] (hands_lit n p k (ftOf u)) R rfl (by simp) rfl rfl rfl
      ⟨.gone (by rw [R.nil0]; rfl), .gone (by rw [ez]; exact hz), .gone (by rw [ei]; exact hi), trivial⟩ hm (by simpa [newB, rhoL, HB.ren, ftS_ren] using hwr) (by simp)
      (by simp [StableH, HB.stable]) (by simp [StableL, Stable, hp, HB.born, ftS_stable]) (by simp [NewL, HB.stable, Stable, HB.isRo, hG, hp, HB.born, ftS_stable]) (by simp [Stable, StableL, hG, hp, HB.born])
    have e0 : denL β (renL (rhoL [0, z, i] m) [SV.sl 1 2 [] 5 0 n (some p), .nat .i64 k, ftS (ftOf u)]) = denL β [.sl z i [] 5 0 n (some p), .nat .i64 k, u] := by
      simp [renL, SV.ren, rhoL, ftS_ren, denL, ftOf_den hu, ftS_den]
    rw [e0] at C
    refine C.mono fun e w' he => ?_
    simpa [newB, rhoL, HB.ren, SV.ren, renL, ftS_ren] using he
  · cases hs
end Go.Proofs.Ytmljmabbopkpiaa.Vm
end

section
/- Right programs, instruction by instruction; what hands on, class by class. -/
namespace Go.Proofs.Ytmljmabbopkpiaa
set_option linter.unusedVariables false
set_option linter.unusedSimpArgs false
theorem right_last' {p : List Ins} (h : (checkI p).2 = 0) : 0 < p.length ∧ p.length ≤ 256 ∧ goesB (p.getD (p.length - 1) ⟨0, 0, 0, 0, 0⟩) = false ∧ ∀ k, k < p.length → badAt p.length (p.getD k ⟨0, 0, 0, 0, 0⟩) = 0 := by
  unfold checkI at h
  by_cases h0 : p.length = 0
  · rw [if_pos h0] at h; cases h
  · by_cases h1 : 256 < p.length
    · rw [if_neg h0, if_pos h1] at h; cases h
    · rw [if_neg h0, if_neg h1] at h
      refine ⟨by omega, by omega, ?_⟩
      unfold checkK at h
      cases hf : p.findIdx? (fun i => badAt p.length i != 0) with
      | some k =>
        rw [hf] at h
        obtain ⟨hk, hb, _⟩ := List.findIdx?_eq_some_iff_getElem.1 hf
        exfalso
        have hg : p.getD k ⟨0, 0, 0, 0, 0⟩ = p[k] := by simp [List.getD, hk]
        dsimp only at h
        rw [hg] at h
        simp [h] at hb
      | none =>
        rw [hf] at h
        rw [List.findIdx?_eq_none_iff] at hf
        dsimp only at h
        refine ⟨?_, fun k hk => ?_⟩
        · by_cases hg : goesB (p.getD (p.length - 1) ⟨0, 0, 0, 0, 0⟩) = true
          · rw [if_pos hg] at h; cases h
          · simpa using hg
        · have := hf (p.getD k ⟨0, 0, 0, 0, 0⟩) (by
            rw [List.getD_eq_getElem?_getD, List.getElem?_eq_getElem hk]; exact List.getElem_mem hk)
          simpa using this
/-- a right instruction, the k-th of n -/
structure RightI (n k : Nat) (x : Ins) : Prop where
  ok : x.ok
  one : oneE x = 0
  a : x.a < 8
  b : x.b < 8
  c : x.c < 8
  targ : targB x = true → 0 ≤ targV x ∧ targV x < n
  goes : goesB x = true → k + 1 < n
  cls : x.op = 1 ∨ x.op = 2 ∨ x.op = 3 ∨ x.op = 4 ∨ x.op = 5 ∨ x.op = 6 ∨ x.op = 7 ∨ x.op = 8 ∨ x.op = 9 ∨ x.op = 10 ∨ x.op = 11 ∨ (33 ≤ x.op ∧ x.op ≤ 49)
theorem one_regs {x : Ins} (h : oneE x = 0) : x.a < 8 ∧ x.b < 8 ∧ x.c < 8 ∧ (targB x = true → 0 ≤ x.n) ∧ (x.op = 1 ∨ x.op = 2 ∨ x.op = 3 ∨ x.op = 4 ∨ x.op = 5 ∨ x.op = 6 ∨ x.op = 7 ∨ x.op = 8 ∨ x.op = 9 ∨ x.op = 10 ∨ x.op = 11 ∨ (33 ≤ x.op ∧ x.op ≤ 49)) := by
  have h0 := h
  unfold oneE at h
  have hf : formC x.op ≠ 0 := fun e => by rw [if_pos e] at h; cases h
  rw [if_neg hf] at h
  have hc : fitsC (formC x.op) x.a x.b x.c x.n := by
    by_cases q : fitsC (formC x.op) x.a x.b x.c x.n
    · exact q
    · rw [oneK_neg q] at h; cases h
  have ht : targB x = true → x.op = 9 ∨ x.op = 10 ∨ x.op = 11 := fun ht => by
    unfold targB at ht
    simp at ht
    exact ht.2
  revert hc hf
  unfold formC
  split
  · rename_i q; intro hf hc; obtain ⟨q1, q2, q3, q4⟩ := hc; exact ⟨q1, q2, q3, fun t => by omega, by omega⟩
  split
  · rename_i q; intro hf hc; obtain ⟨q1, q2, q3, q4⟩ := hc; exact ⟨by omega, by omega, by omega, fun t => by omega, by omega⟩
  split
  · rename_i q; intro hf hc; obtain ⟨q1, q2, q3⟩ := hc; exact ⟨by omega, by omega, by omega, fun t => by have := ht t; omega, by omega⟩
  split
  · rename_i q; intro hf hc; obtain ⟨q1, q2, q3, q4⟩ := hc; exact ⟨by omega, by omega, by omega, fun t => by omega, by omega⟩
  split
  · rename_i q; intro hf hc; obtain ⟨q1, q2, q3, q4, q5⟩ := hc; exact ⟨by omega, by omega, by omega, fun t => by omega, by omega⟩
  split
  · rename_i q; intro hf hc; obtain ⟨q1, q2, q3, q4, q5⟩ := hc; exact ⟨by omega, by omega, by omega, fun t => by omega, by omega⟩
  split
  · rename_i q; intro hf hc; obtain ⟨q1, q2, q3, q4, q5⟩ := hc; exact ⟨by omega, by omega, by omega, fun t => by omega, by omega⟩
  · intro hf; exact absurd rfl hf
theorem right_at {p : List Ins} (hok : ∀ x ∈ p, x.ok) (h : (checkI p).2 = 0) {k : Nat} (hk : k < p.length) : RightI p.length k (p.getD k ⟨0, 0, 0, 0, 0⟩) := by
  obtain ⟨h0, h1, h2, h3⟩ := right_last' h
  have hb := h3 k hk
  unfold badAt at hb
  have h4 : oneE (p.getD k ⟨0, 0, 0, 0, 0⟩) = 0 := by
    by_cases q : oneE (p.getD k ⟨0, 0, 0, 0, 0⟩) = 0
    · exact q
    · rw [if_pos q] at hb; exact absurd hb q
  rw [if_neg (by omega)] at hb
  obtain ⟨ra, rb, rc, rt, rcl⟩ := one_regs h4
  refine ⟨hok _ (by rw [List.getD_eq_getElem?_getD, List.getElem?_eq_getElem hk]; exact List.getElem_mem hk), h4, ra, rb, rc, fun ht => ?_, fun hg => ?_, rcl⟩
  · refine ⟨by unfold targV; rw [if_pos ht]; exact rt ht, ?_⟩
    by_cases q : (p.length : Int) ≤ targV (p.getD k ⟨0, 0, 0, 0, 0⟩)
    · rw [if_pos ⟨ht, q⟩] at hb; cases hb
    · omega
  · by_cases q : k + 1 < p.length
    · exact q
    · have : k = p.length - 1 := by omega
      subst this
      rw [h2] at hg; cases hg
/-- what is handed on: to the next one, if g; to the target, if t -/
structure Emits (n k : Nat) (x : Ins) (f : Ft) (z : Bool × Bool × Ft) : Prop where
  hands : handsL x k f = emitL x k z.1 z.2.1 z.2.2
  goes : z.1 = true → k + 1 < n
  targ : z.2.1 = true → 0 ≤ targV x ∧ targV x < n
  reached : z.2.2.reached = f.reached
theorem goesB_of {x : Ins} (h : oneE x = 0) : goesB x = (x.op != 1 && (x.op != 2 && x.op != 9)) := by unfold goesB; rw [h]; rfl
theorem targB_of {x : Ins} (h : oneE x = 0) : targB x = (x.op == 9 || (x.op == 10 || x.op == 11)) := by unfold targB; rw [h]; rfl
end Go.Proofs.Ytmljmabbopkpiaa
end

section
/- The next round of a loop whose rounds make memory: with other numbers. -/
namespace Go.Proofs.Ytmljmabbopkpiaa.Vm
open Go.RowKit
set_option linter.unusedVariables false
set_option linter.unusedSimpArgs false
set_option maxRecDepth 100000
/-- a frame, with other numbers -/
def PickF (σ : Nat → Nat) (φ : Fr) : Fr → Prop
  | [] => True
  | p :: l => (∃ u, look φ p.1 = some u ∧ ∀ β, u.den β = (p.2.ren σ).den β) ∧ PickF σ φ l
theorem pickF_spec {σ : Nat → Nat} {φ : Fr} : ∀ {φ2 : Fr}, PickF σ φ φ2 → ∀ p ∈ φ2, ∃ u, look φ p.1 = some u ∧ ∀ β, u.den β = (p.2.ren σ).den β
  | [], _, p, hp => by cases hp
  | q :: l, h, p, hp => by
    rcases List.mem_cons.1 hp with rfl | hp
    · exact h.1
    · exact pickF_spec h.2 p hp
section
variable {w0 : World} {M : Nat → Prop} {E : Env} {n0 N : Nat} {D : List Deferred} {φ φ2 : Fr} {L L2 : List HB}
theorem St.pick {a : Act} {w : World} (l : List Nat) (h : St w0 M E n0 N D φ L a w) (h00 : l.getD 0 0 = 0) (hz : hp L2 0 = .gone) (hid : idTo n0 l = true) (hpk : PickL (sg l) (hp L) L2 l) (hinj : injL L2 l [] = true) (hs : StableH (hp L2) L2) (hφ : PickF (sg l) φ φ2) (hf : StableF (hp L2) φ2) (hb : bornTo n0 L2 = true) : St w0 M E n0 N D φ2 L2 a w := by
  obtain ⟨⟨β, hE, R, F⟩, _, h3, h4⟩ := h
  refine ⟨⟨fun i => β (sg l i), fun i hi => ?_, R.pick h00 hz hpk hinj hs, fun t v hv => ?_⟩, fun i hi => ?_, h3, h4⟩
  · simp only [idTo, List.all_eq_true] at hid
    have e := Nat.eq_of_beq_eq_true (hid i (List.mem_range.2 hi))
    show β (l.getD i 0) = E i
    rw [e]; exact hE i hi
  · have hm := look_mem hv
    obtain ⟨u, h1, h2⟩ := pickF_spec hφ _ hm
    have hst := stableF_spec hf _ hm
    refine ⟨hst, ?_⟩
    rw [(F t u h1).2, h2]
    exact den_ren (h := hp L2) (fun _ _ => rfl) hst
  · simp only [bornTo, List.all_eq_true] at hb
    exact hb i (List.mem_range.2 hi)
theorem At.nextPick {α : Type} {p : α → Prop} {φi : α → Fr} {Li : α → List HB} (l : List Nat) (y : α) (hy : p y) (h00 : l.getD 0 0 = 0) (hz : hp (Li y) 0 = .gone) (hid : idTo n0 l = true) (hpk : PickL (sg l) (hp L) (Li y) l) (hinj : injL (Li y) l [] = true) (hs : StableH (hp (Li y)) (Li y)) (hφ : PickF (sg l) φ (φi y)) (hf : StableF (hp (Li y)) (φi y)) (hb : bornTo n0 (Li y) = true) : At w0 M E n0 N D φ L (fun a w => ∃ y, p y ∧ St w0 M E n0 N D (φi y) (Li y) a w) :=
  fun a w hS => ⟨y, hy, hS.pick l h00 hz hid hpk hinj hs hφ hf hb⟩
/-- other numbers anywhere in a walk -/
theorem At.pick {K : Act → World → Prop} (l : List Nat) (h00 : l.getD 0 0 = 0) (hz : hp L2 0 = .gone) (hid : idTo n0 l = true) (hpk : PickL (sg l) (hp L) L2 l) (hinj : injL L2 l [] = true) (hs : StableH (hp L2) L2) (hφ : PickF (sg l) φ φ2) (hf : StableF (hp L2) φ2) (hb : bornTo n0 L2 = true) (h : At w0 M E n0 N D φ2 L2 K) : At w0 M E n0 N D φ L K :=
  fun a w hS => h a w (hS.pick l h00 hz hid hpk hinj hs hφ hf hb)
end
end Go.Proofs.Ytmljmabbopkpiaa.Vm
end

section
/- Loops whose rounds change the base (they range over functions), with other numbers at the next round. -/
namespace Go.Proofs.Ytmljmabbopkpiaa.Vm
open Go.RowKit
set_option linter.unusedVariables false
set_option linter.unusedSimpArgs false
set_option maxRecDepth 100000
section
variable {P : Program} {w0 w1 w2 : World} {M M1 M2 : Nat → Prop} {E : Env} {n0 N n : Nat} {D D1 D2 : List Deferred} {φ : Fr} {L : List HB} {Q : Exit → Act → World → Prop} {ro : Option Nat}
theorem WF.loopB {α : Type} (p : α → Prop) (φi : α → Fr) (Li : α → List HB) (μ : α → Nat) {c : Code} (x0 : α) (h0 : p x0)
    (hφ : SubF φ (φi x0)) (hL : LessL L (Li x0)) (hz : hp (Li x0) 0 = .gone) (hs : StableH (hp (Li x0)) (Li x0)) (hf : StableF (hp (Li x0)) (φi x0)) (hb : bornTo n0 (Li x0) = true)
    (step : ∀ w1 M1 D1 x, Anc w0 M D w1 M1 D1 → p x → WF ro n P c w1 M1 E n0 N D1 (φi x) (Li x) (Exit.then (fun a w => ∃ w2 M2 D2 y, Anc w1 M1 D1 w2 M2 D2 ∧ p y ∧ μ y < μ x ∧ St w2 M2 E n0 N D2 (φi y) (Li y) a w) Q)) : WF ro n P (.loop c) w0 M E n0 N D φ L Q :=
  WF.sub hφ hL hz hs hf hb (WF.loop p φi Li μ x0 h0 step)
theorem At.nextB {α : Type} {p : α → Prop} {φi : α → Fr} {Li : α → List HB} {μ : α → Nat} {m : Nat} (A : Anc w1 M1 D1 w2 M2 D2) (l : List Nat) (y : α) (hy : p y ∧ μ y < m) (h00 : l.getD 0 0 = 0) (hz : hp (Li y) 0 = .gone) (hid : idTo n0 l = true) (hpk : PickL (sg l) (hp L) (Li y) l) (hinj : injL (Li y) l [] = true) (hs : StableH (hp (Li y)) (Li y)) (hφ : PickF (sg l) φ (φi y)) (hf : StableF (hp (Li y)) (φi y)) (hb : bornTo n0 (Li y) = true) :
    At w2 M2 E n0 N D2 φ L (fun a w => ∃ w2 M2 D2 y, Anc w1 M1 D1 w2 M2 D2 ∧ p y ∧ μ y < m ∧ St w2 M2 E n0 N D2 (φi y) (Li y) a w) :=
  fun a w hS => ⟨w2, M2, D2, y, A, hy.1, hy.2, hS.pick l h00 hz hid hpk hinj hs hφ hf hb⟩
end
end Go.Proofs.Ytmljmabbopkpiaa.Vm
end
