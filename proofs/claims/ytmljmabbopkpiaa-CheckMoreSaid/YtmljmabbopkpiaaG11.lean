import Derived.Test.YtmljmabbopkpiaaG9
import Derived.Test.YtmljmabbopkpiaaG10
section
/- check: Why, Facts, Least, of right programs. -/
namespace Go.Proofs.Ytmljmabbopkpiaa.Vm
open Go.RowKit
attribute [local push_cast] runR opG gtmp gval gus opX tmpsOf tm tmO tmP restr look look2 tab tys zs ets eqB eqBL allB numOf ieq Int.cast_ofNat_Int Int.ofNat_zero beq_true beq_false frameOf ev evL ofV opV loadV noW pushF wrsL setH allBorn allGone HB.born HB.isGone HB.val SV.plain dstOk hp nav fitsT SV.size sizeL SV.isAgg TK.size TK.agg bin binE binN binI arN arI cmpN cmpI keq kn narrow callV storeV setp fillV buildV buildSliceV makeV sliceV appendV copyV List.isEmpty_nil srcV evO asN ite_t ite_f ite_bool ite_int ite_nat maxV v_beq v_ble v_blt cond_true cond_false List.getElem?_cons_zero List.getElem?_cons_succ List.getD_cons_zero List.getD_cons_succ List.getD_nil List.length_cons List.length_nil List.take_succ_cons List.take_zero List.set_cons_zero List.set_cons_succ List.cons_append List.nil_append List.append_assoc List.replicate_succ List.replicate_zero Nat.zero_add Nat.add_zero decide_true decide_false Bool.true_and Bool.and_true Bool.false_and Bool.and_false Bool.true_or Bool.or_true Bool.false_or Bool.or_false beq_self_eq_true Bool.or_self Nat.lt_irrefl Nat.not_lt_zero Nat.le_refl Option.getD_some Option.getD_none BEq.rfl Bool.not_true Bool.not_false Bool.cond_true_left Bool.cond_false_right prS sndsS i64S nav_ins nav_ins0 nav_ins1 nav_ins2 nav_ins3 nav_ins4 nav_snd nav_snd0 nav_snd1 nav_snd2 isIns_insS insOf_insS isSnd_sndS sndOf_sndS isI_int isI_nat iOf nav_k nav_k0 nav_k1 nav_ka nav_kai nav_ft nav_ft0 nav_ft1 isKn_kS knOf_kS isKa_kaS kaOf_kaS isFt_ftS ftOf_ftS setp_ka setp_ftk setp_ftr setp_fti evm_ins evm_snd evm_k evm_ka evm_ft
set_option linter.unusedVariables false
set_option linter.unusedSimpArgs false
set_option maxRecDepth 100000
set_option maxHeartbeats 4000000
def sFactsI : Spec := fun args h m => match args with
  | [v1] => match srcV h 5 (.tup []) v1 with
    | some (c1, n1, f1, r1) => some (c1 ∧ (∀ q, q < n1 → isIns (f1 q) = true) ∧ ((∀ x ∈ (ls insOf n1 f1), x.ok)) ∧ ((checkI (ls insOf n1 f1)).2 = 0), .sl m m [] 17 0 (ls insOf n1 f1).length none, r1, [(m, .own 44 (.arr (ls insOf n1 f1).length 17 (ftsS (factsS (ls insOf n1 f1)))) false)])
    | _ => none
  | _ => none
theorem sFactsI_ok : CallOk Try.prog 56 sFactsI := by
  refine ⟨named_spec (by kernel_rfl), fun args h m c v rd wr hs hm hc w0 M β h' w R hrd hwr hst => ?_⟩
  unfold sFactsI at hs
  split at hs
  · rename_i v1
    split at hs
    · rename_i c1 n1 f1 r1 a1
      simp only [Option.some.injEq, Prod.mk.injEq] at hs
      obtain ⟨rfl, rfl, rfl, rfl⟩ := hs
      obtain ⟨k1, g1, y1, y2⟩ := hc
      obtain ⟨A1, p1, d1, e1, t1⟩ := reads_src R a1 k1 (fun i hi => hrd i hi) (by omega)
      refine callRo (views := [⟨5, (ls insOf n1 f1).length, prS (ls insOf n1 f1), A1, p1⟩]) (facts_lit (ls insOf n1 f1) p1 y1 y2) ?_ R hm hwr ?_ ?_ ?_
      · intro x hx
        simp only [List.mem_cons, List.not_mem_nil, or_false] at hx
        subst hx
        · exact viewIns t1 e1 g1
      · intro β1 hv
        simp only [Vd, ls_length, and_true] at hv
        have z1 := hv
        simp only [denL, aggDen, intDen, natDen, boolDen, ls_length, z1, d1]
      · (repeat' (first | exact trivial | exact rfl | assumption | apply Stable.ite | apply And.intro | intro _ | (simp only [Stable, StableL, i64S, prS, insS, sndsS, sndS, kS, kaS, ftS, ftsS]; done)))
      · (repeat' (first | exact trivial | exact rfl | assumption | apply Stable.ite | apply And.intro | intro _ | (simp only [Stable, StableL, i64S, prS, insS, sndsS, sndS, kS, kaS, ftS, ftsS]; done)))
    · cases hs
  · cases hs
def cWh : FuncId → Option Spec := look2 [(56, sFactsI), (57, sFits), (58, sWhyL), (55, sCheck)]
theorem cWh_ok : ∀ f S, cWh f = some S → CallOk Try.prog f S := allOk_spec ⟨sFactsI_ok, sFits_ok, sWhyL_ok, sCheck_ok, trivial⟩
/-- what Why answers: why, and what is wrong with the question -/
def whyR (xs : List Ins) (c p l i : Int) : Int × Int := if fitE xs c p l ≠ 0 then (0, fitE xs c p l) else if i < 0 ∨ xs.length ≤ i then (0, 2) else (whyE c p l (xs.getD i.toNat ⟨0, 0, 0, 0, 0⟩) (getF (factsS xs) i.toNat), 0)
theorem Why_lit (xs : List Ins) (p1 : Nat) (c p l i : Int) (hx : ∀ x ∈ xs, x.ok) (hl : xs.length ≤ 281474976710656) : LitOk Try.prog 22 [.sl 1 2 [] 5 0 xs.length (some p1), .agg [.int .i64 c, .int .i64 p, .int .i64 l], .int .i64 i] [.gone, .gone, .ro (.arr xs.length 5 (prS xs))] (.tup [.int .i64 (whyR xs c p l i).1, .int .i64 (whyR xs c p l i).2]) [.gone] := by
  refine litOkM (fn := Try.f22) 3 34 0 rfl rfl rfl rfl rfl (by simp only [StableL, Stable, hp]; simp [HB.born]) rfl fun w0 M E hro => ?_
  by_cases h1 : fitE xs c p l = 0
  · by_cases h2 : i < 0
    · have e : whyR xs c p l i = (0, 2) := by unfold whyR; rw [if_neg (fun h => h h1), if_pos (.inl h2)]
      rw [e]
      repeat' (first | with_reducible (first | apply J1 | apply J3 | apply J4 | apply J5 | apply J6 | apply J7 | apply J8 | apply J9 | apply J10 | apply J11 | apply J12 | apply J13 | apply J14 | apply J15 | apply J16 | apply J17 | apply J18 | apply J19 | apply J20 | refine J2 ?_) | ((with_reducible apply J21); (· rfl)) | ((with_reducible intro hif); first | (focus (cases hif; done)) | (simp only [JH] at hif; try (exfalso; omega)) | (try (exfalso; omega))) | ((first | ((with_reducible apply J22 cWh_ok tab_ok); (· rfl)) | ((with_reducible apply J23 fol cWh_ok tab_ok); (· rfl)) | with_reducible apply J24); (· (simp only [push_cast, ↓JP, Nat.reduceAdd, Nat.reduceEqDiff, Nat.reduceLT, Nat.reduceMul, Nat.reduceLeDiff, reduceCtorEq, reduceIte, ↓JK, ↓JF, cWh, sFits, ls_prS, ls_prS', ls_prS2, h1, h2]; rfl)); (try kernel_rfl); (try (focus (first | exact True.intro | ((try simp only [JS, implies_true, forall_const, shaped, shapedL, kndOf, cWh, sFits, ls_prS, ls_prS', ls_prS2, h1, h2]); (first | exact ⟨fun q _ => rfl, hx, hl⟩ | (repeat' (first | assumption | exact True.intro | omega | apply And.intro))); done) | ((first | exact ⟨fun q _ => rfl, hx, hl⟩ | (repeat' (first | assumption | exact True.intro | omega | apply And.intro))); done))))) | fail)
      apply At.endsRet tab_ok (fn := Try.f22) (rs := [.tmp 6, .tmp 7]) Anc.refl hro (Nat.le_of_ble_eq_true rfl) rfl
      · simp only [push_cast, ↓JP, Nat.reduceAdd, Nat.reduceEqDiff, Nat.reduceLT, Nat.reduceMul, Nat.reduceLeDiff, reduceCtorEq, reduceIte, ↓JK, ↓JF, resV, resV1]; rfl
      · (first | trivial | (simp only [and_self]; done))
      · (repeat' (first | exact trivial | exact .same _ | exact .dead _ | exact .gone rfl | exact .loose | assumption | exact .arr (by assumption) | apply And.intro))
      · rfl
      · (repeat' (first | exact trivial | exact rfl | assumption | apply Stable.ite | apply And.intro | intro _ | (simp only [Stable, StableL, i64S, prS, insS, sndsS, sndS, kS, kaS, ftS, ftsS]; done)))
      · (repeat' (first | exact trivial | exact .inl rfl | exact .inr rfl | exact rfl | apply And.intro))
      · exact fun β => rfl
      · (repeat' (first | exact trivial | exact rfl | assumption | apply Stable.ite | apply And.intro | intro _ | (simp only [Stable, StableL, i64S, prS, insS, sndsS, sndS, kS, kaS, ftS, ftsS]; done)))
    · by_cases h3 : (xs.length : Int) ≤ i
      · have e : whyR xs c p l i = (0, 2) := by unfold whyR; rw [if_neg (fun h => h h1), if_pos (.inr h3)]
        rw [e]
        repeat' (first | with_reducible (first | apply J1 | apply J3 | apply J4 | apply J5 | apply J6 | apply J7 | apply J8 | apply J9 | apply J10 | apply J11 | apply J12 | apply J13 | apply J14 | apply J15 | apply J16 | apply J17 | apply J18 | apply J19 | apply J20 | refine J2 ?_) | ((with_reducible apply J21); (· rfl)) | ((with_reducible intro hif); first | (focus (cases hif; done)) | (simp only [JH] at hif; try (exfalso; omega)) | (try (exfalso; omega))) | ((first | ((with_reducible apply J22 cWh_ok tab_ok); (· rfl)) | ((with_reducible apply J23 fol cWh_ok tab_ok); (· rfl)) | with_reducible apply J24); (· (simp only [push_cast, ↓JP, Nat.reduceAdd, Nat.reduceEqDiff, Nat.reduceLT, Nat.reduceMul, Nat.reduceLeDiff, reduceCtorEq, reduceIte, ↓JK, ↓JF, cWh, sFits, ls_prS, ls_prS', ls_prS2, h1, h2, h3]; rfl)); (try kernel_rfl); (try (focus (first | exact True.intro | ((try simp only [JS, implies_true, forall_const, shaped, shapedL, kndOf, cWh, sFits, ls_prS, ls_prS', ls_prS2, h1, h2, h3]); (first | exact ⟨fun q _ => rfl, hx, hl⟩ | (repeat' (first | assumption | exact True.intro | omega | apply And.intro))); done) | ((first | exact ⟨fun q _ => rfl, hx, hl⟩ | (repeat' (first | assumption | exact True.intro | omega | apply And.intro))); done))))) | fail)
        apply At.endsRet tab_ok (fn := Try.f22) (rs := [.tmp 6, .tmp 7]) Anc.refl hro (Nat.le_of_ble_eq_true rfl) rfl
        · simp only [push_cast, ↓JP, Nat.reduceAdd, Nat.reduceEqDiff, Nat.reduceLT, Nat.reduceMul, Nat.reduceLeDiff, reduceCtorEq, reduceIte, ↓JK, ↓JF, resV, resV1]; rfl
        · (first | trivial | (simp only [and_self]; done))
        · (repeat' (first | exact trivial | exact .same _ | exact .dead _ | exact .gone rfl | exact .loose | assumption | exact .arr (by assumption) | apply And.intro))
        · rfl
        · (repeat' (first | exact trivial | exact rfl | assumption | apply Stable.ite | apply And.intro | intro _ | (simp only [Stable, StableL, i64S, prS, insS, sndsS, sndS, kS, kaS, ftS, ftsS]; done)))
        · (repeat' (first | exact trivial | exact .inl rfl | exact .inr rfl | exact rfl | apply And.intro))
        · exact fun β => rfl
        · (repeat' (first | exact trivial | exact rfl | assumption | apply Stable.ite | apply And.intro | intro _ | (simp only [Stable, StableL, i64S, prS, insS, sndsS, sndS, kS, kaS, ftS, ftsS]; done)))
      · have hc : (checkI xs).2 = 0 := by
          unfold fitE at h1
          by_cases q : (checkI xs).2 = 0
          · exact q
          · rw [if_neg q] at h1; cases h1
        have hk : i.toNat < xs.length := by omega
        obtain ⟨x, hX⟩ : ∃ x, xs.getD i.toNat ⟨0, 0, 0, 0, 0⟩ = x := ⟨_, rfl⟩
        have hR := right_at hx hc hk
        rw [hX] at hR
        have hok := hR.ok
        have ha8 := hR.a
        have hb8 := hR.b
        have hc8 := hR.c
        have e : whyR xs c p l i = (whyE c p l x (getF (factsS xs) i.toNat), 0) := by unfold whyR; rw [if_neg (fun h => h h1), if_neg (by omega), hX]
        rw [e]
        repeat' (first | with_reducible (first | apply J1 | apply J3 | apply J4 | apply J5 | apply J6 | apply J7 | apply J8 | apply J9 | apply J10 | apply J11 | apply J12 | apply J13 | apply J14 | apply J15 | apply J16 | apply J17 | apply J18 | apply J19 | apply J20 | refine J2 ?_) | ((with_reducible apply J21); (· rfl)) | ((with_reducible intro hif); first | (focus (cases hif; done)) | (simp only [JH] at hif; try (exfalso; omega)) | (try (exfalso; omega))) | ((first | ((with_reducible apply J22 cWh_ok tab_ok); (· rfl)) | ((with_reducible apply J23 fol cWh_ok tab_ok); (· rfl)) | with_reducible apply J24); (· (simp only [push_cast, ↓JP, Nat.reduceAdd, Nat.reduceEqDiff, Nat.reduceLT, Nat.reduceMul, Nat.reduceLeDiff, reduceCtorEq, reduceIte, ↓JK, ↓JF, cWh, sFits, sFactsI, sWhyL, ls_prS, ls_prS', ls_prS2, ftsS, h1, h2, h3, hX, hc]; rfl)); (try kernel_rfl); (try (focus (first | exact True.intro | ((try simp only [JS, implies_true, forall_const, shaped, shapedL, kndOf, cWh, sFits, sFactsI, sWhyL, ls_prS, ls_prS', ls_prS2, ftsS, h1, h2, h3, hX, hc]); (repeat' (first | assumption | exact True.intro | omega | apply And.intro)); done) | ((repeat' (first | assumption | exact True.intro | omega | apply And.intro)); done))))) | fail)
        apply At.endsRet tab_ok (fn := Try.f22) (rs := [.tmp 6, .tmp 7]) Anc.refl hro (Nat.le_of_ble_eq_true rfl) rfl
        · simp only [push_cast, ↓JP, Nat.reduceAdd, Nat.reduceEqDiff, Nat.reduceLT, Nat.reduceMul, Nat.reduceLeDiff, reduceCtorEq, reduceIte, ↓JK, ↓JF, resV, resV1]; rfl
        · (first | trivial | (simp only [and_self]; done))
        · (repeat' (first | exact trivial | exact .same _ | exact .dead _ | exact .gone rfl | exact .loose | assumption | exact .arr (by assumption) | apply And.intro))
        · rfl
        · (repeat' (first | exact trivial | exact rfl | assumption | apply Stable.ite | apply And.intro | intro _ | (simp only [Stable, StableL, i64S, prS, insS, sndsS, sndS, kS, kaS, ftS, ftsS]; done)))
        · (repeat' (first | exact trivial | exact .inl rfl | exact .inr rfl | exact rfl | apply And.intro))
        · exact fun β => rfl
        · (repeat' (first | exact trivial | exact rfl | assumption | apply Stable.ite | apply And.intro | intro _ | (simp only [Stable, StableL, i64S, prS, insS, sndsS, sndS, kS, kaS, ftS, ftsS]; done)))
  · have e : whyR xs c p l i = (0, fitE xs c p l) := by unfold whyR; rw [if_pos h1]
    rw [e]
    repeat' (first | with_reducible (first | apply J1 | apply J3 | apply J4 | apply J5 | apply J6 | apply J7 | apply J8 | apply J9 | apply J10 | apply J11 | apply J12 | apply J13 | apply J14 | apply J15 | apply J16 | apply J17 | apply J18 | apply J19 | apply J20 | refine J2 ?_) | ((with_reducible apply J21); (· rfl)) | ((with_reducible intro hif); first | (focus (cases hif; done)) | (simp only [JH] at hif; try (exfalso; omega)) | (try (exfalso; omega))) | ((first | ((with_reducible apply J22 cWh_ok tab_ok); (· rfl)) | ((with_reducible apply J23 fol cWh_ok tab_ok); (· rfl)) | with_reducible apply J24); (· (simp only [push_cast, ↓JP, Nat.reduceAdd, Nat.reduceEqDiff, Nat.reduceLT, Nat.reduceMul, Nat.reduceLeDiff, reduceCtorEq, reduceIte, ↓JK, ↓JF, cWh, sFits, ls_prS, ls_prS', ls_prS2, h1]; rfl)); (try kernel_rfl); (try (focus (first | exact True.intro | ((try simp only [JS, implies_true, forall_const, shaped, shapedL, kndOf, cWh, sFits, ls_prS, ls_prS', ls_prS2, h1]); (first | exact ⟨fun q _ => rfl, hx, hl⟩ | (repeat' (first | assumption | exact True.intro | omega | apply And.intro))); done) | ((first | exact ⟨fun q _ => rfl, hx, hl⟩ | (repeat' (first | assumption | exact True.intro | omega | apply And.intro))); done))))) | fail)
    apply At.endsRet tab_ok (fn := Try.f22) (rs := [.tmp 6, .tmp 7]) Anc.refl hro (Nat.le_of_ble_eq_true rfl) rfl
    · simp only [push_cast, ↓JP, Nat.reduceAdd, Nat.reduceEqDiff, Nat.reduceLT, Nat.reduceMul, Nat.reduceLeDiff, reduceCtorEq, reduceIte, ↓JK, ↓JF, resV, resV1]; rfl
    · (first | trivial | (simp only [and_self]; done))
    · (repeat' (first | exact trivial | exact .same _ | exact .dead _ | exact .gone rfl | exact .loose | assumption | exact .arr (by assumption) | apply And.intro))
    · rfl
    · (repeat' (first | exact trivial | exact rfl | assumption | apply Stable.ite | apply And.intro | intro _ | (simp only [Stable, StableL, i64S, prS, insS, sndsS, sndS, kS, kaS, ftS, ftsS]; done)))
    · (repeat' (first | exact trivial | exact .inl rfl | exact .inr rfl | exact rfl | apply And.intro))
    · exact fun β => rfl
    · (repeat' (first | exact trivial | exact rfl | assumption | apply Stable.ite | apply And.intro | intro _ | (simp only [Stable, StableL, i64S, prS, insS, sndsS, sndS, kS, kaS, ftS, ftsS]; done)))
def sWhy17 : Spec := fun args h m => match args with
  | [v1, .agg [v2, v3, v4], v5] => match srcV h 5 (.tup []) v1 with
    | some (c1, n1, f1, r1) => bif isI .i64 v2 && isI .i64 v3 && isI .i64 v4 && isI .i64 v5 then some (c1 ∧ (∀ q, q < n1 → isIns (f1 q) = true) ∧ ((∀ x ∈ (ls insOf n1 f1), x.ok)) ∧ (n1 ≤ 281474976710656), .tup [.int .i64 (whyR (ls insOf n1 f1) (iOf v2) (iOf v3) (iOf v4) (iOf v5)).1, .int .i64 (whyR (ls insOf n1 f1) (iOf v2) (iOf v3) (iOf v4) (iOf v5)).2], r1, []) else none
    | _ => none
  | _ => none
theorem sWhy17_ok : CallOk Try.prog 22 sWhy17 := by
  refine ⟨named_spec (by kernel_rfl), fun args h m c v rd wr hs hm hc w0 M β h' w R hrd hwr hst => ?_⟩
  unfold sWhy17 at hs
  split at hs
  · rename_i v1 v2 v3 v4 v5
    split at hs
    · rename_i c1 n1 f1 r1 a1
      obtain ⟨hb, hs⟩ := bif_some hs
      simp only [Option.some.injEq, Prod.mk.injEq] at hs
      obtain ⟨rfl, rfl, rfl, rfl⟩ := hs
      simp only [Bool.and_eq_true] at hb
      obtain ⟨⟨⟨b2, b3⟩, b4⟩, b5⟩ := hb
      obtain ⟨k1, g1, y1, y2⟩ := hc
      obtain ⟨A1, p1, d1, e1, t1⟩ := reads_src R a1 k1 (fun i hi => hrd i hi) (by omega)
      refine callRo (views := [⟨5, (ls insOf n1 f1).length, prS (ls insOf n1 f1), A1, p1⟩]) (Why_lit (ls insOf n1 f1) p1 (iOf v2) (iOf v3) (iOf v4) (iOf v5) y1 (by rw [ls_length]; exact y2)) ?_ R hm hwr ?_ ?_ ?_
      · intro x hx
        simp only [List.mem_cons, List.not_mem_nil, or_false] at hx
        subst hx
        · exact viewIns t1 e1 g1
      · intro β1 hv
        simp only [Vd, ls_length, and_true] at hv
        have z1 := hv
        simp only [denL, aggDen, intDen, natDen, boolDen, ls_length, z1, d1, isI_den b2, isI_den b3, isI_den b4, isI_den b5]
      · (repeat' (first | exact trivial | exact rfl | assumption | apply Stable.ite | apply And.intro | intro _ | (simp only [Stable, StableL, i64S, prS, insS, sndsS, sndS, kS, kaS, ftS, ftsS]; done)))
      · (repeat' (first | exact trivial | exact rfl | assumption | apply Stable.ite | apply And.intro | intro _ | (simp only [Stable, StableL, i64S, prS, insS, sndsS, sndS, kS, kaS, ftS, ftsS]; done)))
    · cases hs
  · cases hs
end Go.Proofs.Ytmljmabbopkpiaa.Vm
end

section
/- check: Facts and Least, of right programs. (printed by gen_ckv8.py) -/
namespace Go.Proofs.Ytmljmabbopkpiaa.Vm
open Go.RowKit
attribute [local push_cast] runR opG gtmp gval gus opX tmpsOf tm tmO tmP restr look look2 tab tys zs ets eqB eqBL allB numOf ieq Int.cast_ofNat_Int Int.ofNat_zero beq_true beq_false frameOf ev evL ofV opV loadV noW pushF wrsL setH allBorn allGone HB.born HB.isGone HB.val SV.plain dstOk hp nav fitsT SV.size sizeL SV.isAgg TK.size TK.agg bin binE binN binI arN arI cmpN cmpI keq kn narrow callV storeV setp fillV buildV buildSliceV makeV sliceV appendV copyV List.isEmpty_nil srcV evO asN ite_t ite_f ite_bool ite_int ite_nat maxV v_beq v_ble v_blt cond_true cond_false List.getElem?_cons_zero List.getElem?_cons_succ List.getD_cons_zero List.getD_cons_succ List.getD_nil List.length_cons List.length_nil List.take_succ_cons List.take_zero List.set_cons_zero List.set_cons_succ List.cons_append List.nil_append List.append_assoc List.replicate_succ List.replicate_zero Nat.zero_add Nat.add_zero decide_true decide_false Bool.true_and Bool.and_true Bool.false_and Bool.and_false Bool.true_or Bool.or_true Bool.false_or Bool.or_false beq_self_eq_true Bool.or_self Nat.lt_irrefl Nat.not_lt_zero Nat.le_refl Option.getD_some Option.getD_none BEq.rfl Bool.not_true Bool.not_false Bool.cond_true_left Bool.cond_false_right prS sndsS i64S nav_ins nav_ins0 nav_ins1 nav_ins2 nav_ins3 nav_ins4 nav_snd nav_snd0 nav_snd1 nav_snd2 isIns_insS insOf_insS isSnd_sndS sndOf_sndS isI_int isI_nat iOf nav_k nav_k0 nav_k1 nav_ka nav_kai nav_ft nav_ft0 nav_ft1 isKn_kS knOf_kS isKa_kaS kaOf_kaS isFt_ftS ftOf_ftS setp_ka setp_ftk setp_ftr setp_fti evm_ins evm_snd evm_k evm_ka evm_ft
set_option linter.unusedVariables false
set_option linter.unusedSimpArgs false
set_option maxRecDepth 100000
set_option maxHeartbeats 4000000
theorem Facts_lit (xs : List Ins) (p1 : Nat) (hx : ∀ x ∈ xs, x.ok) (hc : (checkI xs).2 = 0) : LitOk Try.prog 21 [.sl 1 2 [] 5 0 xs.length (some p1)] [.gone, .gone, .ro (.arr xs.length 5 (prS xs))] (.tup [.sl 3 3 [] 17 0 xs.length none, .int .i64 0]) [.gone, .gone, .gone, .own 44 (.arr xs.length 17 (ftsS (factsS xs))) false] := by
  refine litOkM (fn := Try.f21) 3 15 0 rfl rfl rfl rfl rfl (by simp only [StableL, Stable, hp]; simp [HB.born]) rfl fun w0 M E hro => ?_
  have hl : xs.length ≤ 256 := (right_last' hc).2.1
  repeat' (first | with_reducible (first | apply J1 | apply J3 | apply J4 | apply J5 | apply J6 | apply J7 | apply J8 | apply J9 | apply J10 | apply J11 | apply J12 | apply J13 | apply J14 | apply J15 | apply J16 | apply J17 | apply J18 | apply J19 | apply J20 | refine J2 ?_) | ((with_reducible apply J21); (· rfl)) | ((with_reducible intro hif); first | (focus (cases hif; done)) | (simp only [JH] at hif; try (exfalso; omega)) | (try (exfalso; omega))) | ((first | ((with_reducible apply J22 cWh_ok tab_ok); (· rfl)) | ((with_reducible apply J23 fol cWh_ok tab_ok); (· rfl)) | with_reducible apply J24); (· (simp only [push_cast, ↓JP, Nat.reduceAdd, Nat.reduceEqDiff, Nat.reduceLT, Nat.reduceMul, Nat.reduceLeDiff, reduceCtorEq, reduceIte, ↓JK, ↓JF, cWh, sFactsI, sCheck, ls_prS, ls_prS', ls_prS2, hc]; rfl)); (try kernel_rfl); (try (focus (first | exact True.intro | ((try simp only [JS, implies_true, forall_const, shaped, shapedL, kndOf, cWh, sFactsI, sCheck, ls_prS, ls_prS', ls_prS2, hc]); (repeat' (first | assumption | exact True.intro | omega | apply And.intro)); done) | ((repeat' (first | assumption | exact True.intro | omega | apply And.intro)); done))))) | fail)
  apply At.endsRet tab_ok (fn := Try.f21) (rs := [.tmp 2, .tmp 3]) Anc.refl hro (Nat.le_of_ble_eq_true rfl) rfl
  · simp only [push_cast, ↓JP, Nat.reduceAdd, Nat.reduceEqDiff, Nat.reduceLT, Nat.reduceMul, Nat.reduceLeDiff, reduceCtorEq, reduceIte, ↓JK, ↓JF, resV, resV1]; rfl
  · (first | trivial | (simp only [and_self]; done))
  · (repeat' (first | exact trivial | exact .same _ | exact .dead _ | exact .gone rfl | exact .loose | assumption | exact .arr (by assumption) | apply And.intro))
  · rfl
  · (repeat' (first | exact trivial | exact rfl | assumption | apply Stable.ite | apply And.intro | intro _ | (simp only [Stable, StableL, i64S, prS, insS, sndsS, sndS, kS, kaS, ftS, ftsS]; done)))
  · (repeat' (first | exact trivial | exact .inl rfl | exact .inr rfl | exact rfl | apply And.intro))
  · exact fun β => rfl
  · (repeat' (first | exact trivial | exact rfl | assumption | apply Stable.ite | apply And.intro | intro _ | (simp only [Stable, StableL, i64S, prS, insS, sndsS, sndS, kS, kaS, ftS, ftsS]; done)))
def sFactsR : Spec := fun args h m => match args with
  | [v1] => match srcV h 5 (.tup []) v1 with
    | some (c1, n1, f1, r1) => some (c1 ∧ (∀ q, q < n1 → isIns (f1 q) = true) ∧ ((∀ x ∈ (ls insOf n1 f1), x.ok)) ∧ ((checkI (ls insOf n1 f1)).2 = 0), .tup [.sl m m [] 17 0 (ls insOf n1 f1).length none, .int .i64 0], r1, [(m, .own 44 (.arr (ls insOf n1 f1).length 17 (ftsS (factsS (ls insOf n1 f1)))) false)])
    | _ => none
  | _ => none
theorem sFactsR_ok : CallOk Try.prog 21 sFactsR := by
  refine ⟨named_spec (by kernel_rfl), fun args h m c v rd wr hs hm hc w0 M β h' w R hrd hwr hst => ?_⟩
  unfold sFactsR at hs
  split at hs
  · rename_i v1
    split at hs
    · rename_i c1 n1 f1 r1 a1
      simp only [Option.some.injEq, Prod.mk.injEq] at hs
      obtain ⟨rfl, rfl, rfl, rfl⟩ := hs
      obtain ⟨k1, g1, y1, y2⟩ := hc
      obtain ⟨A1, p1, d1, e1, t1⟩ := reads_src R a1 k1 (fun i hi => hrd i hi) (by omega)
      refine callRo (views := [⟨5, (ls insOf n1 f1).length, prS (ls insOf n1 f1), A1, p1⟩]) (Facts_lit (ls insOf n1 f1) p1 y1 y2) ?_ R hm hwr ?_ ?_ ?_
      · intro x hx
        simp only [List.mem_cons, List.not_mem_nil, or_false] at hx
        subst hx
        · exact viewIns t1 e1 g1
      · intro β1 hv
        simp only [Vd, ls_length, and_true] at hv
        have z1 := hv
        simp only [denL, aggDen, intDen, natDen, boolDen, ls_length, z1, d1]
      · (repeat' (first | exact trivial | exact rfl | assumption | apply Stable.ite | apply And.intro | intro _ | (simp only [Stable, StableL, i64S, prS, insS, sndsS, sndS, kS, kaS, ftS, ftsS]; done)))
      · (repeat' (first | exact trivial | exact rfl | assumption | apply Stable.ite | apply And.intro | intro _ | (simp only [Stable, StableL, i64S, prS, insS, sndsS, sndS, kS, kaS, ftS, ftsS]; done)))
    · cases hs
  · cases hs
def lstN (f : Ft) (x : Ins) : Int := if (f.regs x.b.toNat).is_ = false ∨ (f.regs x.b.toNat).n < 0 ∨ 1024 ≤ (f.regs x.b.toNat).n then 0 else (f.regs x.b.toNat).n
def leastS (x : Ins) (f : Ft) (c : Int × Int) : Int × Int :=
  if f.reached = false then c else if x.op = 8 then (c.1, max c.2 (x.n + 1)) else if x.op = 5 ∨ x.op = 6 then (max c.1 (lstN f x + 1), c.2) else c
def leastK (xs : List Ins) (F : List Ft) : Nat → Int × Int
  | 0 => (0, 0)
  | k + 1 => leastS (xs.getD k ⟨0, 0, 0, 0, 0⟩) (getF F k) (leastK xs F k)
theorem send_n {x : Ins} (h : oneE x = 0) (h8 : x.op = 8) : 0 ≤ x.n ∧ x.n < 16 := by
  unfold oneE at h
  have hf : formC x.op = 5 := by rw [h8]; rfl
  rw [hf, if_neg (by decide)] at h
  have hc : fitsC 5 x.a x.b x.c x.n := by
    by_cases q : fitsC 5 x.a x.b x.c x.n
    · exact q
    · rw [oneK_neg q] at h; cases h
  exact ⟨hc.2.2.2.1, hc.2.2.2.2⟩
theorem lstN_bd (f : Ft) (x : Ins) : 0 ≤ lstN f x ∧ lstN f x < 1024 := by
  unfold lstN
  split
  · omega
  · rename_i h; omega
theorem leastK_bd {xs : List Ins} (hx : ∀ x ∈ xs, x.ok) (hc : (checkI xs).2 = 0) (F : List Ft) : ∀ k, k ≤ xs.length → 0 ≤ (leastK xs F k).1 ∧ (leastK xs F k).1 ≤ 1024 ∧ 0 ≤ (leastK xs F k).2 ∧ (leastK xs F k).2 ≤ 16
  | 0, _ => by simp [leastK]
  | k + 1, hk => by
    obtain ⟨h1, h2, h3, h4⟩ := leastK_bd hx hc F k (by omega)
    have hR := right_at hx hc (k := k) (by omega)
    have hn := send_n hR.one
    have hb := lstN_bd (getF F k) (xs.getD k ⟨0, 0, 0, 0, 0⟩)
    unfold leastK leastS
    split
    · exact ⟨h1, h2, h3, h4⟩
    · split
      · rename_i h8
        have := hn h8
        dsimp only
        omega
      · split
        · dsimp only
          omega
        · exact ⟨h1, h2, h3, h4⟩
def cLst : FuncId → Option Spec := look2 [(21, sFactsR)]
theorem cLst_ok : ∀ f S, cLst f = some S → CallOk Try.prog f S := allOk_spec ⟨sFactsR_ok, trivial⟩
theorem lim_less {t : Nat} {ex : Bool} : Less (.own t (.agg [.nat .i64 0, .nat .i64 0, .nat .i64 1]) ex) (.own t (.agg [.int .i64 0, .int .i64 0, .nat .i64 1]) ex) :=
  .val (fun β => rfl) (fun n k f e => by cases e) (fun n k f e => by cases e)
theorem Least_lit (xs : List Ins) (p1 : Nat) (hx : ∀ x ∈ xs, x.ok) (hc : (checkI xs).2 = 0) : LitOk Try.prog 20 [.sl 1 2 [] 5 0 xs.length (some p1)] [.gone, .gone, .ro (.arr xs.length 5 (prS xs))] (.tup [.agg [.int .i64 (leastK xs (factsS xs) xs.length).1, .int .i64 (leastK xs (factsS xs) xs.length).2, .int .i64 1], .int .i64 0]) [.gone] := by
  refine litOkM (fn := Try.f20) 3 94 0 rfl rfl rfl rfl rfl (by simp only [StableL, Stable, hp]; simp [HB.born]) rfl fun w0 M E hro => ?_
  have hl : xs.length ≤ 256 := (right_last' hc).2.1
  obtain ⟨F, hF⟩ : ∃ F, F = factsS xs := ⟨_, rfl⟩
  have hll := lim_less (t := 31) (ex := true)
  repeat' (first | with_reducible (first | apply J1 | apply J3 | apply J4 | apply J5 | apply J6 | apply J7 | apply J8 | apply J9 | apply J10 | apply J11 | apply J12 | apply J13 | apply J14 | apply J15 | apply J16 | apply J17 | apply J18 | apply J19 | apply J20 | refine J2 ?_) | ((with_reducible apply J21); (· rfl)) | ((with_reducible intro hif); first | (focus (cases hif; done)) | (simp only [JH] at hif; try (exfalso; omega)) | (try (exfalso; omega))) | ((first | ((with_reducible apply J22 cLst_ok tab_ok); (· rfl)) | ((with_reducible apply J23 fol cLst_ok tab_ok); (· rfl)) | with_reducible apply J24); (· (simp only [push_cast, ↓JP, Nat.reduceAdd, Nat.reduceEqDiff, Nat.reduceLT, Nat.reduceMul, Nat.reduceLeDiff, reduceCtorEq, reduceIte, ↓JK, ↓JF, cLst, sFactsR, ls_prS, ls_prS', ls_prS2, hc, ← hF]; rfl)); (try kernel_rfl); (try (focus (first | exact True.intro | ((try simp only [JS, implies_true, forall_const, shaped, shapedL, kndOf, cLst, sFactsR, ls_prS, ls_prS', ls_prS2, hc, ← hF]); (repeat' (first | assumption | exact True.intro | omega | apply And.intro)); done) | ((repeat' (first | assumption | exact True.intro | omega | apply And.intro)); done))))) | fail)
  rw [← hF]
  refine WF.loopAt (fun k => k ≤ xs.length) (fun k => [(0, .sl 1 2 [] 5 0 xs.length (some p1)), (2, .ptr 3 []), (6, .ptr 5 []), (20, .sl 4 4 [] 17 0 xs.length none), (21, .nat .i64 xs.length), (22, .nat .i64 k)]) (fun k => [.gone, .gone, .ro (.arr xs.length 5 (prS xs)), .own 31 (.agg [.nat .i64 0, .nat .i64 0, .nat .i64 0]) true, .own 44 (.arr xs.length 17 (ftsS F)) false, .own 31 (.agg [.int .i64 (leastK xs F k).1, .int .i64 (leastK xs F k).2, .nat .i64 1]) true]) (fun k => xs.length - k) 0 (Nat.zero_le _) ?_ ?_ rfl ?_ ?_ rfl ?_
  · ((repeat' (first | exact trivial | apply And.intro)) <;> (first | rfl | (simp only [look, cond_true, cond_false]; done)))
  · (repeat' (first | exact trivial | exact .same _ | exact .dead _ | exact .gone rfl | exact .loose | assumption | exact .arr (by assumption) | apply And.intro))
  · (repeat' (first | exact trivial | exact rfl | assumption | apply Stable.ite | apply And.intro | intro _ | (simp only [Stable, StableL, i64S, prS, insS, sndsS, sndS, kS, kaS, ftS, ftsS]; done)))
  · (repeat' (first | exact trivial | exact rfl | assumption | apply Stable.ite | apply And.intro | intro _ | (simp only [Stable, StableL, i64S, prS, insS, sndsS, sndS, kS, kaS, ftS, ftsS]; done)))
  intro k hk
  obtain ⟨w1, w2, w3, w4⟩ := leastK_bd hx hc F k hk
  by_cases hkl : k < xs.length
  · obtain ⟨x, hX⟩ : ∃ x, xs.getD k ⟨0, 0, 0, 0, 0⟩ = x := ⟨_, rfl⟩
    have hR := right_at hx hc hkl
    rw [hX] at hR
    obtain ⟨o0, o1, a0, a1, b0, b1, c0, c1, n0', n1'⟩ := hR.ok
    have hb8 := hR.b
    have hbn : x.b.toNat < 8 := by omega
    obtain ⟨c, pp, hcp⟩ : ∃ c pp, leastK xs F k = (c, pp) := ⟨_, _, rfl⟩
    rw [hcp] at w1 w2 w3 w4
    rw [hcp]
    dsimp only at w1 w2 w3 w4 ⊢
    have hS : leastK xs F (k + 1) = leastS x (getF F k) (c, pp) := by show leastS (xs.getD k ⟨0, 0, 0, 0, 0⟩) (getF F k) (leastK xs F k) = _; rw [hX, hcp]
    cases hre : (getF F k).reached
    · have e : leastK xs F (k + 1) = (c, pp) := by rw [hS]; unfold leastS; simp [hre]
      have e1 : (leastK xs F (k + 1)).1 = c := by rw [e]
      have e2 : (leastK xs F (k + 1)).2 = pp := by rw [e]
      repeat' (first | with_reducible (first | apply J1 | apply J3 | apply J4 | apply J5 | apply J6 | apply J7 | apply J8 | apply J9 | apply J10 | apply J11 | apply J12 | apply J13 | apply J14 | apply J15 | apply J16 | apply J17 | apply J18 | apply J19 | apply J20 | refine J2 ?_) | ((with_reducible apply J21); (· rfl)) | ((with_reducible intro hif); first | (focus (cases hif; done)) | (simp only [JH] at hif; try (exfalso; omega)) | (try (exfalso; omega))) | ((first | ((with_reducible apply J22 cLst_ok tab_ok); (· rfl)) | ((with_reducible apply J23 fol cLst_ok tab_ok); (· rfl)) | with_reducible apply J24); (· (simp only [push_cast, ↓JP, Nat.reduceAdd, Nat.reduceEqDiff, Nat.reduceLT, Nat.reduceMul, Nat.reduceLeDiff, reduceCtorEq, reduceIte, ↓JK, ↓JF, cLst, ftsS, hX, inN, inR, hkl, hre]; rfl)); (try kernel_rfl); (try (focus (first | exact True.intro | ((try simp only [JS, implies_true, forall_const, shaped, shapedL, kndOf, cLst, ftsS, hX, inN, inR, hkl, hre]); (repeat' (first | assumption | exact True.intro | omega | apply And.intro)); done) | ((repeat' (first | assumption | exact True.intro | omega | apply And.intro)); done))))) | fail)
      refine At.nextPick [0, 1, 2, 3, 4, 5] (k + 1) ?_ rfl rfl rfl ?_ rfl ?_ ?_ ?_ rfl
      · exact ⟨hkl, by omega⟩
      · (repeat' (first | exact trivial | exact .inl rfl | exact .inr (.same _) | exact .inr .loose | exact .inr (.arr (by assumption)) | apply And.intro | (rw [e1, e2]; exact .inr (.same _))))
      · (repeat' (first | exact trivial | exact rfl | assumption | apply Stable.ite | apply And.intro | intro _ | (simp only [Stable, StableL, i64S, prS, insS, sndsS, sndS, kS, kaS, ftS, ftsS]; done)))
      · (repeat' (first | exact trivial | exact ⟨_, rfl, fun β => rfl⟩ | apply And.intro))
      · (repeat' (first | exact trivial | exact rfl | assumption | apply Stable.ite | apply And.intro | intro _ | (simp only [Stable, StableL, i64S, prS, insS, sndsS, sndS, kS, kaS, ftS, ftsS]; done)))
    · by_cases h8 : x.op = 8
      · have hn := send_n hR.one h8
        have e : leastK xs F (k + 1) = (c, max pp (x.n + 1)) := by rw [hS]; unfold leastS; simp [hre, h8]
        have e1 : (leastK xs F (k + 1)).1 = c := by rw [e]
        have e2 : (leastK xs F (k + 1)).2 = max pp (x.n + 1) := by rw [e]
        repeat' (first | with_reducible (first | apply J1 | apply J3 | apply J4 | apply J5 | apply J6 | apply J7 | apply J8 | apply J9 | apply J10 | apply J11 | apply J12 | apply J13 | apply J14 | apply J15 | apply J16 | apply J17 | apply J18 | apply J19 | apply J20 | refine J2 ?_) | ((with_reducible apply J21); (· rfl)) | ((with_reducible intro hif); first | (focus (cases hif; done)) | (simp only [JH] at hif; try (exfalso; omega)) | (try (exfalso; omega))) | ((first | ((with_reducible apply J22 cLst_ok tab_ok); (· rfl)) | ((with_reducible apply J23 fol cLst_ok tab_ok); (· rfl)) | with_reducible apply J24); (· (simp only [push_cast, ↓JP, Nat.reduceAdd, Nat.reduceEqDiff, Nat.reduceLT, Nat.reduceMul, Nat.reduceLeDiff, reduceCtorEq, reduceIte, ↓JK, ↓JF, cLst, ftsS, hX, inN, inR, hkl, hre, h8]; rfl)); (try kernel_rfl); (try (focus (first | exact True.intro | ((try simp only [JS, implies_true, forall_const, shaped, shapedL, kndOf, cLst, ftsS, hX, inN, inR, hkl, hre, h8]); (repeat' (first | assumption | exact True.intro | omega | apply And.intro)); done) | ((repeat' (first | assumption | exact True.intro | omega | apply And.intro)); done))))) | fail)
        refine At.nextPick [0, 1, 2, 3, 4, 5] (k + 1) ?_ rfl rfl rfl ?_ rfl ?_ ?_ ?_ rfl
        · exact ⟨hkl, by omega⟩
        · (repeat' (first | exact trivial | exact .inl rfl | exact .inr (.same _) | exact .inr .loose | exact .inr (.arr (by assumption)) | apply And.intro | (rw [e1, e2]; exact .inr (.same _))))
        · (repeat' (first | exact trivial | exact rfl | assumption | apply Stable.ite | apply And.intro | intro _ | (simp only [Stable, StableL, i64S, prS, insS, sndsS, sndS, kS, kaS, ftS, ftsS]; done)))
        · (repeat' (first | exact trivial | exact ⟨_, rfl, fun β => rfl⟩ | apply And.intro))
        · (repeat' (first | exact trivial | exact rfl | assumption | apply Stable.ite | apply And.intro | intro _ | (simp only [Stable, StableL, i64S, prS, insS, sndsS, sndS, kS, kaS, ftS, ftsS]; done)))
      · by_cases h5 : x.op = 5
        · cases q1 : ((getF F k).regs x.b.toNat).is_
          · have e : leastK xs F (k + 1) = (max c (0 + 1), pp) := by rw [hS]; unfold leastS; simp [hre, h5, q1, lstN]
            have e1 : (leastK xs F (k + 1)).1 = max c (0 + 1) := by rw [e]
            have e2 : (leastK xs F (k + 1)).2 = pp := by rw [e]
            repeat' (first | with_reducible (first | apply J1 | apply J3 | apply J4 | apply J5 | apply J6 | apply J7 | apply J8 | apply J9 | apply J10 | apply J11 | apply J12 | apply J13 | apply J14 | apply J15 | apply J16 | apply J17 | apply J18 | apply J19 | apply J20 | refine J2 ?_) | ((with_reducible apply J21); (· rfl)) | ((with_reducible intro hif); first | (focus (cases hif; done)) | (simp only [JH] at hif; try (exfalso; omega)) | (try (exfalso; omega))) | ((first | ((with_reducible apply J22 cLst_ok tab_ok); (· rfl)) | ((with_reducible apply J23 fol cLst_ok tab_ok); (· rfl)) | with_reducible apply J24); (· (simp only [push_cast, ↓JP, Nat.reduceAdd, Nat.reduceEqDiff, Nat.reduceLT, Nat.reduceMul, Nat.reduceLeDiff, reduceCtorEq, reduceIte, ↓JK, ↓JF, cLst, ftsS, hX, inN, inR, hkl, hre, h5, q1]; rfl)); (try kernel_rfl); (try (focus (first | exact True.intro | ((try simp only [JS, implies_true, forall_const, shaped, shapedL, kndOf, cLst, ftsS, hX, inN, inR, hkl, hre, h5, q1]); (repeat' (first | assumption | exact True.intro | omega | apply And.intro)); done) | ((repeat' (first | assumption | exact True.intro | omega | apply And.intro)); done))))) | fail)
            refine At.nextPick [0, 1, 2, 3, 4, 5] (k + 1) ?_ rfl rfl rfl ?_ rfl ?_ ?_ ?_ rfl
            · exact ⟨hkl, by omega⟩
            · (repeat' (first | exact trivial | exact .inl rfl | exact .inr (.same _) | exact .inr .loose | exact .inr (.arr (by assumption)) | apply And.intro | (rw [e1, e2]; exact .inr (.same _))))
            · (repeat' (first | exact trivial | exact rfl | assumption | apply Stable.ite | apply And.intro | intro _ | (simp only [Stable, StableL, i64S, prS, insS, sndsS, sndS, kS, kaS, ftS, ftsS]; done)))
            · (repeat' (first | exact trivial | exact ⟨_, rfl, fun β => rfl⟩ | apply And.intro))
            · (repeat' (first | exact trivial | exact rfl | assumption | apply Stable.ite | apply And.intro | intro _ | (simp only [Stable, StableL, i64S, prS, insS, sndsS, sndS, kS, kaS, ftS, ftsS]; done)))
          · by_cases q2 : ((getF F k).regs x.b.toNat).n < 0
            · have e : leastK xs F (k + 1) = (max c (0 + 1), pp) := by rw [hS]; unfold leastS; simp [hre, h5, q1, q2, lstN]
              have e1 : (leastK xs F (k + 1)).1 = max c (0 + 1) := by rw [e]
              have e2 : (leastK xs F (k + 1)).2 = pp := by rw [e]
              repeat' (first | with_reducible (first | apply J1 | apply J3 | apply J4 | apply J5 | apply J6 | apply J7 | apply J8 | apply J9 | apply J10 | apply J11 | apply J12 | apply J13 | apply J14 | apply J15 | apply J16 | apply J17 | apply J18 | apply J19 | apply J20 | refine J2 ?_) | ((with_reducible apply J21); (· rfl)) | ((with_reducible intro hif); first | (focus (cases hif; done)) | (simp only [JH] at hif; try (exfalso; omega)) | (try (exfalso; omega))) | ((first | ((with_reducible apply J22 cLst_ok tab_ok); (· rfl)) | ((with_reducible apply J23 fol cLst_ok tab_ok); (· rfl)) | with_reducible apply J24); (· (simp only [push_cast, ↓JP, Nat.reduceAdd, Nat.reduceEqDiff, Nat.reduceLT, Nat.reduceMul, Nat.reduceLeDiff, reduceCtorEq, reduceIte, ↓JK, ↓JF, cLst, ftsS, hX, inN, inR, hkl, hre, h5, q1, q2]; rfl)); (try kernel_rfl); (try (focus (first | exact True.intro | ((try simp only [JS, implies_true, forall_const, shaped, shapedL, kndOf, cLst, ftsS, hX, inN, inR, hkl, hre, h5, q1, q2]); (repeat' (first | assumption | exact True.intro | omega | apply And.intro)); done) | ((repeat' (first | assumption | exact True.intro | omega | apply And.intro)); done))))) | fail)
              refine At.nextPick [0, 1, 2, 3, 4, 5] (k + 1) ?_ rfl rfl rfl ?_ rfl ?_ ?_ ?_ rfl
              · exact ⟨hkl, by omega⟩
              · (repeat' (first | exact trivial | exact .inl rfl | exact .inr (.same _) | exact .inr .loose | exact .inr (.arr (by assumption)) | apply And.intro | (rw [e1, e2]; exact .inr (.same _))))
              · (repeat' (first | exact trivial | exact rfl | assumption | apply Stable.ite | apply And.intro | intro _ | (simp only [Stable, StableL, i64S, prS, insS, sndsS, sndS, kS, kaS, ftS, ftsS]; done)))
              · (repeat' (first | exact trivial | exact ⟨_, rfl, fun β => rfl⟩ | apply And.intro))
              · (repeat' (first | exact trivial | exact rfl | assumption | apply Stable.ite | apply And.intro | intro _ | (simp only [Stable, StableL, i64S, prS, insS, sndsS, sndS, kS, kaS, ftS, ftsS]; done)))
            · by_cases q3 : 1024 ≤ ((getF F k).regs x.b.toNat).n
              · have e : leastK xs F (k + 1) = (max c (0 + 1), pp) := by rw [hS]; unfold leastS; simp [hre, h5, q1, q2, q3, lstN]
                have e1 : (leastK xs F (k + 1)).1 = max c (0 + 1) := by rw [e]
                have e2 : (leastK xs F (k + 1)).2 = pp := by rw [e]
                repeat' (first | with_reducible (first | apply J1 | apply J3 | apply J4 | apply J5 | apply J6 | apply J7 | apply J8 | apply J9 | apply J10 | apply J11 | apply J12 | apply J13 | apply J14 | apply J15 | apply J16 | apply J17 | apply J18 | apply J19 | apply J20 | refine J2 ?_) | ((with_reducible apply J21); (· rfl)) | ((with_reducible intro hif); first | (focus (cases hif; done)) | (simp only [JH] at hif; try (exfalso; omega)) | (try (exfalso; omega))) | ((first | ((with_reducible apply J22 cLst_ok tab_ok); (· rfl)) | ((with_reducible apply J23 fol cLst_ok tab_ok); (· rfl)) | with_reducible apply J24); (· (simp only [push_cast, ↓JP, Nat.reduceAdd, Nat.reduceEqDiff, Nat.reduceLT, Nat.reduceMul, Nat.reduceLeDiff, reduceCtorEq, reduceIte, ↓JK, ↓JF, cLst, ftsS, hX, inN, inR, hkl, hre, h5, q1, q2, q3]; rfl)); (try kernel_rfl); (try (focus (first | exact True.intro | ((try simp only [JS, implies_true, forall_const, shaped, shapedL, kndOf, cLst, ftsS, hX, inN, inR, hkl, hre, h5, q1, q2, q3]); (repeat' (first | assumption | exact True.intro | omega | apply And.intro)); done) | ((repeat' (first | assumption | exact True.intro | omega | apply And.intro)); done))))) | fail)
                refine At.nextPick [0, 1, 2, 3, 4, 5] (k + 1) ?_ rfl rfl rfl ?_ rfl ?_ ?_ ?_ rfl
                · exact ⟨hkl, by omega⟩
                · (repeat' (first | exact trivial | exact .inl rfl | exact .inr (.same _) | exact .inr .loose | exact .inr (.arr (by assumption)) | apply And.intro | (rw [e1, e2]; exact .inr (.same _))))
                · (repeat' (first | exact trivial | exact rfl | assumption | apply Stable.ite | apply And.intro | intro _ | (simp only [Stable, StableL, i64S, prS, insS, sndsS, sndS, kS, kaS, ftS, ftsS]; done)))
                · (repeat' (first | exact trivial | exact ⟨_, rfl, fun β => rfl⟩ | apply And.intro))
                · (repeat' (first | exact trivial | exact rfl | assumption | apply Stable.ite | apply And.intro | intro _ | (simp only [Stable, StableL, i64S, prS, insS, sndsS, sndS, kS, kaS, ftS, ftsS]; done)))
              · have e : leastK xs F (k + 1) = (max c (((getF F k).regs x.b.toNat).n + 1), pp) := by rw [hS]; unfold leastS; simp [hre, h5, q1, q2, q3, lstN]
                have e1 : (leastK xs F (k + 1)).1 = max c (((getF F k).regs x.b.toNat).n + 1) := by rw [e]
                have e2 : (leastK xs F (k + 1)).2 = pp := by rw [e]
                repeat' (first | with_reducible (first | apply J1 | apply J3 | apply J4 | apply J5 | apply J6 | apply J7 | apply J8 | apply J9 | apply J10 | apply J11 | apply J12 | apply J13 | apply J14 | apply J15 | apply J16 | apply J17 | apply J18 | apply J19 | apply J20 | refine J2 ?_) | ((with_reducible apply J21); (· rfl)) | ((with_reducible intro hif); first | (focus (cases hif; done)) | (simp only [JH] at hif; try (exfalso; omega)) | (try (exfalso; omega))) | ((first | ((with_reducible apply J22 cLst_ok tab_ok); (· rfl)) | ((with_reducible apply J23 fol cLst_ok tab_ok); (· rfl)) | with_reducible apply J24); (· (simp only [push_cast, ↓JP, Nat.reduceAdd, Nat.reduceEqDiff, Nat.reduceLT, Nat.reduceMul, Nat.reduceLeDiff, reduceCtorEq, reduceIte, ↓JK, ↓JF, cLst, ftsS, hX, inN, inR, hkl, hre, h5, q1, q2, q3]; rfl)); (try kernel_rfl); (try (focus (first | exact True.intro | ((try simp only [JS, implies_true, forall_const, shaped, shapedL, kndOf, cLst, ftsS, hX, inN, inR, hkl, hre, h5, q1, q2, q3]); (repeat' (first | assumption | exact True.intro | omega | apply And.intro)); done) | ((repeat' (first | assumption | exact True.intro | omega | apply And.intro)); done))))) | fail)
                refine At.nextPick [0, 1, 2, 3, 4, 5] (k + 1) ?_ rfl rfl rfl ?_ rfl ?_ ?_ ?_ rfl
                · exact ⟨hkl, by omega⟩
                · (repeat' (first | exact trivial | exact .inl rfl | exact .inr (.same _) | exact .inr .loose | exact .inr (.arr (by assumption)) | apply And.intro | (rw [e1, e2]; exact .inr (.same _))))
                · (repeat' (first | exact trivial | exact rfl | assumption | apply Stable.ite | apply And.intro | intro _ | (simp only [Stable, StableL, i64S, prS, insS, sndsS, sndS, kS, kaS, ftS, ftsS]; done)))
                · (repeat' (first | exact trivial | exact ⟨_, rfl, fun β => rfl⟩ | apply And.intro))
                · (repeat' (first | exact trivial | exact rfl | assumption | apply Stable.ite | apply And.intro | intro _ | (simp only [Stable, StableL, i64S, prS, insS, sndsS, sndS, kS, kaS, ftS, ftsS]; done)))
        · by_cases h6 : x.op = 6
          · cases q1 : ((getF F k).regs x.b.toNat).is_
            · have e : leastK xs F (k + 1) = (max c (0 + 1), pp) := by rw [hS]; unfold leastS; simp [hre, h6, q1, lstN]
              have e1 : (leastK xs F (k + 1)).1 = max c (0 + 1) := by rw [e]
              have e2 : (leastK xs F (k + 1)).2 = pp := by rw [e]
              repeat' (first | with_reducible (first | apply J1 | apply J3 | apply J4 | apply J5 | apply J6 | apply J7 | apply J8 | apply J9 | apply J10 | apply J11 | apply J12 | apply J13 | apply J14 | apply J15 | apply J16 | apply J17 | apply J18 | apply J19 | apply J20 | refine J2 ?_) | ((with_reducible apply J21); (· rfl)) | ((with_reducible intro hif); first | (focus (cases hif; done)) | (simp only [JH] at hif; try (exfalso; omega)) | (try (exfalso; omega))) | ((first | ((with_reducible apply J22 cLst_ok tab_ok); (· rfl)) | ((with_reducible apply J23 fol cLst_ok tab_ok); (· rfl)) | with_reducible apply J24); (· (simp only [push_cast, ↓JP, Nat.reduceAdd, Nat.reduceEqDiff, Nat.reduceLT, Nat.reduceMul, Nat.reduceLeDiff, reduceCtorEq, reduceIte, ↓JK, ↓JF, cLst, ftsS, hX, inN, inR, hkl, hre, h6, q1]; rfl)); (try kernel_rfl); (try (focus (first | exact True.intro | ((try simp only [JS, implies_true, forall_const, shaped, shapedL, kndOf, cLst, ftsS, hX, inN, inR, hkl, hre, h6, q1]); (repeat' (first | assumption | exact True.intro | omega | apply And.intro)); done) | ((repeat' (first | assumption | exact True.intro | omega | apply And.intro)); done))))) | fail)
              refine At.nextPick [0, 1, 2, 3, 4, 5] (k + 1) ?_ rfl rfl rfl ?_ rfl ?_ ?_ ?_ rfl
              · exact ⟨hkl, by omega⟩
              · (repeat' (first | exact trivial | exact .inl rfl | exact .inr (.same _) | exact .inr .loose | exact .inr (.arr (by assumption)) | apply And.intro | (rw [e1, e2]; exact .inr (.same _))))
              · (repeat' (first | exact trivial | exact rfl | assumption | apply Stable.ite | apply And.intro | intro _ | (simp only [Stable, StableL, i64S, prS, insS, sndsS, sndS, kS, kaS, ftS, ftsS]; done)))
              · (repeat' (first | exact trivial | exact ⟨_, rfl, fun β => rfl⟩ | apply And.intro))
              · (repeat' (first | exact trivial | exact rfl | assumption | apply Stable.ite | apply And.intro | intro _ | (simp only [Stable, StableL, i64S, prS, insS, sndsS, sndS, kS, kaS, ftS, ftsS]; done)))
            · by_cases q2 : ((getF F k).regs x.b.toNat).n < 0
              · have e : leastK xs F (k + 1) = (max c (0 + 1), pp) := by rw [hS]; unfold leastS; simp [hre, h6, q1, q2, lstN]
                have e1 : (leastK xs F (k + 1)).1 = max c (0 + 1) := by rw [e]
                have e2 : (leastK xs F (k + 1)).2 = pp := by rw [e]
                repeat' (first | with_reducible (first | apply J1 | apply J3 | apply J4 | apply J5 | apply J6 | apply J7 | apply J8 | apply J9 | apply J10 | apply J11 | apply J12 | apply J13 | apply J14 | apply J15 | apply J16 | apply J17 | apply J18 | apply J19 | apply J20 | refine J2 ?_) | ((with_reducible apply J21); (· rfl)) | ((with_reducible intro hif); first | (focus (cases hif; done)) | (simp only [JH] at hif; try (exfalso; omega)) | (try (exfalso; omega))) | ((first | ((with_reducible apply J22 cLst_ok tab_ok); (· rfl)) | ((with_reducible apply J23 fol cLst_ok tab_ok); (· rfl)) | with_reducible apply J24); (· (simp only [push_cast, ↓JP, Nat.reduceAdd, Nat.reduceEqDiff, Nat.reduceLT, Nat.reduceMul, Nat.reduceLeDiff, reduceCtorEq, reduceIte, ↓JK, ↓JF, cLst, ftsS, hX, inN, inR, hkl, hre, h6, q1, q2]; rfl)); (try kernel_rfl); (try (focus (first | exact True.intro | ((try simp only [JS, implies_true, forall_const, shaped, shapedL, kndOf, cLst, ftsS, hX, inN, inR, hkl, hre, h6, q1, q2]); (repeat' (first | assumption | exact True.intro | omega | apply And.intro)); done) | ((repeat' (first | assumption | exact True.intro | omega | apply And.intro)); done))))) | fail)
                refine At.nextPick [0, 1, 2, 3, 4, 5] (k + 1) ?_ rfl rfl rfl ?_ rfl ?_ ?_ ?_ rfl
                · exact ⟨hkl, by omega⟩
                · (repeat' (first | exact trivial | exact .inl rfl | exact .inr (.same _) | exact .inr .loose | exact .inr (.arr (by assumption)) | apply And.intro | (rw [e1, e2]; exact .inr (.same _))))
                · (repeat' (first | exact trivial | exact rfl | assumption | apply Stable.ite | apply And.intro | intro _ | (simp only [Stable, StableL, i64S, prS, insS, sndsS, sndS, kS, kaS, ftS, ftsS]; done)))
                · (repeat' (first | exact trivial | exact ⟨_, rfl, fun β => rfl⟩ | apply And.intro))
                · (repeat' (first | exact trivial | exact rfl | assumption | apply Stable.ite | apply And.intro | intro _ | (simp only [Stable, StableL, i64S, prS, insS, sndsS, sndS, kS, kaS, ftS, ftsS]; done)))
              · by_cases q3 : 1024 ≤ ((getF F k).regs x.b.toNat).n
                · have e : leastK xs F (k + 1) = (max c (0 + 1), pp) := by rw [hS]; unfold leastS; simp [hre, h6, q1, q2, q3, lstN]
                  have e1 : (leastK xs F (k + 1)).1 = max c (0 + 1) := by rw [e]
                  have e2 : (leastK xs F (k + 1)).2 = pp := by rw [e]
                  repeat' (first | with_reducible (first | apply J1 | apply J3 | apply J4 | apply J5 | apply J6 | apply J7 | apply J8 | apply J9 | apply J10 | apply J11 | apply J12 | apply J13 | apply J14 | apply J15 | apply J16 | apply J17 | apply J18 | apply J19 | apply J20 | refine J2 ?_) | ((with_reducible apply J21); (· rfl)) | ((with_reducible intro hif); first | (focus (cases hif; done)) | (simp only [JH] at hif; try (exfalso; omega)) | (try (exfalso; omega))) | ((first | ((with_reducible apply J22 cLst_ok tab_ok); (· rfl)) | ((with_reducible apply J23 fol cLst_ok tab_ok); (· rfl)) | with_reducible apply J24); (· (simp only [push_cast, ↓JP, Nat.reduceAdd, Nat.reduceEqDiff, Nat.reduceLT, Nat.reduceMul, Nat.reduceLeDiff, reduceCtorEq, reduceIte, ↓JK, ↓JF, cLst, ftsS, hX, inN, inR, hkl, hre, h6, q1, q2, q3]; rfl)); (try kernel_rfl); (try (focus (first | exact True.intro | ((try simp only [JS, implies_true, forall_const, shaped, shapedL, kndOf, cLst, ftsS, hX, inN, inR, hkl, hre, h6, q1, q2, q3]); (repeat' (first | assumption | exact True.intro | omega | apply And.intro)); done) | ((repeat' (first | assumption | exact True.intro | omega | apply And.intro)); done))))) | fail)
                  refine At.nextPick [0, 1, 2, 3, 4, 5] (k + 1) ?_ rfl rfl rfl ?_ rfl ?_ ?_ ?_ rfl
                  · exact ⟨hkl, by omega⟩
                  · (repeat' (first | exact trivial | exact .inl rfl | exact .inr (.same _) | exact .inr .loose | exact .inr (.arr (by assumption)) | apply And.intro | (rw [e1, e2]; exact .inr (.same _))))
                  · (repeat' (first | exact trivial | exact rfl | assumption | apply Stable.ite | apply And.intro | intro _ | (simp only [Stable, StableL, i64S, prS, insS, sndsS, sndS, kS, kaS, ftS, ftsS]; done)))
                  · (repeat' (first | exact trivial | exact ⟨_, rfl, fun β => rfl⟩ | apply And.intro))
                  · (repeat' (first | exact trivial | exact rfl | assumption | apply Stable.ite | apply And.intro | intro _ | (simp only [Stable, StableL, i64S, prS, insS, sndsS, sndS, kS, kaS, ftS, ftsS]; done)))
                · have e : leastK xs F (k + 1) = (max c (((getF F k).regs x.b.toNat).n + 1), pp) := by rw [hS]; unfold leastS; simp [hre, h6, q1, q2, q3, lstN]
                  have e1 : (leastK xs F (k + 1)).1 = max c (((getF F k).regs x.b.toNat).n + 1) := by rw [e]
                  have e2 : (leastK xs F (k + 1)).2 = pp := by rw [e]
                  repeat' (first | with_reducible (first | apply J1 | apply J3 | apply J4 | apply J5 | apply J6 | apply J7 | apply J8 | apply J9 | apply J10 | apply J11 | apply J12 | apply J13 | apply J14 | apply J15 | apply J16 | apply J17 | apply J18 | apply J19 | apply J20 | refine J2 ?_) | ((with_reducible apply J21); (· rfl)) | ((with_reducible intro hif); first | (focus (cases hif; done)) | (simp only [JH] at hif; try (exfalso; omega)) | (try (exfalso; omega))) | ((first | ((with_reducible apply J22 cLst_ok tab_ok); (· rfl)) | ((with_reducible apply J23 fol cLst_ok tab_ok); (· rfl)) | with_reducible apply J24); (· (simp only [push_cast, ↓JP, Nat.reduceAdd, Nat.reduceEqDiff, Nat.reduceLT, Nat.reduceMul, Nat.reduceLeDiff, reduceCtorEq, reduceIte, ↓JK, ↓JF, cLst, ftsS, hX, inN, inR, hkl, hre, h6, q1, q2, q3]; rfl)); (try kernel_rfl); (try (focus (first | exact True.intro | ((try simp only [JS, implies_true, forall_const, shaped, shapedL, kndOf, cLst, ftsS, hX, inN, inR, hkl, hre, h6, q1, q2, q3]); (repeat' (first | assumption | exact True.intro | omega | apply And.intro)); done) | ((repeat' (first | assumption | exact True.intro | omega | apply And.intro)); done))))) | fail)
                  refine At.nextPick [0, 1, 2, 3, 4, 5] (k + 1) ?_ rfl rfl rfl ?_ rfl ?_ ?_ ?_ rfl
                  · exact ⟨hkl, by omega⟩
                  · (repeat' (first | exact trivial | exact .inl rfl | exact .inr (.same _) | exact .inr .loose | exact .inr (.arr (by assumption)) | apply And.intro | (rw [e1, e2]; exact .inr (.same _))))
                  · (repeat' (first | exact trivial | exact rfl | assumption | apply Stable.ite | apply And.intro | intro _ | (simp only [Stable, StableL, i64S, prS, insS, sndsS, sndS, kS, kaS, ftS, ftsS]; done)))
                  · (repeat' (first | exact trivial | exact ⟨_, rfl, fun β => rfl⟩ | apply And.intro))
                  · (repeat' (first | exact trivial | exact rfl | assumption | apply Stable.ite | apply And.intro | intro _ | (simp only [Stable, StableL, i64S, prS, insS, sndsS, sndS, kS, kaS, ftS, ftsS]; done)))
          · have e : leastK xs F (k + 1) = (c, pp) := by rw [hS]; unfold leastS; simp [hre, h8, h5, h6]
            have e1 : (leastK xs F (k + 1)).1 = c := by rw [e]
            have e2 : (leastK xs F (k + 1)).2 = pp := by rw [e]
            repeat' (first | with_reducible (first | apply J1 | apply J3 | apply J4 | apply J5 | apply J6 | apply J7 | apply J8 | apply J9 | apply J10 | apply J11 | apply J12 | apply J13 | apply J14 | apply J15 | apply J16 | apply J17 | apply J18 | apply J19 | apply J20 | refine J2 ?_) | ((with_reducible apply J21); (· rfl)) | ((with_reducible intro hif); first | (focus (cases hif; done)) | (simp only [JH] at hif; try (exfalso; omega)) | (try (exfalso; omega))) | ((first | ((with_reducible apply J22 cLst_ok tab_ok); (· rfl)) | ((with_reducible apply J23 fol cLst_ok tab_ok); (· rfl)) | with_reducible apply J24); (· (simp only [push_cast, ↓JP, Nat.reduceAdd, Nat.reduceEqDiff, Nat.reduceLT, Nat.reduceMul, Nat.reduceLeDiff, reduceCtorEq, reduceIte, ↓JK, ↓JF, cLst, ftsS, hX, inN, inR, hkl, hre, h8, h5, h6]; rfl)); (try kernel_rfl); (try (focus (first | exact True.intro | ((try simp only [JS, implies_true, forall_const, shaped, shapedL, kndOf, cLst, ftsS, hX, inN, inR, hkl, hre, h8, h5, h6]); (repeat' (first | assumption | exact True.intro | omega | apply And.intro)); done) | ((repeat' (first | assumption | exact True.intro | omega | apply And.intro)); done))))) | fail)
            refine At.nextPick [0, 1, 2, 3, 4, 5] (k + 1) ?_ rfl rfl rfl ?_ rfl ?_ ?_ ?_ rfl
            · exact ⟨hkl, by omega⟩
            · (repeat' (first | exact trivial | exact .inl rfl | exact .inr (.same _) | exact .inr .loose | exact .inr (.arr (by assumption)) | apply And.intro | (rw [e1, e2]; exact .inr (.same _))))
            · (repeat' (first | exact trivial | exact rfl | assumption | apply Stable.ite | apply And.intro | intro _ | (simp only [Stable, StableL, i64S, prS, insS, sndsS, sndS, kS, kaS, ftS, ftsS]; done)))
            · (repeat' (first | exact trivial | exact ⟨_, rfl, fun β => rfl⟩ | apply And.intro))
            · (repeat' (first | exact trivial | exact rfl | assumption | apply Stable.ite | apply And.intro | intro _ | (simp only [Stable, StableL, i64S, prS, insS, sndsS, sndS, kS, kaS, ftS, ftsS]; done)))
  · obtain rfl : k = xs.length := by omega
    repeat' (first | with_reducible (first | apply J1 | apply J3 | apply J4 | apply J5 | apply J6 | apply J7 | apply J8 | apply J9 | apply J10 | apply J11 | apply J12 | apply J13 | apply J14 | apply J15 | apply J16 | apply J17 | apply J18 | apply J19 | apply J20 | refine J2 ?_) | ((with_reducible apply J21); (· rfl)) | ((with_reducible intro hif); first | (focus (cases hif; done)) | (simp only [JH] at hif; try (exfalso; omega)) | (try (exfalso; omega))) | ((first | ((with_reducible apply J22 cLst_ok tab_ok); (· rfl)) | ((with_reducible apply J23 fol cLst_ok tab_ok); (· rfl)) | with_reducible apply J24); (· (simp only [push_cast, ↓JP, Nat.reduceAdd, Nat.reduceEqDiff, Nat.reduceLT, Nat.reduceMul, Nat.reduceLeDiff, reduceCtorEq, reduceIte, ↓JK, ↓JF, cLst, ftsS, inN, inR]; rfl)); (try kernel_rfl); (try (focus (first | exact True.intro | ((try simp only [JS, implies_true, forall_const, shaped, shapedL, kndOf, cLst, ftsS, inN, inR]); (repeat' (first | assumption | exact True.intro | omega | apply And.intro)); done) | ((repeat' (first | assumption | exact True.intro | omega | apply And.intro)); done))))) | fail)
    apply At.endsRet tab_ok (fn := Try.f20) (rs := [.cell 2 31, .tmp 3]) Anc.refl hro (Nat.le_of_ble_eq_true rfl) rfl
    · simp only [push_cast, ↓JP, Nat.reduceAdd, Nat.reduceEqDiff, Nat.reduceLT, Nat.reduceMul, Nat.reduceLeDiff, reduceCtorEq, reduceIte, ↓JK, ↓JF, resV, resV1]; rfl
    · (first | trivial | (simp only [and_self]; done))
    · (repeat' (first | exact trivial | exact .same _ | exact .dead _ | exact .gone rfl | exact .loose | assumption | exact .arr (by assumption) | apply And.intro))
    · rfl
    · (repeat' (first | exact trivial | exact rfl | assumption | apply Stable.ite | apply And.intro | intro _ | (simp only [Stable, StableL, i64S, prS, insS, sndsS, sndS, kS, kaS, ftS, ftsS]; done)))
    · (repeat' (first | exact trivial | exact .inl rfl | exact .inr rfl | exact rfl | apply And.intro))
    · exact fun β => rfl
    · (repeat' (first | exact trivial | exact rfl | assumption | apply Stable.ite | apply And.intro | intro _ | (simp only [Stable, StableL, i64S, prS, insS, sndsS, sndS, kS, kaS, ftS, ftsS]; done)))
def sLeast : Spec := fun args h m => match args with
  | [v1] => match srcV h 5 (.tup []) v1 with
    | some (c1, n1, f1, r1) => some (c1 ∧ (∀ q, q < n1 → isIns (f1 q) = true) ∧ ((∀ x ∈ (ls insOf n1 f1), x.ok)) ∧ ((checkI (ls insOf n1 f1)).2 = 0), .tup [.agg [.int .i64 (leastK (ls insOf n1 f1) (factsS (ls insOf n1 f1)) (ls insOf n1 f1).length).1, .int .i64 (leastK (ls insOf n1 f1) (factsS (ls insOf n1 f1)) (ls insOf n1 f1).length).2, .int .i64 1], .int .i64 0], r1, [])
    | _ => none
  | _ => none
theorem sLeast_ok : CallOk Try.prog 20 sLeast := by
  refine ⟨named_spec (by kernel_rfl), fun args h m c v rd wr hs hm hc w0 M β h' w R hrd hwr hst => ?_⟩
  unfold sLeast at hs
  split at hs
  · rename_i v1
    split at hs
    · rename_i c1 n1 f1 r1 a1
      simp only [Option.some.injEq, Prod.mk.injEq] at hs
      obtain ⟨rfl, rfl, rfl, rfl⟩ := hs
      obtain ⟨k1, g1, y1, y2⟩ := hc
      obtain ⟨A1, p1, d1, e1, t1⟩ := reads_src R a1 k1 (fun i hi => hrd i hi) (by omega)
      refine callRo (views := [⟨5, (ls insOf n1 f1).length, prS (ls insOf n1 f1), A1, p1⟩]) (Least_lit (ls insOf n1 f1) p1 y1 y2) ?_ R hm hwr ?_ ?_ ?_
      · intro x hx
        simp only [List.mem_cons, List.not_mem_nil, or_false] at hx
        subst hx
        · exact viewIns t1 e1 g1
      · intro β1 hv
        simp only [Vd, ls_length, and_true] at hv
        have z1 := hv
        simp only [denL, aggDen, intDen, natDen, boolDen, ls_length, z1, d1]
      · (repeat' (first | exact trivial | exact rfl | assumption | apply Stable.ite | apply And.intro | intro _ | (simp only [Stable, StableL, i64S, prS, insS, sndsS, sndS, kS, kaS, ftS, ftsS]; done)))
      · (repeat' (first | exact trivial | exact rfl | assumption | apply Stable.ite | apply And.intro | intro _ | (simp only [Stable, StableL, i64S, prS, insS, sndsS, sndS, kS, kaS, ftS, ftsS]; done)))
    · cases hs
  · cases hs
end Go.Proofs.Ytmljmabbopkpiaa.Vm
end

section
/- check: whys, Doomed, Check, of right programs. -/
namespace Go.Proofs.Ytmljmabbopkpiaa.Vm
open Go.RowKit
attribute [local push_cast] runR opG gtmp gval gus opX tmpsOf tm tmO tmP restr look look2 tab tys zs ets eqB eqBL allB numOf ieq Int.cast_ofNat_Int Int.ofNat_zero beq_true beq_false frameOf ev evL ofV opV loadV noW pushF wrsL setH allBorn allGone HB.born HB.isGone HB.val SV.plain dstOk hp nav fitsT SV.size sizeL SV.isAgg TK.size TK.agg bin binE binN binI arN arI cmpN cmpI keq kn narrow callV storeV setp fillV buildV buildSliceV makeV sliceV appendV copyV List.isEmpty_nil srcV evO asN ite_t ite_f ite_bool ite_int ite_nat maxV v_beq v_ble v_blt cond_true cond_false List.getElem?_cons_zero List.getElem?_cons_succ List.getD_cons_zero List.getD_cons_succ List.getD_nil List.length_cons List.length_nil List.take_succ_cons List.take_zero List.set_cons_zero List.set_cons_succ List.cons_append List.nil_append List.append_assoc List.replicate_succ List.replicate_zero Nat.zero_add Nat.add_zero decide_true decide_false Bool.true_and Bool.and_true Bool.false_and Bool.and_false Bool.true_or Bool.or_true Bool.false_or Bool.or_false beq_self_eq_true Bool.or_self Nat.lt_irrefl Nat.not_lt_zero Nat.le_refl Option.getD_some Option.getD_none BEq.rfl Bool.not_true Bool.not_false Bool.cond_true_left Bool.cond_false_right prS sndsS i64S nav_ins nav_ins0 nav_ins1 nav_ins2 nav_ins3 nav_ins4 nav_snd nav_snd0 nav_snd1 nav_snd2 isIns_insS insOf_insS isSnd_sndS sndOf_sndS isI_int isI_nat iOf nav_k nav_k0 nav_k1 nav_ka nav_kai nav_ft nav_ft0 nav_ft1 isKn_kS knOf_kS isKa_kaS kaOf_kaS isFt_ftS ftOf_ftS setp_ka setp_ftk setp_ftr setp_fti evm_ins evm_snd evm_k evm_ka evm_ft
set_option linter.unusedVariables false
set_option linter.unusedSimpArgs false
set_option maxRecDepth 100000
set_option maxHeartbeats 4000000
theorem At.empty {w0 : World} {M : Nat → Prop} {E : Env} {n0 N : Nat} {D : List Deferred} {φ : Fr} {L : List HB} {K : Act → World → Prop} (ty k : Nat) (f : Nat → SV) (hf : ∀ (h : HM) (q : Nat), Stable h (f q))
    (h : At w0 M E n0 N D φ (L ++ [.own ty (.arr 0 k f) false]) K) : At w0 M E n0 N D φ L K := fun a w hS => by
  obtain ⟨⟨β, hE, R, F⟩, hbn, hsz, hd⟩ := hS
  have hm : hp L L.length = .dead := hp_dead (Nat.le_refl _)
  have R1 := nothing R (e := ty) (k := k) (g := f) hm (fun q => hf _ q)
  have hag : ∀ i, (hp L i).born = true → β i = setE β L.length (none, 0) i := agree_setE hm
  have hborn : ∀ i, (hp L i).born = true → (upd (hp L) L.length (.own ty (.arr 0 k f) false) i).born = true := fun i hi => by
    unfold Vm.upd; split
    · rfl
    · exact hi
  refine h a w ⟨⟨setE β L.length (none, 0), fun i hi => (hag i (hbn i hi)).symm.trans (hE i hi), by rw [hp_append1]; exact R1, fun u v hu => ?_⟩, fun i hi => by rw [hp_append1]; exact hborn i (hbn i hi), hsz, hd⟩
  rw [hp_append1]
  obtain ⟨k1, k2⟩ := F u v hu
  exact ⟨k1.more hborn, by rw [k2]; exact k1.den hag⟩
theorem whys_lit (n p : Nat) (a b c : Int) : LitOk Try.prog 83 [.agg [.int .i64 a, .int .i64 b, .int .i64 c], .sl 1 2 [] 5 0 n (some p)] [.gone, .gone, .gone] (.fn 117 [.ptr 4 [], .ptr 3 []]) [.gone, .gone, .gone, .own 31 (.agg [.int .i64 a, .int .i64 b, .int .i64 c]) true, .own 25 (.sl 1 2 [] 5 0 n (some p)) true] := by
  refine litOkM (fn := Try.f83) 3 6 0 rfl rfl rfl rfl rfl (by simp only [StableL, Stable, hp]; simp [HB.born]) rfl fun w0 M E hro => ?_
  repeat' (first | with_reducible (first | apply J1 | apply J3 | apply J4 | apply J5 | apply J6 | apply J7 | apply J8 | apply J9 | apply J10 | apply J11 | apply J12 | apply J13 | apply J14 | apply J15 | apply J16 | apply J17 | apply J18 | apply J19 | apply J20 | refine J2 ?_) | ((with_reducible apply J21); (· rfl)) | ((with_reducible intro hif); first | (focus (cases hif; done)) | (simp only [JH] at hif; try (exfalso; omega)) | (try (exfalso; omega))) | ((first | ((with_reducible apply J22 noCk_ok tab_ok); (· rfl)) | ((with_reducible apply J23 fol noCk_ok tab_ok); (· rfl)) | with_reducible apply J24); (· (simp only [push_cast, ↓JP, Nat.reduceAdd, Nat.reduceEqDiff, Nat.reduceLT, Nat.reduceMul, Nat.reduceLeDiff, reduceCtorEq, reduceIte, ↓JK, ↓JF]; rfl)); (try kernel_rfl); (try (focus (first | exact True.intro | ((try simp only [JS, implies_true, forall_const, shaped, shapedL, kndOf]); (repeat' (first | assumption | exact True.intro | omega | apply And.intro)); done) | ((repeat' (first | assumption | exact True.intro | omega | apply And.intro)); done))))) | fail)
  apply At.endsRet tab_ok (fn := Try.f83) (rs := [.tmp 4]) Anc.refl hro (Nat.le_of_ble_eq_true rfl) rfl
  · simp only [push_cast, ↓JP, Nat.reduceAdd, Nat.reduceEqDiff, Nat.reduceLT, Nat.reduceMul, Nat.reduceLeDiff, reduceCtorEq, reduceIte, ↓JK, ↓JF, resV, resV1]; rfl
  · (first | trivial | (simp only [and_self]; done))
  · (repeat' (first | exact trivial | exact .same _ | exact .dead _ | exact .gone rfl | exact .loose | assumption | exact .arr (by assumption) | apply And.intro))
  · rfl
  · (repeat' (first | exact trivial | exact rfl | assumption | apply Stable.ite | exact nilOr_st rfl rfl | apply And.intro | intro _ | (simp only [Stable, StableL, i64S, prS, insS, sndsS, sndS, kS, kaS, ftS, ftsS]; done)))
  · (repeat' (first | exact trivial | exact .inl rfl | exact .inr rfl | exact rfl | apply And.intro))
  · exact fun β => rfl
  · (repeat' (first | exact trivial | exact rfl | assumption | apply Stable.ite | exact nilOr_st rfl rfl | apply And.intro | intro _ | (simp only [Stable, StableL, i64S, prS, insS, sndsS, sndS, kS, kaS, ftS, ftsS]; done)))
def sWhys : Spec := fun args h m => match args with
  | [.agg [.int .i64 a, .int .i64 b, .int .i64 c], .sl z i [] 5 0 n (some p)] => bif (h z).born && (h i).born then some (True, .fn 117 [.ptr (m + 1) [], .ptr m []], [z, i], [(m, .own 31 (.agg [.int .i64 a, .int .i64 b, .int .i64 c]) true), (m + 1, .own 25 (.sl z i [] 5 0 n (some p)) true)]) else none
  | _ => none
theorem sWhys_ok : CallOk Try.prog 83 sWhys := by
  refine ⟨named_spec (by kernel_rfl), fun args h m c v rd wr hs hm hc w0 M β h' w R hrd hwr hst => ?_⟩
  unfold sWhys at hs
  split at hs
  · rename_i a b c z i n p
    obtain ⟨hb, hs2⟩ := bif_some hs
    clear hs
    simp only [Bool.and_eq_true] at hb
    obtain ⟨hz, hi⟩ := hb
    simp only [Option.some.injEq, Prod.mk.injEq] at hs2
    obtain ⟨rfl, rfl, rfl, rfl⟩ := hs2
    have ei : h' i = h i := hrd i (by simp)
    have ez : h' z = h z := hrd z (by simp)
    have C := callG (L1 := [.gone, .gone, .gone, .own 31 (.agg [.int .i64 a, .int .i64 b, .int .i64 c]) true, .own 25 (.sl 1 2 [] 5 0 n (some p)) true]) (h := h) (m := m) [0, z, i] (whys_lit n p a b c) R rfl (by simp) rfl rfl rfl
      ⟨.gone (by rw [R.nil0]; rfl), .gone (by rw [ez]; exact hz), .gone (by rw [ei]; exact hi), trivial⟩ hm (by simpa [newB, rhoL, HB.ren, SV.ren, renL] using hwr) (by simp)
      (by simp [StableH, HB.stable]) (by simp [StableL, Stable, hp, HB.born]) (by simp [NewL, HB.stable, Stable, StableL, HB.isRo, hG, hp, HB.born]) (by simp [Stable, StableL, hG, hp, HB.born])
    have e0 : renL (rhoL [0, z, i] m) [SV.agg [.int .i64 a, .int .i64 b, .int .i64 c], .sl 1 2 [] 5 0 n (some p)] = [.agg [.int .i64 a, .int .i64 b, .int .i64 c], .sl z i [] 5 0 n (some p)] := by simp [renL, SV.ren, rhoL]
    rw [e0] at C
    refine C.mono fun e w' he => ?_
    simpa [newB, rhoL, HB.ren, SV.ren, renL] using he
  · cases hs
def cWys : FuncId → Option Spec := look2 [(56, sFactsI), (57, sFits), (58, sWhyL), (83, sWhys)]
theorem cWys_ok : ∀ f S, cWys f = some S → CallOk Try.prog f S := allOk_spec ⟨sFactsI_ok, sFits_ok, sWhyL_ok, sWhys_ok, trivial⟩
/-- the doomed ones among the first k -/
def doomK (xs : List Ins) (F : List Ft) (c p l : Int) : Nat → List Int
  | 0 => []
  | k + 1 => doomK xs F c p l k ++ (if whyE c p l (xs.getD k ⟨0, 0, 0, 0, 0⟩) (getF F k) ≠ 0 then [(k : Int)] else [])
theorem doom_len (xs : List Ins) (F : List Ft) (c p l : Int) : ∀ k, (doomK xs F c p l k).length ≤ k
  | 0 => by simp [doomK]
  | k + 1 => by
    have := doom_len xs F c p l k
    unfold doomK
    split <;> simp <;> omega
theorem WF.empty {P : Program} {w0 : World} {M : Nat → Prop} {E : Env} {n0 N n : Nat} {D : List Deferred} {φ : Fr} {L : List HB} {c : Code} {ro : Option Nat} {Q : Exit → Act → World → Prop} (ty k : Nat) (f : Nat → SV) (hf : ∀ (h : HM) (q : Nat), Stable h (f q))
    (h : WF ro n P c w0 M E n0 N D φ (L ++ [.own ty (.arr 0 k f) false]) Q) : WF ro n P c w0 M E n0 N D φ L Q := At.empty ty k f hf h
/-- a slice that is nil if nothing is in it -/
def nilOr (D : List Int) (b : Nat) : SV := SV.ite D.isEmpty (.sl 0 0 [] 0 0 0 (some 0)) (.sl b b [] 1 0 D.length none)
theorem nilOr_t {D : List Int} {b : Nat} (h : D.isEmpty = true) : nilOr D b = .sl 0 0 [] 0 0 0 (some 0) := by unfold nilOr; rw [h]; rfl
theorem nilOr_f {D : List Int} {b : Nat} (h : D.isEmpty = false) : nilOr D b = .sl b b [] 1 0 D.length none := by unfold nilOr; rw [h]; rfl
theorem nilOr_st {D : List Int} {b : Nat} {hh : HM} (h0 : (hh 0).born = true) (hb : (hh b).born = true) : Stable hh (nilOr D b) := by
  cases h : D.isEmpty
  · rw [nilOr_f h]; simp [Stable, hb]
  · rw [nilOr_t h]; simp [Stable, h0]
theorem less_nil {t b b' : Nat} {ex : Bool} {σ : Nat → Nat} {D : List Int} (h : D.isEmpty = false) (hb : σ b = b') {n : Nat} (hn : D.length = n) : Less (.own t (.sl b' b' [] 1 0 n none) ex) ((HB.own t (nilOr D b) ex).ren σ) := by
  rw [nilOr_f h, ← hn]
  simp only [HB.ren, SV.ren, hb]
  exact .same _
theorem less_app {t : Nat} {σ : Nat → Nat} (D : List Int) (k : Int) {g : Nat → SV} (hg : ∀ q, q < D.length + 1 → ∀ β, (g q).cl β = [.int .i64 ((D ++ [k]).getD q 0)]) : Less (.own t (.arr (D.length + 1) 1 g) false) ((HB.own t (.arr (D ++ [k]).length 1 (i64S (D ++ [k]))) false).ren σ) := by
  have e : (D ++ [k]).length = D.length + 1 := by simp
  rw [e]
  refine .val (fun β => arr_cl' fun q hq => ?_) (fun n1 k1 f1 e => by injection e with e1 e2 e3; subst e1 e2; exact ⟨_, rfl⟩) (fun n1 k1 f1 e => by injection e with e1 e2 e3; subst e1 e2; exact ⟨_, rfl⟩)
  rw [hg q hq β]; rfl
theorem Doomed_lit (xs : List Ins) (p1 : Nat) (c p l : Int) (hx : ∀ x ∈ xs, x.ok) (hc : (checkI xs).2 = 0) (hl : limB c p l = true) : LitOk Try.prog 34 [.sl 1 2 [] 5 0 xs.length (some p1), .agg [.int .i64 c, .int .i64 p, .int .i64 l]] [.gone, .gone, .ro (.arr xs.length 5 (prS xs))]
    (.tup [nilOr (doomK xs (factsS xs) c p l xs.length) 3, .int .i64 0]) [.gone, .gone, .gone, .own 3 (.arr (doomK xs (factsS xs) c p l xs.length).length 1 (i64S (doomK xs (factsS xs) c p l xs.length))) false] := by
  refine litOkM (fn := Try.f34) 3 25 0 rfl rfl rfl rfl rfl (by simp only [StableL, Stable, hp]; simp [HB.born]) rfl fun w0 M E hro => ?_
  have hl6 : xs.length ≤ 256 := (right_last' hc).2.1
  have hfit : fitE xs c p l = 0 := by unfold fitE; rw [if_pos hc, if_pos hl]
  obtain ⟨F, hF⟩ : ∃ F, F = factsS xs := ⟨_, rfl⟩
  rw [← hF]
  repeat' (first | with_reducible (first | apply J1 | apply J3 | apply J4 | apply J5 | apply J6 | apply J7 | apply J8 | apply J9 | apply J10 | apply J11 | apply J12 | apply J13 | apply J14 | apply J15 | apply J16 | apply J17 | apply J18 | apply J19 | apply J20 | refine J2 ?_) | ((with_reducible apply J21); (· rfl)) | ((with_reducible intro hif); first | (focus (cases hif; done)) | (simp only [JH] at hif; try (exfalso; omega)) | (try (exfalso; omega))) | ((first | ((with_reducible apply J22 cWys_ok tab_ok); (· rfl)) | ((with_reducible apply J23 fol cWys_ok tab_ok); (· rfl)) | with_reducible apply J24); (· (simp only [push_cast, ↓JP, Nat.reduceAdd, Nat.reduceEqDiff, Nat.reduceLT, Nat.reduceMul, Nat.reduceLeDiff, reduceCtorEq, reduceIte, ↓JK, ↓JF, cWys, sFits, sWhys, ls_prS, ls_prS', ls_prS2, hfit]; rfl)); (try kernel_rfl); (try (focus (first | exact True.intro | ((try simp only [JS, implies_true, forall_const, shaped, shapedL, kndOf, cWys, sFits, sWhys, ls_prS, ls_prS', ls_prS2, hfit]); (first | exact ⟨fun q _ => rfl, hx, by omega⟩ | (repeat' (first | assumption | exact True.intro | omega | apply And.intro))); done) | ((first | exact ⟨fun q _ => rfl, hx, by omega⟩ | (repeat' (first | assumption | exact True.intro | omega | apply And.intro))); done))))) | fail)
  with_reducible apply WF.range (fn' := Try.f117) 32
  · simp only [push_cast, ↓JP, Nat.reduceAdd, Nat.reduceEqDiff, Nat.reduceLT, Nat.reduceMul, Nat.reduceLeDiff, reduceCtorEq, reduceIte, ↓JK, ↓JF]; rfl
  · (focus (first | exact True.intro | ((try simp only [JS, implies_true, forall_const, shaped, shapedL, kndOf]); (repeat' (first | assumption | exact True.intro | omega | apply And.intro)); done) | ((repeat' (first | assumption | exact True.intro | omega | apply And.intro)); done)))
  · rfl
  · rfl
  · rfl
  · rfl
  · rfl
  · rfl
  · rfl
  intro E1 rec tmps after hE1 hrec hcf haft
  repeat' (first | with_reducible (first | apply J1 | apply J3 | apply J4 | apply J5 | apply J6 | apply J7 | apply J8 | apply J9 | apply J10 | apply J11 | apply J12 | apply J13 | apply J14 | apply J15 | apply J16 | apply J17 | apply J18 | apply J19 | apply J20 | refine J2 ?_) | ((with_reducible apply J21); (· rfl)) | ((with_reducible intro hif); first | (focus (cases hif; done)) | (simp only [JH] at hif; try (exfalso; omega)) | (try (exfalso; omega))) | ((first | ((with_reducible apply J22 cWys_ok tab_ok); (· rfl)) | ((with_reducible apply J23 fol cWys_ok tab_ok); (· rfl)) | with_reducible apply J24); (· (simp only [push_cast, ↓JP, Nat.reduceAdd, Nat.reduceEqDiff, Nat.reduceLT, Nat.reduceMul, Nat.reduceLeDiff, reduceCtorEq, reduceIte, ↓JK, ↓JF, cWys, sFactsI, ls_prS, ls_prS', ls_prS2, hc, ← hF]; rfl)); (try kernel_rfl); (try (focus (first | exact True.intro | ((try simp only [JS, implies_true, forall_const, shaped, shapedL, kndOf, cWys, sFactsI, ls_prS, ls_prS', ls_prS2, hc, ← hF]); (repeat' (first | assumption | exact True.intro | omega | apply And.intro)); done) | ((repeat' (first | assumption | exact True.intro | omega | apply And.intro)); done))))) | fail)
  refine WF.empty 3 1 (i64S []) (fun _ q => i64S_stable q) ?_
  refine WF.loopAt (fun k => k ≤ xs.length) (fun k => [(0, .yl 8), (1, .ptr 6 []), (2, .ptr 5 []), (8, .sl 9 9 [] 17 0 xs.length none), (9, .nat .i64 xs.length), (10, .nat .i64 k)]) (fun k => [.gone, .gone, .ro (.arr xs.length 5 (prS xs)), .gone, .own 79 (nilOr (doomK xs F c p l k) 10) true, .own 31 (.agg [.int .i64 c, .int .i64 p, .int .i64 l]) true, .own 25 (.sl 1 2 [] 5 0 xs.length (some p1)) true, .raw (.deferred (some [])), .raw (.loop (rec .ready none)), .own 44 (.arr xs.length 17 (ftsS F)) false, .own 3 (.arr (doomK xs F c p l k).length 1 (i64S (doomK xs F c p l k))) false]) (fun k => xs.length - k) 0 (Nat.zero_le _) ?_ ?_ rfl ?_ ?_ rfl ?_
  · ((repeat' (first | exact trivial | apply And.intro)) <;> (first | rfl | (simp only [look, cond_true, cond_false]; done)))
  · (repeat' (first | exact trivial | exact .same _ | exact .dead _ | exact .gone rfl | exact .loose | assumption | exact .arr (by assumption) | apply And.intro))
  · (repeat' (first | exact trivial | exact rfl | assumption | apply Stable.ite | exact nilOr_st rfl rfl | apply And.intro | intro _ | (simp only [Stable, StableL, i64S, prS, insS, sndsS, sndS, kS, kaS, ftS, ftsS]; done)))
  · (repeat' (first | exact trivial | exact rfl | assumption | apply Stable.ite | exact nilOr_st rfl rfl | apply And.intro | intro _ | (simp only [Stable, StableL, i64S, prS, insS, sndsS, sndS, kS, kaS, ftS, ftsS]; done)))
  · intro k hk
    obtain ⟨Dk, hD⟩ : ∃ Dk, doomK xs F c p l k = Dk := ⟨_, rfl⟩
    rw [hD]
    have hDl : Dk.length ≤ 256 := by have := doom_len xs F c p l k; rw [hD] at this; omega
    by_cases hkl : k < xs.length
    · obtain ⟨x, hX⟩ : ∃ x, xs.getD k ⟨0, 0, 0, 0, 0⟩ = x := ⟨_, rfl⟩
      have hR := right_at hx hc hkl
      rw [hX] at hR
      have hok := hR.ok
      have ha8 := hR.a
      have hb8 := hR.b
      have hc8 := hR.c
      by_cases he : whyE c p l x (getF F k) = 0
      · have e : doomK xs F c p l (k + 1) = Dk := by unfold doomK; rw [hD, hX, if_neg (fun h => h he), List.append_nil]
        repeat' (first | with_reducible (first | apply J1 | apply J3 | apply J4 | apply J5 | apply J6 | apply J7 | apply J8 | apply J9 | apply J10 | apply J11 | apply J12 | apply J13 | apply J14 | apply J15 | apply J16 | apply J17 | apply J18 | apply J19 | apply J20 | refine J2 ?_) | ((with_reducible apply J21); (· rfl)) | ((with_reducible intro hif); first | (focus (cases hif; done)) | (simp only [JH] at hif; try (exfalso; omega)) | (try (exfalso; omega))) | ((first | ((with_reducible apply J22 cWys_ok tab_ok); (· rfl)) | ((with_reducible apply J23 fol cWys_ok tab_ok); (· rfl)) | with_reducible apply J24); (· (simp only [push_cast, ↓JP, Nat.reduceAdd, Nat.reduceEqDiff, Nat.reduceLT, Nat.reduceMul, Nat.reduceLeDiff, reduceCtorEq, reduceIte, ↓JK, ↓JF, cWys, sWhyL, ftsS, hX, inN, hkl, he]; rfl)); (try kernel_rfl); (try (focus (first | exact True.intro | ((try simp only [JS, implies_true, forall_const, shaped, shapedL, kndOf, cWys, sWhyL, ftsS, hX, inN, hkl, he]); (repeat' (first | assumption | exact True.intro | omega | apply And.intro)); done) | ((repeat' (first | assumption | exact True.intro | omega | apply And.intro)); done))))) | fail)
        have e4 : Less (.own 79 (nilOr Dk 10) true) (.own 79 (nilOr (doomK xs F c p l (k + 1)) 10) true) := by rw [e]; exact .same _
        have e5 : Less (.own 3 (.arr Dk.length 1 (i64S Dk)) false) (.own 3 (.arr (doomK xs F c p l (k + 1)).length 1 (i64S (doomK xs F c p l (k + 1)))) false) := by rw [e]; exact .same _
        refine At.next (k + 1) ?_ ?_ ?_ rfl ?_ ?_ rfl
        · omega
        · ((repeat' (first | exact trivial | apply And.intro)) <;> (first | rfl | (simp only [look, cond_true, cond_false]; done)))
        · (repeat' (first | exact trivial | exact .same _ | exact .dead _ | exact .gone rfl | exact .loose | assumption | exact .arr (by assumption) | apply And.intro))
        · (repeat' (first | exact trivial | exact rfl | assumption | apply Stable.ite | exact nilOr_st rfl rfl | apply And.intro | intro _ | (simp only [Stable, StableL, i64S, prS, insS, sndsS, sndS, kS, kaS, ftS, ftsS]; done)))
        · (repeat' (first | exact trivial | exact rfl | assumption | apply Stable.ite | exact nilOr_st rfl rfl | apply And.intro | intro _ | (simp only [Stable, StableL, i64S, prS, insS, sndsS, sndS, kS, kaS, ftS, ftsS]; done)))
      · have e : doomK xs F c p l (k + 1) = Dk ++ [(k : Int)] := by unfold doomK; rw [hD, hX, if_pos he]
        have ht : whyE c p l x (getF F k) = 0 ↔ False := ⟨he, False.elim⟩
        cases hDe : Dk.isEmpty
        · rw [nilOr_f hDe]
          repeat' (first | with_reducible (first | apply J1 | apply J3 | apply J4 | apply J5 | apply J6 | apply J7 | apply J8 | apply J9 | apply J10 | apply J11 | apply J12 | apply J13 | apply J14 | apply J15 | apply J16 | apply J17 | apply J18 | apply J19 | apply J20 | refine J2 ?_) | ((with_reducible apply J21); (· rfl)) | ((with_reducible intro hif); first | (focus (cases hif; done)) | (simp only [JH] at hif; try (exfalso; omega)) | (try (exfalso; omega))) | ((first | ((with_reducible apply J22 cWys_ok tab_ok); (· rfl)) | ((with_reducible apply J23 fol cWys_ok tab_ok); (· rfl)) | with_reducible apply J24); (· (simp only [push_cast, ↓JP, Nat.reduceAdd, Nat.reduceEqDiff, Nat.reduceLT, Nat.reduceMul, Nat.reduceLeDiff, reduceCtorEq, reduceIte, ↓JK, ↓JF, cWys, sWhyL, ftsS, hX, inN, hkl, he]; rfl)); (try kernel_rfl); (try (focus (first | exact True.intro | ((try simp only [JS, implies_true, forall_const, shaped, shapedL, kndOf, cWys, sWhyL, ftsS, hX, inN, hkl, he]); (repeat' (first | assumption | exact True.intro | omega | apply And.intro)); done) | ((repeat' (first | assumption | exact True.intro | omega | apply And.intro)); done))))) | fail)
          with_reducible apply WF.split 6 2
          · rfl
          with_reducible apply At.run cWys_ok tab_ok
          · rfl
          · rfl
          · rfl
          · simp only [push_cast, ↓JP, Nat.reduceAdd, Nat.reduceEqDiff, Nat.reduceLT, Nat.reduceMul, Nat.reduceLeDiff, reduceCtorEq, reduceIte, ↓JK, ↓JF, noDefer, List.drop_zero, List.drop_succ_cons, cWys, inN, he]; rfl
          · (focus (first | exact True.intro | ((try simp only [JS, implies_true, forall_const, shaped, shapedL, kndOf, cWys, inN, he]); (repeat' (first | assumption | exact True.intro | omega | apply And.intro)); done) | ((repeat' (first | assumption | exact True.intro | omega | apply And.intro)); done)))
          with_reducible apply At.yield (gr := _)
          · rfl
          · rfl
          · rfl
          · rfl
          · rfl
          · rfl
          · simp only [push_cast, ↓JP, Nat.reduceAdd, Nat.reduceEqDiff, Nat.reduceLT, Nat.reduceMul, Nat.reduceLeDiff, reduceCtorEq, reduceIte, ↓JK, ↓JF, noDefer, List.drop_zero, List.drop_succ_cons, cWys, inN, he]; rfl
          · first | rfl | (simp only [push_cast, ↓JP, Nat.reduceAdd, Nat.reduceEqDiff, Nat.reduceLT, Nat.reduceMul, Nat.reduceLeDiff, reduceCtorEq, reduceIte, ↓JK, ↓JF, noDefer, List.drop_zero, List.drop_succ_cons, cWys, inN, he]; done)
          · simp only [push_cast, ↓JP, Nat.reduceAdd, Nat.reduceEqDiff, Nat.reduceLT, Nat.reduceMul, Nat.reduceLeDiff, reduceCtorEq, reduceIte, ↓JK, ↓JF, noDefer, List.drop_zero, List.drop_succ_cons, cWys, inN, he]; rfl
          · (focus (first | exact True.intro | ((try simp only [JS, implies_true, forall_const, shaped, shapedL, kndOf, cWys, inN, he]); (repeat' (first | assumption | exact True.intro | omega | apply And.intro)); done) | ((repeat' (first | assumption | exact True.intro | omega | apply And.intro)); done)))
          · simp only [push_cast, ↓JP, Nat.reduceAdd, Nat.reduceEqDiff, Nat.reduceLT, Nat.reduceMul, Nat.reduceLeDiff, reduceCtorEq, reduceIte, ↓JK, ↓JF, noDefer, List.drop_zero, List.drop_succ_cons, cWys, inN, he]; rfl
          · (focus (first | exact True.intro | ((try simp only [JS, implies_true, forall_const, shaped, shapedL, kndOf, cWys, inN, he]); (repeat' (first | assumption | exact True.intro | omega | apply And.intro)); done) | ((repeat' (first | assumption | exact True.intro | omega | apply And.intro)); done)))
          · first | rfl | (simp only [push_cast, ↓JP, Nat.reduceAdd, Nat.reduceEqDiff, Nat.reduceLT, Nat.reduceMul, Nat.reduceLeDiff, reduceCtorEq, reduceIte, ↓JK, ↓JF, noDefer, List.drop_zero, List.drop_succ_cons, cWys, inN, he]; done)
          · exact hrec
          · exact hcf
          · rfl
          · rfl
          · rfl
          intro lb E2 next hE2 hnext
          repeat' (first | with_reducible (first | apply J1 | apply J3 | apply J4 | apply J5 | apply J6 | apply J7 | apply J8 | apply J9 | apply J10 | apply J11 | apply J12 | apply J13 | apply J14 | apply J15 | apply J16 | apply J17 | apply J18 | apply J19 | apply J20 | refine J2 ?_) | ((with_reducible apply J21); (· rfl)) | ((with_reducible intro hif); first | (focus (cases hif; done)) | (simp only [JH] at hif; try (exfalso; omega)) | (try (exfalso; omega))) | ((first | ((with_reducible apply J22 cWys_ok tab_ok); (· rfl)) | ((with_reducible apply J23 fol cWys_ok tab_ok); (· rfl)) | with_reducible apply J24); (· (simp only [push_cast, ↓JP, Nat.reduceAdd, Nat.reduceEqDiff, Nat.reduceLT, Nat.reduceMul, Nat.reduceLeDiff, reduceCtorEq, reduceIte, ↓JK, ↓JF, cWys, inN, he]; rfl)); (try kernel_rfl); (try (focus (first | exact True.intro | ((try simp only [JS, implies_true, forall_const, shaped, shapedL, kndOf, cWys, inN, he]); (repeat' (first | assumption | exact True.intro | omega | apply And.intro)); done) | ((repeat' (first | assumption | exact True.intro | omega | apply And.intro)); done))))) | fail)
          with_reducible apply At.begins hrec
          · rfl
          with_reducible refine At.code ?_
          repeat' (first | with_reducible (first | apply J1 | apply J3 | apply J4 | apply J5 | apply J6 | apply J7 | apply J8 | apply J9 | apply J10 | apply J11 | apply J12 | apply J13 | apply J14 | apply J15 | apply J16 | apply J17 | apply J18 | apply J19 | apply J20 | refine J2 ?_) | ((with_reducible apply J21); (· rfl)) | ((with_reducible intro hif); first | (focus (cases hif; done)) | (simp only [JH] at hif; try (exfalso; omega)) | (try (exfalso; omega))) | ((first | ((with_reducible apply J22 cWys_ok tab_ok); (· rfl)) | ((with_reducible apply J23 fol cWys_ok tab_ok); (· rfl)) | with_reducible apply J24); (· (simp only [push_cast, ↓JP, Nat.reduceAdd, Nat.reduceEqDiff, Nat.reduceLT, Nat.reduceMul, Nat.reduceLeDiff, reduceCtorEq, reduceIte, ↓JK, ↓JF, cWys, inN, he, Nat.sub_zero]; rfl)); (try kernel_rfl); (try (focus (first | exact True.intro | ((try simp only [JS, implies_true, forall_const, shaped, shapedL, kndOf, cWys, inN, he, Nat.sub_zero]); (repeat' (first | assumption | exact True.intro | omega | apply And.intro)); done) | ((repeat' (first | assumption | exact True.intro | omega | apply And.intro)); done))))) | fail)
          with_reducible apply At.roundNormal
          · first | rfl | (simp only [push_cast, ↓JP, Nat.reduceAdd, Nat.reduceEqDiff, Nat.reduceLT, Nat.reduceMul, Nat.reduceLeDiff, reduceCtorEq, reduceIte, ↓JK, ↓JF, noDefer, List.drop_zero, List.drop_succ_cons, cWys, inN, he]; done)
          apply hnext
          with_reducible apply At.runEnd cWys_ok tab_ok
          · rfl
          · rfl
          · rfl
          · simp only [push_cast, ↓JP, Nat.reduceAdd, Nat.reduceEqDiff, Nat.reduceLT, Nat.reduceMul, Nat.reduceLeDiff, reduceCtorEq, reduceIte, ↓JK, ↓JF, noDefer, List.drop_zero, List.drop_succ_cons, cWys, inN, he]; rfl
          · (focus (first | exact True.intro | ((try simp only [JS, implies_true, forall_const, shaped, shapedL, kndOf, cWys, inN, he]); (repeat' (first | assumption | exact True.intro | omega | apply And.intro)); done) | ((repeat' (first | assumption | exact True.intro | omega | apply And.intro)); done)))
          repeat' (first | with_reducible (first | apply J1 | apply J3 | apply J4 | apply J5 | apply J6 | apply J7 | apply J8 | apply J9 | apply J10 | apply J11 | apply J12 | apply J13 | apply J14 | apply J15 | apply J16 | apply J17 | apply J18 | apply J19 | apply J20 | refine J2 ?_) | ((with_reducible apply J21); (· rfl)) | ((with_reducible intro hif); first | (focus (cases hif; done)) | (simp only [JH] at hif; try (exfalso; omega)) | (try (exfalso; omega))) | ((first | ((with_reducible apply J22 cWys_ok tab_ok); (· rfl)) | ((with_reducible apply J23 fol cWys_ok tab_ok); (· rfl)) | with_reducible apply J24); (· (simp only [push_cast, ↓JP, Nat.reduceAdd, Nat.reduceEqDiff, Nat.reduceLT, Nat.reduceMul, Nat.reduceLeDiff, reduceCtorEq, reduceIte, ↓JK, ↓JF, cWys, inN, he]; rfl)); (try kernel_rfl); (try (focus (first | exact True.intro | ((try simp only [JS, implies_true, forall_const, shaped, shapedL, kndOf, cWys, inN, he]); (repeat' (first | assumption | exact True.intro | omega | apply And.intro)); done) | ((repeat' (first | assumption | exact True.intro | omega | apply And.intro)); done))))) | fail)
          have hA1 : ∀ g : Nat → SV, (∀ q, q < Dk.length + 1 → g q = SV.ite (decide (q < Dk.length)) (.int .i64 (Dk.getD q 0)) ([SV.nat .i64 k].getD (q - Dk.length) (.nat .i64 0))) → ∀ σ, Less (.own 3 (.arr (Dk.length + 1) 1 g) false) ((HB.own 3 (.arr (Dk ++ [(k : Int)]).length 1 (i64S (Dk ++ [(k : Int)]))) false).ren σ) := fun g hg σ => less_app Dk k fun q hq β => by
            rw [hg q hq, ite_eq]
            by_cases h : q < Dk.length
            · simp only [h, decide_true, cond_true, List.getD_eq_getElem?_getD, List.getElem?_append_left h]; rfl
            · obtain rfl : q = Dk.length := by omega
              simp only [Nat.lt_irrefl, decide_false, cond_false, Nat.sub_self, List.getD_eq_getElem?_getD, List.getElem?_append_right (Nat.le_refl _), List.getElem?_cons_zero, Option.getD_some]; rfl
          refine At.nextPick [0, 1, 2, 3, 4, 5, 6, 7, 8, 9, 13] (k + 1) ?_ rfl rfl rfl ?_ rfl ?_ ?_ ?_ rfl
          · omega
          · (repeat' (first | exact trivial | exact .inl rfl | exact .inr (.same _) | exact .inr .loose | exact .inr (.arr (by assumption)) | apply And.intro | (rw [e]; exact .inr (hA1 _ (fun q _ => rfl) _)) | (rw [e]; refine .inr (less_nil ?_ ?_ ?_) <;> first | rfl | simp)))
          · (repeat' (first | exact trivial | exact rfl | assumption | apply Stable.ite | exact nilOr_st rfl rfl | apply And.intro | intro _ | (simp only [Stable, StableL, i64S, prS, insS, sndsS, sndS, kS, kaS, ftS, ftsS]; done)))
          · (repeat' (first | exact trivial | exact ⟨_, rfl, fun β => rfl⟩ | apply And.intro))
          · (repeat' (first | exact trivial | exact rfl | assumption | apply Stable.ite | exact nilOr_st rfl rfl | apply And.intro | intro _ | (simp only [Stable, StableL, i64S, prS, insS, sndsS, sndS, kS, kaS, ftS, ftsS]; done)))
        · rw [nilOr_t hDe]
          have hDz : Dk = [] := by simpa using hDe
          subst hDz
          repeat' (first | with_reducible (first | apply J1 | apply J3 | apply J4 | apply J5 | apply J6 | apply J7 | apply J8 | apply J9 | apply J10 | apply J11 | apply J12 | apply J13 | apply J14 | apply J15 | apply J16 | apply J17 | apply J18 | apply J19 | apply J20 | refine J2 ?_) | ((with_reducible apply J21); (· rfl)) | ((with_reducible intro hif); first | (focus (cases hif; done)) | (simp only [JH] at hif; try (exfalso; omega)) | (try (exfalso; omega))) | ((first | ((with_reducible apply J22 cWys_ok tab_ok); (· rfl)) | ((with_reducible apply J23 fol cWys_ok tab_ok); (· rfl)) | with_reducible apply J24); (· (simp only [push_cast, ↓JP, Nat.reduceAdd, Nat.reduceEqDiff, Nat.reduceLT, Nat.reduceMul, Nat.reduceLeDiff, reduceCtorEq, reduceIte, ↓JK, ↓JF, cWys, sWhyL, ftsS, hX, inN, hkl, he]; rfl)); (try kernel_rfl); (try (focus (first | exact True.intro | ((try simp only [JS, implies_true, forall_const, shaped, shapedL, kndOf, cWys, sWhyL, ftsS, hX, inN, hkl, he]); (repeat' (first | assumption | exact True.intro | omega | apply And.intro)); done) | ((repeat' (first | assumption | exact True.intro | omega | apply And.intro)); done))))) | fail)
          with_reducible apply WF.split 6 2
          · rfl
          with_reducible apply At.run cWys_ok tab_ok
          · rfl
          · rfl
          · rfl
          · simp only [push_cast, ↓JP, Nat.reduceAdd, Nat.reduceEqDiff, Nat.reduceLT, Nat.reduceMul, Nat.reduceLeDiff, reduceCtorEq, reduceIte, ↓JK, ↓JF, noDefer, List.drop_zero, List.drop_succ_cons, cWys, inN, he]; rfl
          · (focus (first | exact True.intro | ((try simp only [JS, implies_true, forall_const, shaped, shapedL, kndOf, cWys, inN, he]); (repeat' (first | assumption | exact True.intro | omega | apply And.intro)); done) | ((repeat' (first | assumption | exact True.intro | omega | apply And.intro)); done)))
          with_reducible apply At.yield (gr := _)
          · rfl
          · rfl
          · rfl
          · rfl
          · rfl
          · rfl
          · simp only [push_cast, ↓JP, Nat.reduceAdd, Nat.reduceEqDiff, Nat.reduceLT, Nat.reduceMul, Nat.reduceLeDiff, reduceCtorEq, reduceIte, ↓JK, ↓JF, noDefer, List.drop_zero, List.drop_succ_cons, cWys, inN, he]; rfl
          · first | rfl | (simp only [push_cast, ↓JP, Nat.reduceAdd, Nat.reduceEqDiff, Nat.reduceLT, Nat.reduceMul, Nat.reduceLeDiff, reduceCtorEq, reduceIte, ↓JK, ↓JF, noDefer, List.drop_zero, List.drop_succ_cons, cWys, inN, he]; done)
          · simp only [push_cast, ↓JP, Nat.reduceAdd, Nat.reduceEqDiff, Nat.reduceLT, Nat.reduceMul, Nat.reduceLeDiff, reduceCtorEq, reduceIte, ↓JK, ↓JF, noDefer, List.drop_zero, List.drop_succ_cons, cWys, inN, he]; rfl
          · (focus (first | exact True.intro | ((try simp only [JS, implies_true, forall_const, shaped, shapedL, kndOf, cWys, inN, he]); (repeat' (first | assumption | exact True.intro | omega | apply And.intro)); done) | ((repeat' (first | assumption | exact True.intro | omega | apply And.intro)); done)))
          · simp only [push_cast, ↓JP, Nat.reduceAdd, Nat.reduceEqDiff, Nat.reduceLT, Nat.reduceMul, Nat.reduceLeDiff, reduceCtorEq, reduceIte, ↓JK, ↓JF, noDefer, List.drop_zero, List.drop_succ_cons, cWys, inN, he]; rfl
          · (focus (first | exact True.intro | ((try simp only [JS, implies_true, forall_const, shaped, shapedL, kndOf, cWys, inN, he]); (repeat' (first | assumption | exact True.intro | omega | apply And.intro)); done) | ((repeat' (first | assumption | exact True.intro | omega | apply And.intro)); done)))
          · first | rfl | (simp only [push_cast, ↓JP, Nat.reduceAdd, Nat.reduceEqDiff, Nat.reduceLT, Nat.reduceMul, Nat.reduceLeDiff, reduceCtorEq, reduceIte, ↓JK, ↓JF, noDefer, List.drop_zero, List.drop_succ_cons, cWys, inN, he]; done)
          · exact hrec
          · exact hcf
          · rfl
          · rfl
          · rfl
          intro lb E2 next hE2 hnext
          repeat' (first | with_reducible (first | apply J1 | apply J3 | apply J4 | apply J5 | apply J6 | apply J7 | apply J8 | apply J9 | apply J10 | apply J11 | apply J12 | apply J13 | apply J14 | apply J15 | apply J16 | apply J17 | apply J18 | apply J19 | apply J20 | refine J2 ?_) | ((with_reducible apply J21); (· rfl)) | ((with_reducible intro hif); first | (focus (cases hif; done)) | (simp only [JH] at hif; try (exfalso; omega)) | (try (exfalso; omega))) | ((first | ((with_reducible apply J22 cWys_ok tab_ok); (· rfl)) | ((with_reducible apply J23 fol cWys_ok tab_ok); (· rfl)) | with_reducible apply J24); (· (simp only [push_cast, ↓JP, Nat.reduceAdd, Nat.reduceEqDiff, Nat.reduceLT, Nat.reduceMul, Nat.reduceLeDiff, reduceCtorEq, reduceIte, ↓JK, ↓JF, cWys, inN, he]; rfl)); (try kernel_rfl); (try (focus (first | exact True.intro | ((try simp only [JS, implies_true, forall_const, shaped, shapedL, kndOf, cWys, inN, he]); (repeat' (first | assumption | exact True.intro | omega | apply And.intro)); done) | ((repeat' (first | assumption | exact True.intro | omega | apply And.intro)); done))))) | fail)
          with_reducible apply At.begins hrec
          · rfl
          with_reducible refine At.code ?_
          repeat' (first | with_reducible (first | apply J1 | apply J3 | apply J4 | apply J5 | apply J6 | apply J7 | apply J8 | apply J9 | apply J10 | apply J11 | apply J12 | apply J13 | apply J14 | apply J15 | apply J16 | apply J17 | apply J18 | apply J19 | apply J20 | refine J2 ?_) | ((with_reducible apply J21); (· rfl)) | ((with_reducible intro hif); first | (focus (cases hif; done)) | (simp only [JH] at hif; try (exfalso; omega)) | (try (exfalso; omega))) | ((first | ((with_reducible apply J22 cWys_ok tab_ok); (· rfl)) | ((with_reducible apply J23 fol cWys_ok tab_ok); (· rfl)) | with_reducible apply J24); (· (simp only [push_cast, ↓JP, Nat.reduceAdd, Nat.reduceEqDiff, Nat.reduceLT, Nat.reduceMul, Nat.reduceLeDiff, reduceCtorEq, reduceIte, ↓JK, ↓JF, cWys, inN, he, Nat.sub_zero]; rfl)); (try kernel_rfl); (try (focus (first | exact True.intro | ((try simp only [JS, implies_true, forall_const, shaped, shapedL, kndOf, cWys, inN, he, Nat.sub_zero]); (repeat' (first | assumption | exact True.intro | omega | apply And.intro)); done) | ((repeat' (first | assumption | exact True.intro | omega | apply And.intro)); done))))) | fail)
          with_reducible apply At.roundNormal
          · first | rfl | (simp only [push_cast, ↓JP, Nat.reduceAdd, Nat.reduceEqDiff, Nat.reduceLT, Nat.reduceMul, Nat.reduceLeDiff, reduceCtorEq, reduceIte, ↓JK, ↓JF, noDefer, List.drop_zero, List.drop_succ_cons, cWys, inN, he]; done)
          apply hnext
          with_reducible apply At.runEnd cWys_ok tab_ok
          · rfl
          · rfl
          · rfl
          · simp only [push_cast, ↓JP, Nat.reduceAdd, Nat.reduceEqDiff, Nat.reduceLT, Nat.reduceMul, Nat.reduceLeDiff, reduceCtorEq, reduceIte, ↓JK, ↓JF, noDefer, List.drop_zero, List.drop_succ_cons, cWys, inN, he]; rfl
          · (focus (first | exact True.intro | ((try simp only [JS, implies_true, forall_const, shaped, shapedL, kndOf, cWys, inN, he]); (repeat' (first | assumption | exact True.intro | omega | apply And.intro)); done) | ((repeat' (first | assumption | exact True.intro | omega | apply And.intro)); done)))
          repeat' (first | with_reducible (first | apply J1 | apply J3 | apply J4 | apply J5 | apply J6 | apply J7 | apply J8 | apply J9 | apply J10 | apply J11 | apply J12 | apply J13 | apply J14 | apply J15 | apply J16 | apply J17 | apply J18 | apply J19 | apply J20 | refine J2 ?_) | ((with_reducible apply J21); (· rfl)) | ((with_reducible intro hif); first | (focus (cases hif; done)) | (simp only [JH] at hif; try (exfalso; omega)) | (try (exfalso; omega))) | ((first | ((with_reducible apply J22 cWys_ok tab_ok); (· rfl)) | ((with_reducible apply J23 fol cWys_ok tab_ok); (· rfl)) | with_reducible apply J24); (· (simp only [push_cast, ↓JP, Nat.reduceAdd, Nat.reduceEqDiff, Nat.reduceLT, Nat.reduceMul, Nat.reduceLeDiff, reduceCtorEq, reduceIte, ↓JK, ↓JF, cWys, inN, he]; rfl)); (try kernel_rfl); (try (focus (first | exact True.intro | ((try simp only [JS, implies_true, forall_const, shaped, shapedL, kndOf, cWys, inN, he]); (repeat' (first | assumption | exact True.intro | omega | apply And.intro)); done) | ((repeat' (first | assumption | exact True.intro | omega | apply And.intro)); done))))) | fail)
          have hA1 : ∀ g : Nat → SV, (∀ q, q < 0 + 1 → g q = [SV.nat .i64 k].getD q (.nat .i64 0)) → ∀ σ, Less (.own 3 (.arr (0 + 1) 1 g) false) ((HB.own 3 (.arr ([] ++ [(k : Int)]).length 1 (i64S ([] ++ [(k : Int)]))) false).ren σ) := fun g hg σ => less_app [] k fun q hq β => by
            rw [hg q hq]
            obtain rfl : q = 0 := by simp at hq; omega
            rfl
          refine At.nextPick [0, 1, 2, 3, 4, 5, 6, 7, 8, 9, 13] (k + 1) ?_ rfl rfl rfl ?_ rfl ?_ ?_ ?_ rfl
          · omega
          · (repeat' (first | exact trivial | exact .inl rfl | exact .inr (.same _) | exact .inr .loose | exact .inr (.arr (by assumption)) | apply And.intro | (rw [e]; exact .inr (hA1 _ (fun q _ => rfl) _)) | (rw [e]; refine .inr (less_nil ?_ ?_ ?_) <;> first | rfl | simp)))
          · (repeat' (first | exact trivial | exact rfl | assumption | apply Stable.ite | exact nilOr_st rfl rfl | apply And.intro | intro _ | (simp only [Stable, StableL, i64S, prS, insS, sndsS, sndS, kS, kaS, ftS, ftsS]; done)))
          · (repeat' (first | exact trivial | exact ⟨_, rfl, fun β => rfl⟩ | apply And.intro))
          · (repeat' (first | exact trivial | exact rfl | assumption | apply Stable.ite | exact nilOr_st rfl rfl | apply And.intro | intro _ | (simp only [Stable, StableL, i64S, prS, insS, sndsS, sndS, kS, kaS, ftS, ftsS]; done)))
    · obtain rfl : k = xs.length := by omega
      cases hDe : Dk.isEmpty
      · rw [nilOr_f hDe]
        repeat' (first | with_reducible (first | apply J1 | apply J3 | apply J4 | apply J5 | apply J6 | apply J7 | apply J8 | apply J9 | apply J10 | apply J11 | apply J12 | apply J13 | apply J14 | apply J15 | apply J16 | apply J17 | apply J18 | apply J19 | apply J20 | refine J2 ?_) | ((with_reducible apply J21); (· rfl)) | ((with_reducible intro hif); first | (focus (cases hif; done)) | (simp only [JH] at hif; try (exfalso; omega)) | (try (exfalso; omega))) | ((first | ((with_reducible apply J22 cWys_ok tab_ok); (· rfl)) | ((with_reducible apply J23 fol cWys_ok tab_ok); (· rfl)) | with_reducible apply J24); (· (simp only [push_cast, ↓JP, Nat.reduceAdd, Nat.reduceEqDiff, Nat.reduceLT, Nat.reduceMul, Nat.reduceLeDiff, reduceCtorEq, reduceIte, ↓JK, ↓JF, cWys, inN]; rfl)); (try kernel_rfl); (try (focus (first | exact True.intro | ((try simp only [JS, implies_true, forall_const, shaped, shapedL, kndOf, cWys, inN]); (repeat' (first | assumption | exact True.intro | omega | apply And.intro)); done) | ((repeat' (first | assumption | exact True.intro | omega | apply And.intro)); done))))) | fail)
        with_reducible apply At.itNormal .ready
        · rfl
        · rfl
        · intro h; cases h
        apply haft
        intro w1 M1 D1 hA
        dsimp only
        rw [hD, nilOr_f hDe]
        repeat' (first | with_reducible (first | apply J1 | apply J3 | apply J4 | apply J5 | apply J6 | apply J7 | apply J8 | apply J9 | apply J10 | apply J11 | apply J12 | apply J13 | apply J14 | apply J15 | apply J16 | apply J17 | apply J18 | apply J19 | apply J20 | refine J2 ?_) | ((with_reducible apply J21); (· rfl)) | ((with_reducible intro hif); first | (focus (cases hif; done)) | (simp only [JH] at hif; try (exfalso; omega)) | (try (exfalso; omega))) | ((first | ((with_reducible apply J22 cWys_ok tab_ok); (· rfl)) | ((with_reducible apply J23 fol cWys_ok tab_ok); (· rfl)) | with_reducible apply J24); (· (simp only [push_cast, ↓JP, Nat.reduceAdd, Nat.reduceEqDiff, Nat.reduceLT, Nat.reduceMul, Nat.reduceLeDiff, reduceCtorEq, reduceIte, ↓JK, ↓JF, cWys, inN]; rfl)); (try kernel_rfl); (try (focus (first | exact True.intro | ((try simp only [JS, implies_true, forall_const, shaped, shapedL, kndOf, cWys, inN]); (repeat' (first | assumption | exact True.intro | omega | apply And.intro)); done) | ((repeat' (first | assumption | exact True.intro | omega | apply And.intro)); done))))) | fail)
        apply At.endsPick [0, 1, 2, 10] tab_ok (fn := Try.f34) (rs := [.tmp 4, .tmp 5]) hA hro (Nat.le_of_ble_eq_true rfl) rfl
        · simp only [push_cast, ↓JP, Nat.reduceAdd, Nat.reduceEqDiff, Nat.reduceLT, Nat.reduceMul, Nat.reduceLeDiff, reduceCtorEq, reduceIte, ↓JK, ↓JF, resV, resV1]; rfl
        · (focus (first | exact True.intro | ((try simp only [JS, implies_true, forall_const, shaped, shapedL, kndOf]); (repeat' (first | assumption | exact True.intro | omega | apply And.intro)); done) | ((repeat' (first | assumption | exact True.intro | omega | apply And.intro)); done)))
        · rfl
        · rfl
        · rfl
        · (repeat' (first | exact trivial | exact .inl rfl | exact .inr (.same _) | exact .inr .loose | exact .inr (.arr (by assumption)) | apply And.intro))
        · rfl
        · (repeat' (first | exact trivial | exact rfl | assumption | apply Stable.ite | exact nilOr_st rfl rfl | apply And.intro | intro _ | (simp only [Stable, StableL, i64S, prS, insS, sndsS, sndS, kS, kaS, ftS, ftsS]; done)))
        · (repeat' (first | exact trivial | exact .inl rfl | exact .inr rfl | exact rfl | apply And.intro))
        · exact fun β => rfl
        · (repeat' (first | exact trivial | exact rfl | assumption | apply Stable.ite | exact nilOr_st rfl rfl | apply And.intro | intro _ | (simp only [Stable, StableL, i64S, prS, insS, sndsS, sndS, kS, kaS, ftS, ftsS]; done)))
      · rw [nilOr_t hDe]
        repeat' (first | with_reducible (first | apply J1 | apply J3 | apply J4 | apply J5 | apply J6 | apply J7 | apply J8 | apply J9 | apply J10 | apply J11 | apply J12 | apply J13 | apply J14 | apply J15 | apply J16 | apply J17 | apply J18 | apply J19 | apply J20 | refine J2 ?_) | ((with_reducible apply J21); (· rfl)) | ((with_reducible intro hif); first | (focus (cases hif; done)) | (simp only [JH] at hif; try (exfalso; omega)) | (try (exfalso; omega))) | ((first | ((with_reducible apply J22 cWys_ok tab_ok); (· rfl)) | ((with_reducible apply J23 fol cWys_ok tab_ok); (· rfl)) | with_reducible apply J24); (· (simp only [push_cast, ↓JP, Nat.reduceAdd, Nat.reduceEqDiff, Nat.reduceLT, Nat.reduceMul, Nat.reduceLeDiff, reduceCtorEq, reduceIte, ↓JK, ↓JF, cWys, inN]; rfl)); (try kernel_rfl); (try (focus (first | exact True.intro | ((try simp only [JS, implies_true, forall_const, shaped, shapedL, kndOf, cWys, inN]); (repeat' (first | assumption | exact True.intro | omega | apply And.intro)); done) | ((repeat' (first | assumption | exact True.intro | omega | apply And.intro)); done))))) | fail)
        with_reducible apply At.itNormal .ready
        · rfl
        · rfl
        · intro h; cases h
        apply haft
        intro w1 M1 D1 hA
        dsimp only
        rw [hD, nilOr_t hDe]
        repeat' (first | with_reducible (first | apply J1 | apply J3 | apply J4 | apply J5 | apply J6 | apply J7 | apply J8 | apply J9 | apply J10 | apply J11 | apply J12 | apply J13 | apply J14 | apply J15 | apply J16 | apply J17 | apply J18 | apply J19 | apply J20 | refine J2 ?_) | ((with_reducible apply J21); (· rfl)) | ((with_reducible intro hif); first | (focus (cases hif; done)) | (simp only [JH] at hif; try (exfalso; omega)) | (try (exfalso; omega))) | ((first | ((with_reducible apply J22 cWys_ok tab_ok); (· rfl)) | ((with_reducible apply J23 fol cWys_ok tab_ok); (· rfl)) | with_reducible apply J24); (· (simp only [push_cast, ↓JP, Nat.reduceAdd, Nat.reduceEqDiff, Nat.reduceLT, Nat.reduceMul, Nat.reduceLeDiff, reduceCtorEq, reduceIte, ↓JK, ↓JF, cWys, inN]; rfl)); (try kernel_rfl); (try (focus (first | exact True.intro | ((try simp only [JS, implies_true, forall_const, shaped, shapedL, kndOf, cWys, inN]); (repeat' (first | assumption | exact True.intro | omega | apply And.intro)); done) | ((repeat' (first | assumption | exact True.intro | omega | apply And.intro)); done))))) | fail)
        apply At.endsPick [0, 1, 2, 10] tab_ok (fn := Try.f34) (rs := [.tmp 4, .tmp 5]) hA hro (Nat.le_of_ble_eq_true rfl) rfl
        · simp only [push_cast, ↓JP, Nat.reduceAdd, Nat.reduceEqDiff, Nat.reduceLT, Nat.reduceMul, Nat.reduceLeDiff, reduceCtorEq, reduceIte, ↓JK, ↓JF, resV, resV1]; rfl
        · (focus (first | exact True.intro | ((try simp only [JS, implies_true, forall_const, shaped, shapedL, kndOf]); (repeat' (first | assumption | exact True.intro | omega | apply And.intro)); done) | ((repeat' (first | assumption | exact True.intro | omega | apply And.intro)); done)))
        · rfl
        · rfl
        · rfl
        · (repeat' (first | exact trivial | exact .inl rfl | exact .inr (.same _) | exact .inr .loose | exact .inr (.arr (by assumption)) | apply And.intro))
        · rfl
        · (repeat' (first | exact trivial | exact rfl | assumption | apply Stable.ite | exact nilOr_st rfl rfl | apply And.intro | intro _ | (simp only [Stable, StableL, i64S, prS, insS, sndsS, sndS, kS, kaS, ftS, ftsS]; done)))
        · (repeat' (first | exact trivial | exact .inl rfl | exact .inr rfl | exact rfl | apply And.intro))
        · exact fun β => rfl
        · (repeat' (first | exact trivial | exact rfl | assumption | apply Stable.ite | exact nilOr_st rfl rfl | apply And.intro | intro _ | (simp only [Stable, StableL, i64S, prS, insS, sndsS, sndS, kS, kaS, ftS, ftsS]; done)))
end Go.Proofs.Ytmljmabbopkpiaa.Vm
end
