import Derived.Test.YtmljmabbopkpiaaG8
section
/- check.facts. -/
namespace Go.Proofs.Ytmljmabbopkpiaa.Vm
open Go.RowKit
attribute [local push_cast] runR opG gtmp gval gus opX tmpsOf tm tmO tmP restr look look2 tab tys zs ets numOf ieq Int.cast_ofNat_Int Int.ofNat_zero beq_true beq_false frameOf ev evL ofV opV loadV noW pushF wrsL setH allBorn allGone HB.born HB.isGone HB.val SV.plain dstOk hp nav fitsT SV.size sizeL SV.isAgg TK.size TK.agg bin binE binN binI arN arI cmpN cmpI keq kn narrow callV storeV setp fillV buildV buildSliceV makeV sliceV appendV copyV List.isEmpty_nil srcV evO asN ite_t ite_f ite_bool ite_int ite_nat maxV v_beq v_ble v_blt cond_true cond_false List.getElem?_cons_zero List.getElem?_cons_succ List.getD_cons_zero List.getD_cons_succ List.getD_nil List.length_cons List.length_nil List.take_succ_cons List.take_zero List.set_cons_zero List.set_cons_succ List.cons_append List.nil_append List.append_assoc List.replicate_succ List.replicate_zero Nat.zero_add Nat.add_zero decide_true decide_false Bool.true_and Bool.and_true Bool.false_and Bool.and_false Bool.true_or Bool.or_true Bool.false_or Bool.or_false beq_self_eq_true Bool.or_self Nat.lt_irrefl Nat.not_lt_zero Nat.le_refl Option.getD_some Option.getD_none BEq.rfl Bool.not_true Bool.not_false Bool.cond_true_left Bool.cond_false_right prS sndsS i64S nav_ins nav_ins0 nav_ins1 nav_ins2 nav_ins3 nav_ins4 nav_snd nav_snd0 nav_snd1 nav_snd2 isIns_insS insOf_insS isSnd_sndS sndOf_sndS isI_int isI_nat iOf nav_k nav_k0 nav_k1 nav_ka nav_kai nav_ft nav_ft0 nav_ft1 isKn_kS knOf_kS isKa_kaS kaOf_kaS isFt_ftS ftOf_ftS setp_ka setp_ftk setp_ftr setp_fti evm_ins evm_snd evm_k evm_ka evm_ft
set_option linter.unusedVariables false
set_option linter.unusedSimpArgs false
set_option maxRecDepth 100000
set_option maxHeartbeats 4000000
def cFa : FuncId → Option Spec := look2 [(99, sGoes), (98, sTarget), (100, sHands), (126, sResult), (101, sMeet)]
theorem cFa_ok : ∀ f S, cFa f = some S → CallOk Try.prog f S := allOk_spec ⟨sGoes_ok, sTarget_ok, sHands_ok, sResult_ok, sMeet_ok, trivial⟩
theorem fts_shaped (F : List Ft) (q : Nat) : shaped (.struct [.bool, .arr 8 2 (.struct [.bool, .int .i64])]) (ftsS F q) = True := ft_shaped _
theorem fts_eq (a : Ft) (F : List Ft) (q : Nat) : eqB (.struct [.bool, .arr 8 2 (.struct [.bool, .int .i64])]) (ftS a) (ftsS F q) = ftB a (getF F q) := ft_eq _ _
theorem arr_cl' {β : Env} {n k : Nat} {f g : Nat → SV} (h : ∀ q, q < n → (f q).cl β = (g q).cl β) : (SV.arr n k f).cl β = (SV.arr n k g).cl β := by
  rw [cl_arr, cl_arr, List.flatMap_def, List.flatMap_def]
  congr 1
  exact List.map_congr_left fun q hq => by rw [h q (List.mem_range.1 hq)]
theorem less_fts {t n : Nat} {ex : Bool} {f : Nat → SV} {F : List Ft} (h : ∀ q, q < n → ∀ β, (f q).cl β = (ftS (getF F q)).cl β) : Less (.own t (.arr n 17 f) ex) (.own t (.arr n 17 (ftsS F)) ex) :=
  .val (fun β => arr_cl' fun q hq => h q hq β) (fun n1 k1 f1 e => by injection e with e1 e2 e3; subst e1 e2; exact ⟨_, rfl⟩) (fun n1 k1 f1 e => by injection e with e1 e2 e3; subst e1 e2; exact ⟨_, rfl⟩)
theorem ft_cl {β : Env} {c : Bool} {F : Nat → SV} {r : Nat → Kn} (h : ∀ q, q < 8 → (F q).cl β = (kS (r q)).cl β) : (SV.agg [.bool c, .arr 8 2 F]).cl β = (ftS ⟨c, r⟩).cl β := by
  show _ = (SV.agg [.bool c, kaS r]).cl β
  rw [cl_agg, cl_agg, clL_cons, clL_cons, clL_nil, clL_cons, clL_cons, clL_nil]
  congr 2
  exact arr_cl' h
def initR (n r : Nat) : List Ft := (List.replicate n F0).set 0 ⟨true, fun k => if 3 ≤ k ∧ k < r then ⟨true, 0⟩ else K0⟩
theorem initR_0 {n r : Nat} (h : 0 < n) : getF (initR n r) 0 = ⟨true, fun k => if 3 ≤ k ∧ k < r then ⟨true, 0⟩ else K0⟩ := by
  unfold getF initR
  simp [h]
theorem initR_s {n r q : Nat} (h : q ≠ 0) : getF (initR n r) q = F0 := by
  unfold getF initR
  rw [List.getD_eq_getElem?_getD, List.getElem?_set_ne (fun e => h e.symm), List.getElem?_replicate]
  split <;> rfl
theorem initR_next {n r : Nat} (l0 : 0 < n) (hr3 : 3 ≤ r) : ∀ q, q < n → SV.ite (decide (q = 0)) (ftS ⟨(getF (initR n r) 0).reached, setK (getF (initR n r) 0).regs r ⟨true, ((getF (initR n r) 0).regs r).n⟩⟩) (ftS (getF (initR n r) q)) = ftsS (initR n (r + 1)) q := fun q hq => by
  rw [ite_eq]
  unfold ftsS
  by_cases h : q = 0
  · subst h
    simp only [decide_true, cond_true, initR_0 l0]
    congr 2
    funext j
    unfold setK
    show (if j = r then (⟨true, (if 3 ≤ r ∧ r < r then (⟨true, 0⟩ : Kn) else K0).n⟩ : Kn) else if 3 ≤ j ∧ j < r then ⟨true, 0⟩ else K0) = if 3 ≤ j ∧ j < r + 1 then ⟨true, 0⟩ else K0
    rw [if_neg (show ¬ (3 ≤ r ∧ r < r) by omega)]
    by_cases hj : j = r
    · subst hj
      rw [if_pos rfl, if_pos ⟨hr3, by omega⟩]; rfl
    · rw [if_neg hj]
      by_cases h3 : 3 ≤ j ∧ j < r
      · rw [if_pos h3, if_pos (by omega)]
      · rw [if_neg h3, if_neg (by omega)]
  · simp only [h, decide_false, cond_false, initR_s h]
theorem initF_len (n : Nat) : (initF n).length = n := by simp [initF]
theorem initF_sum (n : Nat) : sumF (initF n) ≤ n * 9 := by
  have h : ∀ l : List Ft, sumF l ≤ l.length * 9 := fun l => by
    induction l with
    | nil => simp [sumF]
    | cons a l ih =>
      have hw : wF a ≤ 9 := by
        unfold wF
        have := cntR_le a.regs
        split <;> omega
      simp only [sumF, List.map_cons, List.sum_cons, List.length_cons] at ih ⊢
      omega
  have := h (initF n)
  rwa [initF_len] at this
theorem init_l0 (n : Nat) (h : 0 < n) : Less (.own 44 (.arr n 17 fun j => SV.ite (decide (j = 0)) (.agg [.bool true, .arr 8 2 fun _ => .agg [.bool false, .nat .i64 0]]) (.agg [.bool false, .arr 8 2 fun _ => .agg [.bool false, .nat .i64 0]])) true) (.own 44 (.arr n 17 (ftsS (initR n 3))) true) := less_fts fun q hq β => by
  rw [ite_eq]
  by_cases h0 : q = 0
  · subst h0
    rw [initR_0 h]
    simp only [decide_true, cond_true]
    refine ft_cl fun q hq => ?_
    rw [if_neg (by omega)]
    rfl
  · rw [initR_s h0]
    simp only [h0, decide_false, cond_false]
    exact ft_cl fun q hq => rfl
theorem scan_next {xs : List Ins} {F : List Ft} {k : Nat} {x : Ins} (h : scanK xs F k = none) (hre : (getF F k).reached = true) (hX : xs.getD k ⟨0, 0, 0, 0, 0⟩ = x) (hs : scanY F (handsL x k (getF F k)) = none) : scanK xs F (k + 1) = none := by
  unfold scanK
  rw [h]
  simp only [hre, if_true, hX]
  exact hs
theorem scan_some {xs : List Ins} {F G : List Ft} {k : Nat} {x : Ins} (h : scanK xs F k = none) (hre : (getF F k).reached = true) (hX : xs.getD k ⟨0, 0, 0, 0, 0⟩ = x) (hk : k < xs.length) (hs : scanY F (handsL x k (getF F k)) = some G) : stepF xs F = some G := by
  have h1 : scanK xs F (k + 1) = some G := by
    unfold scanK
    rw [h]
    simp only [hre, if_true, hX]
    exact hs
  have key : ∀ d, scanK xs F (k + 1 + d) = some G := fun d => by
    induction d with
    | zero => exact h1
    | succ d ih => rw [← Nat.add_assoc]; unfold scanK; rw [ih]
  unfold stepF
  rw [show xs.length = k + 1 + (xs.length - (k + 1)) by omega]
  exact key _
theorem scanE_1 {F G : List Ft} {x : Ins} {k : Nat} {t : Bool} {f : Ft} (h : updF F (k + 1) f = some G) : scanY F (emitL x k true t f) = some G := by
  have e : ((k : Int) + 1).toNat = k + 1 := by omega
  simp [emitL, scanY, e, h]
theorem scanE_2 {F G : List Ft} {x : Ins} {k T : Nat} {g : Bool} {f : Ft} (h1 : g = true → updF F (k + 1) f = none) (hT : targV x = (T : Int)) (h : updF F T f = some G) : scanY F (emitL x k g true f) = some G := by
  have e : ((k : Int) + 1).toNat = k + 1 := by omega
  cases g with
  | true => simp [emitL, scanY, e, h1 rfl, hT, h]
  | false => simp [emitL, scanY, hT, h]
theorem scanE_0 {F : List Ft} {x : Ins} {k : Nat} {g t : Bool} {f : Ft} (h1 : g = true → updF F (k + 1) f = none) (h2 : t = true → updF F (targV x).toNat f = none) : scanY F (emitL x k g t f) = none := by
  have e : ((k : Int) + 1).toNat = k + 1 := by omega
  cases g <;> cases t <;> simp [emitL, scanY, e, h1, h2]
theorem iter_next {xs : List Ins} {F G R : List Ft} {m : Nat} (hs : stepF xs F = some G) (hlt : sumF G < sumF F) (hm : sumF F ≤ m) (h : iterF xs m F = R) : ∃ m', sumF G ≤ m' ∧ iterF xs m' G = R := by
  obtain ⟨m', rfl⟩ : ∃ m', m = m' + 1 := ⟨m - 1, by omega⟩
  refine ⟨m', by omega, ?_⟩
  unfold iterF at h
  rw [hs] at h
  exact h
theorem iter_end {xs : List Ins} {F R : List Ft} {m : Nat} (hs : scanK xs F xs.length = none) (h : iterF xs m F = R) : R = F := by
  cases m with
  | zero => exact h.symm
  | succ m =>
    unfold iterF at h
    rw [show stepF xs F = none from hs] at h
    exact h.symm
theorem facts_lit (xs : List Ins) (p1 : Nat) (hx : ∀ x ∈ xs, x.ok) (hc : (checkI xs).2 = 0) : LitOk Try.prog 56 [.sl 1 2 [] 5 0 xs.length (some p1)] [.gone, .gone, .ro (.arr xs.length 5 (prS xs))] (.sl 3 3 [] 17 0 xs.length none) [.gone, .gone, .gone, .own 44 (.arr xs.length 17 (ftsS (factsS xs))) false] := by
  refine litOkM (fn := Try.f56) 3 67 0 rfl rfl rfl rfl rfl (by simp only [StableL, Stable, hp]; simp [HB.born]) rfl fun w0 M E hro => ?_
  obtain ⟨l0, l1, _, _⟩ := right_last' hc
  repeat' (first | with_reducible (first | apply J1 | apply J3 | apply J4 | apply J5 | apply J6 | apply J7 | apply J8 | apply J9 | apply J10 | apply J11 | apply J12 | apply J13 | apply J14 | apply J15 | apply J16 | apply J17 | apply J18 | apply J19 | apply J20 | refine J2 ?_) | ((with_reducible apply J21); (· rfl)) | ((with_reducible intro hif); first | (focus (cases hif; done)) | (simp only [JH] at hif; try (exfalso; omega)) | (try (exfalso; omega))) | ((first | ((with_reducible apply J22 cFa_ok tab_ok); (· rfl)) | ((with_reducible apply J23 fol cFa_ok tab_ok); (· rfl)) | with_reducible apply J24); (· (simp only [push_cast, ↓JP, Nat.reduceAdd, Nat.reduceEqDiff, Nat.reduceLT, Nat.reduceMul, Nat.reduceLeDiff, reduceCtorEq, reduceIte, ↓JK, ↓JF]; rfl)); (try kernel_rfl); (try (focus (first | exact True.intro | ((try simp only [JS, implies_true, forall_const, shaped, shapedL, kndOf]); (repeat' (first | assumption | exact True.intro | omega | apply And.intro)); done) | ((repeat' (first | assumption | exact True.intro | omega | apply And.intro)); done))))) | fail)
  have hl0 := init_l0 xs.length l0
  refine WF.loopAt (fun r => 3 ≤ r ∧ r ≤ 8) (fun r => [(0, .sl 1 2 [] 5 0 xs.length (some p1)), (3, .ptr 4 []), (4, .nat .i64 r)]) (fun r => [.gone, .gone, .ro (.arr xs.length 5 (prS xs)), .own 44 (.arr xs.length 17 (ftsS (initR xs.length r))) true, .own 35 (.sl 3 3 [] 17 0 xs.length none) true]) (fun r => 8 - r) 3 ⟨Nat.le_refl _, by omega⟩ ?_ ?_ rfl ?_ ?_ rfl ?_
  · ((repeat' (first | exact trivial | apply And.intro)) <;> (first | rfl | (simp only [look, cond_true, cond_false]; done)))
  · (repeat' (first | exact trivial | exact .same _ | exact .dead _ | exact .gone rfl | exact .loose | assumption | exact .arr (by assumption) | apply And.intro))
  · (repeat' (first | exact trivial | exact rfl | assumption | apply Stable.ite | apply And.intro | intro _ | (simp only [Stable, StableL, i64S, prS, insS, sndsS, sndS, kS, kaS, ftS, ftsS]; done)))
  · (repeat' (first | exact trivial | exact rfl | assumption | apply Stable.ite | apply And.intro | intro _ | (simp only [Stable, StableL, i64S, prS, insS, sndsS, sndS, kS, kaS, ftS, ftsS]; done)))
  rintro r ⟨hr3, hr8⟩
  repeat' (first | with_reducible (first | apply J1 | apply J3 | apply J4 | apply J5 | apply J6 | apply J7 | apply J8 | apply J9 | apply J10 | apply J11 | apply J12 | apply J13 | apply J14 | apply J15 | apply J16 | apply J17 | apply J18 | apply J19 | apply J20 | refine J2 ?_) | ((with_reducible apply J21); (· rfl)) | ((with_reducible intro hif); first | (focus (cases hif; done)) | (simp only [JH] at hif; try (exfalso; omega)) | (try (exfalso; omega))) | ((first | ((with_reducible apply J22 cFa_ok tab_ok); (· rfl)) | ((with_reducible apply J23 fol cFa_ok tab_ok); (· rfl)) | with_reducible apply J24); (· (simp only [push_cast, ↓JP, Nat.reduceAdd, Nat.reduceEqDiff, Nat.reduceLT, Nat.reduceMul, Nat.reduceLeDiff, reduceCtorEq, reduceIte, ↓JK, ↓JF, ftsS, inN]; rfl)); (try kernel_rfl); (try (focus (first | exact True.intro | ((try simp only [JS, implies_true, forall_const, shaped, shapedL, kndOf, ftsS, inN]); (repeat' (first | assumption | exact True.intro | omega | apply And.intro)); done) | ((repeat' (first | assumption | exact True.intro | omega | apply And.intro)); done))))) | fail)
  · have hl := initR_next l0 hr3
    refine At.next (r + 1) ?_ ?_ ?_ rfl ?_ ?_ rfl
    · omega
    · ((repeat' (first | exact trivial | apply And.intro)) <;> (first | rfl | (simp only [look, cond_true, cond_false]; done)))
    · (repeat' (first | exact trivial | exact .same _ | exact .dead _ | exact .gone rfl | exact .loose | assumption | exact .arr (by assumption) | apply And.intro))
    · (repeat' (first | exact trivial | exact rfl | assumption | apply Stable.ite | apply And.intro | intro _ | (simp only [Stable, StableL, i64S, prS, insS, sndsS, sndS, kS, kaS, ftS, ftsS]; done)))
    · (repeat' (first | exact trivial | exact rfl | assumption | apply Stable.ite | apply And.intro | intro _ | (simp only [Stable, StableL, i64S, prS, insS, sndsS, sndS, kS, kaS, ftS, ftsS]; done)))
  obtain rfl : r = 8 := by omega
  refine WF.loopB (fun F => F.length = xs.length ∧ ∃ m, sumF F ≤ m ∧ iterF xs m F = factsS xs) (fun F => [(0, .sl 1 2 [] 5 0 xs.length (some p1)), (3, .ptr 4 [])]) (fun F => [.gone, .gone, .ro (.arr xs.length 5 (prS xs)), .own 44 (.arr xs.length 17 (ftsS F)) true, .own 35 (.sl 3 3 [] 17 0 xs.length none) true]) (fun F => sumF F) (initF xs.length) ⟨initF_len _, xs.length * 9, initF_sum _, rfl⟩ ?_ ?_ rfl ?_ ?_ rfl ?_
  · ((repeat' (first | exact trivial | apply And.intro)) <;> (first | rfl | (simp only [look, cond_true, cond_false]; done)))
  · (repeat' (first | exact trivial | exact .same _ | exact .dead _ | exact .gone rfl | exact .loose | assumption | exact .arr (by assumption) | apply And.intro))
  · (repeat' (first | exact trivial | exact rfl | assumption | apply Stable.ite | apply And.intro | intro _ | (simp only [Stable, StableL, i64S, prS, insS, sndsS, sndS, kS, kaS, ftS, ftsS]; done)))
  · (repeat' (first | exact trivial | exact rfl | assumption | apply Stable.ite | apply And.intro | intro _ | (simp only [Stable, StableL, i64S, prS, insS, sndsS, sndS, kS, kaS, ftS, ftsS]; done)))
  rintro wa Ma Da F hAa ⟨hFl, m, hm, hFm⟩
  repeat' (first | with_reducible (first | apply J1 | apply J3 | apply J4 | apply J5 | apply J6 | apply J7 | apply J8 | apply J9 | apply J10 | apply J11 | apply J12 | apply J13 | apply J14 | apply J15 | apply J16 | apply J17 | apply J18 | apply J19 | apply J20 | refine J2 ?_) | ((with_reducible apply J21); (· rfl)) | ((with_reducible intro hif); first | (focus (cases hif; done)) | (simp only [JH] at hif; try (exfalso; omega)) | (try (exfalso; omega))) | ((first | ((with_reducible apply J22 cFa_ok tab_ok); (· rfl)) | ((with_reducible apply J23 fol cFa_ok tab_ok); (· rfl)) | with_reducible apply J24); (· (simp only [push_cast, ↓JP, Nat.reduceAdd, Nat.reduceEqDiff, Nat.reduceLT, Nat.reduceMul, Nat.reduceLeDiff, reduceCtorEq, reduceIte, ↓JK, ↓JF]; rfl)); (try kernel_rfl); (try (focus (first | exact True.intro | ((try simp only [JS, implies_true, forall_const, shaped, shapedL, kndOf]); (repeat' (first | assumption | exact True.intro | omega | apply And.intro)); done) | ((repeat' (first | assumption | exact True.intro | omega | apply And.intro)); done))))) | fail)
  refine WF.loopB (fun k => k ≤ xs.length ∧ scanK xs F k = none) (fun k => [(0, .sl 1 2 [] 5 0 xs.length (some p1)), (3, .ptr 4 []), (25, .nat .i64 xs.length), (26, .nat .i64 k)]) (fun k => [.gone, .gone, .ro (.arr xs.length 5 (prS xs)), .own 44 (.arr xs.length 17 (ftsS F)) true, .own 35 (.sl 3 3 [] 17 0 xs.length none) true]) (fun k => xs.length - k) 0 ⟨Nat.zero_le _, rfl⟩ ?_ ?_ rfl ?_ ?_ rfl ?_
  · ((repeat' (first | exact trivial | apply And.intro)) <;> (first | rfl | (simp only [look, cond_true, cond_false]; done)))
  · (repeat' (first | exact trivial | exact .same _ | exact .dead _ | exact .gone rfl | exact .loose | assumption | exact .arr (by assumption) | apply And.intro))
  · (repeat' (first | exact trivial | exact rfl | assumption | apply Stable.ite | apply And.intro | intro _ | (simp only [Stable, StableL, i64S, prS, insS, sndsS, sndS, kS, kaS, ftS, ftsS]; done)))
  · (repeat' (first | exact trivial | exact rfl | assumption | apply Stable.ite | apply And.intro | intro _ | (simp only [Stable, StableL, i64S, prS, insS, sndsS, sndS, kS, kaS, ftS, ftsS]; done)))
  rintro wb Mb Db k hBb ⟨hk, hsc⟩
  by_cases hkl : k < xs.length
  · by_cases hre : (getF F k).reached = true
    · obtain ⟨x, hX⟩ : ∃ x, xs.getD k ⟨0, 0, 0, 0, 0⟩ = x := ⟨_, rfl⟩
      have hR := right_at hx hc hkl
      rw [hX] at hR
      have hok := hR.ok
      obtain ⟨o0, o1, a0, a1, b0, b1, c0, c1, n0', n1'⟩ := hR.ok
      have ha8 := hR.a
      have hb8 := hR.b
      have hc8 := hR.c
      repeat' (first | with_reducible (first | apply J1 | apply J3 | apply J4 | apply J5 | apply J6 | apply J7 | apply J8 | apply J9 | apply J10 | apply J11 | apply J12 | apply J13 | apply J14 | apply J15 | apply J16 | apply J17 | apply J18 | apply J19 | apply J20 | refine J2 ?_) | ((with_reducible apply J21); (· rfl)) | ((with_reducible intro hif); first | (focus (cases hif; done)) | (simp only [JH] at hif; try (exfalso; omega)) | (try (exfalso; omega))) | ((first | ((with_reducible apply J22 cFa_ok tab_ok); (· rfl)) | ((with_reducible apply J23 fol cFa_ok tab_ok); (· rfl)) | with_reducible apply J24); (· (simp only [push_cast, ↓JP, Nat.reduceAdd, Nat.reduceEqDiff, Nat.reduceLT, Nat.reduceMul, Nat.reduceLeDiff, reduceCtorEq, reduceIte, ↓JK, ↓JF, cFa, sHands, ftsS, hre, hkl, inN]; rfl)); (try kernel_rfl); (try (focus (first | exact True.intro | ((try simp only [JS, implies_true, forall_const, shaped, shapedL, kndOf, cFa, sHands, ftsS, hre, hkl, inN]); (repeat' (first | assumption | exact True.intro | omega | apply And.intro)); done) | ((repeat' (first | assumption | exact True.intro | omega | apply And.intro)); done))))) | fail)
      with_reducible apply WF.range (fn' := Try.f125) 102
      · simp only [push_cast, ↓JP, Nat.reduceAdd, Nat.reduceEqDiff, Nat.reduceLT, Nat.reduceMul, Nat.reduceLeDiff, reduceCtorEq, reduceIte, ↓JK, ↓JF]; rfl
      · (focus (first | exact True.intro | ((try simp only [JS, implies_true, forall_const, shaped, shapedL, kndOf]); (repeat' (first | assumption | exact True.intro | omega | apply And.intro)); done) | ((repeat' (first | assumption | exact True.intro | omega | apply And.intro)); done)))
      · rfl
      · rfl
      · rfl
      · rfl
      · rfl
      · rfl
      · rfl
      intro E1 rec tmps after hE1 hrec hcf haft
      iterate 16 (try (first | with_reducible (first | apply J1 | apply J3 | apply J4 | apply J5 | apply J6 | apply J7 | apply J8 | apply J9 | apply J10 | apply J11 | apply J12 | apply J13 | apply J14 | apply J15 | apply J16 | apply J17 | apply J18 | apply J19 | apply J20 | refine J2 ?_) | ((with_reducible apply J21); (· rfl)) | ((with_reducible intro hif); first | (focus (cases hif; done)) | (simp only [JH] at hif; try (exfalso; omega)) | (try (exfalso; omega))) | ((first | ((with_reducible apply J22 cFa_ok tab_ok); (· rfl)) | ((with_reducible apply J23 fol cFa_ok tab_ok); (· rfl)) | with_reducible apply J24); (· (simp only [push_cast, ↓JP, Nat.reduceAdd, Nat.reduceEqDiff, Nat.reduceLT, Nat.reduceMul, Nat.reduceLeDiff, reduceCtorEq, reduceIte, ↓JK, ↓JF, cFa, sGoes, sTarget, hX, inN]; rfl)); (try kernel_rfl); (try (focus (first | exact True.intro | ((try simp only [JS, implies_true, forall_const, shaped, shapedL, kndOf, cFa, sGoes, sTarget, hX, inN]); (repeat' (first | assumption | exact True.intro | omega | apply And.intro)); done) | ((repeat' (first | assumption | exact True.intro | omega | apply And.intro)); done))))) | fail))
      -- the iterator
      refine WF.seqJoin (fun z : Bool × Bool × Ft => Emits xs.length k x (getF F k) z) (fun z => [(0, .yl 9), (2, .ptr 6 []), (3, .ptr 7 []), (7, .int .i64 (targV x)), (8, .bool z.2.1), (9, .bool z.1)]) (fun z => [.gone, .gone, .ro (.arr xs.length 5 (prS xs)), .own 44 (.arr xs.length 17 (ftsS F)) true, .own 35 (.sl 3 3 [] 17 0 xs.length none) true, .gone, .own 3 (.nat .i64 k) true, .own 44 (ftS z.2.2) true, .raw (.deferred (some [])), .raw (.loop (rec .ready none))]) ?_ ?_
      · rcases hR.cls with h | h | h | h | h | h | h | h | h | h | h | ⟨h33, h49⟩
        · -- 1
          have hG1 : goesB x = false := by rw [goesB_of hR.one, h]; rfl
          have hT1 : targB x = false := by rw [targB_of hR.one, h]; rfl
          repeat' (first | with_reducible (first | apply J1 | apply J3 | apply J4 | apply J5 | apply J6 | apply J7 | apply J8 | apply J9 | apply J10 | apply J11 | apply J12 | apply J13 | apply J14 | apply J15 | apply J16 | apply J17 | apply J18 | apply J19 | apply J20 | refine J2 ?_) | ((with_reducible apply J21); (· rfl)) | ((with_reducible intro hif); first | (focus (cases hif; done)) | (simp only [JH] at hif; try (exfalso; omega)) | (try (exfalso; omega))) | ((first | ((with_reducible apply J22 cFa_ok tab_ok); (· rfl)) | ((with_reducible apply J23 fol cFa_ok tab_ok); (· rfl)) | with_reducible apply J24); (· (simp only [push_cast, ↓JP, Nat.reduceAdd, Nat.reduceEqDiff, Nat.reduceLT, Nat.reduceMul, Nat.reduceLeDiff, reduceCtorEq, reduceIte, ↓JK, ↓JF, cFa, sGoes, sTarget, sResult, sMeet, sHands, hX, inN, inR, ftsS, ↓ft_shaped, ↓fts_shaped, ft_eq, h, hG1, hT1]; rfl)); (try kernel_rfl); (try (focus (first | exact True.intro | ((try simp only [JS, implies_true, forall_const, shaped, shapedL, kndOf, cFa, sGoes, sTarget, sResult, sMeet, sHands, hX, inN, inR, ftsS, ↓ft_shaped, ↓fts_shaped, ft_eq, h, hG1, hT1]); (repeat' (first | assumption | exact True.intro | omega | apply And.intro)); done) | ((repeat' (first | assumption | exact True.intro | omega | apply And.intro)); done))))) | fail)
          refine At.join (false, false, getF F k) ?_ ?_ ?_ rfl ?_ ?_ rfl
          · exact ⟨(by unfold handsL; simp [h, hG1, hT1]), fun h0 => (by cases h0), fun h0 => (by cases h0), rfl⟩
          · ((repeat' (first | exact trivial | apply And.intro)) <;> (first | rfl | (simp only [look, cond_true, cond_false]; done)))
          · (repeat' (first | exact trivial | exact .same _ | exact .dead _ | exact .gone rfl | exact .loose | assumption | exact .arr (by assumption) | apply And.intro))
          · (repeat' (first | exact trivial | exact rfl | assumption | apply Stable.ite | apply And.intro | intro _ | (simp only [Stable, StableL, i64S, prS, insS, sndsS, sndS, kS, kaS, ftS, ftsS]; done)))
          · (repeat' (first | exact trivial | exact rfl | assumption | apply Stable.ite | apply And.intro | intro _ | (simp only [Stable, StableL, i64S, prS, insS, sndsS, sndS, kS, kaS, ftS, ftsS]; done)))
        · -- 2
          have hG2 : goesB x = false := by rw [goesB_of hR.one, h]; rfl
          have hT2 : targB x = false := by rw [targB_of hR.one, h]; rfl
          repeat' (first | with_reducible (first | apply J1 | apply J3 | apply J4 | apply J5 | apply J6 | apply J7 | apply J8 | apply J9 | apply J10 | apply J11 | apply J12 | apply J13 | apply J14 | apply J15 | apply J16 | apply J17 | apply J18 | apply J19 | apply J20 | refine J2 ?_) | ((with_reducible apply J21); (· rfl)) | ((with_reducible intro hif); first | (focus (cases hif; done)) | (simp only [JH] at hif; try (exfalso; omega)) | (try (exfalso; omega))) | ((first | ((with_reducible apply J22 cFa_ok tab_ok); (· rfl)) | ((with_reducible apply J23 fol cFa_ok tab_ok); (· rfl)) | with_reducible apply J24); (· (simp only [push_cast, ↓JP, Nat.reduceAdd, Nat.reduceEqDiff, Nat.reduceLT, Nat.reduceMul, Nat.reduceLeDiff, reduceCtorEq, reduceIte, ↓JK, ↓JF, cFa, sGoes, sTarget, sResult, sMeet, sHands, hX, inN, inR, ftsS, ↓ft_shaped, ↓fts_shaped, ft_eq, h, hG2, hT2]; rfl)); (try kernel_rfl); (try (focus (first | exact True.intro | ((try simp only [JS, implies_true, forall_const, shaped, shapedL, kndOf, cFa, sGoes, sTarget, sResult, sMeet, sHands, hX, inN, inR, ftsS, ↓ft_shaped, ↓fts_shaped, ft_eq, h, hG2, hT2]); (repeat' (first | assumption | exact True.intro | omega | apply And.intro)); done) | ((repeat' (first | assumption | exact True.intro | omega | apply And.intro)); done))))) | fail)
          refine At.join (false, false, getF F k) ?_ ?_ ?_ rfl ?_ ?_ rfl
          · exact ⟨(by unfold handsL; simp [h, hG2, hT2]), fun h0 => (by cases h0), fun h0 => (by cases h0), rfl⟩
          · ((repeat' (first | exact trivial | apply And.intro)) <;> (first | rfl | (simp only [look, cond_true, cond_false]; done)))
          · (repeat' (first | exact trivial | exact .same _ | exact .dead _ | exact .gone rfl | exact .loose | assumption | exact .arr (by assumption) | apply And.intro))
          · (repeat' (first | exact trivial | exact rfl | assumption | apply Stable.ite | apply And.intro | intro _ | (simp only [Stable, StableL, i64S, prS, insS, sndsS, sndS, kS, kaS, ftS, ftsS]; done)))
          · (repeat' (first | exact trivial | exact rfl | assumption | apply Stable.ite | apply And.intro | intro _ | (simp only [Stable, StableL, i64S, prS, insS, sndsS, sndS, kS, kaS, ftS, ftsS]; done)))
        · -- 3
          have hG3 : goesB x = true := by rw [goesB_of hR.one, h]; rfl
          have hT3 : targB x = false := by rw [targB_of hR.one, h]; rfl
          repeat' (first | with_reducible (first | apply J1 | apply J3 | apply J4 | apply J5 | apply J6 | apply J7 | apply J8 | apply J9 | apply J10 | apply J11 | apply J12 | apply J13 | apply J14 | apply J15 | apply J16 | apply J17 | apply J18 | apply J19 | apply J20 | refine J2 ?_) | ((with_reducible apply J21); (· rfl)) | ((with_reducible intro hif); first | (focus (cases hif; done)) | (simp only [JH] at hif; try (exfalso; omega)) | (try (exfalso; omega))) | ((first | ((with_reducible apply J22 cFa_ok tab_ok); (· rfl)) | ((with_reducible apply J23 fol cFa_ok tab_ok); (· rfl)) | with_reducible apply J24); (· (simp only [push_cast, ↓JP, Nat.reduceAdd, Nat.reduceEqDiff, Nat.reduceLT, Nat.reduceMul, Nat.reduceLeDiff, reduceCtorEq, reduceIte, ↓JK, ↓JF, cFa, sGoes, sTarget, sResult, sMeet, sHands, hX, inN, inR, ftsS, ↓ft_shaped, ↓fts_shaped, ft_eq, h, hG3, hT3]; rfl)); (try kernel_rfl); (try (focus (first | exact True.intro | ((try simp only [JS, implies_true, forall_const, shaped, shapedL, kndOf, cFa, sGoes, sTarget, sResult, sMeet, sHands, hX, inN, inR, ftsS, ↓ft_shaped, ↓fts_shaped, ft_eq, h, hG3, hT3]); (repeat' (first | assumption | exact True.intro | omega | apply And.intro)); done) | ((repeat' (first | assumption | exact True.intro | omega | apply And.intro)); done))))) | fail)
          refine At.join (true, false, ⟨(getF F k).reached, setK (getF F k).regs x.a.toNat (resK x (getF F k).regs).1⟩) ?_ ?_ ?_ rfl ?_ ?_ rfl
          · exact ⟨(by unfold handsL; simp [h, hG3, hT3]), fun _ => hR.goes hG3, fun h0 => (by cases h0), rfl⟩
          · ((repeat' (first | exact trivial | apply And.intro)) <;> (first | rfl | (simp only [look, cond_true, cond_false]; done)))
          · (repeat' (first | exact trivial | exact .same _ | exact .dead _ | exact .gone rfl | exact .loose | assumption | exact .arr (by assumption) | apply And.intro))
          · (repeat' (first | exact trivial | exact rfl | assumption | apply Stable.ite | apply And.intro | intro _ | (simp only [Stable, StableL, i64S, prS, insS, sndsS, sndS, kS, kaS, ftS, ftsS]; done)))
          · (repeat' (first | exact trivial | exact rfl | assumption | apply Stable.ite | apply And.intro | intro _ | (simp only [Stable, StableL, i64S, prS, insS, sndsS, sndS, kS, kaS, ftS, ftsS]; done)))
        · -- 4
          have hG4 : goesB x = true := by rw [goesB_of hR.one, h]; rfl
          have hT4 : targB x = false := by rw [targB_of hR.one, h]; rfl
          repeat' (first | with_reducible (first | apply J1 | apply J3 | apply J4 | apply J5 | apply J6 | apply J7 | apply J8 | apply J9 | apply J10 | apply J11 | apply J12 | apply J13 | apply J14 | apply J15 | apply J16 | apply J17 | apply J18 | apply J19 | apply J20 | refine J2 ?_) | ((with_reducible apply J21); (· rfl)) | ((with_reducible intro hif); first | (focus (cases hif; done)) | (simp only [JH] at hif; try (exfalso; omega)) | (try (exfalso; omega))) | ((first | ((with_reducible apply J22 cFa_ok tab_ok); (· rfl)) | ((with_reducible apply J23 fol cFa_ok tab_ok); (· rfl)) | with_reducible apply J24); (· (simp only [push_cast, ↓JP, Nat.reduceAdd, Nat.reduceEqDiff, Nat.reduceLT, Nat.reduceMul, Nat.reduceLeDiff, reduceCtorEq, reduceIte, ↓JK, ↓JF, cFa, sGoes, sTarget, sResult, sMeet, sHands, hX, inN, inR, ftsS, ↓ft_shaped, ↓fts_shaped, ft_eq, h, hG4, hT4]; rfl)); (try kernel_rfl); (try (focus (first | exact True.intro | ((try simp only [JS, implies_true, forall_const, shaped, shapedL, kndOf, cFa, sGoes, sTarget, sResult, sMeet, sHands, hX, inN, inR, ftsS, ↓ft_shaped, ↓fts_shaped, ft_eq, h, hG4, hT4]); (repeat' (first | assumption | exact True.intro | omega | apply And.intro)); done) | ((repeat' (first | assumption | exact True.intro | omega | apply And.intro)); done))))) | fail)
          refine At.join (true, false, ⟨(getF F k).reached, setK (getF F k).regs x.a.toNat (resK x (getF F k).regs).1⟩) ?_ ?_ ?_ rfl ?_ ?_ rfl
          · exact ⟨(by unfold handsL; simp [h, hG4, hT4]), fun _ => hR.goes hG4, fun h0 => (by cases h0), rfl⟩
          · ((repeat' (first | exact trivial | apply And.intro)) <;> (first | rfl | (simp only [look, cond_true, cond_false]; done)))
          · (repeat' (first | exact trivial | exact .same _ | exact .dead _ | exact .gone rfl | exact .loose | assumption | exact .arr (by assumption) | apply And.intro))
          · (repeat' (first | exact trivial | exact rfl | assumption | apply Stable.ite | apply And.intro | intro _ | (simp only [Stable, StableL, i64S, prS, insS, sndsS, sndS, kS, kaS, ftS, ftsS]; done)))
          · (repeat' (first | exact trivial | exact rfl | assumption | apply Stable.ite | apply And.intro | intro _ | (simp only [Stable, StableL, i64S, prS, insS, sndsS, sndS, kS, kaS, ftS, ftsS]; done)))
        · -- 5
          have hG5 : goesB x = true := by rw [goesB_of hR.one, h]; rfl
          have hT5 : targB x = false := by rw [targB_of hR.one, h]; rfl
          repeat' (first | with_reducible (first | apply J1 | apply J3 | apply J4 | apply J5 | apply J6 | apply J7 | apply J8 | apply J9 | apply J10 | apply J11 | apply J12 | apply J13 | apply J14 | apply J15 | apply J16 | apply J17 | apply J18 | apply J19 | apply J20 | refine J2 ?_) | ((with_reducible apply J21); (· rfl)) | ((with_reducible intro hif); first | (focus (cases hif; done)) | (simp only [JH] at hif; try (exfalso; omega)) | (try (exfalso; omega))) | ((first | ((with_reducible apply J22 cFa_ok tab_ok); (· rfl)) | ((with_reducible apply J23 fol cFa_ok tab_ok); (· rfl)) | with_reducible apply J24); (· (simp only [push_cast, ↓JP, Nat.reduceAdd, Nat.reduceEqDiff, Nat.reduceLT, Nat.reduceMul, Nat.reduceLeDiff, reduceCtorEq, reduceIte, ↓JK, ↓JF, cFa, sGoes, sTarget, sResult, sMeet, sHands, hX, inN, inR, ftsS, ↓ft_shaped, ↓fts_shaped, ft_eq, h, hG5, hT5]; rfl)); (try kernel_rfl); (try (focus (first | exact True.intro | ((try simp only [JS, implies_true, forall_const, shaped, shapedL, kndOf, cFa, sGoes, sTarget, sResult, sMeet, sHands, hX, inN, inR, ftsS, ↓ft_shaped, ↓fts_shaped, ft_eq, h, hG5, hT5]); (repeat' (first | assumption | exact True.intro | omega | apply And.intro)); done) | ((repeat' (first | assumption | exact True.intro | omega | apply And.intro)); done))))) | fail)
          refine At.join (true, false, ⟨(getF F k).reached, setK (getF F k).regs x.a.toNat (resK x (getF F k).regs).1⟩) ?_ ?_ ?_ rfl ?_ ?_ rfl
          · exact ⟨(by unfold handsL; simp [h, hG5, hT5]), fun _ => hR.goes hG5, fun h0 => (by cases h0), rfl⟩
          · ((repeat' (first | exact trivial | apply And.intro)) <;> (first | rfl | (simp only [look, cond_true, cond_false]; done)))
          · (repeat' (first | exact trivial | exact .same _ | exact .dead _ | exact .gone rfl | exact .loose | assumption | exact .arr (by assumption) | apply And.intro))
          · (repeat' (first | exact trivial | exact rfl | assumption | apply Stable.ite | apply And.intro | intro _ | (simp only [Stable, StableL, i64S, prS, insS, sndsS, sndS, kS, kaS, ftS, ftsS]; done)))
          · (repeat' (first | exact trivial | exact rfl | assumption | apply Stable.ite | apply And.intro | intro _ | (simp only [Stable, StableL, i64S, prS, insS, sndsS, sndS, kS, kaS, ftS, ftsS]; done)))
        · -- 6
          have hG6 : goesB x = true := by rw [goesB_of hR.one, h]; rfl
          have hT6 : targB x = false := by rw [targB_of hR.one, h]; rfl
          repeat' (first | with_reducible (first | apply J1 | apply J3 | apply J4 | apply J5 | apply J6 | apply J7 | apply J8 | apply J9 | apply J10 | apply J11 | apply J12 | apply J13 | apply J14 | apply J15 | apply J16 | apply J17 | apply J18 | apply J19 | apply J20 | refine J2 ?_) | ((with_reducible apply J21); (· rfl)) | ((with_reducible intro hif); first | (focus (cases hif; done)) | (simp only [JH] at hif; try (exfalso; omega)) | (try (exfalso; omega))) | ((first | ((with_reducible apply J22 cFa_ok tab_ok); (· rfl)) | ((with_reducible apply J23 fol cFa_ok tab_ok); (· rfl)) | with_reducible apply J24); (· (simp only [push_cast, ↓JP, Nat.reduceAdd, Nat.reduceEqDiff, Nat.reduceLT, Nat.reduceMul, Nat.reduceLeDiff, reduceCtorEq, reduceIte, ↓JK, ↓JF, cFa, sGoes, sTarget, sResult, sMeet, sHands, hX, inN, inR, ftsS, ↓ft_shaped, ↓fts_shaped, ft_eq, h, hG6, hT6]; rfl)); (try kernel_rfl); (try (focus (first | exact True.intro | ((try simp only [JS, implies_true, forall_const, shaped, shapedL, kndOf, cFa, sGoes, sTarget, sResult, sMeet, sHands, hX, inN, inR, ftsS, ↓ft_shaped, ↓fts_shaped, ft_eq, h, hG6, hT6]); (repeat' (first | assumption | exact True.intro | omega | apply And.intro)); done) | ((repeat' (first | assumption | exact True.intro | omega | apply And.intro)); done))))) | fail)
          refine At.join (true, false, getF F k) ?_ ?_ ?_ rfl ?_ ?_ rfl
          · exact ⟨(by unfold handsL; simp [h, hG6, hT6]), fun _ => hR.goes hG6, fun h0 => (by cases h0), rfl⟩
          · ((repeat' (first | exact trivial | apply And.intro)) <;> (first | rfl | (simp only [look, cond_true, cond_false]; done)))
          · (repeat' (first | exact trivial | exact .same _ | exact .dead _ | exact .gone rfl | exact .loose | assumption | exact .arr (by assumption) | apply And.intro))
          · (repeat' (first | exact trivial | exact rfl | assumption | apply Stable.ite | apply And.intro | intro _ | (simp only [Stable, StableL, i64S, prS, insS, sndsS, sndS, kS, kaS, ftS, ftsS]; done)))
          · (repeat' (first | exact trivial | exact rfl | assumption | apply Stable.ite | apply And.intro | intro _ | (simp only [Stable, StableL, i64S, prS, insS, sndsS, sndS, kS, kaS, ftS, ftsS]; done)))
        · -- 7
          have hG7 : goesB x = true := by rw [goesB_of hR.one, h]; rfl
          have hT7 : targB x = false := by rw [targB_of hR.one, h]; rfl
          repeat' (first | with_reducible (first | apply J1 | apply J3 | apply J4 | apply J5 | apply J6 | apply J7 | apply J8 | apply J9 | apply J10 | apply J11 | apply J12 | apply J13 | apply J14 | apply J15 | apply J16 | apply J17 | apply J18 | apply J19 | apply J20 | refine J2 ?_) | ((with_reducible apply J21); (· rfl)) | ((with_reducible intro hif); first | (focus (cases hif; done)) | (simp only [JH] at hif; try (exfalso; omega)) | (try (exfalso; omega))) | ((first | ((with_reducible apply J22 cFa_ok tab_ok); (· rfl)) | ((with_reducible apply J23 fol cFa_ok tab_ok); (· rfl)) | with_reducible apply J24); (· (simp only [push_cast, ↓JP, Nat.reduceAdd, Nat.reduceEqDiff, Nat.reduceLT, Nat.reduceMul, Nat.reduceLeDiff, reduceCtorEq, reduceIte, ↓JK, ↓JF, cFa, sGoes, sTarget, sResult, sMeet, sHands, hX, inN, inR, ftsS, ↓ft_shaped, ↓fts_shaped, ft_eq, h, hG7, hT7]; rfl)); (try kernel_rfl); (try (focus (first | exact True.intro | ((try simp only [JS, implies_true, forall_const, shaped, shapedL, kndOf, cFa, sGoes, sTarget, sResult, sMeet, sHands, hX, inN, inR, ftsS, ↓ft_shaped, ↓fts_shaped, ft_eq, h, hG7, hT7]); (repeat' (first | assumption | exact True.intro | omega | apply And.intro)); done) | ((repeat' (first | assumption | exact True.intro | omega | apply And.intro)); done))))) | fail)
          refine At.join (true, false, ⟨(getF F k).reached, setK (getF F k).regs x.a.toNat (resK x (getF F k).regs).1⟩) ?_ ?_ ?_ rfl ?_ ?_ rfl
          · exact ⟨(by unfold handsL; simp [h, hG7, hT7]), fun _ => hR.goes hG7, fun h0 => (by cases h0), rfl⟩
          · ((repeat' (first | exact trivial | apply And.intro)) <;> (first | rfl | (simp only [look, cond_true, cond_false]; done)))
          · (repeat' (first | exact trivial | exact .same _ | exact .dead _ | exact .gone rfl | exact .loose | assumption | exact .arr (by assumption) | apply And.intro))
          · (repeat' (first | exact trivial | exact rfl | assumption | apply Stable.ite | apply And.intro | intro _ | (simp only [Stable, StableL, i64S, prS, insS, sndsS, sndS, kS, kaS, ftS, ftsS]; done)))
          · (repeat' (first | exact trivial | exact rfl | assumption | apply Stable.ite | apply And.intro | intro _ | (simp only [Stable, StableL, i64S, prS, insS, sndsS, sndS, kS, kaS, ftS, ftsS]; done)))
        · -- 8
          have hG8 : goesB x = true := by rw [goesB_of hR.one, h]; rfl
          have hT8 : targB x = false := by rw [targB_of hR.one, h]; rfl
          repeat' (first | with_reducible (first | apply J1 | apply J3 | apply J4 | apply J5 | apply J6 | apply J7 | apply J8 | apply J9 | apply J10 | apply J11 | apply J12 | apply J13 | apply J14 | apply J15 | apply J16 | apply J17 | apply J18 | apply J19 | apply J20 | refine J2 ?_) | ((with_reducible apply J21); (· rfl)) | ((with_reducible intro hif); first | (focus (cases hif; done)) | (simp only [JH] at hif; try (exfalso; omega)) | (try (exfalso; omega))) | ((first | ((with_reducible apply J22 cFa_ok tab_ok); (· rfl)) | ((with_reducible apply J23 fol cFa_ok tab_ok); (· rfl)) | with_reducible apply J24); (· (simp only [push_cast, ↓JP, Nat.reduceAdd, Nat.reduceEqDiff, Nat.reduceLT, Nat.reduceMul, Nat.reduceLeDiff, reduceCtorEq, reduceIte, ↓JK, ↓JF, cFa, sGoes, sTarget, sResult, sMeet, sHands, hX, inN, inR, ftsS, ↓ft_shaped, ↓fts_shaped, ft_eq, h, hG8, hT8]; rfl)); (try kernel_rfl); (try (focus (first | exact True.intro | ((try simp only [JS, implies_true, forall_const, shaped, shapedL, kndOf, cFa, sGoes, sTarget, sResult, sMeet, sHands, hX, inN, inR, ftsS, ↓ft_shaped, ↓fts_shaped, ft_eq, h, hG8, hT8]); (repeat' (first | assumption | exact True.intro | omega | apply And.intro)); done) | ((repeat' (first | assumption | exact True.intro | omega | apply And.intro)); done))))) | fail)
          refine At.join (true, false, getF F k) ?_ ?_ ?_ rfl ?_ ?_ rfl
          · exact ⟨(by unfold handsL; simp [h, hG8, hT8]), fun _ => hR.goes hG8, fun h0 => (by cases h0), rfl⟩
          · ((repeat' (first | exact trivial | apply And.intro)) <;> (first | rfl | (simp only [look, cond_true, cond_false]; done)))
          · (repeat' (first | exact trivial | exact .same _ | exact .dead _ | exact .gone rfl | exact .loose | assumption | exact .arr (by assumption) | apply And.intro))
          · (repeat' (first | exact trivial | exact rfl | assumption | apply Stable.ite | apply And.intro | intro _ | (simp only [Stable, StableL, i64S, prS, insS, sndsS, sndS, kS, kaS, ftS, ftsS]; done)))
          · (repeat' (first | exact trivial | exact rfl | assumption | apply Stable.ite | apply And.intro | intro _ | (simp only [Stable, StableL, i64S, prS, insS, sndsS, sndS, kS, kaS, ftS, ftsS]; done)))
        · -- 9
          have hG9 : goesB x = false := by rw [goesB_of hR.one, h]; rfl
          have hT9 : targB x = true := by rw [targB_of hR.one, h]; rfl
          repeat' (first | with_reducible (first | apply J1 | apply J3 | apply J4 | apply J5 | apply J6 | apply J7 | apply J8 | apply J9 | apply J10 | apply J11 | apply J12 | apply J13 | apply J14 | apply J15 | apply J16 | apply J17 | apply J18 | apply J19 | apply J20 | refine J2 ?_) | ((with_reducible apply J21); (· rfl)) | ((with_reducible intro hif); first | (focus (cases hif; done)) | (simp only [JH] at hif; try (exfalso; omega)) | (try (exfalso; omega))) | ((first | ((with_reducible apply J22 cFa_ok tab_ok); (· rfl)) | ((with_reducible apply J23 fol cFa_ok tab_ok); (· rfl)) | with_reducible apply J24); (· (simp only [push_cast, ↓JP, Nat.reduceAdd, Nat.reduceEqDiff, Nat.reduceLT, Nat.reduceMul, Nat.reduceLeDiff, reduceCtorEq, reduceIte, ↓JK, ↓JF, cFa, sGoes, sTarget, sResult, sMeet, sHands, hX, inN, inR, ftsS, ↓ft_shaped, ↓fts_shaped, ft_eq, h, hG9, hT9]; rfl)); (try kernel_rfl); (try (focus (first | exact True.intro | ((try simp only [JS, implies_true, forall_const, shaped, shapedL, kndOf, cFa, sGoes, sTarget, sResult, sMeet, sHands, hX, inN, inR, ftsS, ↓ft_shaped, ↓fts_shaped, ft_eq, h, hG9, hT9]); (repeat' (first | assumption | exact True.intro | omega | apply And.intro)); done) | ((repeat' (first | assumption | exact True.intro | omega | apply And.intro)); done))))) | fail)
          refine At.join (false, true, getF F k) ?_ ?_ ?_ rfl ?_ ?_ rfl
          · exact ⟨(by unfold handsL; simp [h, hG9, hT9]), fun h0 => (by cases h0), fun _ => hR.targ hT9, rfl⟩
          · ((repeat' (first | exact trivial | apply And.intro)) <;> (first | rfl | (simp only [look, cond_true, cond_false]; done)))
          · (repeat' (first | exact trivial | exact .same _ | exact .dead _ | exact .gone rfl | exact .loose | assumption | exact .arr (by assumption) | apply And.intro))
          · (repeat' (first | exact trivial | exact rfl | assumption | apply Stable.ite | apply And.intro | intro _ | (simp only [Stable, StableL, i64S, prS, insS, sndsS, sndS, kS, kaS, ftS, ftsS]; done)))
          · (repeat' (first | exact trivial | exact rfl | assumption | apply Stable.ite | apply And.intro | intro _ | (simp only [Stable, StableL, i64S, prS, insS, sndsS, sndS, kS, kaS, ftS, ftsS]; done)))
        · -- 10
          have hG10 : goesB x = true := by rw [goesB_of hR.one, h]; rfl
          have hT10 : targB x = true := by rw [targB_of hR.one, h]; rfl
          by_cases hk1 : ((getF F k).regs x.a.toNat).is_ = true
          · by_cases hk0 : ((getF F k).regs x.a.toNat).n = 0
            · repeat' (first | with_reducible (first | apply J1 | apply J3 | apply J4 | apply J5 | apply J6 | apply J7 | apply J8 | apply J9 | apply J10 | apply J11 | apply J12 | apply J13 | apply J14 | apply J15 | apply J16 | apply J17 | apply J18 | apply J19 | apply J20 | refine J2 ?_) | ((with_reducible apply J21); (· rfl)) | ((with_reducible intro hif); first | (focus (cases hif; done)) | (simp only [JH] at hif; try (exfalso; omega)) | (try (exfalso; omega))) | ((first | ((with_reducible apply J22 cFa_ok tab_ok); (· rfl)) | ((with_reducible apply J23 fol cFa_ok tab_ok); (· rfl)) | with_reducible apply J24); (· (simp only [push_cast, ↓JP, Nat.reduceAdd, Nat.reduceEqDiff, Nat.reduceLT, Nat.reduceMul, Nat.reduceLeDiff, reduceCtorEq, reduceIte, ↓JK, ↓JF, cFa, sGoes, sTarget, sResult, sMeet, sHands, hX, inN, inR, ftsS, ↓ft_shaped, ↓fts_shaped, ft_eq, h, hG10, hT10, hk1, hk0]; rfl)); (try kernel_rfl); (try (focus (first | exact True.intro | ((try simp only [JS, implies_true, forall_const, shaped, shapedL, kndOf, cFa, sGoes, sTarget, sResult, sMeet, sHands, hX, inN, inR, ftsS, ↓ft_shaped, ↓fts_shaped, ft_eq, h, hG10, hT10, hk1, hk0]); (repeat' (first | assumption | exact True.intro | omega | apply And.intro)); done) | ((repeat' (first | assumption | exact True.intro | omega | apply And.intro)); done))))) | fail)
              refine At.join (false, true, getF F k) ?_ ?_ ?_ rfl ?_ ?_ rfl
              · exact ⟨(by unfold handsL; simp [h, hk1, hk0]), fun h0 => (by cases h0), fun _ => hR.targ hT10, rfl⟩
              · ((repeat' (first | exact trivial | apply And.intro)) <;> (first | rfl | (simp only [look, cond_true, cond_false]; done)))
              · (repeat' (first | exact trivial | exact .same _ | exact .dead _ | exact .gone rfl | exact .loose | assumption | exact .arr (by assumption) | apply And.intro))
              · (repeat' (first | exact trivial | exact rfl | assumption | apply Stable.ite | apply And.intro | intro _ | (simp only [Stable, StableL, i64S, prS, insS, sndsS, sndS, kS, kaS, ftS, ftsS]; done)))
              · (repeat' (first | exact trivial | exact rfl | assumption | apply Stable.ite | apply And.intro | intro _ | (simp only [Stable, StableL, i64S, prS, insS, sndsS, sndS, kS, kaS, ftS, ftsS]; done)))
            · repeat' (first | with_reducible (first | apply J1 | apply J3 | apply J4 | apply J5 | apply J6 | apply J7 | apply J8 | apply J9 | apply J10 | apply J11 | apply J12 | apply J13 | apply J14 | apply J15 | apply J16 | apply J17 | apply J18 | apply J19 | apply J20 | refine J2 ?_) | ((with_reducible apply J21); (· rfl)) | ((with_reducible intro hif); first | (focus (cases hif; done)) | (simp only [JH] at hif; try (exfalso; omega)) | (try (exfalso; omega))) | ((first | ((with_reducible apply J22 cFa_ok tab_ok); (· rfl)) | ((with_reducible apply J23 fol cFa_ok tab_ok); (· rfl)) | with_reducible apply J24); (· (simp only [push_cast, ↓JP, Nat.reduceAdd, Nat.reduceEqDiff, Nat.reduceLT, Nat.reduceMul, Nat.reduceLeDiff, reduceCtorEq, reduceIte, ↓JK, ↓JF, cFa, sGoes, sTarget, sResult, sMeet, sHands, hX, inN, inR, ftsS, ↓ft_shaped, ↓fts_shaped, ft_eq, h, hG10, hT10, hk1, hk0]; rfl)); (try kernel_rfl); (try (focus (first | exact True.intro | ((try simp only [JS, implies_true, forall_const, shaped, shapedL, kndOf, cFa, sGoes, sTarget, sResult, sMeet, sHands, hX, inN, inR, ftsS, ↓ft_shaped, ↓fts_shaped, ft_eq, h, hG10, hT10, hk1, hk0]); (repeat' (first | assumption | exact True.intro | omega | apply And.intro)); done) | ((repeat' (first | assumption | exact True.intro | omega | apply And.intro)); done))))) | fail)
              refine At.join (true, false, getF F k) ?_ ?_ ?_ rfl ?_ ?_ rfl
              · exact ⟨(by unfold handsL; simp [h, hk1, hk0]), fun _ => hR.goes hG10, fun h0 => (by cases h0), rfl⟩
              · ((repeat' (first | exact trivial | apply And.intro)) <;> (first | rfl | (simp only [look, cond_true, cond_false]; done)))
              · (repeat' (first | exact trivial | exact .same _ | exact .dead _ | exact .gone rfl | exact .loose | assumption | exact .arr (by assumption) | apply And.intro))
              · (repeat' (first | exact trivial | exact rfl | assumption | apply Stable.ite | apply And.intro | intro _ | (simp only [Stable, StableL, i64S, prS, insS, sndsS, sndS, kS, kaS, ftS, ftsS]; done)))
              · (repeat' (first | exact trivial | exact rfl | assumption | apply Stable.ite | apply And.intro | intro _ | (simp only [Stable, StableL, i64S, prS, insS, sndsS, sndS, kS, kaS, ftS, ftsS]; done)))
          · simp only [Bool.not_eq_true] at hk1
            repeat' (first | with_reducible (first | apply J1 | apply J3 | apply J4 | apply J5 | apply J6 | apply J7 | apply J8 | apply J9 | apply J10 | apply J11 | apply J12 | apply J13 | apply J14 | apply J15 | apply J16 | apply J17 | apply J18 | apply J19 | apply J20 | refine J2 ?_) | ((with_reducible apply J21); (· rfl)) | ((with_reducible intro hif); first | (focus (cases hif; done)) | (simp only [JH] at hif; try (exfalso; omega)) | (try (exfalso; omega))) | ((first | ((with_reducible apply J22 cFa_ok tab_ok); (· rfl)) | ((with_reducible apply J23 fol cFa_ok tab_ok); (· rfl)) | with_reducible apply J24); (· (simp only [push_cast, ↓JP, Nat.reduceAdd, Nat.reduceEqDiff, Nat.reduceLT, Nat.reduceMul, Nat.reduceLeDiff, reduceCtorEq, reduceIte, ↓JK, ↓JF, cFa, sGoes, sTarget, sResult, sMeet, sHands, hX, inN, inR, ftsS, ↓ft_shaped, ↓fts_shaped, ft_eq, h, hG10, hT10, hk1]; rfl)); (try kernel_rfl); (try (focus (first | exact True.intro | ((try simp only [JS, implies_true, forall_const, shaped, shapedL, kndOf, cFa, sGoes, sTarget, sResult, sMeet, sHands, hX, inN, inR, ftsS, ↓ft_shaped, ↓fts_shaped, ft_eq, h, hG10, hT10, hk1]); (repeat' (first | assumption | exact True.intro | omega | apply And.intro)); done) | ((repeat' (first | assumption | exact True.intro | omega | apply And.intro)); done))))) | fail)
            refine At.join (true, true, getF F k) ?_ ?_ ?_ rfl ?_ ?_ rfl
            · exact ⟨(by unfold handsL; simp [h, hk1, hG10, hT10]), fun _ => hR.goes hG10, fun _ => hR.targ hT10, rfl⟩
            · ((repeat' (first | exact trivial | apply And.intro)) <;> (first | rfl | (simp only [look, cond_true, cond_false]; done)))
            · (repeat' (first | exact trivial | exact .same _ | exact .dead _ | exact .gone rfl | exact .loose | assumption | exact .arr (by assumption) | apply And.intro))
            · (repeat' (first | exact trivial | exact rfl | assumption | apply Stable.ite | apply And.intro | intro _ | (simp only [Stable, StableL, i64S, prS, insS, sndsS, sndS, kS, kaS, ftS, ftsS]; done)))
            · (repeat' (first | exact trivial | exact rfl | assumption | apply Stable.ite | apply And.intro | intro _ | (simp only [Stable, StableL, i64S, prS, insS, sndsS, sndS, kS, kaS, ftS, ftsS]; done)))
        · -- 11
          have hG11 : goesB x = true := by rw [goesB_of hR.one, h]; rfl
          have hT11 : targB x = true := by rw [targB_of hR.one, h]; rfl
          by_cases hk1 : ((getF F k).regs x.a.toNat).is_ = true
          · by_cases hk0 : ((getF F k).regs x.a.toNat).n < 0
            · repeat' (first | with_reducible (first | apply J1 | apply J3 | apply J4 | apply J5 | apply J6 | apply J7 | apply J8 | apply J9 | apply J10 | apply J11 | apply J12 | apply J13 | apply J14 | apply J15 | apply J16 | apply J17 | apply J18 | apply J19 | apply J20 | refine J2 ?_) | ((with_reducible apply J21); (· rfl)) | ((with_reducible intro hif); first | (focus (cases hif; done)) | (simp only [JH] at hif; try (exfalso; omega)) | (try (exfalso; omega))) | ((first | ((with_reducible apply J22 cFa_ok tab_ok); (· rfl)) | ((with_reducible apply J23 fol cFa_ok tab_ok); (· rfl)) | with_reducible apply J24); (· (simp only [push_cast, ↓JP, Nat.reduceAdd, Nat.reduceEqDiff, Nat.reduceLT, Nat.reduceMul, Nat.reduceLeDiff, reduceCtorEq, reduceIte, ↓JK, ↓JF, cFa, sGoes, sTarget, sResult, sMeet, sHands, hX, inN, inR, ftsS, ↓ft_shaped, ↓fts_shaped, ft_eq, h, hG11, hT11, hk1, hk0]; rfl)); (try kernel_rfl); (try (focus (first | exact True.intro | ((try simp only [JS, implies_true, forall_const, shaped, shapedL, kndOf, cFa, sGoes, sTarget, sResult, sMeet, sHands, hX, inN, inR, ftsS, ↓ft_shaped, ↓fts_shaped, ft_eq, h, hG11, hT11, hk1, hk0]); (repeat' (first | assumption | exact True.intro | omega | apply And.intro)); done) | ((repeat' (first | assumption | exact True.intro | omega | apply And.intro)); done))))) | fail)
              refine At.join (false, true, getF F k) ?_ ?_ ?_ rfl ?_ ?_ rfl
              · exact ⟨(by unfold handsL; simp [h, hk1, hk0]), fun h0 => (by cases h0), fun _ => hR.targ hT11, rfl⟩
              · ((repeat' (first | exact trivial | apply And.intro)) <;> (first | rfl | (simp only [look, cond_true, cond_false]; done)))
              · (repeat' (first | exact trivial | exact .same _ | exact .dead _ | exact .gone rfl | exact .loose | assumption | exact .arr (by assumption) | apply And.intro))
              · (repeat' (first | exact trivial | exact rfl | assumption | apply Stable.ite | apply And.intro | intro _ | (simp only [Stable, StableL, i64S, prS, insS, sndsS, sndS, kS, kaS, ftS, ftsS]; done)))
              · (repeat' (first | exact trivial | exact rfl | assumption | apply Stable.ite | apply And.intro | intro _ | (simp only [Stable, StableL, i64S, prS, insS, sndsS, sndS, kS, kaS, ftS, ftsS]; done)))
            · repeat' (first | with_reducible (first | apply J1 | apply J3 | apply J4 | apply J5 | apply J6 | apply J7 | apply J8 | apply J9 | apply J10 | apply J11 | apply J12 | apply J13 | apply J14 | apply J15 | apply J16 | apply J17 | apply J18 | apply J19 | apply J20 | refine J2 ?_) | ((with_reducible apply J21); (· rfl)) | ((with_reducible intro hif); first | (focus (cases hif; done)) | (simp only [JH] at hif; try (exfalso; omega)) | (try (exfalso; omega))) | ((first | ((with_reducible apply J22 cFa_ok tab_ok); (· rfl)) | ((with_reducible apply J23 fol cFa_ok tab_ok); (· rfl)) | with_reducible apply J24); (· (simp only [push_cast, ↓JP, Nat.reduceAdd, Nat.reduceEqDiff, Nat.reduceLT, Nat.reduceMul, Nat.reduceLeDiff, reduceCtorEq, reduceIte, ↓JK, ↓JF, cFa, sGoes, sTarget, sResult, sMeet, sHands, hX, inN, inR, ftsS, ↓ft_shaped, ↓fts_shaped, ft_eq, h, hG11, hT11, hk1, hk0]; rfl)); (try kernel_rfl); (try (focus (first | exact True.intro | ((try simp only [JS, implies_true, forall_const, shaped, shapedL, kndOf, cFa, sGoes, sTarget, sResult, sMeet, sHands, hX, inN, inR, ftsS, ↓ft_shaped, ↓fts_shaped, ft_eq, h, hG11, hT11, hk1, hk0]); (repeat' (first | assumption | exact True.intro | omega | apply And.intro)); done) | ((repeat' (first | assumption | exact True.intro | omega | apply And.intro)); done))))) | fail)
              refine At.join (true, false, getF F k) ?_ ?_ ?_ rfl ?_ ?_ rfl
              · exact ⟨(by unfold handsL; simp [h, hk1, hk0]), fun _ => hR.goes hG11, fun h0 => (by cases h0), rfl⟩
              · ((repeat' (first | exact trivial | apply And.intro)) <;> (first | rfl | (simp only [look, cond_true, cond_false]; done)))
              · (repeat' (first | exact trivial | exact .same _ | exact .dead _ | exact .gone rfl | exact .loose | assumption | exact .arr (by assumption) | apply And.intro))
              · (repeat' (first | exact trivial | exact rfl | assumption | apply Stable.ite | apply And.intro | intro _ | (simp only [Stable, StableL, i64S, prS, insS, sndsS, sndS, kS, kaS, ftS, ftsS]; done)))
              · (repeat' (first | exact trivial | exact rfl | assumption | apply Stable.ite | apply And.intro | intro _ | (simp only [Stable, StableL, i64S, prS, insS, sndsS, sndS, kS, kaS, ftS, ftsS]; done)))
          · simp only [Bool.not_eq_true] at hk1
            repeat' (first | with_reducible (first | apply J1 | apply J3 | apply J4 | apply J5 | apply J6 | apply J7 | apply J8 | apply J9 | apply J10 | apply J11 | apply J12 | apply J13 | apply J14 | apply J15 | apply J16 | apply J17 | apply J18 | apply J19 | apply J20 | refine J2 ?_) | ((with_reducible apply J21); (· rfl)) | ((with_reducible intro hif); first | (focus (cases hif; done)) | (simp only [JH] at hif; try (exfalso; omega)) | (try (exfalso; omega))) | ((first | ((with_reducible apply J22 cFa_ok tab_ok); (· rfl)) | ((with_reducible apply J23 fol cFa_ok tab_ok); (· rfl)) | with_reducible apply J24); (· (simp only [push_cast, ↓JP, Nat.reduceAdd, Nat.reduceEqDiff, Nat.reduceLT, Nat.reduceMul, Nat.reduceLeDiff, reduceCtorEq, reduceIte, ↓JK, ↓JF, cFa, sGoes, sTarget, sResult, sMeet, sHands, hX, inN, inR, ftsS, ↓ft_shaped, ↓fts_shaped, ft_eq, h, hG11, hT11, hk1]; rfl)); (try kernel_rfl); (try (focus (first | exact True.intro | ((try simp only [JS, implies_true, forall_const, shaped, shapedL, kndOf, cFa, sGoes, sTarget, sResult, sMeet, sHands, hX, inN, inR, ftsS, ↓ft_shaped, ↓fts_shaped, ft_eq, h, hG11, hT11, hk1]); (repeat' (first | assumption | exact True.intro | omega | apply And.intro)); done) | ((repeat' (first | assumption | exact True.intro | omega | apply And.intro)); done))))) | fail)
            refine At.join (true, true, getF F k) ?_ ?_ ?_ rfl ?_ ?_ rfl
            · exact ⟨(by unfold handsL; simp [h, hk1, hG11, hT11]), fun _ => hR.goes hG11, fun _ => hR.targ hT11, rfl⟩
            · ((repeat' (first | exact trivial | apply And.intro)) <;> (first | rfl | (simp only [look, cond_true, cond_false]; done)))
            · (repeat' (first | exact trivial | exact .same _ | exact .dead _ | exact .gone rfl | exact .loose | assumption | exact .arr (by assumption) | apply And.intro))
            · (repeat' (first | exact trivial | exact rfl | assumption | apply Stable.ite | apply And.intro | intro _ | (simp only [Stable, StableL, i64S, prS, insS, sndsS, sndS, kS, kaS, ftS, ftsS]; done)))
            · (repeat' (first | exact trivial | exact rfl | assumption | apply Stable.ite | apply And.intro | intro _ | (simp only [Stable, StableL, i64S, prS, insS, sndsS, sndS, kS, kaS, ftS, ftsS]; done)))
        · -- a word
          have n3 : ¬ x.op = 3 := by omega
          have n4 : ¬ x.op = 4 := by omega
          have n5 : ¬ x.op = 5 := by omega
          have n7 : ¬ x.op = 7 := by omega
          have n6 : ¬ x.op = 6 := by omega
          have n8 : ¬ x.op = 8 := by omega
          have n10 : ¬ x.op = 10 := by omega
          have n11 : ¬ x.op = 11 := by omega
          have n9 : ¬ x.op = 9 := by omega
          have n1 : ¬ x.op = 1 := by omega
          have n2 : ¬ x.op = 2 := by omega
          have hG12 : goesB x = true := by rw [goesB_of hR.one]; simp [n1, n2, n9]
          have hT12 : targB x = false := by rw [targB_of hR.one]; simp [n9, n10, n11]
          have h32 : 32 < x.op := by omega
          by_cases hr2 : (resK x (getF F k).regs).2 = true
          · repeat' (first | with_reducible (first | apply J1 | apply J3 | apply J4 | apply J5 | apply J6 | apply J7 | apply J8 | apply J9 | apply J10 | apply J11 | apply J12 | apply J13 | apply J14 | apply J15 | apply J16 | apply J17 | apply J18 | apply J19 | apply J20 | refine J2 ?_) | ((with_reducible apply J21); (· rfl)) | ((with_reducible intro hif); first | (focus (cases hif; done)) | (simp only [JH] at hif; try (exfalso; omega)) | (try (exfalso; omega))) | ((first | ((with_reducible apply J22 cFa_ok tab_ok); (· rfl)) | ((with_reducible apply J23 fol cFa_ok tab_ok); (· rfl)) | with_reducible apply J24); (· (simp only [push_cast, ↓JP, Nat.reduceAdd, Nat.reduceEqDiff, Nat.reduceLT, Nat.reduceMul, Nat.reduceLeDiff, reduceCtorEq, reduceIte, ↓JK, ↓JF, cFa, sGoes, sTarget, sResult, sMeet, sHands, hX, inN, inR, ftsS, ↓ft_shaped, ↓fts_shaped, ft_eq, n3, n4, n5, n7, n6, n8, n10, n11, h32, hG12, hT12, hr2]; rfl)); (try kernel_rfl); (try (focus (first | exact True.intro | ((try simp only [JS, implies_true, forall_const, shaped, shapedL, kndOf, cFa, sGoes, sTarget, sResult, sMeet, sHands, hX, inN, inR, ftsS, ↓ft_shaped, ↓fts_shaped, ft_eq, n3, n4, n5, n7, n6, n8, n10, n11, h32, hG12, hT12, hr2]); (repeat' (first | assumption | exact True.intro | omega | apply And.intro)); done) | ((repeat' (first | assumption | exact True.intro | omega | apply And.intro)); done))))) | fail)
            refine At.join (true, false, ⟨(getF F k).reached, setK (getF F k).regs x.a.toNat (resK x (getF F k).regs).1⟩) ?_ ?_ ?_ rfl ?_ ?_ rfl
            · exact ⟨(by unfold handsL; simp [n3, n4, n5, n6, n7, n8, n10, n11, h32, hr2, hT12]), fun _ => hR.goes hG12, fun h0 => (by cases h0), rfl⟩
            · ((repeat' (first | exact trivial | apply And.intro)) <;> (first | rfl | (simp only [look, cond_true, cond_false]; done)))
            · (repeat' (first | exact trivial | exact .same _ | exact .dead _ | exact .gone rfl | exact .loose | assumption | exact .arr (by assumption) | apply And.intro))
            · (repeat' (first | exact trivial | exact rfl | assumption | apply Stable.ite | apply And.intro | intro _ | (simp only [Stable, StableL, i64S, prS, insS, sndsS, sndS, kS, kaS, ftS, ftsS]; done)))
            · (repeat' (first | exact trivial | exact rfl | assumption | apply Stable.ite | apply And.intro | intro _ | (simp only [Stable, StableL, i64S, prS, insS, sndsS, sndS, kS, kaS, ftS, ftsS]; done)))
          · simp only [Bool.not_eq_true] at hr2
            repeat' (first | with_reducible (first | apply J1 | apply J3 | apply J4 | apply J5 | apply J6 | apply J7 | apply J8 | apply J9 | apply J10 | apply J11 | apply J12 | apply J13 | apply J14 | apply J15 | apply J16 | apply J17 | apply J18 | apply J19 | apply J20 | refine J2 ?_) | ((with_reducible apply J21); (· rfl)) | ((with_reducible intro hif); first | (focus (cases hif; done)) | (simp only [JH] at hif; try (exfalso; omega)) | (try (exfalso; omega))) | ((first | ((with_reducible apply J22 cFa_ok tab_ok); (· rfl)) | ((with_reducible apply J23 fol cFa_ok tab_ok); (· rfl)) | with_reducible apply J24); (· (simp only [push_cast, ↓JP, Nat.reduceAdd, Nat.reduceEqDiff, Nat.reduceLT, Nat.reduceMul, Nat.reduceLeDiff, reduceCtorEq, reduceIte, ↓JK, ↓JF, cFa, sGoes, sTarget, sResult, sMeet, sHands, hX, inN, inR, ftsS, ↓ft_shaped, ↓fts_shaped, ft_eq, n3, n4, n5, n7, n6, n8, n10, n11, h32, hG12, hT12, hr2]; rfl)); (try kernel_rfl); (try (focus (first | exact True.intro | ((try simp only [JS, implies_true, forall_const, shaped, shapedL, kndOf, cFa, sGoes, sTarget, sResult, sMeet, sHands, hX, inN, inR, ftsS, ↓ft_shaped, ↓fts_shaped, ft_eq, n3, n4, n5, n7, n6, n8, n10, n11, h32, hG12, hT12, hr2]); (repeat' (first | assumption | exact True.intro | omega | apply And.intro)); done) | ((repeat' (first | assumption | exact True.intro | omega | apply And.intro)); done))))) | fail)
            have hs0 : scanY F (handsL x k (getF F k)) = none := by unfold handsL; simp [n3, n4, n5, n6, n7, n8, n10, n11, h32, hr2, scanY]
            with_reducible apply At.itRet .ready
            · rfl
            · rfl
            · intro h; cases h
            apply haft
            intro w1 M1 D1 hA
            dsimp only
            repeat' (first | with_reducible (first | apply J1 | apply J3 | apply J4 | apply J5 | apply J6 | apply J7 | apply J8 | apply J9 | apply J10 | apply J11 | apply J12 | apply J13 | apply J14 | apply J15 | apply J16 | apply J17 | apply J18 | apply J19 | apply J20 | refine J2 ?_) | ((with_reducible apply J21); (· rfl)) | ((with_reducible intro hif); first | (focus (cases hif; done)) | (simp only [JH] at hif; try (exfalso; omega)) | (try (exfalso; omega))) | ((first | ((with_reducible apply J22 cFa_ok tab_ok); (· rfl)) | ((with_reducible apply J23 fol cFa_ok tab_ok); (· rfl)) | with_reducible apply J24); (· (simp only [push_cast, ↓JP, Nat.reduceAdd, Nat.reduceEqDiff, Nat.reduceLT, Nat.reduceMul, Nat.reduceLeDiff, reduceCtorEq, reduceIte, ↓JK, ↓JF, inN]; rfl)); (try kernel_rfl); (try (focus (first | exact True.intro | ((try simp only [JS, implies_true, forall_const, shaped, shapedL, kndOf, inN]); (repeat' (first | assumption | exact True.intro | omega | apply And.intro)); done) | ((repeat' (first | assumption | exact True.intro | omega | apply And.intro)); done))))) | fail)
            refine At.nextB hA [0, 1, 2, 3, 4] (k + 1) ?_ rfl rfl rfl ?_ rfl ?_ ?_ ?_ rfl
            · exact ⟨⟨hkl, scan_next hsc hre hX hs0⟩, by omega⟩
            · (repeat' (first | exact trivial | exact .inl rfl | exact .inr (.same _) | exact .inr .loose | exact .inr (.arr (by assumption)) | apply And.intro))
            · (repeat' (first | exact trivial | exact rfl | assumption | apply Stable.ite | apply And.intro | intro _ | (simp only [Stable, StableL, i64S, prS, insS, sndsS, sndS, kS, kaS, ftS, ftsS]; done)))
            · (repeat' (first | exact trivial | exact ⟨_, rfl, fun β => rfl⟩ | apply And.intro))
            · (repeat' (first | exact trivial | exact rfl | assumption | apply Stable.ite | apply And.intro | intro _ | (simp only [Stable, StableL, i64S, prS, insS, sndsS, sndS, kS, kaS, ftS, ftsS]; done)))
      rintro ⟨g, t, f⟩ ⟨zh, zg, zt, zr⟩
      dsimp only at zh zg zt zr ⊢
      refine WF.seqJoin (fun _ : Unit => g = true → updF F (k + 1) f = none) (fun _ => [(0, .yl 9), (2, .ptr 6 []), (3, .ptr 7 []), (7, .int .i64 (targV x)), (8, .bool t)]) (fun _ => [.gone, .gone, .ro (.arr xs.length 5 (prS xs)), .own 44 (.arr xs.length 17 (ftsS F)) true, .own 35 (.sl 3 3 [] 17 0 xs.length none) true, .gone, .own 3 (.nat .i64 k) true, .own 44 (ftS f) true, .raw (.deferred (some [])), .raw (.loop (rec .ready none))]) ?_ ?_
      · cases g
        · repeat' (first | with_reducible (first | apply J1 | apply J3 | apply J4 | apply J5 | apply J6 | apply J7 | apply J8 | apply J9 | apply J10 | apply J11 | apply J12 | apply J13 | apply J14 | apply J15 | apply J16 | apply J17 | apply J18 | apply J19 | apply J20 | refine J2 ?_) | ((with_reducible apply J21); (· rfl)) | ((with_reducible intro hif); first | (focus (cases hif; done)) | (simp only [JH] at hif; try (exfalso; omega)) | (try (exfalso; omega))) | ((first | ((with_reducible apply J22 cFa_ok tab_ok); (· rfl)) | ((with_reducible apply J23 fol cFa_ok tab_ok); (· rfl)) | with_reducible apply J24); (· (simp only [push_cast, ↓JP, Nat.reduceAdd, Nat.reduceEqDiff, Nat.reduceLT, Nat.reduceMul, Nat.reduceLeDiff, reduceCtorEq, reduceIte, ↓JK, ↓JF, cFa, sGoes, sTarget, sResult, sMeet, sHands, hX, inN, inR, ftsS, ↓ft_shaped, ↓fts_shaped, ft_eq]; rfl)); (try kernel_rfl); (try (focus (first | exact True.intro | ((try simp only [JS, implies_true, forall_const, shaped, shapedL, kndOf, cFa, sGoes, sTarget, sResult, sMeet, sHands, hX, inN, inR, ftsS, ↓ft_shaped, ↓fts_shaped, ft_eq]); (repeat' (first | assumption | exact True.intro | omega | apply And.intro)); done) | ((repeat' (first | assumption | exact True.intro | omega | apply And.intro)); done))))) | fail)
          refine At.join () ?_ ?_ ?_ rfl ?_ ?_ rfl
          · exact fun h => by cases h
          · ((repeat' (first | exact trivial | apply And.intro)) <;> (first | rfl | (simp only [look, cond_true, cond_false]; done)))
          · (repeat' (first | exact trivial | exact .same _ | exact .dead _ | exact .gone rfl | exact .loose | assumption | exact .arr (by assumption) | apply And.intro))
          · (repeat' (first | exact trivial | exact rfl | assumption | apply Stable.ite | apply And.intro | intro _ | (simp only [Stable, StableL, i64S, prS, insS, sndsS, sndS, kS, kaS, ftS, ftsS]; done)))
          · (repeat' (first | exact trivial | exact rfl | assumption | apply Stable.ite | apply And.intro | intro _ | (simp only [Stable, StableL, i64S, prS, insS, sndsS, sndS, kS, kaS, ftS, ftsS]; done)))
        · have hTl : k + 1 < xs.length := zg rfl
          with_reducible apply WF.seq
          cases hrT : (getF F (k + 1)).reached
          · -- not reached
            have hJ : joinF (getF F (k + 1)) f = f := by unfold joinF; simp [hrT]
            by_cases hsm : ftB f (getF F (k + 1)) = true
            · have hu : updF F (k + 1) f = none := by unfold updF; rw [hJ]; simp [hsm]
              with_reducible apply WF.split 6 2
              · rfl
              with_reducible apply At.run cFa_ok tab_ok
              · rfl
              · rfl
              · rfl
              · simp only [push_cast, ↓JP, Nat.reduceAdd, Nat.reduceEqDiff, Nat.reduceLT, Nat.reduceMul, Nat.reduceLeDiff, reduceCtorEq, reduceIte, ↓JK, ↓JF, noDefer, List.drop_zero, List.drop_succ_cons, cFa, sGoes, sTarget, sResult, sMeet, sHands, hX, inN, inR, ftsS, ↓ft_shaped, ↓fts_shaped, ft_eq, hrT, hsm, hTl]; rfl
              · (focus (first | exact True.intro | ((try simp only [JS, implies_true, forall_const, shaped, shapedL, kndOf, cFa, sGoes, sTarget, sResult, sMeet, sHands, hX, inN, inR, ftsS, ↓ft_shaped, ↓fts_shaped, ft_eq, hrT, hsm, hTl]); (repeat' (first | assumption | exact True.intro | omega | apply And.intro)); done) | ((repeat' (first | assumption | exact True.intro | omega | apply And.intro)); done)))
              with_reducible apply At.yield (gr := _)
              · rfl
              · rfl
              · rfl
              · rfl
              · rfl
              · rfl
              · simp only [push_cast, ↓JP, Nat.reduceAdd, Nat.reduceEqDiff, Nat.reduceLT, Nat.reduceMul, Nat.reduceLeDiff, reduceCtorEq, reduceIte, ↓JK, ↓JF, noDefer, List.drop_zero, List.drop_succ_cons, cFa, sGoes, sTarget, sResult, sMeet, sHands, hX, inN, inR, ftsS, ↓ft_shaped, ↓fts_shaped, ft_eq, hrT, hsm, hTl]; rfl
              · first | rfl | (simp only [push_cast, ↓JP, Nat.reduceAdd, Nat.reduceEqDiff, Nat.reduceLT, Nat.reduceMul, Nat.reduceLeDiff, reduceCtorEq, reduceIte, ↓JK, ↓JF, noDefer, List.drop_zero, List.drop_succ_cons, cFa, sGoes, sTarget, sResult, sMeet, sHands, hX, inN, inR, ftsS, ↓ft_shaped, ↓fts_shaped, ft_eq, hrT, hsm, hTl]; done)
              · simp only [push_cast, ↓JP, Nat.reduceAdd, Nat.reduceEqDiff, Nat.reduceLT, Nat.reduceMul, Nat.reduceLeDiff, reduceCtorEq, reduceIte, ↓JK, ↓JF, noDefer, List.drop_zero, List.drop_succ_cons, cFa, sGoes, sTarget, sResult, sMeet, sHands, hX, inN, inR, ftsS, ↓ft_shaped, ↓fts_shaped, ft_eq, hrT, hsm, hTl]; rfl
              · (focus (first | exact True.intro | ((try simp only [JS, implies_true, forall_const, shaped, shapedL, kndOf, cFa, sGoes, sTarget, sResult, sMeet, sHands, hX, inN, inR, ftsS, ↓ft_shaped, ↓fts_shaped, ft_eq, hrT, hsm, hTl]); (repeat' (first | assumption | exact True.intro | omega | apply And.intro)); done) | ((repeat' (first | assumption | exact True.intro | omega | apply And.intro)); done)))
              · simp only [push_cast, ↓JP, Nat.reduceAdd, Nat.reduceEqDiff, Nat.reduceLT, Nat.reduceMul, Nat.reduceLeDiff, reduceCtorEq, reduceIte, ↓JK, ↓JF, noDefer, List.drop_zero, List.drop_succ_cons, cFa, sGoes, sTarget, sResult, sMeet, sHands, hX, inN, inR, ftsS, ↓ft_shaped, ↓fts_shaped, ft_eq, hrT, hsm, hTl]; rfl
              · (focus (first | exact True.intro | ((try simp only [JS, implies_true, forall_const, shaped, shapedL, kndOf, cFa, sGoes, sTarget, sResult, sMeet, sHands, hX, inN, inR, ftsS, ↓ft_shaped, ↓fts_shaped, ft_eq, hrT, hsm, hTl]); (repeat' (first | assumption | exact True.intro | omega | apply And.intro)); done) | ((repeat' (first | assumption | exact True.intro | omega | apply And.intro)); done)))
              · first | rfl | (simp only [push_cast, ↓JP, Nat.reduceAdd, Nat.reduceEqDiff, Nat.reduceLT, Nat.reduceMul, Nat.reduceLeDiff, reduceCtorEq, reduceIte, ↓JK, ↓JF, noDefer, List.drop_zero, List.drop_succ_cons, cFa, sGoes, sTarget, sResult, sMeet, sHands, hX, inN, inR, ftsS, ↓ft_shaped, ↓fts_shaped, ft_eq, hrT, hsm, hTl]; done)
              · exact hrec
              · exact hcf
              · rfl
              · rfl
              · rfl
              intro lb E2 next hE2 hnext
              repeat' (first | with_reducible (first | apply J1 | apply J3 | apply J4 | apply J5 | apply J6 | apply J7 | apply J8 | apply J9 | apply J10 | apply J11 | apply J12 | apply J13 | apply J14 | apply J15 | apply J16 | apply J17 | apply J18 | apply J19 | apply J20 | refine J2 ?_) | ((with_reducible apply J21); (· rfl)) | ((with_reducible intro hif); first | (focus (cases hif; done)) | (simp only [JH] at hif; try (exfalso; omega)) | (try (exfalso; omega))) | ((first | ((with_reducible apply J22 cFa_ok tab_ok); (· rfl)) | ((with_reducible apply J23 fol cFa_ok tab_ok); (· rfl)) | with_reducible apply J24); (· (simp only [push_cast, ↓JP, Nat.reduceAdd, Nat.reduceEqDiff, Nat.reduceLT, Nat.reduceMul, Nat.reduceLeDiff, reduceCtorEq, reduceIte, ↓JK, ↓JF, cFa, sGoes, sTarget, sResult, sMeet, sHands, hX, inN, inR, ftsS, ↓ft_shaped, ↓fts_shaped, ft_eq, hrT, hsm, hTl]; rfl)); (try kernel_rfl); (try (focus (first | exact True.intro | ((simp only [true_and, and_true, and_self, Nat.zero_add, ↓ft_shaped, ↓fts_shaped]; (repeat' (first | assumption | exact True.intro | omega | apply And.intro))); done) | ((try simp only [JS, implies_true, forall_const, shaped, shapedL, kndOf, cFa, sGoes, sTarget, sResult, sMeet, sHands, hX, inN, inR, ftsS, ↓ft_shaped, ↓fts_shaped, ft_eq, hrT, hsm, hTl]); (repeat' (first | assumption | exact True.intro | omega | apply And.intro)); done) | ((repeat' (first | assumption | exact True.intro | omega | apply And.intro)); done))))) | fail)
              with_reducible apply At.begins hrec
              · rfl
              with_reducible refine At.code ?_
              repeat' (first | with_reducible (first | apply J1 | apply J3 | apply J4 | apply J5 | apply J6 | apply J7 | apply J8 | apply J9 | apply J10 | apply J11 | apply J12 | apply J13 | apply J14 | apply J15 | apply J16 | apply J17 | apply J18 | apply J19 | apply J20 | refine J2 ?_) | ((with_reducible apply J21); (· rfl)) | ((with_reducible intro hif); first | (focus (cases hif; done)) | (simp only [JH] at hif; try (exfalso; omega)) | (try (exfalso; omega))) | ((first | ((with_reducible apply J22 cFa_ok tab_ok); (· rfl)) | ((with_reducible apply J23 fol cFa_ok tab_ok); (· rfl)) | with_reducible apply J24); (· (simp only [push_cast, ↓JP, Nat.reduceAdd, Nat.reduceEqDiff, Nat.reduceLT, Nat.reduceMul, Nat.reduceLeDiff, reduceCtorEq, reduceIte, ↓JK, ↓JF, cFa, sGoes, sTarget, sResult, sMeet, sHands, hX, inN, inR, ftsS, ↓ft_shaped, ↓fts_shaped, ft_eq, hrT, hsm, hTl]; rfl)); (try kernel_rfl); (try (focus (first | exact True.intro | ((simp only [true_and, and_true, and_self, Nat.zero_add, ↓ft_shaped, ↓fts_shaped]; (repeat' (first | assumption | exact True.intro | omega | apply And.intro))); done) | ((try simp only [JS, implies_true, forall_const, shaped, shapedL, kndOf, cFa, sGoes, sTarget, sResult, sMeet, sHands, hX, inN, inR, ftsS, ↓ft_shaped, ↓fts_shaped, ft_eq, hrT, hsm, hTl]); (repeat' (first | assumption | exact True.intro | omega | apply And.intro)); done) | ((repeat' (first | assumption | exact True.intro | omega | apply And.intro)); done))))) | fail)
              with_reducible apply At.roundNormal
              · first | rfl | (simp only [push_cast, ↓JP, Nat.reduceAdd, Nat.reduceEqDiff, Nat.reduceLT, Nat.reduceMul, Nat.reduceLeDiff, reduceCtorEq, reduceIte, ↓JK, ↓JF, noDefer, List.drop_zero, List.drop_succ_cons, cFa, sGoes, sTarget, sResult, sMeet, sHands, hX, inN, inR, ftsS, ↓ft_shaped, ↓fts_shaped, ft_eq, hrT, hsm, hTl]; done)
              apply hnext
              with_reducible apply At.runEnd cFa_ok tab_ok
              · rfl
              · rfl
              · rfl
              · simp only [push_cast, ↓JP, Nat.reduceAdd, Nat.reduceEqDiff, Nat.reduceLT, Nat.reduceMul, Nat.reduceLeDiff, reduceCtorEq, reduceIte, ↓JK, ↓JF, noDefer, List.drop_zero, List.drop_succ_cons, cFa, sGoes, sTarget, sResult, sMeet, sHands, hX, inN, inR, ftsS, ↓ft_shaped, ↓fts_shaped, ft_eq, hrT, hsm, hTl]; rfl
              · (focus (first | exact True.intro | ((try simp only [JS, implies_true, forall_const, shaped, shapedL, kndOf, cFa, sGoes, sTarget, sResult, sMeet, sHands, hX, inN, inR, ftsS, ↓ft_shaped, ↓fts_shaped, ft_eq, hrT, hsm, hTl]); (repeat' (first | assumption | exact True.intro | omega | apply And.intro)); done) | ((repeat' (first | assumption | exact True.intro | omega | apply And.intro)); done)))
              repeat' (first | with_reducible (first | apply J1 | apply J3 | apply J4 | apply J5 | apply J6 | apply J7 | apply J8 | apply J9 | apply J10 | apply J11 | apply J12 | apply J13 | apply J14 | apply J15 | apply J16 | apply J17 | apply J18 | apply J19 | apply J20 | refine J2 ?_) | ((with_reducible apply J21); (· rfl)) | ((with_reducible intro hif); first | (focus (cases hif; done)) | (simp only [JH] at hif; try (exfalso; omega)) | (try (exfalso; omega))) | ((first | ((with_reducible apply J22 cFa_ok tab_ok); (· rfl)) | ((with_reducible apply J23 fol cFa_ok tab_ok); (· rfl)) | with_reducible apply J24); (· (simp only [push_cast, ↓JP, Nat.reduceAdd, Nat.reduceEqDiff, Nat.reduceLT, Nat.reduceMul, Nat.reduceLeDiff, reduceCtorEq, reduceIte, ↓JK, ↓JF, cFa, sGoes, sTarget, sResult, sMeet, sHands, hX, inN, inR, ftsS, ↓ft_shaped, ↓fts_shaped, ft_eq, hrT, hsm, hTl]; rfl)); (try kernel_rfl); (try (focus (first | exact True.intro | ((simp only [true_and, and_true, and_self, Nat.zero_add, ↓ft_shaped, ↓fts_shaped]; (repeat' (first | assumption | exact True.intro | omega | apply And.intro))); done) | ((try simp only [JS, implies_true, forall_const, shaped, shapedL, kndOf, cFa, sGoes, sTarget, sResult, sMeet, sHands, hX, inN, inR, ftsS, ↓ft_shaped, ↓fts_shaped, ft_eq, hrT, hsm, hTl]); (repeat' (first | assumption | exact True.intro | omega | apply And.intro)); done) | ((repeat' (first | assumption | exact True.intro | omega | apply And.intro)); done))))) | fail)
              refine At.join () ?_ ?_ ?_ rfl ?_ ?_ rfl
              · exact fun _ => hu
              · ((repeat' (first | exact trivial | apply And.intro)) <;> (first | rfl | (simp only [look, cond_true, cond_false]; done)))
              · (repeat' (first | exact trivial | exact .same _ | exact .dead _ | exact .gone rfl | exact .loose | assumption | exact .arr (by assumption) | apply And.intro))
              · (repeat' (first | exact trivial | exact rfl | assumption | apply Stable.ite | apply And.intro | intro _ | (simp only [Stable, StableL, i64S, prS, insS, sndsS, sndS, kS, kaS, ftS, ftsS]; done)))
              · (repeat' (first | exact trivial | exact rfl | assumption | apply Stable.ite | apply And.intro | intro _ | (simp only [Stable, StableL, i64S, prS, insS, sndsS, sndS, kS, kaS, ftS, ftsS]; done)))
            · simp only [Bool.not_eq_true] at hsm
              have hu : updF F (k + 1) f = some (F.set (k + 1) f) := by unfold updF; rw [hJ]; simp [hsm]
              with_reducible apply WF.split 6 2
              · rfl
              with_reducible apply At.run cFa_ok tab_ok
              · rfl
              · rfl
              · rfl
              · simp only [push_cast, ↓JP, Nat.reduceAdd, Nat.reduceEqDiff, Nat.reduceLT, Nat.reduceMul, Nat.reduceLeDiff, reduceCtorEq, reduceIte, ↓JK, ↓JF, noDefer, List.drop_zero, List.drop_succ_cons, cFa, sGoes, sTarget, sResult, sMeet, sHands, hX, inN, inR, ftsS, ↓ft_shaped, ↓fts_shaped, ft_eq, hrT, hsm, hTl]; rfl
              · (focus (first | exact True.intro | ((try simp only [JS, implies_true, forall_const, shaped, shapedL, kndOf, cFa, sGoes, sTarget, sResult, sMeet, sHands, hX, inN, inR, ftsS, ↓ft_shaped, ↓fts_shaped, ft_eq, hrT, hsm, hTl]); (repeat' (first | assumption | exact True.intro | omega | apply And.intro)); done) | ((repeat' (first | assumption | exact True.intro | omega | apply And.intro)); done)))
              with_reducible apply At.yield (gr := _)
              · rfl
              · rfl
              · rfl
              · rfl
              · rfl
              · rfl
              · simp only [push_cast, ↓JP, Nat.reduceAdd, Nat.reduceEqDiff, Nat.reduceLT, Nat.reduceMul, Nat.reduceLeDiff, reduceCtorEq, reduceIte, ↓JK, ↓JF, noDefer, List.drop_zero, List.drop_succ_cons, cFa, sGoes, sTarget, sResult, sMeet, sHands, hX, inN, inR, ftsS, ↓ft_shaped, ↓fts_shaped, ft_eq, hrT, hsm, hTl]; rfl
              · first | rfl | (simp only [push_cast, ↓JP, Nat.reduceAdd, Nat.reduceEqDiff, Nat.reduceLT, Nat.reduceMul, Nat.reduceLeDiff, reduceCtorEq, reduceIte, ↓JK, ↓JF, noDefer, List.drop_zero, List.drop_succ_cons, cFa, sGoes, sTarget, sResult, sMeet, sHands, hX, inN, inR, ftsS, ↓ft_shaped, ↓fts_shaped, ft_eq, hrT, hsm, hTl]; done)
              · simp only [push_cast, ↓JP, Nat.reduceAdd, Nat.reduceEqDiff, Nat.reduceLT, Nat.reduceMul, Nat.reduceLeDiff, reduceCtorEq, reduceIte, ↓JK, ↓JF, noDefer, List.drop_zero, List.drop_succ_cons, cFa, sGoes, sTarget, sResult, sMeet, sHands, hX, inN, inR, ftsS, ↓ft_shaped, ↓fts_shaped, ft_eq, hrT, hsm, hTl]; rfl
              · (focus (first | exact True.intro | ((try simp only [JS, implies_true, forall_const, shaped, shapedL, kndOf, cFa, sGoes, sTarget, sResult, sMeet, sHands, hX, inN, inR, ftsS, ↓ft_shaped, ↓fts_shaped, ft_eq, hrT, hsm, hTl]); (repeat' (first | assumption | exact True.intro | omega | apply And.intro)); done) | ((repeat' (first | assumption | exact True.intro | omega | apply And.intro)); done)))
              · simp only [push_cast, ↓JP, Nat.reduceAdd, Nat.reduceEqDiff, Nat.reduceLT, Nat.reduceMul, Nat.reduceLeDiff, reduceCtorEq, reduceIte, ↓JK, ↓JF, noDefer, List.drop_zero, List.drop_succ_cons, cFa, sGoes, sTarget, sResult, sMeet, sHands, hX, inN, inR, ftsS, ↓ft_shaped, ↓fts_shaped, ft_eq, hrT, hsm, hTl]; rfl
              · (focus (first | exact True.intro | ((try simp only [JS, implies_true, forall_const, shaped, shapedL, kndOf, cFa, sGoes, sTarget, sResult, sMeet, sHands, hX, inN, inR, ftsS, ↓ft_shaped, ↓fts_shaped, ft_eq, hrT, hsm, hTl]); (repeat' (first | assumption | exact True.intro | omega | apply And.intro)); done) | ((repeat' (first | assumption | exact True.intro | omega | apply And.intro)); done)))
              · first | rfl | (simp only [push_cast, ↓JP, Nat.reduceAdd, Nat.reduceEqDiff, Nat.reduceLT, Nat.reduceMul, Nat.reduceLeDiff, reduceCtorEq, reduceIte, ↓JK, ↓JF, noDefer, List.drop_zero, List.drop_succ_cons, cFa, sGoes, sTarget, sResult, sMeet, sHands, hX, inN, inR, ftsS, ↓ft_shaped, ↓fts_shaped, ft_eq, hrT, hsm, hTl]; done)
              · exact hrec
              · exact hcf
              · rfl
              · rfl
              · rfl
              intro lb E2 next hE2 hnext
              repeat' (first | with_reducible (first | apply J1 | apply J3 | apply J4 | apply J5 | apply J6 | apply J7 | apply J8 | apply J9 | apply J10 | apply J11 | apply J12 | apply J13 | apply J14 | apply J15 | apply J16 | apply J17 | apply J18 | apply J19 | apply J20 | refine J2 ?_) | ((with_reducible apply J21); (· rfl)) | ((with_reducible intro hif); first | (focus (cases hif; done)) | (simp only [JH] at hif; try (exfalso; omega)) | (try (exfalso; omega))) | ((first | ((with_reducible apply J22 cFa_ok tab_ok); (· rfl)) | ((with_reducible apply J23 fol cFa_ok tab_ok); (· rfl)) | with_reducible apply J24); (· (simp only [push_cast, ↓JP, Nat.reduceAdd, Nat.reduceEqDiff, Nat.reduceLT, Nat.reduceMul, Nat.reduceLeDiff, reduceCtorEq, reduceIte, ↓JK, ↓JF, cFa, sGoes, sTarget, sResult, sMeet, sHands, hX, inN, inR, ftsS, ↓ft_shaped, ↓fts_shaped, ft_eq, hrT, hsm, hTl]; rfl)); (try kernel_rfl); (try (focus (first | exact True.intro | ((simp only [true_and, and_true, and_self, Nat.zero_add, ↓ft_shaped, ↓fts_shaped]; (repeat' (first | assumption | exact True.intro | omega | apply And.intro))); done) | ((try simp only [JS, implies_true, forall_const, shaped, shapedL, kndOf, cFa, sGoes, sTarget, sResult, sMeet, sHands, hX, inN, inR, ftsS, ↓ft_shaped, ↓fts_shaped, ft_eq, hrT, hsm, hTl]); (repeat' (first | assumption | exact True.intro | omega | apply And.intro)); done) | ((repeat' (first | assumption | exact True.intro | omega | apply And.intro)); done))))) | fail)
              with_reducible apply At.begins hrec
              · rfl
              with_reducible refine At.code ?_
              repeat' (first | with_reducible (first | apply J1 | apply J3 | apply J4 | apply J5 | apply J6 | apply J7 | apply J8 | apply J9 | apply J10 | apply J11 | apply J12 | apply J13 | apply J14 | apply J15 | apply J16 | apply J17 | apply J18 | apply J19 | apply J20 | refine J2 ?_) | ((with_reducible apply J21); (· rfl)) | ((with_reducible intro hif); first | (focus (cases hif; done)) | (simp only [JH] at hif; try (exfalso; omega)) | (try (exfalso; omega))) | ((first | ((with_reducible apply J22 cFa_ok tab_ok); (· rfl)) | ((with_reducible apply J23 fol cFa_ok tab_ok); (· rfl)) | with_reducible apply J24); (· (simp only [push_cast, ↓JP, Nat.reduceAdd, Nat.reduceEqDiff, Nat.reduceLT, Nat.reduceMul, Nat.reduceLeDiff, reduceCtorEq, reduceIte, ↓JK, ↓JF, cFa, sGoes, sTarget, sResult, sMeet, sHands, hX, inN, inR, ftsS, ↓ft_shaped, ↓fts_shaped, ft_eq, hrT, hsm, hTl]; rfl)); (try kernel_rfl); (try (focus (first | exact True.intro | ((simp only [true_and, and_true, and_self, Nat.zero_add, ↓ft_shaped, ↓fts_shaped]; (repeat' (first | assumption | exact True.intro | omega | apply And.intro))); done) | ((try simp only [JS, implies_true, forall_const, shaped, shapedL, kndOf, cFa, sGoes, sTarget, sResult, sMeet, sHands, hX, inN, inR, ftsS, ↓ft_shaped, ↓fts_shaped, ft_eq, hrT, hsm, hTl]); (repeat' (first | assumption | exact True.intro | omega | apply And.intro)); done) | ((repeat' (first | assumption | exact True.intro | omega | apply And.intro)); done))))) | fail)
              with_reducible apply At.roundExit
              · first | rfl | (simp only [push_cast, ↓JP, Nat.reduceAdd, Nat.reduceEqDiff, Nat.reduceLT, Nat.reduceMul, Nat.reduceLeDiff, reduceCtorEq, reduceIte, ↓JK, ↓JF, noDefer, List.drop_zero, List.drop_succ_cons, cFa, sGoes, sTarget, sResult, sMeet, sHands, hX, inN, inR, ftsS, ↓ft_shaped, ↓fts_shaped, ft_eq, hrT, hsm, hTl]; done)
              apply hnext
              with_reducible apply At.runEnd cFa_ok tab_ok
              · rfl
              · rfl
              · rfl
              · simp only [push_cast, ↓JP, Nat.reduceAdd, Nat.reduceEqDiff, Nat.reduceLT, Nat.reduceMul, Nat.reduceLeDiff, reduceCtorEq, reduceIte, ↓JK, ↓JF, noDefer, List.drop_zero, List.drop_succ_cons, cFa, sGoes, sTarget, sResult, sMeet, sHands, hX, inN, inR, ftsS, ↓ft_shaped, ↓fts_shaped, ft_eq, hrT, hsm, hTl]; rfl
              · (focus (first | exact True.intro | ((try simp only [JS, implies_true, forall_const, shaped, shapedL, kndOf, cFa, sGoes, sTarget, sResult, sMeet, sHands, hX, inN, inR, ftsS, ↓ft_shaped, ↓fts_shaped, ft_eq, hrT, hsm, hTl]); (repeat' (first | assumption | exact True.intro | omega | apply And.intro)); done) | ((repeat' (first | assumption | exact True.intro | omega | apply And.intro)); done)))
              repeat' (first | with_reducible (first | apply J1 | apply J3 | apply J4 | apply J5 | apply J6 | apply J7 | apply J8 | apply J9 | apply J10 | apply J11 | apply J12 | apply J13 | apply J14 | apply J15 | apply J16 | apply J17 | apply J18 | apply J19 | apply J20 | refine J2 ?_) | ((with_reducible apply J21); (· rfl)) | ((with_reducible intro hif); first | (focus (cases hif; done)) | (simp only [JH] at hif; try (exfalso; omega)) | (try (exfalso; omega))) | ((first | ((with_reducible apply J22 cFa_ok tab_ok); (· rfl)) | ((with_reducible apply J23 fol cFa_ok tab_ok); (· rfl)) | with_reducible apply J24); (· (simp only [push_cast, ↓JP, Nat.reduceAdd, Nat.reduceEqDiff, Nat.reduceLT, Nat.reduceMul, Nat.reduceLeDiff, reduceCtorEq, reduceIte, ↓JK, ↓JF, cFa, sGoes, sTarget, sResult, sMeet, sHands, hX, inN, inR, ftsS, ↓ft_shaped, ↓fts_shaped, ft_eq, hrT, hsm, hTl]; rfl)); (try kernel_rfl); (try (focus (first | exact True.intro | ((simp only [true_and, and_true, and_self, Nat.zero_add, ↓ft_shaped, ↓fts_shaped]; (repeat' (first | assumption | exact True.intro | omega | apply And.intro))); done) | ((try simp only [JS, implies_true, forall_const, shaped, shapedL, kndOf, cFa, sGoes, sTarget, sResult, sMeet, sHands, hX, inN, inR, ftsS, ↓ft_shaped, ↓fts_shaped, ft_eq, hrT, hsm, hTl]); (repeat' (first | assumption | exact True.intro | omega | apply And.intro)); done) | ((repeat' (first | assumption | exact True.intro | omega | apply And.intro)); done))))) | fail)
              have hs1 := scan_some hsc hre hX hkl (zh ▸ scanE_1 hu)
              have hlt := updF_lt (by omega) (zr.trans hre) hu
              have hl : ∀ q, q < xs.length → SV.ite (decide (q = k + 1)) (ftS f) (ftS (getF F q)) = ftsS (F.set (k + 1) f) q := fun q hq => ftsS_set (by omega) q
              with_reducible apply At.itRet .done
              · rfl
              · rfl
              · intro h; cases h
              apply haft
              intro w1 M1 D1 hA
              dsimp only
              repeat' (first | with_reducible (first | apply J1 | apply J3 | apply J4 | apply J5 | apply J6 | apply J7 | apply J8 | apply J9 | apply J10 | apply J11 | apply J12 | apply J13 | apply J14 | apply J15 | apply J16 | apply J17 | apply J18 | apply J19 | apply J20 | refine J2 ?_) | ((with_reducible apply J21); (· rfl)) | ((with_reducible intro hif); first | (focus (cases hif; done)) | (simp only [JH] at hif; try (exfalso; omega)) | (try (exfalso; omega))) | ((first | ((with_reducible apply J22 cFa_ok tab_ok); (· rfl)) | ((with_reducible apply J23 fol cFa_ok tab_ok); (· rfl)) | with_reducible apply J24); (· (simp only [push_cast, ↓JP, Nat.reduceAdd, Nat.reduceEqDiff, Nat.reduceLT, Nat.reduceMul, Nat.reduceLeDiff, reduceCtorEq, reduceIte, ↓JK, ↓JF]; rfl)); (try kernel_rfl); (try (focus (first | exact True.intro | ((try simp only [JS, implies_true, forall_const, shaped, shapedL, kndOf]); (repeat' (first | assumption | exact True.intro | omega | apply And.intro)); done) | ((repeat' (first | assumption | exact True.intro | omega | apply And.intro)); done))))) | fail)
              refine At.nextB (hBb.trans hA) [0, 1, 2, 3, 4] (F.set (k + 1) f) ?_ rfl rfl rfl ?_ rfl ?_ ?_ ?_ rfl
              · exact ⟨⟨hlt.2.trans hFl, iter_next hs1 hlt.1 hm hFm⟩, hlt.1⟩
              · (repeat' (first | exact trivial | exact .inl rfl | exact .inr (.same _) | exact .inr .loose | exact .inr (.arr (by assumption)) | apply And.intro))
              · (repeat' (first | exact trivial | exact rfl | assumption | apply Stable.ite | apply And.intro | intro _ | (simp only [Stable, StableL, i64S, prS, insS, sndsS, sndS, kS, kaS, ftS, ftsS]; done)))
              · (repeat' (first | exact trivial | exact ⟨_, rfl, fun β => rfl⟩ | apply And.intro))
              · (repeat' (first | exact trivial | exact rfl | assumption | apply Stable.ite | apply And.intro | intro _ | (simp only [Stable, StableL, i64S, prS, insS, sndsS, sndS, kS, kaS, ftS, ftsS]; done)))
          · -- reached
            have hJ : joinF (getF F (k + 1)) f = ⟨true, meetR (getF F (k + 1)).regs f.regs⟩ := by unfold joinF; simp [hrT]
            by_cases hsm : ftB ⟨true, meetR (getF F (k + 1)).regs f.regs⟩ (getF F (k + 1)) = true
            · have hu : updF F (k + 1) f = none := by unfold updF; rw [hJ]; simp [hsm]
              with_reducible apply WF.split 6 2
              · rfl
              with_reducible apply At.run cFa_ok tab_ok
              · rfl
              · rfl
              · rfl
              · simp only [push_cast, ↓JP, Nat.reduceAdd, Nat.reduceEqDiff, Nat.reduceLT, Nat.reduceMul, Nat.reduceLeDiff, reduceCtorEq, reduceIte, ↓JK, ↓JF, noDefer, List.drop_zero, List.drop_succ_cons, cFa, sGoes, sTarget, sResult, sMeet, sHands, hX, inN, inR, ftsS, ↓ft_shaped, ↓fts_shaped, ft_eq, hrT, hsm, hTl]; rfl
              · (focus (first | exact True.intro | ((try simp only [JS, implies_true, forall_const, shaped, shapedL, kndOf, cFa, sGoes, sTarget, sResult, sMeet, sHands, hX, inN, inR, ftsS, ↓ft_shaped, ↓fts_shaped, ft_eq, hrT, hsm, hTl]); (repeat' (first | assumption | exact True.intro | omega | apply And.intro)); done) | ((repeat' (first | assumption | exact True.intro | omega | apply And.intro)); done)))
              with_reducible apply At.yield (gr := _)
              · rfl
              · rfl
              · rfl
              · rfl
              · rfl
              · rfl
              · simp only [push_cast, ↓JP, Nat.reduceAdd, Nat.reduceEqDiff, Nat.reduceLT, Nat.reduceMul, Nat.reduceLeDiff, reduceCtorEq, reduceIte, ↓JK, ↓JF, noDefer, List.drop_zero, List.drop_succ_cons, cFa, sGoes, sTarget, sResult, sMeet, sHands, hX, inN, inR, ftsS, ↓ft_shaped, ↓fts_shaped, ft_eq, hrT, hsm, hTl]; rfl
              · first | rfl | (simp only [push_cast, ↓JP, Nat.reduceAdd, Nat.reduceEqDiff, Nat.reduceLT, Nat.reduceMul, Nat.reduceLeDiff, reduceCtorEq, reduceIte, ↓JK, ↓JF, noDefer, List.drop_zero, List.drop_succ_cons, cFa, sGoes, sTarget, sResult, sMeet, sHands, hX, inN, inR, ftsS, ↓ft_shaped, ↓fts_shaped, ft_eq, hrT, hsm, hTl]; done)
              · simp only [push_cast, ↓JP, Nat.reduceAdd, Nat.reduceEqDiff, Nat.reduceLT, Nat.reduceMul, Nat.reduceLeDiff, reduceCtorEq, reduceIte, ↓JK, ↓JF, noDefer, List.drop_zero, List.drop_succ_cons, cFa, sGoes, sTarget, sResult, sMeet, sHands, hX, inN, inR, ftsS, ↓ft_shaped, ↓fts_shaped, ft_eq, hrT, hsm, hTl]; rfl
              · (focus (first | exact True.intro | ((try simp only [JS, implies_true, forall_const, shaped, shapedL, kndOf, cFa, sGoes, sTarget, sResult, sMeet, sHands, hX, inN, inR, ftsS, ↓ft_shaped, ↓fts_shaped, ft_eq, hrT, hsm, hTl]); (repeat' (first | assumption | exact True.intro | omega | apply And.intro)); done) | ((repeat' (first | assumption | exact True.intro | omega | apply And.intro)); done)))
              · simp only [push_cast, ↓JP, Nat.reduceAdd, Nat.reduceEqDiff, Nat.reduceLT, Nat.reduceMul, Nat.reduceLeDiff, reduceCtorEq, reduceIte, ↓JK, ↓JF, noDefer, List.drop_zero, List.drop_succ_cons, cFa, sGoes, sTarget, sResult, sMeet, sHands, hX, inN, inR, ftsS, ↓ft_shaped, ↓fts_shaped, ft_eq, hrT, hsm, hTl]; rfl
              · (focus (first | exact True.intro | ((try simp only [JS, implies_true, forall_const, shaped, shapedL, kndOf, cFa, sGoes, sTarget, sResult, sMeet, sHands, hX, inN, inR, ftsS, ↓ft_shaped, ↓fts_shaped, ft_eq, hrT, hsm, hTl]); (repeat' (first | assumption | exact True.intro | omega | apply And.intro)); done) | ((repeat' (first | assumption | exact True.intro | omega | apply And.intro)); done)))
              · first | rfl | (simp only [push_cast, ↓JP, Nat.reduceAdd, Nat.reduceEqDiff, Nat.reduceLT, Nat.reduceMul, Nat.reduceLeDiff, reduceCtorEq, reduceIte, ↓JK, ↓JF, noDefer, List.drop_zero, List.drop_succ_cons, cFa, sGoes, sTarget, sResult, sMeet, sHands, hX, inN, inR, ftsS, ↓ft_shaped, ↓fts_shaped, ft_eq, hrT, hsm, hTl]; done)
              · exact hrec
              · exact hcf
              · rfl
              · rfl
              · rfl
              intro lb E2 next hE2 hnext
              repeat' (first | with_reducible (first | apply J1 | apply J3 | apply J4 | apply J5 | apply J6 | apply J7 | apply J8 | apply J9 | apply J10 | apply J11 | apply J12 | apply J13 | apply J14 | apply J15 | apply J16 | apply J17 | apply J18 | apply J19 | apply J20 | refine J2 ?_) | ((with_reducible apply J21); (· rfl)) | ((with_reducible intro hif); first | (focus (cases hif; done)) | (simp only [JH] at hif; try (exfalso; omega)) | (try (exfalso; omega))) | ((first | ((with_reducible apply J22 cFa_ok tab_ok); (· rfl)) | ((with_reducible apply J23 fol cFa_ok tab_ok); (· rfl)) | with_reducible apply J24); (· (simp only [push_cast, ↓JP, Nat.reduceAdd, Nat.reduceEqDiff, Nat.reduceLT, Nat.reduceMul, Nat.reduceLeDiff, reduceCtorEq, reduceIte, ↓JK, ↓JF, cFa, sGoes, sTarget, sResult, sMeet, sHands, hX, inN, inR, ftsS, ↓ft_shaped, ↓fts_shaped, ft_eq, hrT, hsm, hTl]; rfl)); (try kernel_rfl); (try (focus (first | exact True.intro | ((simp only [true_and, and_true, and_self, Nat.zero_add, ↓ft_shaped, ↓fts_shaped]; (repeat' (first | assumption | exact True.intro | omega | apply And.intro))); done) | ((try simp only [JS, implies_true, forall_const, shaped, shapedL, kndOf, cFa, sGoes, sTarget, sResult, sMeet, sHands, hX, inN, inR, ftsS, ↓ft_shaped, ↓fts_shaped, ft_eq, hrT, hsm, hTl]); (repeat' (first | assumption | exact True.intro | omega | apply And.intro)); done) | ((repeat' (first | assumption | exact True.intro | omega | apply And.intro)); done))))) | fail)
              with_reducible apply At.begins hrec
              · rfl
              with_reducible refine At.code ?_
              repeat' (first | with_reducible (first | apply J1 | apply J3 | apply J4 | apply J5 | apply J6 | apply J7 | apply J8 | apply J9 | apply J10 | apply J11 | apply J12 | apply J13 | apply J14 | apply J15 | apply J16 | apply J17 | apply J18 | apply J19 | apply J20 | refine J2 ?_) | ((with_reducible apply J21); (· rfl)) | ((with_reducible intro hif); first | (focus (cases hif; done)) | (simp only [JH] at hif; try (exfalso; omega)) | (try (exfalso; omega))) | ((first | ((with_reducible apply J22 cFa_ok tab_ok); (· rfl)) | ((with_reducible apply J23 fol cFa_ok tab_ok); (· rfl)) | with_reducible apply J24); (· (simp only [push_cast, ↓JP, Nat.reduceAdd, Nat.reduceEqDiff, Nat.reduceLT, Nat.reduceMul, Nat.reduceLeDiff, reduceCtorEq, reduceIte, ↓JK, ↓JF, cFa, sGoes, sTarget, sResult, sMeet, sHands, hX, inN, inR, ftsS, ↓ft_shaped, ↓fts_shaped, ft_eq, hrT, hsm, hTl]; rfl)); (try kernel_rfl); (try (focus (first | exact True.intro | ((simp only [true_and, and_true, and_self, Nat.zero_add, ↓ft_shaped, ↓fts_shaped]; (repeat' (first | assumption | exact True.intro | omega | apply And.intro))); done) | ((try simp only [JS, implies_true, forall_const, shaped, shapedL, kndOf, cFa, sGoes, sTarget, sResult, sMeet, sHands, hX, inN, inR, ftsS, ↓ft_shaped, ↓fts_shaped, ft_eq, hrT, hsm, hTl]); (repeat' (first | assumption | exact True.intro | omega | apply And.intro)); done) | ((repeat' (first | assumption | exact True.intro | omega | apply And.intro)); done))))) | fail)
              with_reducible apply At.roundNormal
              · first | rfl | (simp only [push_cast, ↓JP, Nat.reduceAdd, Nat.reduceEqDiff, Nat.reduceLT, Nat.reduceMul, Nat.reduceLeDiff, reduceCtorEq, reduceIte, ↓JK, ↓JF, noDefer, List.drop_zero, List.drop_succ_cons, cFa, sGoes, sTarget, sResult, sMeet, sHands, hX, inN, inR, ftsS, ↓ft_shaped, ↓fts_shaped, ft_eq, hrT, hsm, hTl]; done)
              apply hnext
              with_reducible apply At.runEnd cFa_ok tab_ok
              · rfl
              · rfl
              · rfl
              · simp only [push_cast, ↓JP, Nat.reduceAdd, Nat.reduceEqDiff, Nat.reduceLT, Nat.reduceMul, Nat.reduceLeDiff, reduceCtorEq, reduceIte, ↓JK, ↓JF, noDefer, List.drop_zero, List.drop_succ_cons, cFa, sGoes, sTarget, sResult, sMeet, sHands, hX, inN, inR, ftsS, ↓ft_shaped, ↓fts_shaped, ft_eq, hrT, hsm, hTl]; rfl
              · (focus (first | exact True.intro | ((try simp only [JS, implies_true, forall_const, shaped, shapedL, kndOf, cFa, sGoes, sTarget, sResult, sMeet, sHands, hX, inN, inR, ftsS, ↓ft_shaped, ↓fts_shaped, ft_eq, hrT, hsm, hTl]); (repeat' (first | assumption | exact True.intro | omega | apply And.intro)); done) | ((repeat' (first | assumption | exact True.intro | omega | apply And.intro)); done)))
              repeat' (first | with_reducible (first | apply J1 | apply J3 | apply J4 | apply J5 | apply J6 | apply J7 | apply J8 | apply J9 | apply J10 | apply J11 | apply J12 | apply J13 | apply J14 | apply J15 | apply J16 | apply J17 | apply J18 | apply J19 | apply J20 | refine J2 ?_) | ((with_reducible apply J21); (· rfl)) | ((with_reducible intro hif); first | (focus (cases hif; done)) | (simp only [JH] at hif; try (exfalso; omega)) | (try (exfalso; omega))) | ((first | ((with_reducible apply J22 cFa_ok tab_ok); (· rfl)) | ((with_reducible apply J23 fol cFa_ok tab_ok); (· rfl)) | with_reducible apply J24); (· (simp only [push_cast, ↓JP, Nat.reduceAdd, Nat.reduceEqDiff, Nat.reduceLT, Nat.reduceMul, Nat.reduceLeDiff, reduceCtorEq, reduceIte, ↓JK, ↓JF, cFa, sGoes, sTarget, sResult, sMeet, sHands, hX, inN, inR, ftsS, ↓ft_shaped, ↓fts_shaped, ft_eq, hrT, hsm, hTl]; rfl)); (try kernel_rfl); (try (focus (first | exact True.intro | ((simp only [true_and, and_true, and_self, Nat.zero_add, ↓ft_shaped, ↓fts_shaped]; (repeat' (first | assumption | exact True.intro | omega | apply And.intro))); done) | ((try simp only [JS, implies_true, forall_const, shaped, shapedL, kndOf, cFa, sGoes, sTarget, sResult, sMeet, sHands, hX, inN, inR, ftsS, ↓ft_shaped, ↓fts_shaped, ft_eq, hrT, hsm, hTl]); (repeat' (first | assumption | exact True.intro | omega | apply And.intro)); done) | ((repeat' (first | assumption | exact True.intro | omega | apply And.intro)); done))))) | fail)
              refine At.join () ?_ ?_ ?_ rfl ?_ ?_ rfl
              · exact fun _ => hu
              · ((repeat' (first | exact trivial | apply And.intro)) <;> (first | rfl | (simp only [look, cond_true, cond_false]; done)))
              · (repeat' (first | exact trivial | exact .same _ | exact .dead _ | exact .gone rfl | exact .loose | assumption | exact .arr (by assumption) | apply And.intro))
              · (repeat' (first | exact trivial | exact rfl | assumption | apply Stable.ite | apply And.intro | intro _ | (simp only [Stable, StableL, i64S, prS, insS, sndsS, sndS, kS, kaS, ftS, ftsS]; done)))
              · (repeat' (first | exact trivial | exact rfl | assumption | apply Stable.ite | apply And.intro | intro _ | (simp only [Stable, StableL, i64S, prS, insS, sndsS, sndS, kS, kaS, ftS, ftsS]; done)))
            · simp only [Bool.not_eq_true] at hsm
              have hu : updF F (k + 1) f = some (F.set (k + 1) ⟨true, meetR (getF F (k + 1)).regs f.regs⟩) := by unfold updF; rw [hJ]; simp [hsm]
              with_reducible apply WF.split 6 2
              · rfl
              with_reducible apply At.run cFa_ok tab_ok
              · rfl
              · rfl
              · rfl
              · simp only [push_cast, ↓JP, Nat.reduceAdd, Nat.reduceEqDiff, Nat.reduceLT, Nat.reduceMul, Nat.reduceLeDiff, reduceCtorEq, reduceIte, ↓JK, ↓JF, noDefer, List.drop_zero, List.drop_succ_cons, cFa, sGoes, sTarget, sResult, sMeet, sHands, hX, inN, inR, ftsS, ↓ft_shaped, ↓fts_shaped, ft_eq, hrT, hsm, hTl]; rfl
              · (focus (first | exact True.intro | ((try simp only [JS, implies_true, forall_const, shaped, shapedL, kndOf, cFa, sGoes, sTarget, sResult, sMeet, sHands, hX, inN, inR, ftsS, ↓ft_shaped, ↓fts_shaped, ft_eq, hrT, hsm, hTl]); (repeat' (first | assumption | exact True.intro | omega | apply And.intro)); done) | ((repeat' (first | assumption | exact True.intro | omega | apply And.intro)); done)))
              with_reducible apply At.yield (gr := _)
              · rfl
              · rfl
              · rfl
              · rfl
              · rfl
              · rfl
              · simp only [push_cast, ↓JP, Nat.reduceAdd, Nat.reduceEqDiff, Nat.reduceLT, Nat.reduceMul, Nat.reduceLeDiff, reduceCtorEq, reduceIte, ↓JK, ↓JF, noDefer, List.drop_zero, List.drop_succ_cons, cFa, sGoes, sTarget, sResult, sMeet, sHands, hX, inN, inR, ftsS, ↓ft_shaped, ↓fts_shaped, ft_eq, hrT, hsm, hTl]; rfl
              · first | rfl | (simp only [push_cast, ↓JP, Nat.reduceAdd, Nat.reduceEqDiff, Nat.reduceLT, Nat.reduceMul, Nat.reduceLeDiff, reduceCtorEq, reduceIte, ↓JK, ↓JF, noDefer, List.drop_zero, List.drop_succ_cons, cFa, sGoes, sTarget, sResult, sMeet, sHands, hX, inN, inR, ftsS, ↓ft_shaped, ↓fts_shaped, ft_eq, hrT, hsm, hTl]; done)
              · simp only [push_cast, ↓JP, Nat.reduceAdd, Nat.reduceEqDiff, Nat.reduceLT, Nat.reduceMul, Nat.reduceLeDiff, reduceCtorEq, reduceIte, ↓JK, ↓JF, noDefer, List.drop_zero, List.drop_succ_cons, cFa, sGoes, sTarget, sResult, sMeet, sHands, hX, inN, inR, ftsS, ↓ft_shaped, ↓fts_shaped, ft_eq, hrT, hsm, hTl]; rfl
              · (focus (first | exact True.intro | ((try simp only [JS, implies_true, forall_const, shaped, shapedL, kndOf, cFa, sGoes, sTarget, sResult, sMeet, sHands, hX, inN, inR, ftsS, ↓ft_shaped, ↓fts_shaped, ft_eq, hrT, hsm, hTl]); (repeat' (first | assumption | exact True.intro | omega | apply And.intro)); done) | ((repeat' (first | assumption | exact True.intro | omega | apply And.intro)); done)))
              · simp only [push_cast, ↓JP, Nat.reduceAdd, Nat.reduceEqDiff, Nat.reduceLT, Nat.reduceMul, Nat.reduceLeDiff, reduceCtorEq, reduceIte, ↓JK, ↓JF, noDefer, List.drop_zero, List.drop_succ_cons, cFa, sGoes, sTarget, sResult, sMeet, sHands, hX, inN, inR, ftsS, ↓ft_shaped, ↓fts_shaped, ft_eq, hrT, hsm, hTl]; rfl
              · (focus (first | exact True.intro | ((try simp only [JS, implies_true, forall_const, shaped, shapedL, kndOf, cFa, sGoes, sTarget, sResult, sMeet, sHands, hX, inN, inR, ftsS, ↓ft_shaped, ↓fts_shaped, ft_eq, hrT, hsm, hTl]); (repeat' (first | assumption | exact True.intro | omega | apply And.intro)); done) | ((repeat' (first | assumption | exact True.intro | omega | apply And.intro)); done)))
              · first | rfl | (simp only [push_cast, ↓JP, Nat.reduceAdd, Nat.reduceEqDiff, Nat.reduceLT, Nat.reduceMul, Nat.reduceLeDiff, reduceCtorEq, reduceIte, ↓JK, ↓JF, noDefer, List.drop_zero, List.drop_succ_cons, cFa, sGoes, sTarget, sResult, sMeet, sHands, hX, inN, inR, ftsS, ↓ft_shaped, ↓fts_shaped, ft_eq, hrT, hsm, hTl]; done)
              · exact hrec
              · exact hcf
              · rfl
              · rfl
              · rfl
              intro lb E2 next hE2 hnext
              repeat' (first | with_reducible (first | apply J1 | apply J3 | apply J4 | apply J5 | apply J6 | apply J7 | apply J8 | apply J9 | apply J10 | apply J11 | apply J12 | apply J13 | apply J14 | apply J15 | apply J16 | apply J17 | apply J18 | apply J19 | apply J20 | refine J2 ?_) | ((with_reducible apply J21); (· rfl)) | ((with_reducible intro hif); first | (focus (cases hif; done)) | (simp only [JH] at hif; try (exfalso; omega)) | (try (exfalso; omega))) | ((first | ((with_reducible apply J22 cFa_ok tab_ok); (· rfl)) | ((with_reducible apply J23 fol cFa_ok tab_ok); (· rfl)) | with_reducible apply J24); (· (simp only [push_cast, ↓JP, Nat.reduceAdd, Nat.reduceEqDiff, Nat.reduceLT, Nat.reduceMul, Nat.reduceLeDiff, reduceCtorEq, reduceIte, ↓JK, ↓JF, cFa, sGoes, sTarget, sResult, sMeet, sHands, hX, inN, inR, ftsS, ↓ft_shaped, ↓fts_shaped, ft_eq, hrT, hsm, hTl]; rfl)); (try kernel_rfl); (try (focus (first | exact True.intro | ((simp only [true_and, and_true, and_self, Nat.zero_add, ↓ft_shaped, ↓fts_shaped]; (repeat' (first | assumption | exact True.intro | omega | apply And.intro))); done) | ((try simp only [JS, implies_true, forall_const, shaped, shapedL, kndOf, cFa, sGoes, sTarget, sResult, sMeet, sHands, hX, inN, inR, ftsS, ↓ft_shaped, ↓fts_shaped, ft_eq, hrT, hsm, hTl]); (repeat' (first | assumption | exact True.intro | omega | apply And.intro)); done) | ((repeat' (first | assumption | exact True.intro | omega | apply And.intro)); done))))) | fail)
              with_reducible apply At.begins hrec
              · rfl
              with_reducible refine At.code ?_
              repeat' (first | with_reducible (first | apply J1 | apply J3 | apply J4 | apply J5 | apply J6 | apply J7 | apply J8 | apply J9 | apply J10 | apply J11 | apply J12 | apply J13 | apply J14 | apply J15 | apply J16 | apply J17 | apply J18 | apply J19 | apply J20 | refine J2 ?_) | ((with_reducible apply J21); (· rfl)) | ((with_reducible intro hif); first | (focus (cases hif; done)) | (simp only [JH] at hif; try (exfalso; omega)) | (try (exfalso; omega))) | ((first | ((with_reducible apply J22 cFa_ok tab_ok); (· rfl)) | ((with_reducible apply J23 fol cFa_ok tab_ok); (· rfl)) | with_reducible apply J24); (· (simp only [push_cast, ↓JP, Nat.reduceAdd, Nat.reduceEqDiff, Nat.reduceLT, Nat.reduceMul, Nat.reduceLeDiff, reduceCtorEq, reduceIte, ↓JK, ↓JF, cFa, sGoes, sTarget, sResult, sMeet, sHands, hX, inN, inR, ftsS, ↓ft_shaped, ↓fts_shaped, ft_eq, hrT, hsm, hTl]; rfl)); (try kernel_rfl); (try (focus (first | exact True.intro | ((simp only [true_and, and_true, and_self, Nat.zero_add, ↓ft_shaped, ↓fts_shaped]; (repeat' (first | assumption | exact True.intro | omega | apply And.intro))); done) | ((try simp only [JS, implies_true, forall_const, shaped, shapedL, kndOf, cFa, sGoes, sTarget, sResult, sMeet, sHands, hX, inN, inR, ftsS, ↓ft_shaped, ↓fts_shaped, ft_eq, hrT, hsm, hTl]); (repeat' (first | assumption | exact True.intro | omega | apply And.intro)); done) | ((repeat' (first | assumption | exact True.intro | omega | apply And.intro)); done))))) | fail)
              with_reducible apply At.roundExit
              · first | rfl | (simp only [push_cast, ↓JP, Nat.reduceAdd, Nat.reduceEqDiff, Nat.reduceLT, Nat.reduceMul, Nat.reduceLeDiff, reduceCtorEq, reduceIte, ↓JK, ↓JF, noDefer, List.drop_zero, List.drop_succ_cons, cFa, sGoes, sTarget, sResult, sMeet, sHands, hX, inN, inR, ftsS, ↓ft_shaped, ↓fts_shaped, ft_eq, hrT, hsm, hTl]; done)
              apply hnext
              with_reducible apply At.runEnd cFa_ok tab_ok
              · rfl
              · rfl
              · rfl
              · simp only [push_cast, ↓JP, Nat.reduceAdd, Nat.reduceEqDiff, Nat.reduceLT, Nat.reduceMul, Nat.reduceLeDiff, reduceCtorEq, reduceIte, ↓JK, ↓JF, noDefer, List.drop_zero, List.drop_succ_cons, cFa, sGoes, sTarget, sResult, sMeet, sHands, hX, inN, inR, ftsS, ↓ft_shaped, ↓fts_shaped, ft_eq, hrT, hsm, hTl]; rfl
              · (focus (first | exact True.intro | ((try simp only [JS, implies_true, forall_const, shaped, shapedL, kndOf, cFa, sGoes, sTarget, sResult, sMeet, sHands, hX, inN, inR, ftsS, ↓ft_shaped, ↓fts_shaped, ft_eq, hrT, hsm, hTl]); (repeat' (first | assumption | exact True.intro | omega | apply And.intro)); done) | ((repeat' (first | assumption | exact True.intro | omega | apply And.intro)); done)))
              repeat' (first | with_reducible (first | apply J1 | apply J3 | apply J4 | apply J5 | apply J6 | apply J7 | apply J8 | apply J9 | apply J10 | apply J11 | apply J12 | apply J13 | apply J14 | apply J15 | apply J16 | apply J17 | apply J18 | apply J19 | apply J20 | refine J2 ?_) | ((with_reducible apply J21); (· rfl)) | ((with_reducible intro hif); first | (focus (cases hif; done)) | (simp only [JH] at hif; try (exfalso; omega)) | (try (exfalso; omega))) | ((first | ((with_reducible apply J22 cFa_ok tab_ok); (· rfl)) | ((with_reducible apply J23 fol cFa_ok tab_ok); (· rfl)) | with_reducible apply J24); (· (simp only [push_cast, ↓JP, Nat.reduceAdd, Nat.reduceEqDiff, Nat.reduceLT, Nat.reduceMul, Nat.reduceLeDiff, reduceCtorEq, reduceIte, ↓JK, ↓JF, cFa, sGoes, sTarget, sResult, sMeet, sHands, hX, inN, inR, ftsS, ↓ft_shaped, ↓fts_shaped, ft_eq, hrT, hsm, hTl]; rfl)); (try kernel_rfl); (try (focus (first | exact True.intro | ((simp only [true_and, and_true, and_self, Nat.zero_add, ↓ft_shaped, ↓fts_shaped]; (repeat' (first | assumption | exact True.intro | omega | apply And.intro))); done) | ((try simp only [JS, implies_true, forall_const, shaped, shapedL, kndOf, cFa, sGoes, sTarget, sResult, sMeet, sHands, hX, inN, inR, ftsS, ↓ft_shaped, ↓fts_shaped, ft_eq, hrT, hsm, hTl]); (repeat' (first | assumption | exact True.intro | omega | apply And.intro)); done) | ((repeat' (first | assumption | exact True.intro | omega | apply And.intro)); done))))) | fail)
              have hs1 := scan_some hsc hre hX hkl (zh ▸ scanE_1 hu)
              have hlt := updF_lt (by omega) (zr.trans hre) hu
              have hl : ∀ q, q < xs.length → SV.ite (decide (q = k + 1)) (ftS ⟨true, meetR (getF F (k + 1)).regs f.regs⟩) (ftS (getF F q)) = ftsS (F.set (k + 1) ⟨true, meetR (getF F (k + 1)).regs f.regs⟩) q := fun q hq => ftsS_set (by omega) q
              with_reducible apply At.itRet .done
              · rfl
              · rfl
              · intro h; cases h
              apply haft
              intro w1 M1 D1 hA
              dsimp only
              repeat' (first | with_reducible (first | apply J1 | apply J3 | apply J4 | apply J5 | apply J6 | apply J7 | apply J8 | apply J9 | apply J10 | apply J11 | apply J12 | apply J13 | apply J14 | apply J15 | apply J16 | apply J17 | apply J18 | apply J19 | apply J20 | refine J2 ?_) | ((with_reducible apply J21); (· rfl)) | ((with_reducible intro hif); first | (focus (cases hif; done)) | (simp only [JH] at hif; try (exfalso; omega)) | (try (exfalso; omega))) | ((first | ((with_reducible apply J22 cFa_ok tab_ok); (· rfl)) | ((with_reducible apply J23 fol cFa_ok tab_ok); (· rfl)) | with_reducible apply J24); (· (simp only [push_cast, ↓JP, Nat.reduceAdd, Nat.reduceEqDiff, Nat.reduceLT, Nat.reduceMul, Nat.reduceLeDiff, reduceCtorEq, reduceIte, ↓JK, ↓JF]; rfl)); (try kernel_rfl); (try (focus (first | exact True.intro | ((try simp only [JS, implies_true, forall_const, shaped, shapedL, kndOf]); (repeat' (first | assumption | exact True.intro | omega | apply And.intro)); done) | ((repeat' (first | assumption | exact True.intro | omega | apply And.intro)); done))))) | fail)
              refine At.nextB (hBb.trans hA) [0, 1, 2, 3, 4] (F.set (k + 1) ⟨true, meetR (getF F (k + 1)).regs f.regs⟩) ?_ rfl rfl rfl ?_ rfl ?_ ?_ ?_ rfl
              · exact ⟨⟨hlt.2.trans hFl, iter_next hs1 hlt.1 hm hFm⟩, hlt.1⟩
              · (repeat' (first | exact trivial | exact .inl rfl | exact .inr (.same _) | exact .inr .loose | exact .inr (.arr (by assumption)) | apply And.intro))
              · (repeat' (first | exact trivial | exact rfl | assumption | apply Stable.ite | apply And.intro | intro _ | (simp only [Stable, StableL, i64S, prS, insS, sndsS, sndS, kS, kaS, ftS, ftsS]; done)))
              · (repeat' (first | exact trivial | exact ⟨_, rfl, fun β => rfl⟩ | apply And.intro))
              · (repeat' (first | exact trivial | exact rfl | assumption | apply Stable.ite | apply And.intro | intro _ | (simp only [Stable, StableL, i64S, prS, insS, sndsS, sndS, kS, kaS, ftS, ftsS]; done)))
      rintro _ h1
      cases t
      · have hs0 : scanY F (handsL x k (getF F k)) = none := by rw [zh]; exact scanE_0 h1 (fun h => by cases h)
        repeat' (first | with_reducible (first | apply J1 | apply J3 | apply J4 | apply J5 | apply J6 | apply J7 | apply J8 | apply J9 | apply J10 | apply J11 | apply J12 | apply J13 | apply J14 | apply J15 | apply J16 | apply J17 | apply J18 | apply J19 | apply J20 | refine J2 ?_) | ((with_reducible apply J21); (· rfl)) | ((with_reducible intro hif); first | (focus (cases hif; done)) | (simp only [JH] at hif; try (exfalso; omega)) | (try (exfalso; omega))) | ((first | ((with_reducible apply J22 cFa_ok tab_ok); (· rfl)) | ((with_reducible apply J23 fol cFa_ok tab_ok); (· rfl)) | with_reducible apply J24); (· (simp only [push_cast, ↓JP, Nat.reduceAdd, Nat.reduceEqDiff, Nat.reduceLT, Nat.reduceMul, Nat.reduceLeDiff, reduceCtorEq, reduceIte, ↓JK, ↓JF, cFa, sGoes, sTarget, sResult, sMeet, sHands, hX, inN, inR, ftsS, ↓ft_shaped, ↓fts_shaped, ft_eq]; rfl)); (try kernel_rfl); (try (focus (first | exact True.intro | ((try simp only [JS, implies_true, forall_const, shaped, shapedL, kndOf, cFa, sGoes, sTarget, sResult, sMeet, sHands, hX, inN, inR, ftsS, ↓ft_shaped, ↓fts_shaped, ft_eq]); (repeat' (first | assumption | exact True.intro | omega | apply And.intro)); done) | ((repeat' (first | assumption | exact True.intro | omega | apply And.intro)); done))))) | fail)
        with_reducible apply At.itNormal .ready
        · rfl
        · rfl
        · intro h; cases h
        apply haft
        intro w1 M1 D1 hA
        dsimp only
        repeat' (first | with_reducible (first | apply J1 | apply J3 | apply J4 | apply J5 | apply J6 | apply J7 | apply J8 | apply J9 | apply J10 | apply J11 | apply J12 | apply J13 | apply J14 | apply J15 | apply J16 | apply J17 | apply J18 | apply J19 | apply J20 | refine J2 ?_) | ((with_reducible apply J21); (· rfl)) | ((with_reducible intro hif); first | (focus (cases hif; done)) | (simp only [JH] at hif; try (exfalso; omega)) | (try (exfalso; omega))) | ((first | ((with_reducible apply J22 cFa_ok tab_ok); (· rfl)) | ((with_reducible apply J23 fol cFa_ok tab_ok); (· rfl)) | with_reducible apply J24); (· (simp only [push_cast, ↓JP, Nat.reduceAdd, Nat.reduceEqDiff, Nat.reduceLT, Nat.reduceMul, Nat.reduceLeDiff, reduceCtorEq, reduceIte, ↓JK, ↓JF, inN]; rfl)); (try kernel_rfl); (try (focus (first | exact True.intro | ((try simp only [JS, implies_true, forall_const, shaped, shapedL, kndOf, inN]); (repeat' (first | assumption | exact True.intro | omega | apply And.intro)); done) | ((repeat' (first | assumption | exact True.intro | omega | apply And.intro)); done))))) | fail)
        refine At.nextB hA [0, 1, 2, 3, 4] (k + 1) ?_ rfl rfl rfl ?_ rfl ?_ ?_ ?_ rfl
        · exact ⟨⟨hkl, scan_next hsc hre hX hs0⟩, by omega⟩
        · (repeat' (first | exact trivial | exact .inl rfl | exact .inr (.same _) | exact .inr .loose | exact .inr (.arr (by assumption)) | apply And.intro))
        · (repeat' (first | exact trivial | exact rfl | assumption | apply Stable.ite | apply And.intro | intro _ | (simp only [Stable, StableL, i64S, prS, insS, sndsS, sndS, kS, kaS, ftS, ftsS]; done)))
        · (repeat' (first | exact trivial | exact ⟨_, rfl, fun β => rfl⟩ | apply And.intro))
        · (repeat' (first | exact trivial | exact rfl | assumption | apply Stable.ite | apply And.intro | intro _ | (simp only [Stable, StableL, i64S, prS, insS, sndsS, sndS, kS, kaS, ftS, ftsS]; done)))
      · obtain ⟨T, hTn⟩ : ∃ T : Nat, targV x = T := ⟨(targV x).toNat, by have := zt rfl; omega⟩
        have hTl : T < xs.length := by have := zt rfl; omega
        repeat' (first | with_reducible (first | apply J1 | apply J3 | apply J4 | apply J5 | apply J6 | apply J7 | apply J8 | apply J9 | apply J10 | apply J11 | apply J12 | apply J13 | apply J14 | apply J15 | apply J16 | apply J17 | apply J18 | apply J19 | apply J20 | refine J2 ?_) | ((with_reducible apply J21); (· rfl)) | ((with_reducible intro hif); first | (focus (cases hif; done)) | (simp only [JH] at hif; try (exfalso; omega)) | (try (exfalso; omega))) | ((first | ((with_reducible apply J22 cFa_ok tab_ok); (· rfl)) | ((with_reducible apply J23 fol cFa_ok tab_ok); (· rfl)) | with_reducible apply J24); (· (simp only [push_cast, ↓JP, Nat.reduceAdd, Nat.reduceEqDiff, Nat.reduceLT, Nat.reduceMul, Nat.reduceLeDiff, reduceCtorEq, reduceIte, ↓JK, ↓JF, cFa, sGoes, sTarget, sResult, sMeet, sHands, hX, inN, inR, ftsS, ↓ft_shaped, ↓fts_shaped, ft_eq, hTn, Int.toNat_natCast]; rfl)); (try kernel_rfl); (try (focus (first | exact True.intro | ((try simp only [JS, implies_true, forall_const, shaped, shapedL, kndOf, cFa, sGoes, sTarget, sResult, sMeet, sHands, hX, inN, inR, ftsS, ↓ft_shaped, ↓fts_shaped, ft_eq, hTn, Int.toNat_natCast]); (repeat' (first | assumption | exact True.intro | omega | apply And.intro)); done) | ((repeat' (first | assumption | exact True.intro | omega | apply And.intro)); done))))) | fail)
        cases hrT : (getF F T).reached
        · -- not reached
          have hJ : joinF (getF F T) f = f := by unfold joinF; simp [hrT]
          by_cases hsm : ftB f (getF F T) = true
          · have hu : updF F T f = none := by unfold updF; rw [hJ]; simp [hsm]
            with_reducible apply WF.split 3 0
            · rfl
            with_reducible apply At.run cFa_ok tab_ok
            · rfl
            · rfl
            · rfl
            · simp only [push_cast, ↓JP, Nat.reduceAdd, Nat.reduceEqDiff, Nat.reduceLT, Nat.reduceMul, Nat.reduceLeDiff, reduceCtorEq, reduceIte, ↓JK, ↓JF, noDefer, List.drop_zero, List.drop_succ_cons, cFa, sGoes, sTarget, sResult, sMeet, sHands, hX, inN, inR, ftsS, ↓ft_shaped, ↓fts_shaped, ft_eq, hTn, Int.toNat_natCast, hrT, hsm, hTl]; rfl
            · (focus (first | exact True.intro | ((try simp only [JS, implies_true, forall_const, shaped, shapedL, kndOf, cFa, sGoes, sTarget, sResult, sMeet, sHands, hX, inN, inR, ftsS, ↓ft_shaped, ↓fts_shaped, ft_eq, hTn, Int.toNat_natCast, hrT, hsm, hTl]); (repeat' (first | assumption | exact True.intro | omega | apply And.intro)); done) | ((repeat' (first | assumption | exact True.intro | omega | apply And.intro)); done)))
            with_reducible apply At.yield (gr := _)
            · rfl
            · rfl
            · rfl
            · rfl
            · rfl
            · rfl
            · simp only [push_cast, ↓JP, Nat.reduceAdd, Nat.reduceEqDiff, Nat.reduceLT, Nat.reduceMul, Nat.reduceLeDiff, reduceCtorEq, reduceIte, ↓JK, ↓JF, noDefer, List.drop_zero, List.drop_succ_cons, cFa, sGoes, sTarget, sResult, sMeet, sHands, hX, inN, inR, ftsS, ↓ft_shaped, ↓fts_shaped, ft_eq, hTn, Int.toNat_natCast, hrT, hsm, hTl]; rfl
            · first | rfl | (simp only [push_cast, ↓JP, Nat.reduceAdd, Nat.reduceEqDiff, Nat.reduceLT, Nat.reduceMul, Nat.reduceLeDiff, reduceCtorEq, reduceIte, ↓JK, ↓JF, noDefer, List.drop_zero, List.drop_succ_cons, cFa, sGoes, sTarget, sResult, sMeet, sHands, hX, inN, inR, ftsS, ↓ft_shaped, ↓fts_shaped, ft_eq, hTn, Int.toNat_natCast, hrT, hsm, hTl]; done)
            · simp only [push_cast, ↓JP, Nat.reduceAdd, Nat.reduceEqDiff, Nat.reduceLT, Nat.reduceMul, Nat.reduceLeDiff, reduceCtorEq, reduceIte, ↓JK, ↓JF, noDefer, List.drop_zero, List.drop_succ_cons, cFa, sGoes, sTarget, sResult, sMeet, sHands, hX, inN, inR, ftsS, ↓ft_shaped, ↓fts_shaped, ft_eq, hTn, Int.toNat_natCast, hrT, hsm, hTl]; rfl
            · (focus (first | exact True.intro | ((try simp only [JS, implies_true, forall_const, shaped, shapedL, kndOf, cFa, sGoes, sTarget, sResult, sMeet, sHands, hX, inN, inR, ftsS, ↓ft_shaped, ↓fts_shaped, ft_eq, hTn, Int.toNat_natCast, hrT, hsm, hTl]); (repeat' (first | assumption | exact True.intro | omega | apply And.intro)); done) | ((repeat' (first | assumption | exact True.intro | omega | apply And.intro)); done)))
            · simp only [push_cast, ↓JP, Nat.reduceAdd, Nat.reduceEqDiff, Nat.reduceLT, Nat.reduceMul, Nat.reduceLeDiff, reduceCtorEq, reduceIte, ↓JK, ↓JF, noDefer, List.drop_zero, List.drop_succ_cons, cFa, sGoes, sTarget, sResult, sMeet, sHands, hX, inN, inR, ftsS, ↓ft_shaped, ↓fts_shaped, ft_eq, hTn, Int.toNat_natCast, hrT, hsm, hTl]; rfl
            · (focus (first | exact True.intro | ((try simp only [JS, implies_true, forall_const, shaped, shapedL, kndOf, cFa, sGoes, sTarget, sResult, sMeet, sHands, hX, inN, inR, ftsS, ↓ft_shaped, ↓fts_shaped, ft_eq, hTn, Int.toNat_natCast, hrT, hsm, hTl]); (repeat' (first | assumption | exact True.intro | omega | apply And.intro)); done) | ((repeat' (first | assumption | exact True.intro | omega | apply And.intro)); done)))
            · first | rfl | (simp only [push_cast, ↓JP, Nat.reduceAdd, Nat.reduceEqDiff, Nat.reduceLT, Nat.reduceMul, Nat.reduceLeDiff, reduceCtorEq, reduceIte, ↓JK, ↓JF, noDefer, List.drop_zero, List.drop_succ_cons, cFa, sGoes, sTarget, sResult, sMeet, sHands, hX, inN, inR, ftsS, ↓ft_shaped, ↓fts_shaped, ft_eq, hTn, Int.toNat_natCast, hrT, hsm, hTl]; done)
            · exact hrec
            · exact hcf
            · rfl
            · rfl
            · rfl
            intro lb E2 next hE2 hnext
            repeat' (first | with_reducible (first | apply J1 | apply J3 | apply J4 | apply J5 | apply J6 | apply J7 | apply J8 | apply J9 | apply J10 | apply J11 | apply J12 | apply J13 | apply J14 | apply J15 | apply J16 | apply J17 | apply J18 | apply J19 | apply J20 | refine J2 ?_) | ((with_reducible apply J21); (· rfl)) | ((with_reducible intro hif); first | (focus (cases hif; done)) | (simp only [JH] at hif; try (exfalso; omega)) | (try (exfalso; omega))) | ((first | ((with_reducible apply J22 cFa_ok tab_ok); (· rfl)) | ((with_reducible apply J23 fol cFa_ok tab_ok); (· rfl)) | with_reducible apply J24); (· (simp only [push_cast, ↓JP, Nat.reduceAdd, Nat.reduceEqDiff, Nat.reduceLT, Nat.reduceMul, Nat.reduceLeDiff, reduceCtorEq, reduceIte, ↓JK, ↓JF, cFa, sGoes, sTarget, sResult, sMeet, sHands, hX, inN, inR, ftsS, ↓ft_shaped, ↓fts_shaped, ft_eq, hTn, Int.toNat_natCast, hrT, hsm, hTl]; rfl)); (try kernel_rfl); (try (focus (first | exact True.intro | ((simp only [true_and, and_true, and_self, Nat.zero_add, ↓ft_shaped, ↓fts_shaped]; (repeat' (first | assumption | exact True.intro | omega | apply And.intro))); done) | ((try simp only [JS, implies_true, forall_const, shaped, shapedL, kndOf, cFa, sGoes, sTarget, sResult, sMeet, sHands, hX, inN, inR, ftsS, ↓ft_shaped, ↓fts_shaped, ft_eq, hTn, Int.toNat_natCast, hrT, hsm, hTl]); (repeat' (first | assumption | exact True.intro | omega | apply And.intro)); done) | ((repeat' (first | assumption | exact True.intro | omega | apply And.intro)); done))))) | fail)
            with_reducible apply At.begins hrec
            · rfl
            with_reducible refine At.code ?_
            repeat' (first | with_reducible (first | apply J1 | apply J3 | apply J4 | apply J5 | apply J6 | apply J7 | apply J8 | apply J9 | apply J10 | apply J11 | apply J12 | apply J13 | apply J14 | apply J15 | apply J16 | apply J17 | apply J18 | apply J19 | apply J20 | refine J2 ?_) | ((with_reducible apply J21); (· rfl)) | ((with_reducible intro hif); first | (focus (cases hif; done)) | (simp only [JH] at hif; try (exfalso; omega)) | (try (exfalso; omega))) | ((first | ((with_reducible apply J22 cFa_ok tab_ok); (· rfl)) | ((with_reducible apply J23 fol cFa_ok tab_ok); (· rfl)) | with_reducible apply J24); (· (simp only [push_cast, ↓JP, Nat.reduceAdd, Nat.reduceEqDiff, Nat.reduceLT, Nat.reduceMul, Nat.reduceLeDiff, reduceCtorEq, reduceIte, ↓JK, ↓JF, cFa, sGoes, sTarget, sResult, sMeet, sHands, hX, inN, inR, ftsS, ↓ft_shaped, ↓fts_shaped, ft_eq, hTn, Int.toNat_natCast, hrT, hsm, hTl]; rfl)); (try kernel_rfl); (try (focus (first | exact True.intro | ((simp only [true_and, and_true, and_self, Nat.zero_add, ↓ft_shaped, ↓fts_shaped]; (repeat' (first | assumption | exact True.intro | omega | apply And.intro))); done) | ((try simp only [JS, implies_true, forall_const, shaped, shapedL, kndOf, cFa, sGoes, sTarget, sResult, sMeet, sHands, hX, inN, inR, ftsS, ↓ft_shaped, ↓fts_shaped, ft_eq, hTn, Int.toNat_natCast, hrT, hsm, hTl]); (repeat' (first | assumption | exact True.intro | omega | apply And.intro)); done) | ((repeat' (first | assumption | exact True.intro | omega | apply And.intro)); done))))) | fail)
            with_reducible apply At.roundNormal
            · first | rfl | (simp only [push_cast, ↓JP, Nat.reduceAdd, Nat.reduceEqDiff, Nat.reduceLT, Nat.reduceMul, Nat.reduceLeDiff, reduceCtorEq, reduceIte, ↓JK, ↓JF, noDefer, List.drop_zero, List.drop_succ_cons, cFa, sGoes, sTarget, sResult, sMeet, sHands, hX, inN, inR, ftsS, ↓ft_shaped, ↓fts_shaped, ft_eq, hTn, Int.toNat_natCast, hrT, hsm, hTl]; done)
            apply hnext
            with_reducible apply At.runEnd cFa_ok tab_ok
            · rfl
            · rfl
            · rfl
            · simp only [push_cast, ↓JP, Nat.reduceAdd, Nat.reduceEqDiff, Nat.reduceLT, Nat.reduceMul, Nat.reduceLeDiff, reduceCtorEq, reduceIte, ↓JK, ↓JF, noDefer, List.drop_zero, List.drop_succ_cons, cFa, sGoes, sTarget, sResult, sMeet, sHands, hX, inN, inR, ftsS, ↓ft_shaped, ↓fts_shaped, ft_eq, hTn, Int.toNat_natCast, hrT, hsm, hTl]; rfl
            · (focus (first | exact True.intro | ((try simp only [JS, implies_true, forall_const, shaped, shapedL, kndOf, cFa, sGoes, sTarget, sResult, sMeet, sHands, hX, inN, inR, ftsS, ↓ft_shaped, ↓fts_shaped, ft_eq, hTn, Int.toNat_natCast, hrT, hsm, hTl]); (repeat' (first | assumption | exact True.intro | omega | apply And.intro)); done) | ((repeat' (first | assumption | exact True.intro | omega | apply And.intro)); done)))
            repeat' (first | with_reducible (first | apply J1 | apply J3 | apply J4 | apply J5 | apply J6 | apply J7 | apply J8 | apply J9 | apply J10 | apply J11 | apply J12 | apply J13 | apply J14 | apply J15 | apply J16 | apply J17 | apply J18 | apply J19 | apply J20 | refine J2 ?_) | ((with_reducible apply J21); (· rfl)) | ((with_reducible intro hif); first | (focus (cases hif; done)) | (simp only [JH] at hif; try (exfalso; omega)) | (try (exfalso; omega))) | ((first | ((with_reducible apply J22 cFa_ok tab_ok); (· rfl)) | ((with_reducible apply J23 fol cFa_ok tab_ok); (· rfl)) | with_reducible apply J24); (· (simp only [push_cast, ↓JP, Nat.reduceAdd, Nat.reduceEqDiff, Nat.reduceLT, Nat.reduceMul, Nat.reduceLeDiff, reduceCtorEq, reduceIte, ↓JK, ↓JF, cFa, sGoes, sTarget, sResult, sMeet, sHands, hX, inN, inR, ftsS, ↓ft_shaped, ↓fts_shaped, ft_eq, hTn, Int.toNat_natCast, hrT, hsm, hTl]; rfl)); (try kernel_rfl); (try (focus (first | exact True.intro | ((simp only [true_and, and_true, and_self, Nat.zero_add, ↓ft_shaped, ↓fts_shaped]; (repeat' (first | assumption | exact True.intro | omega | apply And.intro))); done) | ((try simp only [JS, implies_true, forall_const, shaped, shapedL, kndOf, cFa, sGoes, sTarget, sResult, sMeet, sHands, hX, inN, inR, ftsS, ↓ft_shaped, ↓fts_shaped, ft_eq, hTn, Int.toNat_natCast, hrT, hsm, hTl]); (repeat' (first | assumption | exact True.intro | omega | apply And.intro)); done) | ((repeat' (first | assumption | exact True.intro | omega | apply And.intro)); done))))) | fail)
            have hs0 : scanY F (handsL x k (getF F k)) = none := by rw [zh]; exact scanE_0 h1 (fun _ => by rw [hTn]; exact hu)
            with_reducible apply At.itNormal .ready
            · rfl
            · rfl
            · intro h; cases h
            apply haft
            intro w1 M1 D1 hA
            dsimp only
            repeat' (first | with_reducible (first | apply J1 | apply J3 | apply J4 | apply J5 | apply J6 | apply J7 | apply J8 | apply J9 | apply J10 | apply J11 | apply J12 | apply J13 | apply J14 | apply J15 | apply J16 | apply J17 | apply J18 | apply J19 | apply J20 | refine J2 ?_) | ((with_reducible apply J21); (· rfl)) | ((with_reducible intro hif); first | (focus (cases hif; done)) | (simp only [JH] at hif; try (exfalso; omega)) | (try (exfalso; omega))) | ((first | ((with_reducible apply J22 cFa_ok tab_ok); (· rfl)) | ((with_reducible apply J23 fol cFa_ok tab_ok); (· rfl)) | with_reducible apply J24); (· (simp only [push_cast, ↓JP, Nat.reduceAdd, Nat.reduceEqDiff, Nat.reduceLT, Nat.reduceMul, Nat.reduceLeDiff, reduceCtorEq, reduceIte, ↓JK, ↓JF, inN]; rfl)); (try kernel_rfl); (try (focus (first | exact True.intro | ((try simp only [JS, implies_true, forall_const, shaped, shapedL, kndOf, inN]); (repeat' (first | assumption | exact True.intro | omega | apply And.intro)); done) | ((repeat' (first | assumption | exact True.intro | omega | apply And.intro)); done))))) | fail)
            refine At.nextB hA [0, 1, 2, 3, 4] (k + 1) ?_ rfl rfl rfl ?_ rfl ?_ ?_ ?_ rfl
            · exact ⟨⟨hkl, scan_next hsc hre hX hs0⟩, by omega⟩
            · (repeat' (first | exact trivial | exact .inl rfl | exact .inr (.same _) | exact .inr .loose | exact .inr (.arr (by assumption)) | apply And.intro))
            · (repeat' (first | exact trivial | exact rfl | assumption | apply Stable.ite | apply And.intro | intro _ | (simp only [Stable, StableL, i64S, prS, insS, sndsS, sndS, kS, kaS, ftS, ftsS]; done)))
            · (repeat' (first | exact trivial | exact ⟨_, rfl, fun β => rfl⟩ | apply And.intro))
            · (repeat' (first | exact trivial | exact rfl | assumption | apply Stable.ite | apply And.intro | intro _ | (simp only [Stable, StableL, i64S, prS, insS, sndsS, sndS, kS, kaS, ftS, ftsS]; done)))
          · simp only [Bool.not_eq_true] at hsm
            have hu : updF F T f = some (F.set T f) := by unfold updF; rw [hJ]; simp [hsm]
            with_reducible apply WF.split 3 0
            · rfl
            with_reducible apply At.run cFa_ok tab_ok
            · rfl
            · rfl
            · rfl
            · simp only [push_cast, ↓JP, Nat.reduceAdd, Nat.reduceEqDiff, Nat.reduceLT, Nat.reduceMul, Nat.reduceLeDiff, reduceCtorEq, reduceIte, ↓JK, ↓JF, noDefer, List.drop_zero, List.drop_succ_cons, cFa, sGoes, sTarget, sResult, sMeet, sHands, hX, inN, inR, ftsS, ↓ft_shaped, ↓fts_shaped, ft_eq, hTn, Int.toNat_natCast, hrT, hsm, hTl]; rfl
            · (focus (first | exact True.intro | ((try simp only [JS, implies_true, forall_const, shaped, shapedL, kndOf, cFa, sGoes, sTarget, sResult, sMeet, sHands, hX, inN, inR, ftsS, ↓ft_shaped, ↓fts_shaped, ft_eq, hTn, Int.toNat_natCast, hrT, hsm, hTl]); (repeat' (first | assumption | exact True.intro | omega | apply And.intro)); done) | ((repeat' (first | assumption | exact True.intro | omega | apply And.intro)); done)))
            with_reducible apply At.yield (gr := _)
            · rfl
            · rfl
            · rfl
            · rfl
            · rfl
            · rfl
            · simp only [push_cast, ↓JP, Nat.reduceAdd, Nat.reduceEqDiff, Nat.reduceLT, Nat.reduceMul, Nat.reduceLeDiff, reduceCtorEq, reduceIte, ↓JK, ↓JF, noDefer, List.drop_zero, List.drop_succ_cons, cFa, sGoes, sTarget, sResult, sMeet, sHands, hX, inN, inR, ftsS, ↓ft_shaped, ↓fts_shaped, ft_eq, hTn, Int.toNat_natCast, hrT, hsm, hTl]; rfl
            · first | rfl | (simp only [push_cast, ↓JP, Nat.reduceAdd, Nat.reduceEqDiff, Nat.reduceLT, Nat.reduceMul, Nat.reduceLeDiff, reduceCtorEq, reduceIte, ↓JK, ↓JF, noDefer, List.drop_zero, List.drop_succ_cons, cFa, sGoes, sTarget, sResult, sMeet, sHands, hX, inN, inR, ftsS, ↓ft_shaped, ↓fts_shaped, ft_eq, hTn, Int.toNat_natCast, hrT, hsm, hTl]; done)
            · simp only [push_cast, ↓JP, Nat.reduceAdd, Nat.reduceEqDiff, Nat.reduceLT, Nat.reduceMul, Nat.reduceLeDiff, reduceCtorEq, reduceIte, ↓JK, ↓JF, noDefer, List.drop_zero, List.drop_succ_cons, cFa, sGoes, sTarget, sResult, sMeet, sHands, hX, inN, inR, ftsS, ↓ft_shaped, ↓fts_shaped, ft_eq, hTn, Int.toNat_natCast, hrT, hsm, hTl]; rfl
            · (focus (first | exact True.intro | ((try simp only [JS, implies_true, forall_const, shaped, shapedL, kndOf, cFa, sGoes, sTarget, sResult, sMeet, sHands, hX, inN, inR, ftsS, ↓ft_shaped, ↓fts_shaped, ft_eq, hTn, Int.toNat_natCast, hrT, hsm, hTl]); (repeat' (first | assumption | exact True.intro | omega | apply And.intro)); done) | ((repeat' (first | assumption | exact True.intro | omega | apply And.intro)); done)))
            · simp only [push_cast, ↓JP, Nat.reduceAdd, Nat.reduceEqDiff, Nat.reduceLT, Nat.reduceMul, Nat.reduceLeDiff, reduceCtorEq, reduceIte, ↓JK, ↓JF, noDefer, List.drop_zero, List.drop_succ_cons, cFa, sGoes, sTarget, sResult, sMeet, sHands, hX, inN, inR, ftsS, ↓ft_shaped, ↓fts_shaped, ft_eq, hTn, Int.toNat_natCast, hrT, hsm, hTl]; rfl
            · (focus (first | exact True.intro | ((try simp only [JS, implies_true, forall_const, shaped, shapedL, kndOf, cFa, sGoes, sTarget, sResult, sMeet, sHands, hX, inN, inR, ftsS, ↓ft_shaped, ↓fts_shaped, ft_eq, hTn, Int.toNat_natCast, hrT, hsm, hTl]); (repeat' (first | assumption | exact True.intro | omega | apply And.intro)); done) | ((repeat' (first | assumption | exact True.intro | omega | apply And.intro)); done)))
            · first | rfl | (simp only [push_cast, ↓JP, Nat.reduceAdd, Nat.reduceEqDiff, Nat.reduceLT, Nat.reduceMul, Nat.reduceLeDiff, reduceCtorEq, reduceIte, ↓JK, ↓JF, noDefer, List.drop_zero, List.drop_succ_cons, cFa, sGoes, sTarget, sResult, sMeet, sHands, hX, inN, inR, ftsS, ↓ft_shaped, ↓fts_shaped, ft_eq, hTn, Int.toNat_natCast, hrT, hsm, hTl]; done)
            · exact hrec
            · exact hcf
            · rfl
            · rfl
            · rfl
            intro lb E2 next hE2 hnext
            repeat' (first | with_reducible (first | apply J1 | apply J3 | apply J4 | apply J5 | apply J6 | apply J7 | apply J8 | apply J9 | apply J10 | apply J11 | apply J12 | apply J13 | apply J14 | apply J15 | apply J16 | apply J17 | apply J18 | apply J19 | apply J20 | refine J2 ?_) | ((with_reducible apply J21); (· rfl)) | ((with_reducible intro hif); first | (focus (cases hif; done)) | (simp only [JH] at hif; try (exfalso; omega)) | (try (exfalso; omega))) | ((first | ((with_reducible apply J22 cFa_ok tab_ok); (· rfl)) | ((with_reducible apply J23 fol cFa_ok tab_ok); (· rfl)) | with_reducible apply J24); (· (simp only [push_cast, ↓JP, Nat.reduceAdd, Nat.reduceEqDiff, Nat.reduceLT, Nat.reduceMul, Nat.reduceLeDiff, reduceCtorEq, reduceIte, ↓JK, ↓JF, cFa, sGoes, sTarget, sResult, sMeet, sHands, hX, inN, inR, ftsS, ↓ft_shaped, ↓fts_shaped, ft_eq, hTn, Int.toNat_natCast, hrT, hsm, hTl]; rfl)); (try kernel_rfl); (try (focus (first | exact True.intro | ((simp only [true_and, and_true, and_self, Nat.zero_add, ↓ft_shaped, ↓fts_shaped]; (repeat' (first | assumption | exact True.intro | omega | apply And.intro))); done) | ((try simp only [JS, implies_true, forall_const, shaped, shapedL, kndOf, cFa, sGoes, sTarget, sResult, sMeet, sHands, hX, inN, inR, ftsS, ↓ft_shaped, ↓fts_shaped, ft_eq, hTn, Int.toNat_natCast, hrT, hsm, hTl]); (repeat' (first | assumption | exact True.intro | omega | apply And.intro)); done) | ((repeat' (first | assumption | exact True.intro | omega | apply And.intro)); done))))) | fail)
            with_reducible apply At.begins hrec
            · rfl
            with_reducible refine At.code ?_
            repeat' (first | with_reducible (first | apply J1 | apply J3 | apply J4 | apply J5 | apply J6 | apply J7 | apply J8 | apply J9 | apply J10 | apply J11 | apply J12 | apply J13 | apply J14 | apply J15 | apply J16 | apply J17 | apply J18 | apply J19 | apply J20 | refine J2 ?_) | ((with_reducible apply J21); (· rfl)) | ((with_reducible intro hif); first | (focus (cases hif; done)) | (simp only [JH] at hif; try (exfalso; omega)) | (try (exfalso; omega))) | ((first | ((with_reducible apply J22 cFa_ok tab_ok); (· rfl)) | ((with_reducible apply J23 fol cFa_ok tab_ok); (· rfl)) | with_reducible apply J24); (· (simp only [push_cast, ↓JP, Nat.reduceAdd, Nat.reduceEqDiff, Nat.reduceLT, Nat.reduceMul, Nat.reduceLeDiff, reduceCtorEq, reduceIte, ↓JK, ↓JF, cFa, sGoes, sTarget, sResult, sMeet, sHands, hX, inN, inR, ftsS, ↓ft_shaped, ↓fts_shaped, ft_eq, hTn, Int.toNat_natCast, hrT, hsm, hTl]; rfl)); (try kernel_rfl); (try (focus (first | exact True.intro | ((simp only [true_and, and_true, and_self, Nat.zero_add, ↓ft_shaped, ↓fts_shaped]; (repeat' (first | assumption | exact True.intro | omega | apply And.intro))); done) | ((try simp only [JS, implies_true, forall_const, shaped, shapedL, kndOf, cFa, sGoes, sTarget, sResult, sMeet, sHands, hX, inN, inR, ftsS, ↓ft_shaped, ↓fts_shaped, ft_eq, hTn, Int.toNat_natCast, hrT, hsm, hTl]); (repeat' (first | assumption | exact True.intro | omega | apply And.intro)); done) | ((repeat' (first | assumption | exact True.intro | omega | apply And.intro)); done))))) | fail)
            with_reducible apply At.roundExit
            · first | rfl | (simp only [push_cast, ↓JP, Nat.reduceAdd, Nat.reduceEqDiff, Nat.reduceLT, Nat.reduceMul, Nat.reduceLeDiff, reduceCtorEq, reduceIte, ↓JK, ↓JF, noDefer, List.drop_zero, List.drop_succ_cons, cFa, sGoes, sTarget, sResult, sMeet, sHands, hX, inN, inR, ftsS, ↓ft_shaped, ↓fts_shaped, ft_eq, hTn, Int.toNat_natCast, hrT, hsm, hTl]; done)
            apply hnext
            with_reducible apply At.runEnd cFa_ok tab_ok
            · rfl
            · rfl
            · rfl
            · simp only [push_cast, ↓JP, Nat.reduceAdd, Nat.reduceEqDiff, Nat.reduceLT, Nat.reduceMul, Nat.reduceLeDiff, reduceCtorEq, reduceIte, ↓JK, ↓JF, noDefer, List.drop_zero, List.drop_succ_cons, cFa, sGoes, sTarget, sResult, sMeet, sHands, hX, inN, inR, ftsS, ↓ft_shaped, ↓fts_shaped, ft_eq, hTn, Int.toNat_natCast, hrT, hsm, hTl]; rfl
            · (focus (first | exact True.intro | ((try simp only [JS, implies_true, forall_const, shaped, shapedL, kndOf, cFa, sGoes, sTarget, sResult, sMeet, sHands, hX, inN, inR, ftsS, ↓ft_shaped, ↓fts_shaped, ft_eq, hTn, Int.toNat_natCast, hrT, hsm, hTl]); (repeat' (first | assumption | exact True.intro | omega | apply And.intro)); done) | ((repeat' (first | assumption | exact True.intro | omega | apply And.intro)); done)))
            repeat' (first | with_reducible (first | apply J1 | apply J3 | apply J4 | apply J5 | apply J6 | apply J7 | apply J8 | apply J9 | apply J10 | apply J11 | apply J12 | apply J13 | apply J14 | apply J15 | apply J16 | apply J17 | apply J18 | apply J19 | apply J20 | refine J2 ?_) | ((with_reducible apply J21); (· rfl)) | ((with_reducible intro hif); first | (focus (cases hif; done)) | (simp only [JH] at hif; try (exfalso; omega)) | (try (exfalso; omega))) | ((first | ((with_reducible apply J22 cFa_ok tab_ok); (· rfl)) | ((with_reducible apply J23 fol cFa_ok tab_ok); (· rfl)) | with_reducible apply J24); (· (simp only [push_cast, ↓JP, Nat.reduceAdd, Nat.reduceEqDiff, Nat.reduceLT, Nat.reduceMul, Nat.reduceLeDiff, reduceCtorEq, reduceIte, ↓JK, ↓JF, cFa, sGoes, sTarget, sResult, sMeet, sHands, hX, inN, inR, ftsS, ↓ft_shaped, ↓fts_shaped, ft_eq, hTn, Int.toNat_natCast, hrT, hsm, hTl]; rfl)); (try kernel_rfl); (try (focus (first | exact True.intro | ((simp only [true_and, and_true, and_self, Nat.zero_add, ↓ft_shaped, ↓fts_shaped]; (repeat' (first | assumption | exact True.intro | omega | apply And.intro))); done) | ((try simp only [JS, implies_true, forall_const, shaped, shapedL, kndOf, cFa, sGoes, sTarget, sResult, sMeet, sHands, hX, inN, inR, ftsS, ↓ft_shaped, ↓fts_shaped, ft_eq, hTn, Int.toNat_natCast, hrT, hsm, hTl]); (repeat' (first | assumption | exact True.intro | omega | apply And.intro)); done) | ((repeat' (first | assumption | exact True.intro | omega | apply And.intro)); done))))) | fail)
            have hs1 := scan_some hsc hre hX hkl (zh ▸ scanE_2 h1 hTn hu)
            have hlt := updF_lt (by omega) (zr.trans hre) hu
            have hl : ∀ q, q < xs.length → SV.ite (decide (q = T)) (ftS f) (ftS (getF F q)) = ftsS (F.set T f) q := fun q hq => ftsS_set (by omega) q
            with_reducible apply At.itNormal .done
            · rfl
            · rfl
            · intro h; cases h
            apply haft
            intro w1 M1 D1 hA
            dsimp only
            repeat' (first | with_reducible (first | apply J1 | apply J3 | apply J4 | apply J5 | apply J6 | apply J7 | apply J8 | apply J9 | apply J10 | apply J11 | apply J12 | apply J13 | apply J14 | apply J15 | apply J16 | apply J17 | apply J18 | apply J19 | apply J20 | refine J2 ?_) | ((with_reducible apply J21); (· rfl)) | ((with_reducible intro hif); first | (focus (cases hif; done)) | (simp only [JH] at hif; try (exfalso; omega)) | (try (exfalso; omega))) | ((first | ((with_reducible apply J22 cFa_ok tab_ok); (· rfl)) | ((with_reducible apply J23 fol cFa_ok tab_ok); (· rfl)) | with_reducible apply J24); (· (simp only [push_cast, ↓JP, Nat.reduceAdd, Nat.reduceEqDiff, Nat.reduceLT, Nat.reduceMul, Nat.reduceLeDiff, reduceCtorEq, reduceIte, ↓JK, ↓JF]; rfl)); (try kernel_rfl); (try (focus (first | exact True.intro | ((try simp only [JS, implies_true, forall_const, shaped, shapedL, kndOf]); (repeat' (first | assumption | exact True.intro | omega | apply And.intro)); done) | ((repeat' (first | assumption | exact True.intro | omega | apply And.intro)); done))))) | fail)
            refine At.nextB (hBb.trans hA) [0, 1, 2, 3, 4] (F.set T f) ?_ rfl rfl rfl ?_ rfl ?_ ?_ ?_ rfl
            · exact ⟨⟨hlt.2.trans hFl, iter_next hs1 hlt.1 hm hFm⟩, hlt.1⟩
            · (repeat' (first | exact trivial | exact .inl rfl | exact .inr (.same _) | exact .inr .loose | exact .inr (.arr (by assumption)) | apply And.intro))
            · (repeat' (first | exact trivial | exact rfl | assumption | apply Stable.ite | apply And.intro | intro _ | (simp only [Stable, StableL, i64S, prS, insS, sndsS, sndS, kS, kaS, ftS, ftsS]; done)))
            · (repeat' (first | exact trivial | exact ⟨_, rfl, fun β => rfl⟩ | apply And.intro))
            · (repeat' (first | exact trivial | exact rfl | assumption | apply Stable.ite | apply And.intro | intro _ | (simp only [Stable, StableL, i64S, prS, insS, sndsS, sndS, kS, kaS, ftS, ftsS]; done)))
        · -- reached
          have hJ : joinF (getF F T) f = ⟨true, meetR (getF F T).regs f.regs⟩ := by unfold joinF; simp [hrT]
          by_cases hsm : ftB ⟨true, meetR (getF F T).regs f.regs⟩ (getF F T) = true
          · have hu : updF F T f = none := by unfold updF; rw [hJ]; simp [hsm]
            with_reducible apply WF.split 3 0
            · rfl
            with_reducible apply At.run cFa_ok tab_ok
            · rfl
            · rfl
            · rfl
            · simp only [push_cast, ↓JP, Nat.reduceAdd, Nat.reduceEqDiff, Nat.reduceLT, Nat.reduceMul, Nat.reduceLeDiff, reduceCtorEq, reduceIte, ↓JK, ↓JF, noDefer, List.drop_zero, List.drop_succ_cons, cFa, sGoes, sTarget, sResult, sMeet, sHands, hX, inN, inR, ftsS, ↓ft_shaped, ↓fts_shaped, ft_eq, hTn, Int.toNat_natCast, hrT, hsm, hTl]; rfl
            · (focus (first | exact True.intro | ((try simp only [JS, implies_true, forall_const, shaped, shapedL, kndOf, cFa, sGoes, sTarget, sResult, sMeet, sHands, hX, inN, inR, ftsS, ↓ft_shaped, ↓fts_shaped, ft_eq, hTn, Int.toNat_natCast, hrT, hsm, hTl]); (repeat' (first | assumption | exact True.intro | omega | apply And.intro)); done) | ((repeat' (first | assumption | exact True.intro | omega | apply And.intro)); done)))
            with_reducible apply At.yield (gr := _)
            · rfl
            · rfl
            · rfl
            · rfl
            · rfl
            · rfl
            · simp only [push_cast, ↓JP, Nat.reduceAdd, Nat.reduceEqDiff, Nat.reduceLT, Nat.reduceMul, Nat.reduceLeDiff, reduceCtorEq, reduceIte, ↓JK, ↓JF, noDefer, List.drop_zero, List.drop_succ_cons, cFa, sGoes, sTarget, sResult, sMeet, sHands, hX, inN, inR, ftsS, ↓ft_shaped, ↓fts_shaped, ft_eq, hTn, Int.toNat_natCast, hrT, hsm, hTl]; rfl
            · first | rfl | (simp only [push_cast, ↓JP, Nat.reduceAdd, Nat.reduceEqDiff, Nat.reduceLT, Nat.reduceMul, Nat.reduceLeDiff, reduceCtorEq, reduceIte, ↓JK, ↓JF, noDefer, List.drop_zero, List.drop_succ_cons, cFa, sGoes, sTarget, sResult, sMeet, sHands, hX, inN, inR, ftsS, ↓ft_shaped, ↓fts_shaped, ft_eq, hTn, Int.toNat_natCast, hrT, hsm, hTl]; done)
            · simp only [push_cast, ↓JP, Nat.reduceAdd, Nat.reduceEqDiff, Nat.reduceLT, Nat.reduceMul, Nat.reduceLeDiff, reduceCtorEq, reduceIte, ↓JK, ↓JF, noDefer, List.drop_zero, List.drop_succ_cons, cFa, sGoes, sTarget, sResult, sMeet, sHands, hX, inN, inR, ftsS, ↓ft_shaped, ↓fts_shaped, ft_eq, hTn, Int.toNat_natCast, hrT, hsm, hTl]; rfl
            · (focus (first | exact True.intro | ((try simp only [JS, implies_true, forall_const, shaped, shapedL, kndOf, cFa, sGoes, sTarget, sResult, sMeet, sHands, hX, inN, inR, ftsS, ↓ft_shaped, ↓fts_shaped, ft_eq, hTn, Int.toNat_natCast, hrT, hsm, hTl]); (repeat' (first | assumption | exact True.intro | omega | apply And.intro)); done) | ((repeat' (first | assumption | exact True.intro | omega | apply And.intro)); done)))
            · simp only [push_cast, ↓JP, Nat.reduceAdd, Nat.reduceEqDiff, Nat.reduceLT, Nat.reduceMul, Nat.reduceLeDiff, reduceCtorEq, reduceIte, ↓JK, ↓JF, noDefer, List.drop_zero, List.drop_succ_cons, cFa, sGoes, sTarget, sResult, sMeet, sHands, hX, inN, inR, ftsS, ↓ft_shaped, ↓fts_shaped, ft_eq, hTn, Int.toNat_natCast, hrT, hsm, hTl]; rfl
            · (focus (first | exact True.intro | ((try simp only [JS, implies_true, forall_const, shaped, shapedL, kndOf, cFa, sGoes, sTarget, sResult, sMeet, sHands, hX, inN, inR, ftsS, ↓ft_shaped, ↓fts_shaped, ft_eq, hTn, Int.toNat_natCast, hrT, hsm, hTl]); (repeat' (first | assumption | exact True.intro | omega | apply And.intro)); done) | ((repeat' (first | assumption | exact True.intro | omega | apply And.intro)); done)))
            · first | rfl | (simp only [push_cast, ↓JP, Nat.reduceAdd, Nat.reduceEqDiff, Nat.reduceLT, Nat.reduceMul, Nat.reduceLeDiff, reduceCtorEq, reduceIte, ↓JK, ↓JF, noDefer, List.drop_zero, List.drop_succ_cons, cFa, sGoes, sTarget, sResult, sMeet, sHands, hX, inN, inR, ftsS, ↓ft_shaped, ↓fts_shaped, ft_eq, hTn, Int.toNat_natCast, hrT, hsm, hTl]; done)
            · exact hrec
            · exact hcf
            · rfl
            · rfl
            · rfl
            intro lb E2 next hE2 hnext
            repeat' (first | with_reducible (first | apply J1 | apply J3 | apply J4 | apply J5 | apply J6 | apply J7 | apply J8 | apply J9 | apply J10 | apply J11 | apply J12 | apply J13 | apply J14 | apply J15 | apply J16 | apply J17 | apply J18 | apply J19 | apply J20 | refine J2 ?_) | ((with_reducible apply J21); (· rfl)) | ((with_reducible intro hif); first | (focus (cases hif; done)) | (simp only [JH] at hif; try (exfalso; omega)) | (try (exfalso; omega))) | ((first | ((with_reducible apply J22 cFa_ok tab_ok); (· rfl)) | ((with_reducible apply J23 fol cFa_ok tab_ok); (· rfl)) | with_reducible apply J24); (· (simp only [push_cast, ↓JP, Nat.reduceAdd, Nat.reduceEqDiff, Nat.reduceLT, Nat.reduceMul, Nat.reduceLeDiff, reduceCtorEq, reduceIte, ↓JK, ↓JF, cFa, sGoes, sTarget, sResult, sMeet, sHands, hX, inN, inR, ftsS, ↓ft_shaped, ↓fts_shaped, ft_eq, hTn, Int.toNat_natCast, hrT, hsm, hTl]; rfl)); (try kernel_rfl); (try (focus (first | exact True.intro | ((simp only [true_and, and_true, and_self, Nat.zero_add, ↓ft_shaped, ↓fts_shaped]; (repeat' (first | assumption | exact True.intro | omega | apply And.intro))); done) | ((try simp only [JS, implies_true, forall_const, shaped, shapedL, kndOf, cFa, sGoes, sTarget, sResult, sMeet, sHands, hX, inN, inR, ftsS, ↓ft_shaped, ↓fts_shaped, ft_eq, hTn, Int.toNat_natCast, hrT, hsm, hTl]); (repeat' (first | assumption | exact True.intro | omega | apply And.intro)); done) | ((repeat' (first | assumption | exact True.intro | omega | apply And.intro)); done))))) | fail)
            with_reducible apply At.begins hrec
            · rfl
            with_reducible refine At.code ?_
            repeat' (first | with_reducible (first | apply J1 | apply J3 | apply J4 | apply J5 | apply J6 | apply J7 | apply J8 | apply J9 | apply J10 | apply J11 | apply J12 | apply J13 | apply J14 | apply J15 | apply J16 | apply J17 | apply J18 | apply J19 | apply J20 | refine J2 ?_) | ((with_reducible apply J21); (· rfl)) | ((with_reducible intro hif); first | (focus (cases hif; done)) | (simp only [JH] at hif; try (exfalso; omega)) | (try (exfalso; omega))) | ((first | ((with_reducible apply J22 cFa_ok tab_ok); (· rfl)) | ((with_reducible apply J23 fol cFa_ok tab_ok); (· rfl)) | with_reducible apply J24); (· (simp only [push_cast, ↓JP, Nat.reduceAdd, Nat.reduceEqDiff, Nat.reduceLT, Nat.reduceMul, Nat.reduceLeDiff, reduceCtorEq, reduceIte, ↓JK, ↓JF, cFa, sGoes, sTarget, sResult, sMeet, sHands, hX, inN, inR, ftsS, ↓ft_shaped, ↓fts_shaped, ft_eq, hTn, Int.toNat_natCast, hrT, hsm, hTl]; rfl)); (try kernel_rfl); (try (focus (first | exact True.intro | ((simp only [true_and, and_true, and_self, Nat.zero_add, ↓ft_shaped, ↓fts_shaped]; (repeat' (first | assumption | exact True.intro | omega | apply And.intro))); done) | ((try simp only [JS, implies_true, forall_const, shaped, shapedL, kndOf, cFa, sGoes, sTarget, sResult, sMeet, sHands, hX, inN, inR, ftsS, ↓ft_shaped, ↓fts_shaped, ft_eq, hTn, Int.toNat_natCast, hrT, hsm, hTl]); (repeat' (first | assumption | exact True.intro | omega | apply And.intro)); done) | ((repeat' (first | assumption | exact True.intro | omega | apply And.intro)); done))))) | fail)
            with_reducible apply At.roundNormal
            · first | rfl | (simp only [push_cast, ↓JP, Nat.reduceAdd, Nat.reduceEqDiff, Nat.reduceLT, Nat.reduceMul, Nat.reduceLeDiff, reduceCtorEq, reduceIte, ↓JK, ↓JF, noDefer, List.drop_zero, List.drop_succ_cons, cFa, sGoes, sTarget, sResult, sMeet, sHands, hX, inN, inR, ftsS, ↓ft_shaped, ↓fts_shaped, ft_eq, hTn, Int.toNat_natCast, hrT, hsm, hTl]; done)
            apply hnext
            with_reducible apply At.runEnd cFa_ok tab_ok
            · rfl
            · rfl
            · rfl
            · simp only [push_cast, ↓JP, Nat.reduceAdd, Nat.reduceEqDiff, Nat.reduceLT, Nat.reduceMul, Nat.reduceLeDiff, reduceCtorEq, reduceIte, ↓JK, ↓JF, noDefer, List.drop_zero, List.drop_succ_cons, cFa, sGoes, sTarget, sResult, sMeet, sHands, hX, inN, inR, ftsS, ↓ft_shaped, ↓fts_shaped, ft_eq, hTn, Int.toNat_natCast, hrT, hsm, hTl]; rfl
            · (focus (first | exact True.intro | ((try simp only [JS, implies_true, forall_const, shaped, shapedL, kndOf, cFa, sGoes, sTarget, sResult, sMeet, sHands, hX, inN, inR, ftsS, ↓ft_shaped, ↓fts_shaped, ft_eq, hTn, Int.toNat_natCast, hrT, hsm, hTl]); (repeat' (first | assumption | exact True.intro | omega | apply And.intro)); done) | ((repeat' (first | assumption | exact True.intro | omega | apply And.intro)); done)))
            repeat' (first | with_reducible (first | apply J1 | apply J3 | apply J4 | apply J5 | apply J6 | apply J7 | apply J8 | apply J9 | apply J10 | apply J11 | apply J12 | apply J13 | apply J14 | apply J15 | apply J16 | apply J17 | apply J18 | apply J19 | apply J20 | refine J2 ?_) | ((with_reducible apply J21); (· rfl)) | ((with_reducible intro hif); first | (focus (cases hif; done)) | (simp only [JH] at hif; try (exfalso; omega)) | (try (exfalso; omega))) | ((first | ((with_reducible apply J22 cFa_ok tab_ok); (· rfl)) | ((with_reducible apply J23 fol cFa_ok tab_ok); (· rfl)) | with_reducible apply J24); (· (simp only [push_cast, ↓JP, Nat.reduceAdd, Nat.reduceEqDiff, Nat.reduceLT, Nat.reduceMul, Nat.reduceLeDiff, reduceCtorEq, reduceIte, ↓JK, ↓JF, cFa, sGoes, sTarget, sResult, sMeet, sHands, hX, inN, inR, ftsS, ↓ft_shaped, ↓fts_shaped, ft_eq, hTn, Int.toNat_natCast, hrT, hsm, hTl]; rfl)); (try kernel_rfl); (try (focus (first | exact True.intro | ((simp only [true_and, and_true, and_self, Nat.zero_add, ↓ft_shaped, ↓fts_shaped]; (repeat' (first | assumption | exact True.intro | omega | apply And.intro))); done) | ((try simp only [JS, implies_true, forall_const, shaped, shapedL, kndOf, cFa, sGoes, sTarget, sResult, sMeet, sHands, hX, inN, inR, ftsS, ↓ft_shaped, ↓fts_shaped, ft_eq, hTn, Int.toNat_natCast, hrT, hsm, hTl]); (repeat' (first | assumption | exact True.intro | omega | apply And.intro)); done) | ((repeat' (first | assumption | exact True.intro | omega | apply And.intro)); done))))) | fail)
            have hs0 : scanY F (handsL x k (getF F k)) = none := by rw [zh]; exact scanE_0 h1 (fun _ => by rw [hTn]; exact hu)
            with_reducible apply At.itNormal .ready
            · rfl
            · rfl
            · intro h; cases h
            apply haft
            intro w1 M1 D1 hA
            dsimp only
            repeat' (first | with_reducible (first | apply J1 | apply J3 | apply J4 | apply J5 | apply J6 | apply J7 | apply J8 | apply J9 | apply J10 | apply J11 | apply J12 | apply J13 | apply J14 | apply J15 | apply J16 | apply J17 | apply J18 | apply J19 | apply J20 | refine J2 ?_) | ((with_reducible apply J21); (· rfl)) | ((with_reducible intro hif); first | (focus (cases hif; done)) | (simp only [JH] at hif; try (exfalso; omega)) | (try (exfalso; omega))) | ((first | ((with_reducible apply J22 cFa_ok tab_ok); (· rfl)) | ((with_reducible apply J23 fol cFa_ok tab_ok); (· rfl)) | with_reducible apply J24); (· (simp only [push_cast, ↓JP, Nat.reduceAdd, Nat.reduceEqDiff, Nat.reduceLT, Nat.reduceMul, Nat.reduceLeDiff, reduceCtorEq, reduceIte, ↓JK, ↓JF, inN]; rfl)); (try kernel_rfl); (try (focus (first | exact True.intro | ((try simp only [JS, implies_true, forall_const, shaped, shapedL, kndOf, inN]); (repeat' (first | assumption | exact True.intro | omega | apply And.intro)); done) | ((repeat' (first | assumption | exact True.intro | omega | apply And.intro)); done))))) | fail)
            refine At.nextB hA [0, 1, 2, 3, 4] (k + 1) ?_ rfl rfl rfl ?_ rfl ?_ ?_ ?_ rfl
            · exact ⟨⟨hkl, scan_next hsc hre hX hs0⟩, by omega⟩
            · (repeat' (first | exact trivial | exact .inl rfl | exact .inr (.same _) | exact .inr .loose | exact .inr (.arr (by assumption)) | apply And.intro))
            · (repeat' (first | exact trivial | exact rfl | assumption | apply Stable.ite | apply And.intro | intro _ | (simp only [Stable, StableL, i64S, prS, insS, sndsS, sndS, kS, kaS, ftS, ftsS]; done)))
            · (repeat' (first | exact trivial | exact ⟨_, rfl, fun β => rfl⟩ | apply And.intro))
            · (repeat' (first | exact trivial | exact rfl | assumption | apply Stable.ite | apply And.intro | intro _ | (simp only [Stable, StableL, i64S, prS, insS, sndsS, sndS, kS, kaS, ftS, ftsS]; done)))
          · simp only [Bool.not_eq_true] at hsm
            have hu : updF F T f = some (F.set T ⟨true, meetR (getF F T).regs f.regs⟩) := by unfold updF; rw [hJ]; simp [hsm]
            with_reducible apply WF.split 3 0
            · rfl
            with_reducible apply At.run cFa_ok tab_ok
            · rfl
            · rfl
            · rfl
            · simp only [push_cast, ↓JP, Nat.reduceAdd, Nat.reduceEqDiff, Nat.reduceLT, Nat.reduceMul, Nat.reduceLeDiff, reduceCtorEq, reduceIte, ↓JK, ↓JF, noDefer, List.drop_zero, List.drop_succ_cons, cFa, sGoes, sTarget, sResult, sMeet, sHands, hX, inN, inR, ftsS, ↓ft_shaped, ↓fts_shaped, ft_eq, hTn, Int.toNat_natCast, hrT, hsm, hTl]; rfl
            · (focus (first | exact True.intro | ((try simp only [JS, implies_true, forall_const, shaped, shapedL, kndOf, cFa, sGoes, sTarget, sResult, sMeet, sHands, hX, inN, inR, ftsS, ↓ft_shaped, ↓fts_shaped, ft_eq, hTn, Int.toNat_natCast, hrT, hsm, hTl]); (repeat' (first | assumption | exact True.intro | omega | apply And.intro)); done) | ((repeat' (first | assumption | exact True.intro | omega | apply And.intro)); done)))
            with_reducible apply At.yield (gr := _)
            · rfl
            · rfl
            · rfl
            · rfl
            · rfl
            · rfl
            · simp only [push_cast, ↓JP, Nat.reduceAdd, Nat.reduceEqDiff, Nat.reduceLT, Nat.reduceMul, Nat.reduceLeDiff, reduceCtorEq, reduceIte, ↓JK, ↓JF, noDefer, List.drop_zero, List.drop_succ_cons, cFa, sGoes, sTarget, sResult, sMeet, sHands, hX, inN, inR, ftsS, ↓ft_shaped, ↓fts_shaped, ft_eq, hTn, Int.toNat_natCast, hrT, hsm, hTl]; rfl
            · first | rfl | (simp only [push_cast, ↓JP, Nat.reduceAdd, Nat.reduceEqDiff, Nat.reduceLT, Nat.reduceMul, Nat.reduceLeDiff, reduceCtorEq, reduceIte, ↓JK, ↓JF, noDefer, List.drop_zero, List.drop_succ_cons, cFa, sGoes, sTarget, sResult, sMeet, sHands, hX, inN, inR, ftsS, ↓ft_shaped, ↓fts_shaped, ft_eq, hTn, Int.toNat_natCast, hrT, hsm, hTl]; done)
            · simp only [push_cast, ↓JP, Nat.reduceAdd, Nat.reduceEqDiff, Nat.reduceLT, Nat.reduceMul, Nat.reduceLeDiff, reduceCtorEq, reduceIte, ↓JK, ↓JF, noDefer, List.drop_zero, List.drop_succ_cons, cFa, sGoes, sTarget, sResult, sMeet, sHands, hX, inN, inR, ftsS, ↓ft_shaped, ↓fts_shaped, ft_eq, hTn, Int.toNat_natCast, hrT, hsm, hTl]; rfl
            · (focus (first | exact True.intro | ((try simp only [JS, implies_true, forall_const, shaped, shapedL, kndOf, cFa, sGoes, sTarget, sResult, sMeet, sHands, hX, inN, inR, ftsS, ↓ft_shaped, ↓fts_shaped, ft_eq, hTn, Int.toNat_natCast, hrT, hsm, hTl]); (repeat' (first | assumption | exact True.intro | omega | apply And.intro)); done) | ((repeat' (first | assumption | exact True.intro | omega | apply And.intro)); done)))
            · simp only [push_cast, ↓JP, Nat.reduceAdd, Nat.reduceEqDiff, Nat.reduceLT, Nat.reduceMul, Nat.reduceLeDiff, reduceCtorEq, reduceIte, ↓JK, ↓JF, noDefer, List.drop_zero, List.drop_succ_cons, cFa, sGoes, sTarget, sResult, sMeet, sHands, hX, inN, inR, ftsS, ↓ft_shaped, ↓fts_shaped, ft_eq, hTn, Int.toNat_natCast, hrT, hsm, hTl]; rfl
            · (focus (first | exact True.intro | ((try simp only [JS, implies_true, forall_const, shaped, shapedL, kndOf, cFa, sGoes, sTarget, sResult, sMeet, sHands, hX, inN, inR, ftsS, ↓ft_shaped, ↓fts_shaped, ft_eq, hTn, Int.toNat_natCast, hrT, hsm, hTl]); (repeat' (first | assumption | exact True.intro | omega | apply And.intro)); done) | ((repeat' (first | assumption | exact True.intro | omega | apply And.intro)); done)))
            · first | rfl | (simp only [push_cast, ↓JP, Nat.reduceAdd, Nat.reduceEqDiff, Nat.reduceLT, Nat.reduceMul, Nat.reduceLeDiff, reduceCtorEq, reduceIte, ↓JK, ↓JF, noDefer, List.drop_zero, List.drop_succ_cons, cFa, sGoes, sTarget, sResult, sMeet, sHands, hX, inN, inR, ftsS, ↓ft_shaped, ↓fts_shaped, ft_eq, hTn, Int.toNat_natCast, hrT, hsm, hTl]; done)
            · exact hrec
            · exact hcf
            · rfl
            · rfl
            · rfl
            intro lb E2 next hE2 hnext
            repeat' (first | with_reducible (first | apply J1 | apply J3 | apply J4 | apply J5 | apply J6 | apply J7 | apply J8 | apply J9 | apply J10 | apply J11 | apply J12 | apply J13 | apply J14 | apply J15 | apply J16 | apply J17 | apply J18 | apply J19 | apply J20 | refine J2 ?_) | ((with_reducible apply J21); (· rfl)) | ((with_reducible intro hif); first | (focus (cases hif; done)) | (simp only [JH] at hif; try (exfalso; omega)) | (try (exfalso; omega))) | ((first | ((with_reducible apply J22 cFa_ok tab_ok); (· rfl)) | ((with_reducible apply J23 fol cFa_ok tab_ok); (· rfl)) | with_reducible apply J24); (· (simp only [push_cast, ↓JP, Nat.reduceAdd, Nat.reduceEqDiff, Nat.reduceLT, Nat.reduceMul, Nat.reduceLeDiff, reduceCtorEq, reduceIte, ↓JK, ↓JF, cFa, sGoes, sTarget, sResult, sMeet, sHands, hX, inN, inR, ftsS, ↓ft_shaped, ↓fts_shaped, ft_eq, hTn, Int.toNat_natCast, hrT, hsm, hTl]; rfl)); (try kernel_rfl); (try (focus (first | exact True.intro | ((simp only [true_and, and_true, and_self, Nat.zero_add, ↓ft_shaped, ↓fts_shaped]; (repeat' (first | assumption | exact True.intro | omega | apply And.intro))); done) | ((try simp only [JS, implies_true, forall_const, shaped, shapedL, kndOf, cFa, sGoes, sTarget, sResult, sMeet, sHands, hX, inN, inR, ftsS, ↓ft_shaped, ↓fts_shaped, ft_eq, hTn, Int.toNat_natCast, hrT, hsm, hTl]); (repeat' (first | assumption | exact True.intro | omega | apply And.intro)); done) | ((repeat' (first | assumption | exact True.intro | omega | apply And.intro)); done))))) | fail)
            with_reducible apply At.begins hrec
            · rfl
            with_reducible refine At.code ?_
            repeat' (first | with_reducible (first | apply J1 | apply J3 | apply J4 | apply J5 | apply J6 | apply J7 | apply J8 | apply J9 | apply J10 | apply J11 | apply J12 | apply J13 | apply J14 | apply J15 | apply J16 | apply J17 | apply J18 | apply J19 | apply J20 | refine J2 ?_) | ((with_reducible apply J21); (· rfl)) | ((with_reducible intro hif); first | (focus (cases hif; done)) | (simp only [JH] at hif; try (exfalso; omega)) | (try (exfalso; omega))) | ((first | ((with_reducible apply J22 cFa_ok tab_ok); (· rfl)) | ((with_reducible apply J23 fol cFa_ok tab_ok); (· rfl)) | with_reducible apply J24); (· (simp only [push_cast, ↓JP, Nat.reduceAdd, Nat.reduceEqDiff, Nat.reduceLT, Nat.reduceMul, Nat.reduceLeDiff, reduceCtorEq, reduceIte, ↓JK, ↓JF, cFa, sGoes, sTarget, sResult, sMeet, sHands, hX, inN, inR, ftsS, ↓ft_shaped, ↓fts_shaped, ft_eq, hTn, Int.toNat_natCast, hrT, hsm, hTl]; rfl)); (try kernel_rfl); (try (focus (first | exact True.intro | ((simp only [true_and, and_true, and_self, Nat.zero_add, ↓ft_shaped, ↓fts_shaped]; (repeat' (first | assumption | exact True.intro | omega | apply And.intro))); done) | ((try simp only [JS, implies_true, forall_const, shaped, shapedL, kndOf, cFa, sGoes, sTarget, sResult, sMeet, sHands, hX, inN, inR, ftsS, ↓ft_shaped, ↓fts_shaped, ft_eq, hTn, Int.toNat_natCast, hrT, hsm, hTl]); (repeat' (first | assumption | exact True.intro | omega | apply And.intro)); done) | ((repeat' (first | assumption | exact True.intro | omega | apply And.intro)); done))))) | fail)
            with_reducible apply At.roundExit
            · first | rfl | (simp only [push_cast, ↓JP, Nat.reduceAdd, Nat.reduceEqDiff, Nat.reduceLT, Nat.reduceMul, Nat.reduceLeDiff, reduceCtorEq, reduceIte, ↓JK, ↓JF, noDefer, List.drop_zero, List.drop_succ_cons, cFa, sGoes, sTarget, sResult, sMeet, sHands, hX, inN, inR, ftsS, ↓ft_shaped, ↓fts_shaped, ft_eq, hTn, Int.toNat_natCast, hrT, hsm, hTl]; done)
            apply hnext
            with_reducible apply At.runEnd cFa_ok tab_ok
            · rfl
            · rfl
            · rfl
            · simp only [push_cast, ↓JP, Nat.reduceAdd, Nat.reduceEqDiff, Nat.reduceLT, Nat.reduceMul, Nat.reduceLeDiff, reduceCtorEq, reduceIte, ↓JK, ↓JF, noDefer, List.drop_zero, List.drop_succ_cons, cFa, sGoes, sTarget, sResult, sMeet, sHands, hX, inN, inR, ftsS, ↓ft_shaped, ↓fts_shaped, ft_eq, hTn, Int.toNat_natCast, hrT, hsm, hTl]; rfl
            · (focus (first | exact True.intro | ((try simp only [JS, implies_true, forall_const, shaped, shapedL, kndOf, cFa, sGoes, sTarget, sResult, sMeet, sHands, hX, inN, inR, ftsS, ↓ft_shaped, ↓fts_shaped, ft_eq, hTn, Int.toNat_natCast, hrT, hsm, hTl]); (repeat' (first | assumption | exact True.intro | omega | apply And.intro)); done) | ((repeat' (first | assumption | exact True.intro | omega | apply And.intro)); done)))
            repeat' (first | with_reducible (first | apply J1 | apply J3 | apply J4 | apply J5 | apply J6 | apply J7 | apply J8 | apply J9 | apply J10 | apply J11 | apply J12 | apply J13 | apply J14 | apply J15 | apply J16 | apply J17 | apply J18 | apply J19 | apply J20 | refine J2 ?_) | ((with_reducible apply J21); (· rfl)) | ((with_reducible intro hif); first | (focus (cases hif; done)) | (simp only [JH] at hif; try (exfalso; omega)) | (try (exfalso; omega))) | ((first | ((with_reducible apply J22 cFa_ok tab_ok); (· rfl)) | ((with_reducible apply J23 fol cFa_ok tab_ok); (· rfl)) | with_reducible apply J24); (· (simp only [push_cast, ↓JP, Nat.reduceAdd, Nat.reduceEqDiff, Nat.reduceLT, Nat.reduceMul, Nat.reduceLeDiff, reduceCtorEq, reduceIte, ↓JK, ↓JF, cFa, sGoes, sTarget, sResult, sMeet, sHands, hX, inN, inR, ftsS, ↓ft_shaped, ↓fts_shaped, ft_eq, hTn, Int.toNat_natCast, hrT, hsm, hTl]; rfl)); (try kernel_rfl); (try (focus (first | exact True.intro | ((simp only [true_and, and_true, and_self, Nat.zero_add, ↓ft_shaped, ↓fts_shaped]; (repeat' (first | assumption | exact True.intro | omega | apply And.intro))); done) | ((try simp only [JS, implies_true, forall_const, shaped, shapedL, kndOf, cFa, sGoes, sTarget, sResult, sMeet, sHands, hX, inN, inR, ftsS, ↓ft_shaped, ↓fts_shaped, ft_eq, hTn, Int.toNat_natCast, hrT, hsm, hTl]); (repeat' (first | assumption | exact True.intro | omega | apply And.intro)); done) | ((repeat' (first | assumption | exact True.intro | omega | apply And.intro)); done))))) | fail)
            have hs1 := scan_some hsc hre hX hkl (zh ▸ scanE_2 h1 hTn hu)
            have hlt := updF_lt (by omega) (zr.trans hre) hu
            have hl : ∀ q, q < xs.length → SV.ite (decide (q = T)) (ftS ⟨true, meetR (getF F T).regs f.regs⟩) (ftS (getF F q)) = ftsS (F.set T ⟨true, meetR (getF F T).regs f.regs⟩) q := fun q hq => ftsS_set (by omega) q
            with_reducible apply At.itNormal .done
            · rfl
            · rfl
            · intro h; cases h
            apply haft
            intro w1 M1 D1 hA
            dsimp only
            repeat' (first | with_reducible (first | apply J1 | apply J3 | apply J4 | apply J5 | apply J6 | apply J7 | apply J8 | apply J9 | apply J10 | apply J11 | apply J12 | apply J13 | apply J14 | apply J15 | apply J16 | apply J17 | apply J18 | apply J19 | apply J20 | refine J2 ?_) | ((with_reducible apply J21); (· rfl)) | ((with_reducible intro hif); first | (focus (cases hif; done)) | (simp only [JH] at hif; try (exfalso; omega)) | (try (exfalso; omega))) | ((first | ((with_reducible apply J22 cFa_ok tab_ok); (· rfl)) | ((with_reducible apply J23 fol cFa_ok tab_ok); (· rfl)) | with_reducible apply J24); (· (simp only [push_cast, ↓JP, Nat.reduceAdd, Nat.reduceEqDiff, Nat.reduceLT, Nat.reduceMul, Nat.reduceLeDiff, reduceCtorEq, reduceIte, ↓JK, ↓JF]; rfl)); (try kernel_rfl); (try (focus (first | exact True.intro | ((try simp only [JS, implies_true, forall_const, shaped, shapedL, kndOf]); (repeat' (first | assumption | exact True.intro | omega | apply And.intro)); done) | ((repeat' (first | assumption | exact True.intro | omega | apply And.intro)); done))))) | fail)
            refine At.nextB (hBb.trans hA) [0, 1, 2, 3, 4] (F.set T ⟨true, meetR (getF F T).regs f.regs⟩) ?_ rfl rfl rfl ?_ rfl ?_ ?_ ?_ rfl
            · exact ⟨⟨hlt.2.trans hFl, iter_next hs1 hlt.1 hm hFm⟩, hlt.1⟩
            · (repeat' (first | exact trivial | exact .inl rfl | exact .inr (.same _) | exact .inr .loose | exact .inr (.arr (by assumption)) | apply And.intro))
            · (repeat' (first | exact trivial | exact rfl | assumption | apply Stable.ite | apply And.intro | intro _ | (simp only [Stable, StableL, i64S, prS, insS, sndsS, sndS, kS, kaS, ftS, ftsS]; done)))
            · (repeat' (first | exact trivial | exact ⟨_, rfl, fun β => rfl⟩ | apply And.intro))
            · (repeat' (first | exact trivial | exact rfl | assumption | apply Stable.ite | apply And.intro | intro _ | (simp only [Stable, StableL, i64S, prS, insS, sndsS, sndS, kS, kaS, ftS, ftsS]; done)))
    · simp only [Bool.not_eq_true] at hre
      repeat' (first | with_reducible (first | apply J1 | apply J3 | apply J4 | apply J5 | apply J6 | apply J7 | apply J8 | apply J9 | apply J10 | apply J11 | apply J12 | apply J13 | apply J14 | apply J15 | apply J16 | apply J17 | apply J18 | apply J19 | apply J20 | refine J2 ?_) | ((with_reducible apply J21); (· rfl)) | ((with_reducible intro hif); first | (focus (cases hif; done)) | (simp only [JH] at hif; try (exfalso; omega)) | (try (exfalso; omega))) | ((first | ((with_reducible apply J22 cFa_ok tab_ok); (· rfl)) | ((with_reducible apply J23 fol cFa_ok tab_ok); (· rfl)) | with_reducible apply J24); (· (simp only [push_cast, ↓JP, Nat.reduceAdd, Nat.reduceEqDiff, Nat.reduceLT, Nat.reduceMul, Nat.reduceLeDiff, reduceCtorEq, reduceIte, ↓JK, ↓JF, cFa, ftsS, hre, hkl, inN]; rfl)); (try kernel_rfl); (try (focus (first | exact True.intro | ((try simp only [JS, implies_true, forall_const, shaped, shapedL, kndOf, cFa, ftsS, hre, hkl, inN]); (repeat' (first | assumption | exact True.intro | omega | apply And.intro)); done) | ((repeat' (first | assumption | exact True.intro | omega | apply And.intro)); done))))) | fail)
      refine At.nextB Anc.refl [0, 1, 2, 3, 4] (k + 1) ?_ rfl rfl rfl ?_ rfl ?_ ?_ ?_ rfl
      · refine ⟨⟨hkl, ?_⟩, by omega⟩; unfold scanK; rw [hsc]; simp only [hre, Bool.false_eq_true, if_false]
      · (repeat' (first | exact trivial | exact .inl rfl | exact .inr (.same _) | exact .inr .loose | exact .inr (.arr (by assumption)) | apply And.intro))
      · (repeat' (first | exact trivial | exact rfl | assumption | apply Stable.ite | apply And.intro | intro _ | (simp only [Stable, StableL, i64S, prS, insS, sndsS, sndS, kS, kaS, ftS, ftsS]; done)))
      · (repeat' (first | exact trivial | exact ⟨_, rfl, fun β => rfl⟩ | apply And.intro))
      · (repeat' (first | exact trivial | exact rfl | assumption | apply Stable.ite | apply And.intro | intro _ | (simp only [Stable, StableL, i64S, prS, insS, sndsS, sndS, kS, kaS, ftS, ftsS]; done)))
  · obtain rfl : k = xs.length := by omega
    have hfin := iter_end hsc hFm
    rw [hfin]
    repeat' (first | with_reducible (first | apply J1 | apply J3 | apply J4 | apply J5 | apply J6 | apply J7 | apply J8 | apply J9 | apply J10 | apply J11 | apply J12 | apply J13 | apply J14 | apply J15 | apply J16 | apply J17 | apply J18 | apply J19 | apply J20 | refine J2 ?_) | ((with_reducible apply J21); (· rfl)) | ((with_reducible intro hif); first | (focus (cases hif; done)) | (simp only [JH] at hif; try (exfalso; omega)) | (try (exfalso; omega))) | ((first | ((with_reducible apply J22 cFa_ok tab_ok); (· rfl)) | ((with_reducible apply J23 fol cFa_ok tab_ok); (· rfl)) | with_reducible apply J24); (· (simp only [push_cast, ↓JP, Nat.reduceAdd, Nat.reduceEqDiff, Nat.reduceLT, Nat.reduceMul, Nat.reduceLeDiff, reduceCtorEq, reduceIte, ↓JK, ↓JF, cFa, ftsS, hkl, inN]; rfl)); (try kernel_rfl); (try (focus (first | exact True.intro | ((try simp only [JS, implies_true, forall_const, shaped, shapedL, kndOf, cFa, ftsS, hkl, inN]); (repeat' (first | assumption | exact True.intro | omega | apply And.intro)); done) | ((repeat' (first | assumption | exact True.intro | omega | apply And.intro)); done))))) | fail)
    apply At.endsRet tab_ok (fn := Try.f56) (rs := [.tmp 2]) (hAa.trans hBb) hro (Nat.le_of_ble_eq_true rfl) rfl
    · simp only [push_cast, ↓JP, Nat.reduceAdd, Nat.reduceEqDiff, Nat.reduceLT, Nat.reduceMul, Nat.reduceLeDiff, reduceCtorEq, reduceIte, ↓JK, ↓JF, resV, resV1]; rfl
    · (first | trivial | (simp only [and_self]; done))
    · (repeat' (first | exact trivial | exact .same _ | exact .dead _ | exact .gone rfl | exact .loose | assumption | exact .arr (by assumption) | apply And.intro))
    · rfl
    · (repeat' (first | exact trivial | exact rfl | assumption | apply Stable.ite | apply And.intro | intro _ | (simp only [Stable, StableL, i64S, prS, insS, sndsS, sndS, kS, kaS, ftS, ftsS]; done)))
    · (repeat' (first | exact trivial | exact .inl rfl | exact .inr rfl | exact rfl | apply And.intro))
    · exact fun β => rfl
    · (repeat' (first | exact trivial | exact rfl | assumption | apply Stable.ite | apply And.intro | intro _ | (simp only [Stable, StableL, i64S, prS, insS, sndsS, sndS, kS, kaS, ftS, ftsS]; done)))
end Go.Proofs.Ytmljmabbopkpiaa.Vm
end
