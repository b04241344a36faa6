import Derived.Test.YtjliakjbdcplcaaGreatN6
import Derived.Test.YtjliakjbdcplcaaGreatN7
import Derived.Test.YtjliakjbdcplcaaGreatN8
import Derived.Test.YtjliakjbdcplcaaGreatN9
import Derived.Test.YtjliakjbdcplcaaGreatN11
section
namespace Go.Proofs.YtjliakjbdcplcaaGreat.Vm
theorem b75 {P : Prop} (h : P := by simp only [push_cast, ↓JP, Nat.reduceAdd, Nat.reduceEqDiff, Nat.reduceLT, Nat.reduceMul, Nat.reduceLeDiff, reduceCtorEq, reduceIte, ↓JK, noDefer, List.drop_zero, List.drop_succ_cons, cKc, rFl, rCoF, sIcmp, pkB, fldS, nodupN, memN, inR, inN, hz]; rfl) : P := h
theorem b76 {P : Prop} (h : P := by first | rfl | (simp only [push_cast, ↓JP, Nat.reduceAdd, Nat.reduceEqDiff, Nat.reduceLT, Nat.reduceMul, Nat.reduceLeDiff, reduceCtorEq, reduceIte, ↓JK, noDefer, List.drop_zero, List.drop_succ_cons, cKc, rFl, rCoF, sIcmp, pkB, fldS, nodupN, memN, inR, inN, hz]; done)) : P := h
theorem b77 {P : Prop} (h : P := by refine ⟨⟨by omega, fun q hq' => ?_⟩, by omega⟩; by_cases e : q = j; (rw [e]; exact hq); exact heq q (by omega)) : P := h
theorem b78 {P : Prop} (h : P := by (repeat' (first | exact trivial | exact rfl | assumption | apply Stable.ite | apply And.intro | intro _ | (simp only [Stable, StableL, i64S, prS, insS, sndsS, sndS, evtsS, evtS, prO, i64O, inO, HB.stable]; done)))) : P := h
theorem b79 {P : Prop} (h : P := by (simp only [push_cast, ↓JP, Nat.reduceAdd, Nat.reduceEqDiff, Nat.reduceLT, Nat.reduceMul, Nat.reduceLeDiff, reduceCtorEq, reduceIte, ↓JK, cKc]; rfl)) : P := h
theorem b80 {P : Prop} (h : P := by (simp only [push_cast, ↓JP, Nat.reduceAdd, Nat.reduceEqDiff, Nat.reduceLT, Nat.reduceMul, Nat.reduceLeDiff, reduceCtorEq, reduceIte, ↓JK, cKc, hz]; rfl)) : P := h
theorem b81 {P : Prop} (h : P := by (first | exact True.intro | ((try simp only [JS, implies_true, forall_const, shaped, shapedL, kndOf, inN]); (repeat' (first | assumption | exact True.intro | omega | apply And.intro)); done))) : P := h
theorem b82 {P : Prop} (h : P := by (first | exact True.intro | ((try simp only [JS, implies_true, forall_const, ls_prS, ls_prS', ls_prS2, ls_length, Nat.zero_add]); (repeat' (first | exact True.intro | assumption | omega | apply And.intro | rfl | intro _)); done) | ((try simp only [JS, implies_true, forall_const, shaped, shapedL, kndOf, inR, inN]); (repeat' (first | assumption | exact True.intro | omega | apply And.intro)); done))) : P := h
theorem b83 {P : Prop} (h : P := by (simp only [push_cast, ↓JP, Nat.reduceAdd, Nat.reduceEqDiff, Nat.reduceLT, Nat.reduceMul, Nat.reduceLeDiff, reduceCtorEq, reduceIte, ↓JK, cRRt, sRCheck, sRPr, hc, isI_int, isI_nat, iOf, ls_prS, ls_prS', ls_prS2, inR, inN]; rfl)) : P := h
theorem b84 {P : Prop} (h : P := by (simp only [push_cast, ↓JP, Nat.reduceAdd, Nat.reduceEqDiff, Nat.reduceLT, Nat.reduceMul, Nat.reduceLeDiff, reduceCtorEq, reduceIte, ↓JK, cRRt, sRCheck, sRPr, hc, isI_int, isI_nat, iOf, ls_prS, ls_prS', ls_prS2, inR, inN, hjl, hx, hb]; rfl)) : P := h
theorem b85 {P : Prop} (h : P := by (simp only [push_cast, ↓JP, Nat.reduceAdd, Nat.reduceEqDiff, Nat.reduceLT, Nat.reduceMul, Nat.reduceLeDiff, reduceCtorEq, reduceIte, ↓JK, JE, evtS, cTk, sKRight, inR, inN, hk]; rfl)) : P := h
end Go.Proofs.YtjliakjbdcplcaaGreat.Vm
end
section
namespace Go.Proofs.YtjliakjbdcplcaaGreat.Vm
open Go.RowKit
attribute [local push_cast] runR opG gtmp gval gus opX tmpsOf tm tmO tmP restr look look2 tab tys zs ets eqB eqBL allB numOf ieq Int.cast_ofNat_Int Int.ofNat_zero beq_true beq_false frameOf ev evL ofV opV loadV noW pushF wrsL setH allBorn allGone HB.born HB.isGone HB.val SV.plain dstOk hp nav fitsT SV.size sizeL SV.isAgg TK.size TK.agg bin binE binN binI arN arI cmpN cmpI keq kn narrow callV storeV setp fillV buildV buildSliceV makeV sliceV appendV appendFV slice3V copyV List.isEmpty_nil srcV evO asN ite_t ite_f ite_bool ite_int ite_nat maxV v_beq v_ble v_blt cond_true cond_false List.getElem?_cons_zero List.getElem?_cons_succ List.getD_cons_zero List.getD_cons_succ List.getD_nil List.length_cons List.length_nil List.take_succ_cons List.take_zero List.set_cons_zero List.set_cons_succ List.cons_append List.nil_append List.append_assoc List.replicate_succ List.replicate_zero Nat.zero_add Nat.add_zero decide_true decide_false Bool.true_and Bool.and_true Bool.false_and Bool.and_false Bool.true_or Bool.or_true Bool.false_or Bool.or_false beq_self_eq_true Bool.or_self Nat.lt_irrefl Nat.not_lt_zero Nat.le_refl Option.getD_some Option.getD_none BEq.rfl Bool.not_true Bool.not_false Bool.cond_true_left Bool.cond_false_right prS sndsS i64S nav_ins nav_ins0 nav_ins1 nav_ins2 nav_ins3 nav_ins4 nav_snd nav_snd0 nav_snd1 nav_snd2 isIns_insS insOf_insS isSnd_sndS sndOf_sndS isI_int isI_nat iOf rFl rCoF sIcmp pkB fldS nodupN memN inR inN
set_option linter.unusedVariables false
set_option linter.unusedSimpArgs false
set_option maxRecDepth 100000
set_option maxHeartbeats 4000000
def kcmp (t s q t' s' q' : Int) : Int × Int := if t = t' ∧ s = s' ∧ q = q' then (0, 0) else if t ≠ t' then (icmp t t', 1) else if s ≠ s' then (icmp s s', 2) else (icmp q q', 3)
theorem icmp_ne {x y : Int} (h : x ≠ y) : icmp x y ≠ 0 := by unfold icmp; repeat' split <;> omega
theorem icmp_self (x : Int) : icmp x x = 0 := by unfold icmp; simp
def cKc : FuncId → Option Spec := look2 [(78, rFl), (104, rCoF), (105, sIcmp)]
theorem cKc_ok : ∀ f S, cKc f = some S → CallOk Tryz.prog f S := allOk_spec ⟨rFl_ok, rCoF_ok, sIcmp_ok, trivial⟩
theorem kcmp_lit (t s q t' s' q' : Int) : LitOk Tryz.prog 75 [.agg [.int .i64 t, .int .i64 s, .int .i64 q], .agg [.int .i64 t', .int .i64 s', .int .i64 q']] [.gone] (.tup [.int .i64 (kcmp t s q t' s' q').1, .int .i64 (kcmp t s q t' s' q').2]) [.gone] := by
  by_cases h0 : t = t' ∧ s = s' ∧ q = q'
  · have e : kcmp t s q t' s' q' = (0, 0) := by unfold kcmp; rw [if_pos h0]
    rw [e]
    obtain ⟨rfl, rfl, rfl⟩ := h0
    refine litOkM (fn := Tryz.f75) 1 36 0 rfl rfl rfl rfl rfl (by simp only [StableL, Stable, hp, fldS_st, hp, List.getD_cons_succ, List.getD_cons_zero, HB.born, true_or, pkB, HB.stable, i64S, prS, insS, sndsS, sndS, evtsS, evtS]; simp [HB.born]) rfl fun w0 M E hro => ?_
    repeat' (first | refine Ctl.h ?_ | ((with_reducible intro hif); first | (focus (cases hif; done)) | (simp only [JH] at hif; try (exfalso; omega)) | (try (exfalso; omega))) | ((first | ((with_reducible apply J22 cKc_ok tab_ok); (· rfl)) | ((with_reducible apply J23 fol cKc_ok tab_ok); (· rfl)) | with_reducible apply J24); (· (simp only [push_cast, ↓JP, Nat.reduceAdd, Nat.reduceEqDiff, Nat.reduceLT, Nat.reduceMul, Nat.reduceLeDiff, reduceCtorEq, reduceIte, ↓JK, cKc, eq_self]; rfl)); (try kernel_rfl); (try exact Vm.b12)) | fail)
    apply At.endsRet tab_ok (fn := Tryz.f75) (rs := [.cell 4 3, .cell 5 3]) Anc.refl hro (Nat.le_of_ble_eq_true rfl) rfl
    · exact Vm.b11
    · exact Vm.b9
    · exact Vm.b6
    · rfl
    · exact Vm.b62
    · exact Vm.b10
    · exact fun β => rfl
    · exact Vm.b62
  · skip
    refine litOkM (fn := Tryz.f75) 1 36 0 rfl rfl rfl rfl rfl (by simp only [StableL, Stable, hp, fldS_st, hp, List.getD_cons_succ, List.getD_cons_zero, HB.born, true_or, pkB, HB.stable, i64S, prS, insS, sndsS, sndS, evtsS, evtS]; simp [HB.born]) rfl fun w0 M E hro => ?_
    repeat' (first | refine Ctl.h ?_ | ((with_reducible intro hif); first | (focus (cases hif; done)) | (simp only [JH] at hif; try (exfalso; omega)) | (try (exfalso; omega))) | ((first | ((with_reducible apply J22 cKc_ok tab_ok); (· rfl)) | ((with_reducible apply J23 fol cKc_ok tab_ok); (· rfl)) | with_reducible apply J24); (· exact Vm.b79); (try kernel_rfl); (try exact Vm.b12)) | fail)
    · exact absurd ⟨of_decide_eq_true hif.1, of_decide_eq_true hif.2.1, of_decide_eq_true hif.2.2⟩ h0
    with_reducible apply WF.range (fn' := Tryz.f108) 28
    · exact Vm.b58
    · exact Vm.b26
    · rfl
    · rfl
    · rfl
    · rfl
    · rfl
    · rfl
    · rfl
    intro E1 rec tmps after hE1 hrec hcf haft
    repeat' (first | refine Ctl.h ?_ | ((with_reducible intro hif); first | (focus (cases hif; done)) | (simp only [JH] at hif; try (exfalso; omega)) | (try (exfalso; omega))) | ((first | ((with_reducible apply J22 cKc_ok tab_ok); (· rfl)) | ((with_reducible apply J23 fol cKc_ok tab_ok); (· rfl)) | with_reducible apply J24); (· exact Vm.b79); (try kernel_rfl); (try exact Vm.b12)) | fail)
    refine WF.loopAt (fun (j : Nat) => j ≤ 3 ∧ (0 < j → t = t') ∧ (1 < j → s = s') ∧ (2 < j → q = q')) (fun (j : Nat) => [(0, .yl 11), (1, .ptr 9 []), (17, .sl 12 12 [] 4 0 3 none), (18, .nat .i64 3), (19, .nat .i64 j)]) (fun (j : Nat) => [.gone, .own 27 (.agg [.int .i64 t, .int .i64 s, .int .i64 q]) true, .own 27 (.agg [.int .i64 t', .int .i64 s', .int .i64 q']) true, .own 3 (.nat .i64 0) true, .own 3 (.nat .i64 0) true, pkB 2, .own 168 (.arr 3 4 (fldS 2)) false, .own 196 (.sl 6 6 [] 4 0 3 none) true, .own 3 (.nat .i64 j) true, pkB 1, .raw (.deferred (some [])), .raw (.loop (rec .ready none)), .own 168 (.arr 3 4 (fldS 1)) true]) (fun (j : Nat) => 3 - j) 0 (by omega) ?_ ?_ rfl ?_ ?_ rfl ?_
    · exact Vm.b5
    · exact Vm.b6
    · exact Vm.b62
    · exact Vm.b62
    rintro j ⟨hj, k0, k1, k2⟩
    have hj4 : j = 0 ∨ j = 1 ∨ j = 2 ∨ j = 3 := by omega
    have c0 : (icmp t t' = 0 ∧ t = t') ∨ (icmp t t' ≠ 0 ∧ kcmp t s q t' s' q' = (icmp t t', 1)) := by
      by_cases h1 : t = t'
      · exact .inl ⟨by rw [h1]; exact icmp_self _, h1⟩
      · exact .inr ⟨icmp_ne h1, by unfold kcmp; rw [if_neg h0, if_pos h1]⟩
    have c1 : t = t' → (icmp s s' = 0 ∧ s = s') ∨ (icmp s s' ≠ 0 ∧ kcmp t s q t' s' q' = (icmp s s', 2)) := fun g0 => by
      by_cases h1 : s = s'
      · exact .inl ⟨by rw [h1]; exact icmp_self _, h1⟩
      · exact .inr ⟨icmp_ne h1, by unfold kcmp; rw [if_neg h0, if_neg (fun h => h g0), if_pos h1]⟩
    have c2 : t = t' → s = s' → icmp q q' ≠ 0 ∧ kcmp t s q t' s' q' = (icmp q q', 3) := fun g0 g1 =>
      ⟨icmp_ne (fun h1 => h0 ⟨g0, g1, h1⟩), by unfold kcmp; rw [if_neg h0, if_neg (fun h => h g0), if_neg (fun h => h g1)]⟩
    rcases hj4 with rfl | rfl | rfl | rfl
    rotate_left 3
    · exact absurd ⟨k0 (by omega), k1 (by omega), k2 (by omega)⟩ h0
    rcases c0 with ⟨hz, h1⟩ | ⟨hz, e⟩
    rotate_left 2
    rcases c1 (k0 (by omega)) with ⟨hz, h1⟩ | ⟨hz, e⟩
    rotate_left 2
    obtain ⟨hz, e⟩ := c2 (k0 (by omega)) (k1 (by omega))
    all_goals
      repeat' (first | refine Ctl.h ?_ | ((with_reducible intro hif); first | (focus (cases hif; done)) | (simp only [JH] at hif; try (exfalso; omega)) | (try (exfalso; omega))) | ((first | ((with_reducible apply J22 cKc_ok tab_ok); (· rfl)) | ((with_reducible apply J23 fol cKc_ok tab_ok); (· rfl)) | with_reducible apply J24); (· exact Vm.b80); (try kernel_rfl); (try exact Vm.b12)) | fail)
      with_reducible apply WF.split 2 1
      · rfl
      with_reducible apply At.run cKc_ok tab_ok
      · rfl
      · rfl
      · rfl
      · exact Vm.b75
      · exact Vm.b60
      with_reducible apply At.yield (gr := _)
      · rfl
      · rfl
      · rfl
      · rfl
      · rfl
      · rfl
      · exact Vm.b75
      · exact Vm.b76
      · exact Vm.b75
      · exact Vm.b60
      · exact Vm.b75
      · exact Vm.b60
      · exact Vm.b76
      · exact hrec
      · exact hcf
      · rfl
      · rfl
      · rfl
      intro lb E2 next hE2 hnext
      repeat' (first | refine Ctl.h ?_ | ((with_reducible intro hif); first | (focus (cases hif; done)) | (simp only [JH] at hif; try (exfalso; omega)) | (try (exfalso; omega))) | ((first | ((with_reducible apply J22 cKc_ok tab_ok); (· rfl)) | ((with_reducible apply J23 fol cKc_ok tab_ok); (· rfl)) | with_reducible apply J24); (· exact Vm.b80); (try kernel_rfl); (try exact Vm.b12)) | fail)
      with_reducible apply At.begins hrec
      · rfl
      with_reducible refine At.code ?_
      repeat' (first | refine Ctl.h ?_ | ((with_reducible intro hif); first | (focus (cases hif; done)) | (simp only [JH] at hif; try (exfalso; omega)) | (try (exfalso; omega))) | ((first | ((with_reducible apply J22 cKc_ok tab_ok); (· rfl)) | ((with_reducible apply J23 fol cKc_ok tab_ok); (· rfl)) | with_reducible apply J24); (· exact Vm.b80); (try kernel_rfl); (try exact Vm.b12)) | fail)
      first
      | have e' := e
        with_reducible apply At.roundRet
        · exact Vm.b76
        apply hnext
        with_reducible apply At.runEnd cKc_ok tab_ok
        · rfl
        · rfl
        · rfl
        · exact Vm.b75
        · exact Vm.b60
        repeat' (first | refine Ctl.h ?_ | ((with_reducible intro hif); first | (focus (cases hif; done)) | (simp only [JH] at hif; try (exfalso; omega)) | (try (exfalso; omega))) | ((first | ((with_reducible apply J22 cKc_ok tab_ok); (· rfl)) | ((with_reducible apply J23 fol cKc_ok tab_ok); (· rfl)) | with_reducible apply J24); (· exact Vm.b80); (try kernel_rfl); (try exact Vm.b12)) | fail)
        with_reducible apply At.itRet .done
        · rfl
        · rfl
        · intro h; cases h
        apply haft
        intro w1 M1 D1 hA
        dsimp only
        repeat' (first | refine Ctl.h ?_ | ((with_reducible intro hif); first | (focus (cases hif; done)) | (simp only [JH] at hif; try (exfalso; omega)) | (try (exfalso; omega))) | ((first | ((with_reducible apply J22 cKc_ok tab_ok); (· rfl)) | ((with_reducible apply J23 fol cKc_ok tab_ok); (· rfl)) | with_reducible apply J24); (· exact Vm.b80); (try kernel_rfl); (try exact Vm.b12)) | fail)
        apply At.endsRet tab_ok (fn := Tryz.f75) (rs := [.cell 4 3, .cell 5 3]) hA hro (Nat.le_of_ble_eq_true rfl) rfl
        · exact Vm.b11
        · exact Vm.b9
        · exact Vm.b6
        · rfl
        · exact Vm.b62
        · exact Vm.b10
        · rw [e]; exact fun β => rfl
        · exact Vm.b62
      | skip
        with_reducible apply At.roundNormal
        · exact Vm.b76
        apply hnext
        with_reducible apply At.runEnd cKc_ok tab_ok
        · rfl
        · rfl
        · rfl
        · exact Vm.b75
        · exact Vm.b60
        repeat' (first | refine Ctl.h ?_ | ((with_reducible intro hif); first | (focus (cases hif; done)) | (simp only [JH] at hif; try (exfalso; omega)) | (try (exfalso; omega))) | ((first | ((with_reducible apply J22 cKc_ok tab_ok); (· rfl)) | ((with_reducible apply J23 fol cKc_ok tab_ok); (· rfl)) | with_reducible apply J24); (· exact Vm.b80); (try kernel_rfl); (try exact Vm.b12)) | fail)
        first
        | skip
          refine At.next 1 ?_ ?_ ?_ rfl ?_ ?_ rfl
          · omega
          · exact Vm.b5
          · exact Vm.b6
          · exact Vm.b62
          · exact Vm.b62
        | skip
          refine At.next 2 ?_ ?_ ?_ rfl ?_ ?_ rfl
          · omega
          · exact Vm.b5
          · exact Vm.b6
          · exact Vm.b62
          · exact Vm.b62
def sKCmp : Spec := fun args h m => match args with
  | [.agg [v1, v2, v3], .agg [v4, v5, v6]] => bif isI .i64 v1 && isI .i64 v2 && isI .i64 v3 && isI .i64 v4 && isI .i64 v5 && isI .i64 v6 then some (True, .tup [.int .i64 (kcmp (iOf v1) (iOf v2) (iOf v3) (iOf v4) (iOf v5) (iOf v6)).1, .int .i64 (kcmp (iOf v1) (iOf v2) (iOf v3) (iOf v4) (iOf v5) (iOf v6)).2], [], []) else none
  | _ => none
theorem sKCmp_ok : CallOk Tryz.prog 75 sKCmp := by
  refine ⟨named_spec (by kernel_rfl), fun args h m c v rd wr hs hm hc w0 M β h' w R hrd hwr hst => ?_⟩
  unfold sKCmp at hs
  split at hs
  · rename_i v1 v2 v3 v4 v5 v6
    obtain ⟨hb, hs⟩ := bif_some hs
    simp only [Option.some.injEq, Prod.mk.injEq] at hs
    obtain ⟨rfl, rfl, rfl, rfl⟩ := hs
    simp only [Bool.and_eq_true] at hb
    obtain ⟨⟨⟨⟨⟨b1, b2⟩, b3⟩, b4⟩, b5⟩, b6⟩ := hb
    refine callRo (views := []) (kcmp_lit (iOf v1) (iOf v2) (iOf v3) (iOf v4) (iOf v5) (iOf v6)) ?_ R hm hwr ?_ ?_ ?_
    · intro x hx; cases hx
    · intro β1 hv
      simp only [denL, aggDen, intDen, natDen, boolDen, ls_length, isI_den b1, isI_den b2, isI_den b3, isI_den b4, isI_den b5, isI_den b6]
    · exact Vm.b62
    · exact Vm.b62
  · cases hs
end Go.Proofs.YtjliakjbdcplcaaGreat.Vm
end

section
namespace Go.Proofs.YtjliakjbdcplcaaGreat
open  Go.RowKit
set_option linter.unusedVariables false
set_option linter.unusedSimpArgs false
theorem infoInt : (Tryz.prog.info? 3).map (fun i => (i.zero, i.size, i.bytes)) = some (some (.int .i64 0), 1, 8) := by kernel_rfl
set_option maxRecDepth 100000 in
set_option maxHeartbeats 1000000 in
theorem cloneInt_some (ad : Addr) (n c : Nat) (xs : List Value) (w : World) (h : Reads w w.heap.size 1 (some ad) n xs) (h1 : ∀ u ∈ xs, u.oneCell' = true) (hn : n * 8 ≤ 140737488355328) (hm : n ≤ maxLen) :
    Calls Tryz.prog 54 #[.slice (some ad) n c] w fun e w' => ∃ v, e = .returned v ∧ w'.ownsRow w.heap.size 3 1 v (0 + n) ([] ++ xs) ∧ Below w.heap.size w w' := by
  obtain ⟨i0, hi, hz0, hz1, hz2⟩ := info_parts infoInt
  have hr := (h.alloc (Nat.le_refl _) (.cells #[] 3))
  have H1 := Lib.hid h1
  have HN := Lib.hid hn
  have HM := Lib.hid hm
  have HR := Lib.hid hr
  clear h h1 hn hm hr
  have kn := fun (w : World) (a : Option Addr) (n c : Nat) => eql_nil (P := Tryz.prog) w 33 3 a n c Tryz.underlying33
  go_enter Tryz.func54, Tryz.ntmps54
  go_wp2_with (at_builtin
               refine wpList_append_any _ rfl (.tmp 5) (.tmp 6) _ rfl w.heap.size 3 i0 _ 1 8 Tryz.underlying33 hi hz0 hz1 hz2 rfl (by omega) (.slice (some ⟨w.heap.size, 0, none⟩) 0 0) 0 [] rfl
                 (World.ownsRow_made w #[] 0 (Nat.le_refl _) (Nat.zero_le _) rfl) w.heap.size (some ad) n c xs rfl HR.out H1.out (by have := HM.out; omega) (by have := HN.out; omega) (by simp) ?_
               intro v1 w1 hown1 hg1 hat1)
  go_ret
  refine ⟨v1, rfl, hown1, ((Below.refl _ w).alloc (Nat.le_refl _) _).grown hg1 (by simp) (fun k hk => ?_)⟩
  rcases hat1 with e | e <;> simp [Value.ownBlock] at hk <;> omega
theorem cloneInt_nil (n c : Nat) (w : World) :
    Calls Tryz.prog 54 #[.slice none n c] w fun e w' => e = .returned (.slice none 0 0) ∧ w = w' := by
  have kn := fun (w : World) (a : Option Addr) (n c : Nat) => eql_nil (P := Tryz.prog) w 33 3 a n c Tryz.underlying33
  go_enter Tryz.func54, Tryz.ntmps54
  go_wp2
  go_ret
  exact ⟨rfl, rfl⟩
theorem cloneInt_c (A : Option Addr) (n c : Nat) (xs : List Value) (w : World) (h : Reads w w.heap.size 1 A n xs) (h1 : ∀ u ∈ xs, u.oneCell' = true) (hn : n * 8 ≤ 140737488355328) :
    Calls Tryz.prog 54 #[.slice A n c] w fun e w' => ∃ v, e = .returned v ∧ w'.ownsRow w.heap.size 3 1 v n xs ∧ Below w.heap.size w w' := by
  cases A with
  | none =>
    have hn0 : n = 0 := by
      rcases Nat.eq_zero_or_pos n with h0 | h0
      · exact h0
      · obtain ⟨ad, e, _⟩ := h.2 h0
        cases e
    subst hn0
    have hx : xs = [] := List.eq_nil_of_length_eq_zero (by simpa using h.1)
    subst hx
    refine (cloneInt_nil 0 c w).mono ?_
    rintro e w' ⟨rfl, rfl⟩
    exact ⟨_, rfl, World.ownsRow_nil _ _ _ _, Below.refl _ _⟩
  | some ad =>
    have hm : n ≤ maxLen := by unfold maxLen; omega
    refine (cloneInt_some ad n c xs w h h1 hn hm).mono ?_
    rintro e w' ⟨v, rfl, ho, hb⟩
    exact ⟨v, rfl, by simpa using ho, hb⟩

namespace Vm
open Go.RowKit
attribute [local push_cast] runR opG gtmp gval gus opX tmpsOf tm tmO tmP restr look look2 tab tys zs ets eqB eqBL allB numOf ieq Int.cast_ofNat_Int Int.ofNat_zero beq_true beq_false frameOf ev evL ofV opV loadV noW pushF wrsL setH allBorn allGone HB.born HB.isGone HB.val SV.plain dstOk hp nav fitsT SV.size sizeL SV.isAgg TK.size TK.agg bin binE binN binI arN arI cmpN cmpI keq kn narrow callV storeV setp fillV buildV buildSliceV makeV sliceV appendV appendFV slice3V copyV List.isEmpty_nil srcV evO asN ite_t ite_f ite_bool ite_int ite_nat maxV v_beq v_ble v_blt cond_true cond_false List.getElem?_cons_zero List.getElem?_cons_succ List.getD_cons_zero List.getD_cons_succ List.getD_nil List.length_cons List.length_nil List.take_succ_cons List.take_zero List.set_cons_zero List.set_cons_succ List.cons_append List.nil_append List.append_assoc List.replicate_succ List.replicate_zero Nat.zero_add Nat.add_zero decide_true decide_false Bool.true_and Bool.and_true Bool.false_and Bool.and_false Bool.true_or Bool.or_true Bool.false_or Bool.or_false beq_self_eq_true Bool.or_self Nat.lt_irrefl Nat.not_lt_zero Nat.le_refl Option.getD_some Option.getD_none BEq.rfl Bool.not_true Bool.not_false Bool.cond_true_left Bool.cond_false_right
set_option maxRecDepth 100000
set_option maxHeartbeats 4000000
def sClN : Spec := fun args h m => match args with
  | [v] => match srcV h 1 (.tup []) v with
    | some (c, n, f, rd) => some (c ∧ (∀ q, q < n → isI .i64 (f q) = true) ∧ n ≤ 1000000, .sl m m [] 1 0 n none, rd, [(m, .own 3 (.arr n 1 (i64S (ls iOf n f))) false)])
    | _ => none
  | _ => none
theorem sClN_ok : CallOk Tryz.prog 54 sClN := by
  refine ⟨named_spec (by kernel_rfl), fun args h m c v rd wr hs hm hc w0 M β h' w R hrd hwr hst => ?_⟩
  unfold sClN at hs
  split at hs
  · rename_i v0
    split at hs
    · rename_i c' n f rd' ha
      simp only [Option.some.injEq, Prod.mk.injEq] at hs
      obtain ⟨rfl, rfl, rfl, rfl⟩ := hs
      obtain ⟨hc1, hi, hn⟩ := hc
      obtain ⟨A, cap, hden, hnc, hr⟩ := reads_src R ha hc1 hrd (by omega)
      simp only [denL, hden]
      refine (cloneInt_c A n cap _ w hr (fun u hu => elems_sane u hu) (by omega)).mono fun e w' he => ?_
      obtain ⟨p, rfl, ho, hb⟩ := he
      have hmd : h' m = .dead := (hwr _ (.head _)).trans (hm m (Nat.le_refl _))
      obtain ⟨e', R', hv⟩ := (R.below hb).made (f := i64S (ls iOf n f)) hmd ho R.size (by
          rw [elems_i64 hi]
          have := elems_i64S (β := β) (ls iOf n f)
          rwa [ls_length] at this) i64S_stable (fun g i a' hg hmi hai e => by
        have := R.lt i a' hmi hai
        obtain ⟨_, ⟨rfl, _⟩ | ⟨g', cap', cur, rfl, hg', _⟩⟩ := ho
        · cases hg
        · simp [Value.ownBlock] at hg
          omega)
      exact ⟨_, agree_setE hmd, R', stable_new, by rw [hv]⟩
    · cases hs
  · cases hs
theorem evt_ext {a b : Evt} (h1 : a.time = b.time) (h2 : a.source = b.source) (h3 : a.seq = b.seq) (h4 : a.to_ = b.to_) (h5 : a.value = b.value) : a = b := by cases a; cases b; simp_all
theorem eqEvt_lit (xs ys : List Evt) (p1 p2 : Nat) (hx : xs.length ≤ 281474976710656) : LitOk Tryz.prog 60 [.sl 1 2 [] 5 0 xs.length (some p1), .sl 3 4 [] 5 0 ys.length (some p2)] [.gone, .gone, .ro (.arr xs.length 5 (evtsS xs)), .gone, .ro (.arr ys.length 5 (evtsS ys))] (.bool (eqL xs ys)) [.gone] := by
  refine litOkM (fn := Tryz.f60) 5 26 0 rfl rfl rfl rfl rfl (by simp only [StableL, Stable, hp]; simp [HB.born]) rfl fun w0 M E hro => ?_
  repeat' (first | refine Ctl.h ?_ | ((with_reducible intro hif); first | (focus (cases hif; done)) | (simp only [JH] at hif; try (exfalso; omega)) | (try (exfalso; omega))) | ((first | ((with_reducible apply J22 c1_ok tab_ok); (· rfl)) | ((with_reducible apply J23 fol c1_ok tab_ok); (· rfl)) | with_reducible apply J24); (· exact Vm.b13); (try kernel_rfl); (try exact Vm.b12)) | fail)
  · have hne : xs ≠ ys := fun e => hif (by rw [e])
    apply At.endsRet tab_ok (fn := Tryz.f60) (rs := [.tmp 4]) Anc.refl hro (Nat.le_of_ble_eq_true rfl) rfl
    · exact Vm.b8
    · exact Vm.b9
    · exact Vm.b6
    · rfl
    · exact Vm.b28
    · exact Vm.b10
    · rw [eqL_false hne]; exact fun β => rfl
    · exact Vm.b28
  · refine WF.loopAt (fun j => j ≤ xs.length ∧ ∀ q, q < j → xs.getD q ⟨0, 0, 0, 0, 0⟩ = ys.getD q ⟨0, 0, 0, 0, 0⟩) (fun j => [(0, .sl 1 2 [] 5 0 xs.length (some p1)), (1, .sl 3 4 [] 5 0 ys.length (some p2)), (12, .nat .i64 xs.length), (13, .nat .i64 j)]) (fun j => [.gone, .gone, .ro (.arr xs.length 5 (evtsS xs)), .gone, .ro (.arr ys.length 5 (evtsS ys))]) (fun j => xs.length - j) 0 ⟨Nat.zero_le _, fun q hq => absurd hq (Nat.not_lt_zero q)⟩ ?_ ?_ rfl ?_ ?_ rfl ?_
    · exact Vm.b5
    · exact Vm.b6
    · exact Vm.b28
    · exact Vm.b28
    have hlen := hif
    rintro j ⟨hj, heq⟩
    repeat' (first | refine Ctl.h ?_ | ((with_reducible intro hif); first | (focus (cases hif; done)) | (simp only [JH] at hif; try (exfalso; omega)) | (try (exfalso; omega))) | ((first | ((with_reducible apply J22 c1_ok tab_ok); (· rfl)) | ((with_reducible apply J23 fol c1_ok tab_ok); (· rfl)) | with_reducible apply J24); (· (simp only [push_cast, ↓JP, Nat.reduceAdd, Nat.reduceEqDiff, Nat.reduceLT, Nat.reduceMul, Nat.reduceLeDiff, reduceCtorEq, reduceIte, evtsS, evtS, inN]; rfl)); (try kernel_rfl); (try exact Vm.b81)) | fail)
    · have hne : xs ≠ ys := by rintro rfl; simp at hif
      apply At.endsRet tab_ok (fn := Tryz.f60) (rs := [.tmp 4]) Anc.refl hro (Nat.le_of_ble_eq_true rfl) rfl
      · exact Vm.b8
      · exact Vm.b9
      · exact Vm.b6
      · rfl
      · exact Vm.b28
      · exact Vm.b10
      · rw [eqL_false hne]; exact fun β => rfl
      · exact Vm.b28
    · have hq : xs.getD j ⟨0, 0, 0, 0, 0⟩ = ys.getD j ⟨0, 0, 0, 0, 0⟩ := evt_ext (of_decide_eq_true hif.1.1) (of_decide_eq_true hif.1.2.1) (of_decide_eq_true hif.1.2.2) (of_decide_eq_true hif.2.1) (of_decide_eq_true hif.2.2)
      refine At.next (j + 1) ?_ ?_ ?_ rfl ?_ ?_ rfl
      · exact Vm.b77
      · exact Vm.b5
      · exact Vm.b6
      · exact Vm.b28
      · exact Vm.b28
    · have hjn : j = xs.length := by omega
      subst hjn
      have he : xs = ys := ext_getD ⟨0, 0, 0, 0, 0⟩ hlen heq
      apply At.endsRet tab_ok (fn := Tryz.f60) (rs := [.tmp 4]) Anc.refl hro (Nat.le_of_ble_eq_true rfl) rfl
      · exact Vm.b8
      · exact Vm.b9
      · exact Vm.b6
      · rfl
      · exact Vm.b28
      · exact Vm.b10
      · rw [eqL_true he]; exact fun β => rfl
      · exact Vm.b28
def sEqEvt : Spec := fun args h m => match args with
  | [v1, v2] => match srcV h 5 (.tup []) v1, srcV h 5 (.tup []) v2 with
    | some (c1, n1, f1, r1), some (c2, n2, f2, r2) => some (c1 ∧ c2 ∧ (∀ q, q < n1 → isEvt (f1 q) = true) ∧ (∀ q, q < n2 → isEvt (f2 q) = true) ∧ ((ls evtOf n1 f1).length ≤ 281474976710656), .bool (eqL (ls evtOf n1 f1) (ls evtOf n2 f2)), r1 ++ r2, [])
    | _, _ => none
  | _ => none
theorem sEqEvt_ok : CallOk Tryz.prog 60 sEqEvt := by
  refine ⟨named_spec (by kernel_rfl), fun args h m c v rd wr hs hm hc w0 M β h' w R hrd hwr hst => ?_⟩
  unfold sEqEvt at hs
  split at hs
  · rename_i v1 v2
    split at hs
    · rename_i c1 n1 f1 r1 c2 n2 f2 r2 a1 a2
      simp only [Option.some.injEq, Prod.mk.injEq] at hs
      obtain ⟨rfl, rfl, rfl, rfl⟩ := hs
      obtain ⟨k1, k2, g1, g2, y1⟩ := hc
      obtain ⟨A1, p1, d1, e1, t1⟩ := reads_src R a1 k1 (fun i hi => hrd i (List.mem_append_left _ hi)) (by omega)
      obtain ⟨A2, p2, d2, e2, t2⟩ := reads_src R a2 k2 (fun i hi => hrd i (List.mem_append_right _ hi)) (by omega)
      refine callRo (views := [⟨5, (ls evtOf n1 f1).length, evtsS (ls evtOf n1 f1), A1, p1⟩, ⟨5, (ls evtOf n2 f2).length, evtsS (ls evtOf n2 f2), A2, p2⟩]) (eqEvt_lit (ls evtOf n1 f1) (ls evtOf n2 f2) p1 p2 y1) ?_ R hm hwr ?_ ?_ ?_
      · intro x hx
        simp only [List.mem_cons, List.not_mem_nil, or_false] at hx
        rcases hx with rfl | rfl
        · exact viewEvt t1 e1 g1
        · exact viewEvt t2 e2 g2
      · intro β1 hv
        simp only [Vd, ls_length, and_true] at hv
        obtain ⟨z1, z2⟩ := hv
        simp only [denL, aggDen, intDen, natDen, boolDen, ls_length, z1, z2, d1, d2]
      · exact Vm.b28
      · exact Vm.b28
    · cases hs
  · cases hs
end Vm
end Go.Proofs.YtjliakjbdcplcaaGreat
end

section
open Go.Proofs.YtjliakjbdcplcaaGreat.Vm Go.RowKit
attribute [local push_cast] runR opG gtmp gval gus opX tmpsOf tm tmO tmP restr look look2 tab tys zs ets eqB eqBL allB numOf ieq Int.cast_ofNat_Int Int.ofNat_zero beq_true beq_false frameOf ev evL ofV opV loadV noW pushF wrsL setH allBorn allGone HB.born HB.isGone HB.val SV.plain dstOk hp nav fitsT SV.size sizeL SV.isAgg TK.size TK.agg bin binE binN binI arN arI cmpN cmpI keq kn narrow callV storeV setp fillV buildV buildSliceV makeV sliceV appendV appendFV slice3V copyV List.isEmpty_nil srcV evO asN ite_t ite_f ite_bool ite_int ite_nat maxV v_beq v_ble v_blt cond_true cond_false List.getElem?_cons_zero List.getElem?_cons_succ List.getD_cons_zero List.getD_cons_succ List.getD_nil List.length_cons List.length_nil List.take_succ_cons List.take_zero List.set_cons_zero List.set_cons_succ List.cons_append List.nil_append List.append_assoc List.replicate_succ List.replicate_zero Nat.zero_add Nat.add_zero decide_true decide_false Bool.true_and Bool.and_true Bool.false_and Bool.and_false Bool.true_or Bool.or_true Bool.false_or Bool.or_false beq_self_eq_true Bool.or_self Nat.lt_irrefl Nat.not_lt_zero Nat.le_refl Option.getD_some Option.getD_none BEq.rfl Bool.not_true Bool.not_false Bool.cond_true_left Bool.cond_false_right prS sndsS i64S nav_ins nav_ins0 nav_ins1 nav_ins2 nav_ins3 nav_ins4 nav_snd nav_snd0 nav_snd1 nav_snd2 isIns_insS insOf_insS isSnd_sndS sndOf_sndS isI_int isI_nat iOf
section
namespace Go.Proofs.YtjliakjbdcplcaaGreat.Vm
open Go.RowKit
set_option linter.unusedVariables false
set_option linter.unusedSimpArgs false
set_option maxRecDepth 100000
set_option maxHeartbeats 4000000
theorem rs14_lit (xs ys : List Ins) (p1 p2 : Nat) (hx : xs.length ≤ 281474976710656) : LitOk Tryz.prog 95 [.sl 1 2 [] 5 0 xs.length (some p1), .sl 3 4 [] 5 0 ys.length (some p2)] [.gone, .gone, .ro (.arr xs.length 5 (prS xs)), .gone, .ro (.arr ys.length 5 (prS ys))] (.bool (eqL xs ys)) [.gone] := by
  refine litOkM (fn := Tryz.f95) 5 26 0 rfl rfl rfl rfl rfl (by simp only [StableL, Stable, hp, i64S, prS, insS, sndsS, sndS]; simp [HB.born]) rfl fun w0 M E hro => ?_
  repeat' (first | refine Ctl.h ?_ | ((with_reducible intro hif); first | (focus (cases hif; done)) | (simp only [JH] at hif; try (exfalso; omega)) | (try (exfalso; omega))) | ((first | ((with_reducible apply J22 c1_ok tab_ok); (· rfl)) | ((with_reducible apply J23 fol c1_ok tab_ok); (· rfl)) | with_reducible apply J24); (· exact Vm.b18); (try kernel_rfl); (try exact Vm.b12)) | fail)
  · have hne : xs ≠ ys := fun e => hif (by rw [e])
    apply At.endsRet tab_ok (fn := Tryz.f95) (rs := [.tmp 4]) Anc.refl hro (Nat.le_of_ble_eq_true rfl) rfl
    · exact Vm.b11
    · exact Vm.b9
    · exact Vm.b6
    · rfl
    · exact Vm.b7
    · exact Vm.b10
    · rw [eqL_false hne]; exact fun β => rfl
    · exact Vm.b7
  · refine WF.loopAt (fun j => j ≤ xs.length ∧ ∀ q, q < j → xs.getD q ⟨0, 0, 0, 0, 0⟩ = ys.getD q ⟨0, 0, 0, 0, 0⟩) (fun j => [(0, .sl 1 2 [] 5 0 xs.length (some p1)), (1, .sl 3 4 [] 5 0 ys.length (some p2)), (5, .nat .i64 j)]) (fun j => [.gone, .gone, .ro (.arr xs.length 5 (prS xs)), .gone, .ro (.arr ys.length 5 (prS ys))]) (fun j => xs.length - j) 0 ⟨Nat.zero_le _, fun q hq => absurd hq (Nat.not_lt_zero q)⟩ ?_ ?_ rfl ?_ ?_ rfl ?_
    · exact Vm.b5
    · exact Vm.b6
    · exact Vm.b7
    · exact Vm.b7
    have hlen := hif
    rintro j ⟨hj, heq⟩
    by_cases hjl : j < xs.length
    · by_cases hq : xs.getD j ⟨0, 0, 0, 0, 0⟩ = ys.getD j ⟨0, 0, 0, 0, 0⟩
      · repeat' (first | refine Ctl.h ?_ | ((with_reducible intro hif); first | (focus (cases hif; done)) | (simp only [JH] at hif; try (exfalso; omega)) | (try (exfalso; omega))) | ((first | ((with_reducible apply J22 c1_ok tab_ok); (· rfl)) | ((with_reducible apply J23 fol c1_ok tab_ok); (· rfl)) | with_reducible apply J24); (· (simp only [push_cast, ↓JP, Nat.reduceAdd, Nat.reduceEqDiff, Nat.reduceLT, Nat.reduceMul, Nat.reduceLeDiff, reduceCtorEq, reduceIte, ↓JK, prS, insS, inN, hjl, hq, eq_self]; rfl)); (try kernel_rfl); (try exact Vm.b81)) | fail)
        refine At.next (j + 1) ?_ ?_ ?_ rfl ?_ ?_ rfl
        · exact Vm.b77
        · exact Vm.b5
        · exact Vm.b6
        · exact Vm.b7
        · exact Vm.b7
      · have hne : xs ≠ ys := by rintro rfl; exact hq rfl
        repeat' (first | refine Ctl.h ?_ | ((with_reducible intro hif); first | (focus (cases hif; done)) | (simp only [JH] at hif; try (exfalso; omega)) | (try (exfalso; omega))) | ((first | ((with_reducible apply J22 c1_ok tab_ok); (· rfl)) | ((with_reducible apply J23 fol c1_ok tab_ok); (· rfl)) | with_reducible apply J24); (· (simp only [push_cast, ↓JP, Nat.reduceAdd, Nat.reduceEqDiff, Nat.reduceLT, Nat.reduceMul, Nat.reduceLeDiff, reduceCtorEq, reduceIte, ↓JK, prS, insS, inN, hjl]; rfl)); (try kernel_rfl); (try exact Vm.b81)) | fail)
        · apply At.endsRet tab_ok (fn := Tryz.f95) (rs := [.tmp 4]) Anc.refl hro (Nat.le_of_ble_eq_true rfl) rfl
          · exact Vm.b11
          · exact Vm.b9
          · exact Vm.b6
          · rfl
          · exact Vm.b7
          · exact Vm.b10
          · rw [eqL_false hne]; exact fun β => rfl
          · exact Vm.b7
        · exact absurd (ins_ext (of_decide_eq_true hif.1) (of_decide_eq_true hif.2.1) (of_decide_eq_true hif.2.2.1) (of_decide_eq_true hif.2.2.2.1) (of_decide_eq_true hif.2.2.2.2)) hq
    · have hjn : j = xs.length := by omega
      have he : xs = ys := ext_getD ⟨0, 0, 0, 0, 0⟩ hlen (by rw [← hjn]; exact heq)
      repeat' (first | refine Ctl.h ?_ | ((with_reducible intro hif); first | (focus (cases hif; done)) | (simp only [JH] at hif; try (exfalso; omega)) | (try (exfalso; omega))) | ((first | ((with_reducible apply J22 c1_ok tab_ok); (· rfl)) | ((with_reducible apply J23 fol c1_ok tab_ok); (· rfl)) | with_reducible apply J24); (· (simp only [push_cast, ↓JP, Nat.reduceAdd, Nat.reduceEqDiff, Nat.reduceLT, Nat.reduceMul, Nat.reduceLeDiff, reduceCtorEq, reduceIte, ↓JK, hjl]; rfl)); (try kernel_rfl); (try exact Vm.b12)) | fail)
      apply At.endsRet tab_ok (fn := Tryz.f95) (rs := [.tmp 4]) Anc.refl hro (Nat.le_of_ble_eq_true rfl) rfl
      · exact Vm.b11
      · exact Vm.b9
      · exact Vm.b6
      · rfl
      · exact Vm.b7
      · exact Vm.b10
      · rw [eqL_true he]; exact fun β => rfl
      · exact Vm.b7
def sRS14 : Spec := fun args h m => match args with
  | [v1, v2] => match srcV h 5 (.tup []) v1, srcV h 5 (.tup []) v2 with
    | some (c1, n1, f1, r1), some (c2, n2, f2, r2) => some (c1 ∧ c2 ∧ (∀ q, q < n1 → isIns (f1 q) = true) ∧ (∀ q, q < n2 → isIns (f2 q) = true) ∧ ((ls insOf n1 f1).length ≤ 281474976710656), .bool (eqL (ls insOf n1 f1) (ls insOf n2 f2)), r1 ++ r2, [])
    | _, _ => none
  | _ => none
theorem sRS14_ok : CallOk Tryz.prog 95 sRS14 := by
  refine ⟨named_spec (by kernel_rfl), fun args h m c v rd wr hs hm hc w0 M β h' w R hrd hwr hst => ?_⟩
  unfold sRS14 at hs
  split at hs
  · rename_i v1 v2
    split at hs
    · rename_i c1 n1 f1 r1 c2 n2 f2 r2 a1 a2
      simp only [Option.some.injEq, Prod.mk.injEq] at hs
      obtain ⟨rfl, rfl, rfl, rfl⟩ := hs
      obtain ⟨k1, k2, g1, g2, y1⟩ := hc
      obtain ⟨A1, p1, d1, e1, t1⟩ := reads_src R a1 k1 (fun i hi => hrd i (List.mem_append_left _ hi)) (by omega)
      obtain ⟨A2, p2, d2, e2, t2⟩ := reads_src R a2 k2 (fun i hi => hrd i (List.mem_append_right _ hi)) (by omega)
      refine callRo (views := [⟨5, (ls insOf n1 f1).length, prS (ls insOf n1 f1), A1, p1⟩, ⟨5, (ls insOf n2 f2).length, prS (ls insOf n2 f2), A2, p2⟩]) (rs14_lit (ls insOf n1 f1) (ls insOf n2 f2) p1 p2 y1) ?_ R hm hwr ?_ ?_ ?_
      · intro x hx
        simp only [List.mem_cons, List.not_mem_nil, or_false] at hx
        rcases hx with rfl | rfl
        · exact viewIns t1 e1 g1
        · exact viewIns t2 e2 g2
      · intro β1 hv
        simp only [Vd, ls_length, and_true] at hv
        obtain ⟨z1, z2⟩ := hv
        simp only [denL, aggDen, intDen, natDen, boolDen, ls_length, z1, z2, d1, d2]
      · exact Vm.b7
      · exact Vm.b7
    · cases hs
  · cases hs
theorem rproc_lit (x : Int) : LitOk Tryz.prog 124 [.int .i64 x] [.gone] (.bool (isB x)) [.gone] := by
  by_cases h1 : 1 ≤ x <;> by_cases h2 : x ≤ 16
  all_goals
    refine litOkM (fn := Tryz.f124) 1 9 0 rfl rfl rfl rfl rfl (by simp only [StableL, Stable, hp, i64S, prS, insS, sndsS, sndS]; simp [HB.born]) rfl fun w0 M E hro => ?_
    repeat' (first | refine Ctl.h ?_ | ((with_reducible intro hif); first | (focus (cases hif; done)) | (simp only [JH] at hif; try (exfalso; omega)) | (try (exfalso; omega))) | ((first | ((with_reducible apply J22 c1_ok tab_ok); (· rfl)) | ((with_reducible apply J23 fol c1_ok tab_ok); (· rfl)) | with_reducible apply J24); (· (simp only [push_cast, ↓JP, Nat.reduceAdd, Nat.reduceEqDiff, Nat.reduceLT, Nat.reduceMul, Nat.reduceLeDiff, reduceCtorEq, reduceIte, ↓JK, h1, h2]; rfl)); (try kernel_rfl); (try exact Vm.b12)) | fail)
    apply At.endsRet tab_ok (fn := Tryz.f124) (rs := [.tmp 2]) Anc.refl hro (Nat.le_of_ble_eq_true rfl) rfl
    · exact Vm.b11
    · exact Vm.b9
    · exact Vm.b6
    · rfl
    · exact Vm.b7
    · exact Vm.b10
    · intro β; simp [resS, SV.den, isB, h1, h2]
    · exact Vm.b7
def sRPr : Spec := fun args h m => match args with
  | [v1] => bif isI .i64 v1 then some (True, .bool (isB (iOf v1)), [], []) else none
  | _ => none
theorem sRPr_ok : CallOk Tryz.prog 124 sRPr := by
  refine ⟨named_spec (by kernel_rfl), fun args h m c v rd wr hs hm hc w0 M β h' w R hrd hwr hst => ?_⟩
  unfold sRPr at hs
  split at hs
  · rename_i v1
    obtain ⟨hb, hs⟩ := bif_some hs
    simp only [Option.some.injEq, Prod.mk.injEq] at hs
    obtain ⟨rfl, rfl, rfl, rfl⟩ := hs
    have b1 := hb
    refine callRo (views := []) (rproc_lit (iOf v1)) ?_ R hm hwr ?_ ?_ ?_
    · intro x hx; cases hx
    · intro β1 hv
      simp only [denL, aggDen, intDen, natDen, boolDen, ls_length, isI_den b1]
    · exact Vm.b7
    · exact Vm.b7
  · cases hs
def cRRt : FuncId → Option Spec := look2 [(85, sRCheck), (124, sRPr)]
theorem cRRt_ok : ∀ f S, cRRt f = some S → CallOk Tryz.prog f S := allOk_spec ⟨sRCheck_ok, sRPr_ok, trivial⟩
theorem rright_cases (id : Int) (P : List Ins) (cells : List Int) (draws seq : Int) (ports : List Int) : (¬ (checkI P).2 = 0) ∨ ((checkI P).2 = 0 ∧ isB id = false) ∨ ((checkI P).2 = 0 ∧ isB id = true ∧ 1024 < cells.length) ∨ ((checkI P).2 = 0 ∧ isB id = true ∧ ¬ 1024 < cells.length ∧ draws < 0) ∨ ((checkI P).2 = 0 ∧ isB id = true ∧ ¬ 1024 < cells.length ∧ ¬ draws < 0 ∧ 1099511627776 < draws) ∨ ((checkI P).2 = 0 ∧ isB id = true ∧ ¬ 1024 < cells.length ∧ ¬ draws < 0 ∧ ¬ 1099511627776 < draws ∧ seq < 0) ∨ ((checkI P).2 = 0 ∧ isB id = true ∧ ¬ 1024 < cells.length ∧ ¬ draws < 0 ∧ ¬ 1099511627776 < draws ∧ ¬ seq < 0 ∧ 4294967296 < seq) ∨ ((checkI P).2 = 0 ∧ isB id = true ∧ ¬ 1024 < cells.length ∧ ¬ draws < 0 ∧ ¬ 1099511627776 < draws ∧ ¬ seq < 0 ∧ ¬ 4294967296 < seq ∧ 16 < ports.length) ∨ ((checkI P).2 = 0 ∧ isB id = true ∧ ¬ 1024 < cells.length ∧ ¬ draws < 0 ∧ ¬ 1099511627776 < draws ∧ ¬ seq < 0 ∧ ¬ 4294967296 < seq ∧ ¬ 16 < ports.length) := by
  by_cases q0 : (checkI P).2 = 0
  rotate_left
  · exact .inl q0
  by_cases q1 : isB id = true
  rotate_left
  · exact .inr (.inl ⟨q0, Bool.eq_false_iff.2 q1⟩)
  by_cases q2 : ¬ 1024 < cells.length
  rotate_left
  · exact .inr (.inr (.inl ⟨q0, q1, Decidable.not_not.1 q2⟩))
  by_cases q3 : ¬ draws < 0
  rotate_left
  · exact .inr (.inr (.inr (.inl ⟨q0, q1, q2, Decidable.not_not.1 q3⟩)))
  by_cases q4 : ¬ 1099511627776 < draws
  rotate_left
  · exact .inr (.inr (.inr (.inr (.inl ⟨q0, q1, q2, q3, Decidable.not_not.1 q4⟩))))
  by_cases q5 : ¬ seq < 0
  rotate_left
  · exact .inr (.inr (.inr (.inr (.inr (.inl ⟨q0, q1, q2, q3, q4, Decidable.not_not.1 q5⟩)))))
  by_cases q6 : ¬ 4294967296 < seq
  rotate_left
  · exact .inr (.inr (.inr (.inr (.inr (.inr (.inl ⟨q0, q1, q2, q3, q4, q5, Decidable.not_not.1 q6⟩))))))
  by_cases q7 : ¬ 16 < ports.length
  rotate_left
  · exact .inr (.inr (.inr (.inr (.inr (.inr (.inr (.inl ⟨q0, q1, q2, q3, q4, q5, q6, Decidable.not_not.1 q7⟩)))))))
  exact .inr (.inr (.inr (.inr (.inr (.inr (.inr (.inr (⟨q0, q1, q2, q3, q4, q5, q6, q7⟩))))))))
theorem r28r_lit (p : Prc) (p1 p2 p3 : Nat) (hok : ∀ x ∈ p.P, x.ok) : LitOk Tryz.prog 94 [.agg [.int .i64 p.id, .sl 1 2 [] 5 0 p.P.length (some p1), .sl 3 4 [] 1 0 p.cells.length (some p2), .int .i64 p.draws, .int .i64 p.seq, .sl 5 6 [] 1 0 p.ports.length (some p3)]]
    [.gone, .gone, .ro (.arr p.P.length 5 (prS p.P)), .gone, .ro (.arr p.cells.length 1 (i64S p.cells)), .gone, .ro (.arr p.ports.length 1 (i64S p.ports))] (.bool p.rightB) [.gone] := by
  obtain ⟨id, P, cells, draws, seq, ports⟩ := p
  dsimp only at hok ⊢
  rcases rright_cases id P cells draws seq ports with hc | hc | hc | hc | hc | hc | hc | hc | hc
  rotate_right 1
  · have e : (⟨id, P, cells, draws, seq, ports⟩ : Prc).rightB = !ports.any noPort := by
      obtain ⟨c1, c2, c3, c4, c5, c6, c7, c8⟩ := hc
      cases h : ports.any noPort
      · exact rightB_iff.2 ⟨c1, of_decide_eq_true c2, by dsimp only; omega, by dsimp only; omega, by dsimp only; omega, by dsimp only; omega, by dsimp only; omega, by dsimp only; omega, h⟩
      · cases g : (⟨id, P, cells, draws, seq, ports⟩ : Prc).rightB
        · rfl
        · have := (rightB_iff.1 g).2.2.2.2.2.2.2.2
          dsimp only at this
          rw [h] at this; cases this
    rw [e]
    refine litOkM (fn := Tryz.f94) 7 74 0 rfl rfl rfl rfl rfl (by simp only [StableL, Stable, hp, i64S, prS, insS, sndsS, sndS]; simp [HB.born]) rfl fun w0 M E hro => ?_
    repeat' (first | refine Ctl.h ?_ | ((with_reducible intro hif); first | (focus (cases hif; done)) | (simp only [JH] at hif; try (exfalso; omega)) | (try (exfalso; omega))) | ((first | ((with_reducible apply J22 cRRt_ok tab_ok); (· rfl)) | ((with_reducible apply J23 fol cRRt_ok tab_ok); (· rfl)) | with_reducible apply J24); (· exact Vm.b83); (try kernel_rfl); (try exact Vm.b82)) | fail)
    refine WF.loopAt (fun j => j ≤ ports.length ∧ ∀ q, q < j → noPort (ports.getD q 0) = false) (fun j => [(1, .ptr 7 []), (5, .nat .i64 j)]) (fun j => [.gone, .gone, .ro (.arr P.length 5 (prS P)), .gone, .ro (.arr cells.length 1 (i64S cells)), .gone, .ro (.arr ports.length 1 (i64S ports)), .own 130 (.agg [.int .i64 id, .sl 1 2 [] 5 0 P.length (some p1), .sl 3 4 [] 1 0 cells.length (some p2), .int .i64 draws, .int .i64 seq, .sl 5 6 [] 1 0 ports.length (some p3)]) true]) (fun j => ports.length - j) 0 ⟨Nat.zero_le _, fun q hq => absurd hq (Nat.not_lt_zero q)⟩ ?_ ?_ rfl ?_ ?_ rfl ?_
    · exact Vm.b5
    · exact Vm.b6
    · exact Vm.b7
    · exact Vm.b7
    rintro j ⟨hj, hq⟩
    by_cases hjl : j < ports.length
    · by_cases hx : ports.getD j 0 = 0
      · have hn : noPort (ports.getD j 0) = false := by rw [hx]; rfl
        repeat' (first | refine Ctl.h ?_ | ((with_reducible intro hif); first | (focus (cases hif; done)) | (simp only [JH] at hif; try (exfalso; omega)) | (try (exfalso; omega))) | ((first | ((with_reducible apply J22 cRRt_ok tab_ok); (· rfl)) | ((with_reducible apply J23 fol cRRt_ok tab_ok); (· rfl)) | with_reducible apply J24); (· (simp only [push_cast, ↓JP, Nat.reduceAdd, Nat.reduceEqDiff, Nat.reduceLT, Nat.reduceMul, Nat.reduceLeDiff, reduceCtorEq, reduceIte, ↓JK, cRRt, sRCheck, sRPr, hc, isI_int, isI_nat, iOf, ls_prS, ls_prS', ls_prS2, inR, inN, hjl, hx]; rfl)); (try kernel_rfl); (try exact Vm.b82)) | fail)
        refine At.next (j + 1) ?_ ?_ ?_ rfl ?_ ?_ rfl
        · exact Vm.b29
        · exact Vm.b5
        · exact Vm.b6
        · exact Vm.b7
        · exact Vm.b7
      · cases hb : isB (ports.getD j 0)
        · have hn : noPort (ports.getD j 0) = true := by unfold noPort; rw [hb, decide_eq_true hx]; rfl
          have ha : ports.any noPort = true := List.any_eq_true.2 ⟨ports[j], List.getElem_mem hjl, by rw [List.getD_eq_getElem?_getD, List.getElem?_eq_getElem hjl] at hn; exact hn⟩
          rw [ha]
          repeat' (first | refine Ctl.h ?_ | ((with_reducible intro hif); first | (focus (cases hif; done)) | (simp only [JH] at hif; try (exfalso; omega)) | (try (exfalso; omega))) | ((first | ((with_reducible apply J22 cRRt_ok tab_ok); (· rfl)) | ((with_reducible apply J23 fol cRRt_ok tab_ok); (· rfl)) | with_reducible apply J24); (· exact Vm.b84); (try kernel_rfl); (try exact Vm.b82)) | fail)
          apply At.endsRet tab_ok (fn := Tryz.f94) (rs := [.tmp 2]) Anc.refl hro (Nat.le_of_ble_eq_true rfl) rfl
          · exact Vm.b11
          · exact Vm.b9
          · exact Vm.b6
          · rfl
          · exact Vm.b7
          · exact Vm.b10
          · exact fun β => rfl
          · exact Vm.b7
        · have hn : noPort (ports.getD j 0) = false := by unfold noPort; rw [hb]; simp
          repeat' (first | refine Ctl.h ?_ | ((with_reducible intro hif); first | (focus (cases hif; done)) | (simp only [JH] at hif; try (exfalso; omega)) | (try (exfalso; omega))) | ((first | ((with_reducible apply J22 cRRt_ok tab_ok); (· rfl)) | ((with_reducible apply J23 fol cRRt_ok tab_ok); (· rfl)) | with_reducible apply J24); (· exact Vm.b84); (try kernel_rfl); (try exact Vm.b82)) | fail)
          refine At.next (j + 1) ?_ ?_ ?_ rfl ?_ ?_ rfl
          · exact Vm.b29
          · exact Vm.b5
          · exact Vm.b6
          · exact Vm.b7
          · exact Vm.b7
    · obtain rfl : j = ports.length := by omega
      rw [any_no hq]
      repeat' (first | refine Ctl.h ?_ | ((with_reducible intro hif); first | (focus (cases hif; done)) | (simp only [JH] at hif; try (exfalso; omega)) | (try (exfalso; omega))) | ((first | ((with_reducible apply J22 cRRt_ok tab_ok); (· rfl)) | ((with_reducible apply J23 fol cRRt_ok tab_ok); (· rfl)) | with_reducible apply J24); (· exact Vm.b83); (try kernel_rfl); (try exact Vm.b82)) | fail)
      apply At.endsRet tab_ok (fn := Tryz.f94) (rs := [.tmp 2]) Anc.refl hro (Nat.le_of_ble_eq_true rfl) rfl
      · exact Vm.b11
      · exact Vm.b9
      · exact Vm.b6
      · rfl
      · exact Vm.b7
      · exact Vm.b10
      · exact fun β => rfl
      · exact Vm.b7
  all_goals
    have e : (⟨id, P, cells, draws, seq, ports⟩ : Prc).rightB = false := by
      cases g : (⟨id, P, cells, draws, seq, ports⟩ : Prc).rightB
      · rfl
      · obtain ⟨g1, g2, g3, g4, g5, g6, g7, g8, g9⟩ := rightB_iff.1 g
        have g2' : isB id = true := decide_eq_true g2
        dsimp only at g1 g2 g3 g4 g5 g6 g7 g8
        exfalso
        revert hc
        try rw [g2']
        first | (simp; done) | (simp; omega)
    rw [e]
    refine litOkM (fn := Tryz.f94) 7 74 0 rfl rfl rfl rfl rfl (by simp only [StableL, Stable, hp, i64S, prS, insS, sndsS, sndS]; simp [HB.born]) rfl fun w0 M E hro => ?_
    repeat' (first | refine Ctl.h ?_ | ((with_reducible intro hif); first | (focus (cases hif; done)) | (simp only [JH] at hif; try (exfalso; omega)) | (try (exfalso; omega))) | ((first | ((with_reducible apply J22 cRRt_ok tab_ok); (· rfl)) | ((with_reducible apply J23 fol cRRt_ok tab_ok); (· rfl)) | with_reducible apply J24); (· exact Vm.b83); (try kernel_rfl); (try exact Vm.b82)) | fail)
    apply At.endsRet tab_ok (fn := Tryz.f94) (rs := [.tmp 2]) Anc.refl hro (Nat.le_of_ble_eq_true rfl) rfl
    · exact Vm.b11
    · exact Vm.b9
    · exact Vm.b6
    · rfl
    · exact Vm.b7
    · exact Vm.b10
    · exact fun β => rfl
    · exact Vm.b7
def sR28R : Spec := fun args h m => match args with
  | [.agg [v1, v2, v3, v4, v5, v6]] => match srcV h 5 (.tup []) v2, srcV h 1 (.tup []) v3, srcV h 1 (.tup []) v6 with
    | some (c2, n2, f2, r2), some (c3, n3, f3, r3), some (c6, n6, f6, r6) => bif isI .i64 v1 && isI .i64 v4 && isI .i64 v5 then some (c2 ∧ c3 ∧ c6 ∧ (∀ q, q < n2 → isIns (f2 q) = true) ∧ (∀ q, q < n3 → isI .i64 (f3 q) = true) ∧ (∀ q, q < n6 → isI .i64 (f6 q) = true) ∧ ((∀ x ∈ (ls insOf n2 f2), x.ok)), .bool (Prc.rightB ⟨(iOf v1), (ls insOf n2 f2), (ls iOf n3 f3), (iOf v4), (iOf v5), (ls iOf n6 f6)⟩), r2 ++ r3 ++ r6, []) else none
    | _, _, _ => none
  | _ => none
theorem sR28R_ok : CallOk Tryz.prog 94 sR28R := by
  refine ⟨named_spec (by kernel_rfl), fun args h m c v rd wr hs hm hc w0 M β h' w R hrd hwr hst => ?_⟩
  unfold sR28R at hs
  split at hs
  · rename_i v1 v2 v3 v4 v5 v6
    split at hs
    · rename_i c2 n2 f2 r2 c3 n3 f3 r3 c6 n6 f6 r6 a2 a3 a6
      obtain ⟨hb, hs⟩ := bif_some hs
      simp only [Option.some.injEq, Prod.mk.injEq] at hs
      obtain ⟨rfl, rfl, rfl, rfl⟩ := hs
      simp only [Bool.and_eq_true] at hb
      obtain ⟨⟨b1, b4⟩, b5⟩ := hb
      obtain ⟨k2, k3, k6, g2, g3, g6, y1⟩ := hc
      obtain ⟨A2, p2, d2, e2, t2⟩ := reads_src R a2 k2 (fun i hi => hrd i (List.mem_append_left _ (List.mem_append_left _ hi))) (by omega)
      obtain ⟨A3, p3, d3, e3, t3⟩ := reads_src R a3 k3 (fun i hi => hrd i (List.mem_append_left _ (List.mem_append_right _ hi))) (by omega)
      obtain ⟨A6, p6, d6, e6, t6⟩ := reads_src R a6 k6 (fun i hi => hrd i (List.mem_append_right _ hi)) (by omega)
      refine callRo (views := [⟨5, (ls insOf n2 f2).length, prS (ls insOf n2 f2), A2, p2⟩, ⟨1, (ls iOf n3 f3).length, i64S (ls iOf n3 f3), A3, p3⟩, ⟨1, (ls iOf n6 f6).length, i64S (ls iOf n6 f6), A6, p6⟩]) (r28r_lit ⟨(iOf v1), (ls insOf n2 f2), (ls iOf n3 f3), (iOf v4), (iOf v5), (ls iOf n6 f6)⟩ p2 p3 p6 y1) ?_ R hm hwr ?_ ?_ ?_
      · intro x hx
        simp only [List.mem_cons, List.not_mem_nil, or_false] at hx
        rcases hx with rfl | rfl | rfl
        · exact viewIns t2 e2 g2
        · exact viewI64 t3 e3 g3
        · exact viewI64 t6 e6 g6
      · intro β1 hv
        simp only [Vd, ls_length, and_true] at hv
        obtain ⟨z2, z3, z6⟩ := hv
        simp only [denL, aggDen, intDen, natDen, boolDen, ls_length, z2, z3, z6, d2, d3, d6, isI_den b1, isI_den b4, isI_den b5]
      · exact Vm.b7
      · exact Vm.b7
    · cases hs
  · cases hs
end Go.Proofs.YtjliakjbdcplcaaGreat.Vm
end

section
namespace Go.Proofs.YtjliakjbdcplcaaGreat.Vm
open Go.RowKit
set_option linter.unusedVariables false
set_option linter.unusedSimpArgs false
set_option maxRecDepth 100000
set_option maxHeartbeats 4000000
def i64O (l : List Int) : HB := .own 2 (.arr l.length 1 (i64S l)) false
def inO (l : List Int) : HB := .own 3 (.arr l.length 1 (i64S l)) false
def pcS (p : Prc) (i c q : Nat) : SV := .agg [.int .i64 p.id, .sl i i [] 5 0 p.P.length none, .sl c c [] 1 0 p.cells.length none, .int .i64 p.draws, .int .i64 p.seq, .sl q q [] 1 0 p.ports.length none]
def cCy : FuncId → Option Spec := look2 [(34, sClI), (35, sCl64), (54, sClN)]
theorem cCy_ok : ∀ f S, cCy f = some S → CallOk Tryz.prog f S := allOk_spec ⟨sClI_ok, sCl64_ok, sClN_ok, trivial⟩
theorem pcopy_lit (p : Prc) (p1 p2 p3 : Nat) (hn : p.P.length ≤ 1000000) (hc : p.cells.length ≤ 1000000) (hpo : p.ports.length ≤ 1000000) : LitOk Tryz.prog 71 [.agg [.int .i64 p.id, .sl 1 2 [] 5 0 p.P.length (some p1), .sl 3 4 [] 1 0 p.cells.length (some p2), .int .i64 p.draws, .int .i64 p.seq, .sl 5 6 [] 1 0 p.ports.length (some p3)]]
    [.gone, .gone, .ro (.arr p.P.length 5 (prS p.P)), .gone, .ro (.arr p.cells.length 1 (i64S p.cells)), .gone, .ro (.arr p.ports.length 1 (i64S p.ports))] (pcS p 7 8 9) [.gone, .gone, .gone, .gone, .gone, .gone, .gone, prO p.P, i64O p.cells, inO p.ports] := by
  refine litOkM (fn := Tryz.f71) 7 16 0 rfl rfl rfl rfl rfl (by simp only [StableL, Stable, hp, i64S, prS, insS, sndsS, sndS, evtsS, evtS, prO, i64O, inO, HB.stable]; simp [HB.born]) rfl fun w0 M E hro => ?_
  repeat' (first | refine Ctl.h ?_ | ((with_reducible intro hif); first | (focus (cases hif; done)) | (simp only [JH] at hif; try (exfalso; omega)) | (try (exfalso; omega))) | ((first | ((with_reducible apply J22 cCy_ok tab_ok); (· rfl)) | ((with_reducible apply J23 fol cCy_ok tab_ok); (· rfl)) | with_reducible apply J24); (· (simp only [push_cast, ↓JP, Nat.reduceAdd, Nat.reduceEqDiff, Nat.reduceLT, Nat.reduceMul, Nat.reduceLeDiff, reduceCtorEq, reduceIte, ↓JK, JE, prc_eta, cCy, sClI, sCl64, sClN, inR, inN]; rfl)); (try kernel_rfl); (try exact Vm.b14)) | fail)
  apply At.endsPick [0, 1, 2, 3, 4, 5, 6, 9, 10, 11] tab_ok (fn := Tryz.f71) (rs := [.cell 2 67]) Anc.refl hro (Nat.le_of_ble_eq_true rfl) rfl
  · exact Vm.b11
  · exact Vm.b26
  · rfl
  · rfl
  · rfl
  · exact Vm.b40
  · rfl
  · exact Vm.b78
  · exact Vm.b10
  · exact fun β => rfl
  · exact Vm.b78
def sPCopy : Spec := fun args h m => match args with
  | [.agg [v1, v2, v3, v4, v5, v6]] => match srcV h 5 (.tup []) v2, srcV h 1 (.tup []) v3, srcV h 1 (.tup []) v6 with
    | some (c2, n2, f2, r2), some (c3, n3, f3, r3), some (c6, n6, f6, r6) => bif isI .i64 v1 && isI .i64 v4 && isI .i64 v5 then some (c2 ∧ c3 ∧ c6 ∧ (∀ q, q < n2 → isIns (f2 q) = true) ∧ (∀ q, q < n3 → isI .i64 (f3 q) = true) ∧ (∀ q, q < n6 → isI .i64 (f6 q) = true) ∧ (n2 ≤ 1000000) ∧ (n3 ≤ 1000000) ∧ (n6 ≤ 1000000), pcS ⟨(iOf v1), (ls insOf n2 f2), (ls iOf n3 f3), (iOf v4), (iOf v5), (ls iOf n6 f6)⟩ m (m + 1) (m + 2), r2 ++ r3 ++ r6, [(m, prO (ls insOf n2 f2)), (m + 1, i64O (ls iOf n3 f3)), (m + 2, inO (ls iOf n6 f6))]) else none
    | _, _, _ => none
  | _ => none
theorem sPCopy_ok : CallOk Tryz.prog 71 sPCopy := by
  refine ⟨named_spec (by kernel_rfl), fun args h m c v rd wr hs hm hc w0 M β h' w R hrd hwr hst => ?_⟩
  unfold sPCopy at hs
  split at hs
  · rename_i v1 v2 v3 v4 v5 v6
    split at hs
    · rename_i c2 n2 f2 r2 c3 n3 f3 r3 c6 n6 f6 r6 a2 a3 a6
      obtain ⟨hb, hs⟩ := bif_some hs
      simp only [Option.some.injEq, Prod.mk.injEq] at hs
      obtain ⟨rfl, rfl, rfl, rfl⟩ := hs
      simp only [Bool.and_eq_true] at hb
      obtain ⟨⟨b1, b4⟩, b5⟩ := hb
      obtain ⟨k2, k3, k6, g2, g3, g6, y1, y2, y3⟩ := hc
      obtain ⟨A2, p2, d2, e2, t2⟩ := reads_src R a2 k2 (fun i hi => hrd i (List.mem_append_left _ (List.mem_append_left _ hi))) (by omega)
      obtain ⟨A3, p3, d3, e3, t3⟩ := reads_src R a3 k3 (fun i hi => hrd i (List.mem_append_left _ (List.mem_append_right _ hi))) (by omega)
      obtain ⟨A6, p6, d6, e6, t6⟩ := reads_src R a6 k6 (fun i hi => hrd i (List.mem_append_right _ hi)) (by omega)
      refine callRo (views := [⟨5, (ls insOf n2 f2).length, prS (ls insOf n2 f2), A2, p2⟩, ⟨1, (ls iOf n3 f3).length, i64S (ls iOf n3 f3), A3, p3⟩, ⟨1, (ls iOf n6 f6).length, i64S (ls iOf n6 f6), A6, p6⟩]) (pcopy_lit ⟨(iOf v1), (ls insOf n2 f2), (ls iOf n3 f3), (iOf v4), (iOf v5), (ls iOf n6 f6)⟩ p2 p3 p6 (by rw [ls_length]; exact y1) (by rw [ls_length]; exact y2) (by rw [ls_length]; exact y3)) ?_ R hm hwr ?_ ?_ ?_
      · intro x hx
        simp only [List.mem_cons, List.not_mem_nil, or_false] at hx
        rcases hx with rfl | rfl | rfl
        · exact viewIns t2 e2 g2
        · exact viewI64 t3 e3 g3
        · exact viewI64 t6 e6 g6
      · intro β1 hv
        simp only [Vd, ls_length, and_true] at hv
        obtain ⟨z2, z3, z6⟩ := hv
        simp only [denL, aggDen, intDen, natDen, boolDen, ls_length, z2, z3, z6, d2, d3, d6, isI_den b1, isI_den b4, isI_den b5]
      · exact Vm.b78
      · exact Vm.b78
    · cases hs
  · cases hs
def cTk : FuncId → Option Spec := look2 [(26, sKRight)]
theorem cTk_ok : ∀ f S, cTk f = some S → CallOk Tryz.prog f S := allOk_spec ⟨sKRight_ok, trivial⟩
theorem takes_true (p : Prc) (e : Evt) (p1 p2 p3 : Nat) (hk : keyB e.time e.source e.seq = true) : LitOk Tryz.prog 74 [.agg [.int .i64 p.id, .sl 1 2 [] 5 0 p.P.length (some p1), .sl 3 4 [] 1 0 p.cells.length (some p2), .int .i64 p.draws, .int .i64 p.seq, .sl 5 6 [] 1 0 p.ports.length (some p3)], evtS e]
    [.gone, .gone, .ro (.arr p.P.length 5 (prS p.P)), .gone, .ro (.arr p.cells.length 1 (i64S p.cells)), .gone, .ro (.arr p.ports.length 1 (i64S p.ports))] (.bool (takesB p e)) [.gone] := by
  obtain ⟨t, s, q, o, y⟩ := e
  dsimp only at hk
  refine litOkM (fn := Tryz.f74) 7 15 0 rfl rfl rfl rfl rfl (by simp only [StableL, Stable, hp, i64S, prS, insS, sndsS, sndS, evtsS, evtS, prO, i64O, inO, HB.stable]; simp [HB.born, evtS]) rfl fun w0 M E hro => ?_
  repeat' (first | refine Ctl.h ?_ | ((with_reducible intro hif); first | (focus (cases hif; done)) | (simp only [JH] at hif; try (exfalso; omega)) | (try (exfalso; omega))) | ((first | ((with_reducible apply J22 cTk_ok tab_ok); (· rfl)) | ((with_reducible apply J23 fol cTk_ok tab_ok); (· rfl)) | with_reducible apply J24); (· exact Vm.b85); (try kernel_rfl); (try exact Vm.b14)) | fail)
  apply At.endsRet tab_ok (fn := Tryz.f74) (rs := [.tmp 4]) Anc.refl hro (Nat.le_of_ble_eq_true rfl) rfl
  · exact Vm.b11
  · exact Vm.b9
  · exact Vm.b6
  · rfl
  · exact Vm.b78
  · exact Vm.b10
  · intro β; simp [resS, SV.den, takesB, hk]
  · exact Vm.b78
theorem takes_false (p : Prc) (e : Evt) (p1 p2 p3 : Nat) (hk : keyB e.time e.source e.seq = false) : LitOk Tryz.prog 74 [.agg [.int .i64 p.id, .sl 1 2 [] 5 0 p.P.length (some p1), .sl 3 4 [] 1 0 p.cells.length (some p2), .int .i64 p.draws, .int .i64 p.seq, .sl 5 6 [] 1 0 p.ports.length (some p3)], evtS e]
    [.gone, .gone, .ro (.arr p.P.length 5 (prS p.P)), .gone, .ro (.arr p.cells.length 1 (i64S p.cells)), .gone, .ro (.arr p.ports.length 1 (i64S p.ports))] (.bool (takesB p e)) [.gone] := by
  obtain ⟨t, s, q, o, y⟩ := e
  dsimp only at hk
  refine litOkM (fn := Tryz.f74) 7 15 0 rfl rfl rfl rfl rfl (by simp only [StableL, Stable, hp, i64S, prS, insS, sndsS, sndS, evtsS, evtS, prO, i64O, inO, HB.stable]; simp [HB.born, evtS]) rfl fun w0 M E hro => ?_
  repeat' (first | refine Ctl.h ?_ | ((with_reducible intro hif); first | (focus (cases hif; done)) | (simp only [JH] at hif; try (exfalso; omega)) | (try (exfalso; omega))) | ((first | ((with_reducible apply J22 cTk_ok tab_ok); (· rfl)) | ((with_reducible apply J23 fol cTk_ok tab_ok); (· rfl)) | with_reducible apply J24); (· exact Vm.b85); (try kernel_rfl); (try exact Vm.b14)) | fail)
  apply At.endsRet tab_ok (fn := Tryz.f74) (rs := [.tmp 4]) Anc.refl hro (Nat.le_of_ble_eq_true rfl) rfl
  · exact Vm.b11
  · exact Vm.b9
  · exact Vm.b6
  · rfl
  · exact Vm.b78
  · exact Vm.b10
  · intro β; simp [resS, SV.den, takesB, hk]
  · exact Vm.b78
theorem takes_lit (p : Prc) (e : Evt) (p1 p2 p3 : Nat) : LitOk Tryz.prog 74 [.agg [.int .i64 p.id, .sl 1 2 [] 5 0 p.P.length (some p1), .sl 3 4 [] 1 0 p.cells.length (some p2), .int .i64 p.draws, .int .i64 p.seq, .sl 5 6 [] 1 0 p.ports.length (some p3)], evtS e]
    [.gone, .gone, .ro (.arr p.P.length 5 (prS p.P)), .gone, .ro (.arr p.cells.length 1 (i64S p.cells)), .gone, .ro (.arr p.ports.length 1 (i64S p.ports))] (.bool (takesB p e)) [.gone] := by
  cases hk : keyB e.time e.source e.seq
  · exact takes_false p e p1 p2 p3 hk
  · exact takes_true p e p1 p2 p3 hk
def sTakes : Spec := fun args h m => match args with
  | [.agg [v1, v2, v3, v4, v5, v6], v7] => match srcV h 5 (.tup []) v2, srcV h 1 (.tup []) v3, srcV h 1 (.tup []) v6 with
    | some (c2, n2, f2, r2), some (c3, n3, f3, r3), some (c6, n6, f6, r6) => bif isI .i64 v1 && isI .i64 v4 && isI .i64 v5 && isEvt v7 then some (c2 ∧ c3 ∧ c6 ∧ (∀ q, q < n2 → isIns (f2 q) = true) ∧ (∀ q, q < n3 → isI .i64 (f3 q) = true) ∧ (∀ q, q < n6 → isI .i64 (f6 q) = true), .bool (takesB ⟨(iOf v1), (ls insOf n2 f2), (ls iOf n3 f3), (iOf v4), (iOf v5), (ls iOf n6 f6)⟩ (evtOf v7)), r2 ++ r3 ++ r6, []) else none
    | _, _, _ => none
  | _ => none
theorem sTakes_ok : CallOk Tryz.prog 74 sTakes := by
  refine ⟨named_spec (by kernel_rfl), fun args h m c v rd wr hs hm hc w0 M β h' w R hrd hwr hst => ?_⟩
  unfold sTakes at hs
  split at hs
  · rename_i v1 v2 v3 v4 v5 v6 v7
    split at hs
    · rename_i c2 n2 f2 r2 c3 n3 f3 r3 c6 n6 f6 r6 a2 a3 a6
      obtain ⟨hb, hs⟩ := bif_some hs
      simp only [Option.some.injEq, Prod.mk.injEq] at hs
      obtain ⟨rfl, rfl, rfl, rfl⟩ := hs
      simp only [Bool.and_eq_true] at hb
      obtain ⟨⟨⟨b1, b4⟩, b5⟩, b7⟩ := hb
      obtain ⟨k2, k3, k6, g2, g3, g6⟩ := hc
      obtain ⟨A2, p2, d2, e2, t2⟩ := reads_src R a2 k2 (fun i hi => hrd i (List.mem_append_left _ (List.mem_append_left _ hi))) (by omega)
      obtain ⟨A3, p3, d3, e3, t3⟩ := reads_src R a3 k3 (fun i hi => hrd i (List.mem_append_left _ (List.mem_append_right _ hi))) (by omega)
      obtain ⟨A6, p6, d6, e6, t6⟩ := reads_src R a6 k6 (fun i hi => hrd i (List.mem_append_right _ hi)) (by omega)
      refine callRo (views := [⟨5, (ls insOf n2 f2).length, prS (ls insOf n2 f2), A2, p2⟩, ⟨1, (ls iOf n3 f3).length, i64S (ls iOf n3 f3), A3, p3⟩, ⟨1, (ls iOf n6 f6).length, i64S (ls iOf n6 f6), A6, p6⟩]) (takes_lit ⟨(iOf v1), (ls insOf n2 f2), (ls iOf n3 f3), (iOf v4), (iOf v5), (ls iOf n6 f6)⟩ (evtOf v7) p2 p3 p6) ?_ R hm hwr ?_ ?_ ?_
      · intro x hx
        simp only [List.mem_cons, List.not_mem_nil, or_false] at hx
        rcases hx with rfl | rfl | rfl
        · exact viewIns t2 e2 g2
        · exact viewI64 t3 e3 g3
        · exact viewI64 t6 e6 g6
      · intro β1 hv
        simp only [Vd, ls_length, and_true] at hv
        obtain ⟨z2, z3, z6⟩ := hv
        simp only [denL, aggDen, intDen, natDen, boolDen, ls_length, z2, z3, z6, d2, d3, d6, isI_den b1, isI_den b4, isI_den b5, den_evtOf b7, den_evtS]
      · exact Vm.b78
      · exact Vm.b78
    · cases hs
  · cases hs
def eqP (a b : Prc) : Bool := decide (a.id = b.id) && (eqL a.P b.P && (eqL a.cells b.cells && (decide (a.draws = b.draws) && (decide (a.seq = b.seq) && eqL a.ports b.ports))))
theorem eqP_iff {a b : Prc} : eqP a b = true ↔ a = b := by
  cases a; cases b; simp [eqP, eqL]
end Go.Proofs.YtjliakjbdcplcaaGreat.Vm
end
end

section
namespace Go.Proofs.YtjliakjbdcplcaaGreat.Vm
open Go.RowKit
set_option linter.unusedVariables false
set_option linter.unusedSimpArgs false
set_option maxRecDepth 100000
theorem Rep.reval {w0 w : World} {M : Nat → Prop} {β : Env} {h : HM} (R : Rep w0 M β h w) {i : Nat} {t : TypeId} {v v' : SV} {ex : Bool} (hi : h i = .own t v ex) (hcl : v'.cl β = v.cl β) (hst : Stable h v') (hn : ∀ n k f, v' ≠ .arr n k f) (hv : ∀ n k f, v ≠ .arr n k f) :
    Rep w0 M β (upd h i (.own t v' ex)) w := by
  have mine : ∀ j, (upd h i (.own t v' ex) j).mine = true → (h j).mine = true := fun j hj => by
    by_cases e : j = i
    · subst e; rw [hi]; rfl
    · rwa [upd_ne e] at hj
  have born : ∀ j, (h j).born = true → (upd h i (.own t v' ex) j).born = true := fun j hj => by
    by_cases e : j = i
    · subst e; rw [upd_same]; rfl
    · rwa [upd_ne e]
  have i0 : (0 : Nat) ≠ i := fun e => by
    rw [← e, R.nil0] at hi; cases hi
  refine { os := R.os, tape := R.tape, output := R.output, size := R.size, frame := R.frame, nil := R.nil, nil0 := ?_, st := ?_, blk := ?_, own := fun j a hj ha => R.own j a (mine j hj) ha, ro := ?_, dist := fun a b x y hab ha hb hx hy => R.dist a b x y hab (mine a ha) (mine b hb) hx hy, lt := fun j a hj ha => R.lt j a (mine j hj) ha }
  · rw [upd_ne i0]; exact R.nil0
  · intro j
    by_cases e : j = i
    · subst e; rw [upd_same]; exact hst.more born
    · rw [upd_ne e]; exact HB.stable_more (R.st j) born
  · intro j
    by_cases e : j = i
    · subst e
      rw [upd_same]
      have := R.blk j
      rw [hi] at this
      rcases this with ⟨g, cs, h1, h2, ⟨tl, h3, h4⟩, h5⟩ | ⟨h1, h2, k, f, h3⟩
      · exact .inl ⟨g, cs, h1, h2, ⟨tl, by rw [hcl]; exact h3, h4⟩, fun n k f e => absurd e (hn n k f)⟩
      · exact absurd h3 (hv _ _ _)
    · rw [upd_ne e]; exact R.blk j
  · intro j u a hj
    by_cases e : j = i
    · subst e; rw [upd_same] at hj; cases hj
    · rw [upd_ne e] at hj; exact R.ro j u a hj
theorem At.nilIn {w0 : World} {M : Nat → Prop} {E : Env} {n0 N : Nat} {D : List Deferred} {φ : Fr} {L L2 : List HB} {K : Act → World → Prop} (ty k : Nat) (f : Nat → SV) (i t : Nat) (v v' : SV) (ex : Bool) (hf : ∀ (h : HM) (q : Nat), Stable h (f q))
    (hi : hp L i = .own t v ex) (hcl : ∀ β : Env, β 0 = (none, 0) → β L.length = (none, 0) → v'.cl β = v.cl β) (hst : ∀ h : HM, (∀ j, j ≤ L.length → (h j).born = true) → Stable h v') (hbn : bornTo L.length L = true) (hn : ∀ n k f, v' ≠ .arr n k f) (hv : ∀ n k f, v ≠ .arr n k f)
    (hL2 : L2 = setH (L ++ [.own ty (.arr 0 k f) false]) i (.own t v' ex)) (h : At w0 M E n0 N D φ L2 K) : At w0 M E n0 N D φ L K := fun a w hS => by
  obtain ⟨⟨β, hE, R, F⟩, hbn', hsz, hd⟩ := hS
  have hm : hp L L.length = .dead := hp_dead (Nat.le_refl _)
  have R1 := nothing R (e := ty) (k := k) (g := f) hm (fun q => hf _ q)
  have hag : ∀ i, (hp L i).born = true → β i = setE β L.length (none, 0) i := agree_setE hm
  have hborn : ∀ i, (hp L i).born = true → (upd (hp L) L.length (.own ty (.arr 0 k f) false) i).born = true := fun i hi => by
    unfold Vm.upd; split
    · rfl
    · exact hi
  have hlt : i < L.length := by
    rcases Nat.lt_or_ge i L.length with h | h
    · exact h
    · rw [hp_dead h] at hi; cases hi
  have hi1 : upd (hp L) L.length (.own ty (.arr 0 k f) false) i = .own t v ex := by rw [upd_ne (by omega)]; exact hi
  have ball : ∀ j, j ≤ L.length → (upd (hp L) L.length (.own ty (.arr 0 k f) false) j).born = true := fun j hj => by
    by_cases e : j = L.length
    · subst e; rw [upd_same]; rfl
    · rw [upd_ne e]
      simp only [bornTo, List.all_eq_true] at hbn
      exact hbn j (List.mem_range.2 (by omega))
  have R2 := R1.reval hi1 (hcl _ R1.nil (setE_same _ _ _)) (hst _ ball) hn hv
  have e2 : hp L2 = upd (upd (hp L) L.length (.own ty (.arr 0 k f) false)) i (.own t v' ex) := by
    rw [hL2, hp_setH, hp_append1]
  have hborn2 : ∀ j, (upd (hp L) L.length (.own ty (.arr 0 k f) false) j).born = true → (hp L2 j).born = true := fun j hj => by
    rw [e2]
    by_cases e : j = i
    · subst e; rw [upd_same]; rfl
    · rwa [upd_ne e]
  refine h a w ⟨⟨setE β L.length (none, 0), fun j hj => (hag j (hbn' j hj)).symm.trans (hE j hj), by rw [e2]; exact R2, fun u v hu => ?_⟩, fun j hj => hborn2 j (hborn j (hbn' j hj)), hsz, hd⟩
  obtain ⟨k1, k2⟩ := F u v hu
  exact ⟨(k1.more hborn).more hborn2, by rw [k2]; exact k1.den hag⟩
theorem WF.nilIn {P : Program} {w0 : World} {M : Nat → Prop} {E : Env} {n0 N n : Nat} {D : List Deferred} {φ : Fr} {L L2 : List HB} {c : Code} {ro : Option Nat} {Q : Exit → Act → World → Prop} (ty k : Nat) (f : Nat → SV) (i t : Nat) (v v' : SV) (ex : Bool) (hf : ∀ (h : HM) (q : Nat), Stable h (f q))
    (hi : hp L i = .own t v ex) (hcl : ∀ β : Env, β 0 = (none, 0) → β L.length = (none, 0) → v'.cl β = v.cl β) (hst : ∀ h : HM, (∀ j, j ≤ L.length → (h j).born = true) → Stable h v') (hbn : bornTo L.length L = true) (hn : ∀ n k f, v' ≠ .arr n k f) (hv : ∀ n k f, v ≠ .arr n k f)
    (hL2 : L2 = setH (L ++ [.own ty (.arr 0 k f) false]) i (.own t v' ex)) (h : WF ro n P c w0 M E n0 N D φ L2 Q) : WF ro n P c w0 M E n0 N D φ L Q := At.nilIn ty k f i t v v' ex hf hi hcl hst hbn hn hv hL2 h
end Go.Proofs.YtjliakjbdcplcaaGreat.Vm
end

section
namespace Go.Proofs.YtjliakjbdcplcaaGreat.Vm
open Go.RowKit
set_option linter.unusedVariables false
set_option linter.unusedSimpArgs false
set_option maxRecDepth 100000
def NilF (L : List HB) (φ : Fr) : Fr → Prop
  | [] => True
  | p :: l => (∃ u, look φ p.1 = some u ∧ (∀ β : Env, β 0 = (none, 0) → β L.length = (none, 0) → u.den β = p.2.den β)) ∧ NilF L φ l
theorem nilF_spec {L : List HB} {φ : Fr} : ∀ {φ2 : Fr}, NilF L φ φ2 → ∀ p ∈ φ2, ∃ u, look φ p.1 = some u ∧ (∀ β : Env, β 0 = (none, 0) → β L.length = (none, 0) → u.den β = p.2.den β)
  | [], _, p, hp => by cases hp
  | q :: l, h, p, hp => by
    rcases List.mem_cons.1 hp with rfl | hp
    · exact h.1
    · exact nilF_spec h.2 p hp
theorem At.nilFr {w0 : World} {M : Nat → Prop} {E : Env} {n0 N : Nat} {D : List Deferred} {φ φ2 : Fr} {L L2 : List HB} {K : Act → World → Prop} (ty k : Nat) (f : Nat → SV) (hf : ∀ (h : HM) (q : Nat), Stable h (f q))
    (hL2 : L2 = L ++ [.own ty (.arr 0 k f) false]) (hφ : NilF L φ φ2) (hst : StableF (hp L2) φ2) (h : At w0 M E n0 N D φ2 L2 K) : At w0 M E n0 N D φ L K := fun a w hS => by
  subst hL2
  obtain ⟨⟨β, hE, R, F⟩, hbn, hsz, hd⟩ := hS
  have hm : hp L L.length = .dead := hp_dead (Nat.le_refl _)
  have R1 := nothing R (e := ty) (k := k) (g := f) hm (fun q => hf _ q)
  have hag : ∀ i, (hp L i).born = true → β i = setE β L.length (none, 0) i := agree_setE hm
  have hborn : ∀ i, (hp L i).born = true → (upd (hp L) L.length (.own ty (.arr 0 k f) false) i).born = true := fun i hi => by
    unfold Vm.upd; split
    · rfl
    · exact hi
  refine h a w ⟨⟨setE β L.length (none, 0), fun i hi => (hag i (hbn i hi)).symm.trans (hE i hi), by rw [hp_append1]; exact R1, fun u v hu => ?_⟩, fun i hi => by rw [hp_append1]; exact hborn i (hbn i hi), hsz, hd⟩
  have hmem := look_mem hu
  obtain ⟨x, hx, hden⟩ := nilF_spec hφ _ hmem
  obtain ⟨k1, k2⟩ := F u x hx
  refine ⟨stableF_spec hst _ hmem, ?_⟩
  rw [k2, k1.den hag]
  exact hden _ R1.nil (setE_same _ _ _)
theorem WF.nilFr {P : Program} {w0 : World} {M : Nat → Prop} {E : Env} {n0 N n : Nat} {D : List Deferred} {φ φ2 : Fr} {L L2 : List HB} {c : Code} {ro : Option Nat} {Q : Exit → Act → World → Prop} (ty k : Nat) (f : Nat → SV) (hf : ∀ (h : HM) (q : Nat), Stable h (f q))
    (hL2 : L2 = L ++ [.own ty (.arr 0 k f) false]) (hφ : NilF L φ φ2) (hst : StableF (hp L2) φ2) (h : WF ro n P c w0 M E n0 N D φ2 L2 Q) : WF ro n P c w0 M E n0 N D φ L Q := At.nilFr ty k f hf hL2 hφ hst h
end Go.Proofs.YtjliakjbdcplcaaGreat.Vm
end
