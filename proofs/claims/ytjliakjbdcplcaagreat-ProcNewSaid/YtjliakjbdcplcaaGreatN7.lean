import Derived.Test.YtjliakjbdcplcaaGreatN4
import Derived.Test.YtjliakjbdcplcaaGreatN5
import Derived.Test.YtjliakjbdcplcaaGreatN6
import Derived.Test.YtjliakjbdcplcaaGreatProg
import Derived.IntWalk
import Derived.Laws.ResultCell
import Derived.Laws.OwnMore
import Derived.Lib.OthersKept
import Derived.Deep.RegionHeld3
import Derived.StillTailTactics
import Derived.Deep.QuietTactic
import Derived.Deep.RegionLaw
import Derived.Deep.DrawnRows
import Derived.Laws.EntriesVeiled
import Derived.BigQuiet
import Derived.WalkSpells
import Derived.Handy
import Derived.Deep.DeepCutAuto
section
namespace Go.Proofs.YtjliakjbdcplcaaGreat.Vm
theorem b16 {P : Prop} (h : P := by refine ⟨⟨hkl, fun i hi y hy => ?_⟩, by omega⟩; by_cases h : i = k; (subst h; rw [hx2] at hy; cases hy; exact eb); exact hB i (by omega) y hy) : P := h
theorem b17 {P : Prop} (h : P := by (repeat' (first | exact trivial | exact rfl | assumption | apply Stable.ite | apply And.intro | intro _ | (simp only [Stable, StableL, i64S, prS, insS, sndsS, sndS, stS, evS, macS]; done)))) : P := h
theorem b18 {P : Prop} (h : P := by (simp only [push_cast, ↓JP, Nat.reduceAdd, Nat.reduceEqDiff, Nat.reduceLT, Nat.reduceMul, Nat.reduceLeDiff, reduceCtorEq, reduceIte, ↓JK]; rfl)) : P := h
theorem b19 {P : Prop} (h : P := by (simp only [push_cast, ↓JP, Nat.reduceAdd, Nat.reduceEqDiff, Nat.reduceLT, Nat.reduceMul, Nat.reduceLeDiff, reduceCtorEq, reduceIte, ↓JK, h0, h256]; rfl)) : P := h
theorem b20 {P : Prop} (h : P := by (first | exact True.intro | ((try simp only [JS, implies_true, forall_const, shaped, shapedL, kndOf, inR, inN]); (first | first | omega | assumption | (repeat' (first | assumption | exact True.intro | omega | apply And.intro))); done))) : P := h
theorem b21 {P : Prop} (h : P := by (simp only [push_cast, ↓JP, Nat.reduceAdd, Nat.reduceEqDiff, Nat.reduceLT, Nat.reduceMul, Nat.reduceLeDiff, reduceCtorEq, reduceIte, ↓JK, evm_in1, cRCk, sROne, sRTarg, sRGoes, hkl, hx, he, ht, hv, inR, inN]; rfl)) : P := h
theorem b22 {P : Prop} (h : P := by (simp only [push_cast, ↓JP, Nat.reduceAdd, Nat.reduceEqDiff, Nat.reduceLT, Nat.reduceMul, Nat.reduceLeDiff, reduceCtorEq, reduceIte, ↓JK, evm_in1, cRCk, sROne, sRTarg, sRGoes, hkl, hx, hg, hlm, inR, inN]; rfl)) : P := h
theorem b23 {P : Prop} (h : P := by (first | exact True.intro | ((try simp only [JS, implies_true, forall_const, shaped, shapedL, kndOf, inR]); (repeat' (first | assumption | exact True.intro | omega | apply And.intro)); done))) : P := h
theorem b24 {P : Prop} (h : P := by (simp only [push_cast, ↓JP, Nat.reduceAdd, Nat.reduceEqDiff, Nat.reduceLT, Nat.reduceMul, Nat.reduceLeDiff, reduceCtorEq, reduceIte, ↓JK, JM, inR]; rfl)) : P := h
theorem b25 {P : Prop} (h : P := by (simp only [push_cast, ↓JP, Nat.reduceAdd, Nat.reduceEqDiff, Nat.reduceLT, Nat.reduceMul, Nat.reduceLeDiff, reduceCtorEq, reduceIte, ↓JK, JM, inR, inN, Bool.cond_decide]; rfl)) : P := h
end Go.Proofs.YtjliakjbdcplcaaGreat.Vm
end
section
open Go.Proofs.YtjliakjbdcplcaaGreat.Vm Go.RowKit
attribute [local push_cast] runR opG gtmp gval gus opX tmpsOf tm tmO tmP restr look look2 tab tys zs ets eqB eqBL allB numOf ieq Int.cast_ofNat_Int Int.ofNat_zero beq_true beq_false frameOf ev evL ofV opV loadV noW pushF wrsL setH allBorn allGone HB.born HB.isGone HB.val SV.plain dstOk hp nav fitsT SV.size sizeL SV.isAgg TK.size TK.agg bin binE binN binI arN arI cmpN cmpI keq kn narrow callV storeV setp fillV buildV buildSliceV makeV sliceV appendV appendFV slice3V copyV List.isEmpty_nil srcV evO asN ite_t ite_f ite_bool ite_int ite_nat maxV v_beq v_ble v_blt cond_true cond_false List.getElem?_cons_zero List.getElem?_cons_succ List.getD_cons_zero List.getD_cons_succ List.getD_nil List.length_cons List.length_nil List.take_succ_cons List.take_zero List.set_cons_zero List.set_cons_succ List.cons_append List.nil_append List.append_assoc List.replicate_succ List.replicate_zero Nat.zero_add Nat.add_zero decide_true decide_false Bool.true_and Bool.and_true Bool.false_and Bool.and_false Bool.true_or Bool.or_true Bool.false_or Bool.or_false beq_self_eq_true Bool.or_self Nat.lt_irrefl Nat.not_lt_zero Nat.le_refl Option.getD_some Option.getD_none BEq.rfl Bool.not_true Bool.not_false Bool.cond_true_left Bool.cond_false_right prS sndsS i64S nav_ins nav_ins0 nav_ins1 nav_ins2 nav_ins3 nav_ins4 nav_snd nav_snd0 nav_snd1 nav_snd2 isIns_insS insOf_insS isSnd_sndS sndOf_sndS isI_int isI_nat iOf
section
namespace Go.Proofs.YtjliakjbdcplcaaGreat.Vm
open Go.RowKit
set_option linter.unusedVariables false
set_option linter.unusedSimpArgs false
set_option maxRecDepth 100000
set_option maxHeartbeats 4000000
theorem evm_in1 (i : Ins) (a : Bool → SV → Option (Prop × SV)) (b : SV → Option (Prop × SV)) (c : Unit → Option (Prop × SV)) : ev.match_1 (fun _ => Option (Prop × SV)) (some (insS i)) a b c = b (insS i) := rfl
def cRG : FuncId → Option Spec := look2 [(116, sROne)]
theorem cRG_ok : ∀ f S, cRG f = some S → CallOk Tryz.prog f S := allOk_spec ⟨sROne_ok, trivial⟩
theorem rgoes_lit (i : Ins) (hi : i.ok) : LitOk Tryz.prog 118 [insS i] [.gone] (.bool (goesB i)) [.gone] := by
  by_cases he : oneE i = 0 <;> by_cases h1 : i.op = 1 <;> by_cases h2 : i.op = 2 <;> by_cases h9 : i.op = 9
  all_goals
    refine litOkM (fn := Tryz.f118) 1 21 0 rfl rfl rfl rfl rfl (by simp only [StableL, Stable, hp, i64S, prS, insS, sndsS, sndS]; simp [HB.born]) rfl fun w0 M E hro => ?_
    repeat' (first | refine Ctl.h ?_ | ((with_reducible intro hif); first | (focus (cases hif; done)) | (simp only [JH] at hif; try (exfalso; omega)) | (try (exfalso; omega))) | ((first | ((with_reducible apply J22 cRG_ok tab_ok); (· rfl)) | ((with_reducible apply J23 fol cRG_ok tab_ok); (· rfl)) | with_reducible apply J24); (· (simp only [push_cast, ↓JP, Nat.reduceAdd, Nat.reduceEqDiff, Nat.reduceLT, Nat.reduceMul, Nat.reduceLeDiff, reduceCtorEq, reduceIte, ↓JK, evm_in1, cRG, sROne, he, h1, h2, h9]; rfl)); (try kernel_rfl); (try (focus (first | exact True.intro | ((try simp only [JS, implies_true, forall_const, shaped, shapedL, kndOf]); (first | assumption | (repeat' (first | assumption | exact True.intro | omega | apply And.intro))); done))))) | fail)
  all_goals
    apply At.endsRet tab_ok (fn := Tryz.f118) (rs := [.tmp 2]) Anc.refl hro (Nat.le_of_ble_eq_true rfl) rfl
    · exact Vm.b11
    · exact Vm.b9
    · exact Vm.b6
    · rfl
    · exact Vm.b7
    · exact Vm.b10
    · (intro β; simp [resS, SV.den, goesB, he, h1, h2, h9])
    · exact Vm.b7
def sRGoes : Spec := fun args h m => match args with
  | [v1] => bif isIns v1 then some (((insOf v1).ok), .bool (goesB (insOf v1)), [], []) else none
  | _ => none
theorem sRGoes_ok : CallOk Tryz.prog 118 sRGoes := by
  refine ⟨named_spec (by kernel_rfl), fun args h m c v rd wr hs hm hc w0 M β h' w R hrd hwr hst => ?_⟩
  unfold sRGoes at hs
  split at hs
  · rename_i v1
    obtain ⟨hb, hs⟩ := bif_some hs
    simp only [Option.some.injEq, Prod.mk.injEq] at hs
    obtain ⟨rfl, rfl, rfl, rfl⟩ := hs
    have b1 := hb
    have y1 := hc
    refine callRo (views := []) (rgoes_lit (insOf v1) y1) ?_ R hm hwr ?_ ?_ ?_
    · intro x hx; cases hx
    · intro β1 hv
      simp only [denL, aggDen, intDen, natDen, boolDen, ls_length, den_insOf b1, den_insS]
    · exact Vm.b7
    · exact Vm.b7
  · cases hs
theorem targB_of {i : Ins} (he : oneE i = 0) : targB i = decide (9 ≤ i.op ∧ i.op ≤ 11) := by
  unfold targB
  rw [he, Bool.eq_iff_iff]
  simp
  omega
theorem targB_no {i : Ins} (he : oneE i ≠ 0) : targB i = false := by
  unfold targB
  simp [he]
theorem rtarg_lit (i : Ins) (hi : i.ok) : LitOk Tryz.prog 117 [insS i] [.gone] (.tup [.int .i64 (targV i), .bool (targB i)]) [.gone] := by
  by_cases he : oneE i = 0 <;> by_cases h1 : i.op < 9 <;> by_cases h2 : 11 < i.op
  all_goals
    refine litOkM (fn := Tryz.f117) 1 19 0 rfl rfl rfl rfl rfl (by simp only [StableL, Stable, hp, i64S, prS, insS, sndsS, sndS]; simp [HB.born]) rfl fun w0 M E hro => ?_
    repeat' (first | refine Ctl.h ?_ | ((with_reducible intro hif); first | (focus (cases hif; done)) | (simp only [JH] at hif; try (exfalso; omega)) | (try (exfalso; omega))) | ((first | ((with_reducible apply J22 cRG_ok tab_ok); (· rfl)) | ((with_reducible apply J23 fol cRG_ok tab_ok); (· rfl)) | with_reducible apply J24); (· (simp only [push_cast, ↓JP, Nat.reduceAdd, Nat.reduceEqDiff, Nat.reduceLT, Nat.reduceMul, Nat.reduceLeDiff, reduceCtorEq, reduceIte, ↓JK, evm_in1, cRG, sROne, he, h1, h2, inR, inN]; rfl)); (try kernel_rfl); (try (focus (first | exact True.intro | ((try simp only [JS, implies_true, forall_const, shaped, shapedL, kndOf, inR, inN]); (first | assumption | (repeat' (first | assumption | exact True.intro | omega | apply And.intro))); done))))) | fail)
  all_goals
    apply At.endsRet tab_ok (fn := Tryz.f117) (rs := [.tmp 2, .tmp 3]) Anc.refl hro (Nat.le_of_ble_eq_true rfl) rfl
    · exact Vm.b11
    · exact Vm.b9
    · exact Vm.b6
    · rfl
    · exact Vm.b7
    · exact Vm.b10
    · (intro β; first | (have e : targB i = false := (by first | exact targB_no he | (rw [targB_of he]; exact decide_eq_false (by omega))); simp only [resS, SV.den, denL, targV, e]; rfl) | (have e : targB i = true := (by rw [targB_of he]; exact decide_eq_true (by omega)); simp only [resS, SV.den, denL, targV, e]; rfl))
    · exact Vm.b7
def sRTarg : Spec := fun args h m => match args with
  | [v1] => bif isIns v1 then some (((insOf v1).ok), .tup [.int .i64 (targV (insOf v1)), .bool (targB (insOf v1))], [], []) else none
  | _ => none
theorem sRTarg_ok : CallOk Tryz.prog 117 sRTarg := by
  refine ⟨named_spec (by kernel_rfl), fun args h m c v rd wr hs hm hc w0 M β h' w R hrd hwr hst => ?_⟩
  unfold sRTarg at hs
  split at hs
  · rename_i v1
    obtain ⟨hb, hs⟩ := bif_some hs
    simp only [Option.some.injEq, Prod.mk.injEq] at hs
    obtain ⟨rfl, rfl, rfl, rfl⟩ := hs
    have b1 := hb
    have y1 := hc
    refine callRo (views := []) (rtarg_lit (insOf v1) y1) ?_ R hm hwr ?_ ?_ ?_
    · intro x hx; cases hx
    · intro β1 hv
      simp only [denL, aggDen, intDen, natDen, boolDen, ls_length, den_insOf b1, den_insS]
    · exact Vm.b7
    · exact Vm.b7
  · cases hs
def cRCk : FuncId → Option Spec := look2 [(116, sROne), (117, sRTarg), (118, sRGoes)]
theorem cRCk_ok : ∀ f S, cRCk f = some S → CallOk Tryz.prog f S := allOk_spec ⟨sROne_ok, sRTarg_ok, sRGoes_ok, trivial⟩
theorem rcheck_lit (P : List Ins) (p1 : Nat) (hok : ∀ x ∈ P, x.ok) : LitOk Tryz.prog 85 [.sl 1 2 [] 5 0 P.length (some p1)] [.gone, .gone, .ro (.arr P.length 5 (prS P))] (.tup [.int .i64 (checkI P).1, .int .i64 (checkI P).2]) [.gone] := by
  have hgo : ∀ j, j < P.length → ∃ x, P.getD j ⟨0, 0, 0, 0, 0⟩ = x ∧ P[j]? = some x ∧ x.ok := fun j hj => ⟨P[j], by rw [List.getD_eq_getElem?_getD, List.getElem?_eq_getElem hj]; rfl, List.getElem?_eq_getElem hj, hok _ (List.getElem_mem _)⟩
  by_cases h0 : P.length = 0
  · obtain rfl := List.eq_nil_of_length_eq_zero h0
    have e : checkI [] = (-1, 6) := rfl
    rw [e]
    refine litOkM (fn := Tryz.f85) 3 55 0 rfl rfl rfl rfl rfl (by simp only [StableL, Stable, hp, i64S, prS, insS, sndsS, sndS]; simp [HB.born]) rfl fun w0 M E hro => ?_
    repeat' (first | refine Ctl.h ?_ | ((with_reducible intro hif); first | (focus (cases hif; done)) | (simp only [JH] at hif; try (exfalso; omega)) | (try (exfalso; omega))) | ((first | ((with_reducible apply J22 cRCk_ok tab_ok); (· rfl)) | ((with_reducible apply J23 fol cRCk_ok tab_ok); (· rfl)) | with_reducible apply J24); (· exact Vm.b18); (try kernel_rfl); (try exact Vm.b12)) | fail)
    apply At.endsRet tab_ok (fn := Tryz.f85) (rs := [.tmp 2, .tmp 3]) Anc.refl hro (Nat.le_of_ble_eq_true rfl) rfl
    · exact Vm.b11
    · exact Vm.b9
    · exact Vm.b6
    · rfl
    · exact Vm.b7
    · exact Vm.b10
    · exact fun β => rfl
    · exact Vm.b7
  by_cases h256 : 256 < P.length
  · have e : checkI P = (-1, 5) := by unfold checkI; rw [if_neg h0, if_pos h256]
    rw [e]
    refine litOkM (fn := Tryz.f85) 3 55 0 rfl rfl rfl rfl rfl (by simp only [StableL, Stable, hp, i64S, prS, insS, sndsS, sndS]; simp [HB.born]) rfl fun w0 M E hro => ?_
    repeat' (first | refine Ctl.h ?_ | ((with_reducible intro hif); first | (focus (cases hif; done)) | (simp only [JH] at hif; try (exfalso; omega)) | (try (exfalso; omega))) | ((first | ((with_reducible apply J22 cRCk_ok tab_ok); (· rfl)) | ((with_reducible apply J23 fol cRCk_ok tab_ok); (· rfl)) | with_reducible apply J24); (· exact Vm.b19); (try kernel_rfl); (try exact Vm.b12)) | fail)
    apply At.endsRet tab_ok (fn := Tryz.f85) (rs := [.tmp 2, .tmp 3]) Anc.refl hro (Nat.le_of_ble_eq_true rfl) rfl
    · exact Vm.b11
    · exact Vm.b9
    · exact Vm.b6
    · rfl
    · exact Vm.b7
    · exact Vm.b10
    · exact fun β => rfl
    · exact Vm.b7
  have eC : checkI P = checkK P := by unfold checkI; rw [if_neg h0, if_neg h256]
  rw [eC]
  refine litOkM (fn := Tryz.f85) 3 55 0 rfl rfl rfl rfl rfl (by simp only [StableL, Stable, hp, i64S, prS, insS, sndsS, sndS]; simp [HB.born]) rfl fun w0 M E hro => ?_
  repeat' (first | refine Ctl.h ?_ | ((with_reducible intro hif); first | (focus (cases hif; done)) | (simp only [JH] at hif; try (exfalso; omega)) | (try (exfalso; omega))) | ((first | ((with_reducible apply J22 cRCk_ok tab_ok); (· rfl)) | ((with_reducible apply J23 fol cRCk_ok tab_ok); (· rfl)) | with_reducible apply J24); (· exact Vm.b19); (try kernel_rfl); (try exact Vm.b12)) | fail)
  refine WF.loopAt (fun (k : Nat) => k ≤ P.length ∧ ∀ i, i < k → ∀ y, P[i]? = some y → badAt P.length y = 0) (fun (k : Nat) => [(0, .sl 1 2 [] 5 0 P.length (some p1)), (4, .nat .i64 k)]) (fun (k : Nat) => [.gone, .gone, .ro (.arr P.length 5 (prS P))]) (fun (k : Nat) => P.length - k) 0 ⟨Nat.zero_le _, fun i hi => absurd hi (Nat.not_lt_zero i)⟩ ?_ ?_ rfl ?_ ?_ rfl ?_
  · exact Vm.b5
  · exact Vm.b6
  · exact Vm.b7
  · exact Vm.b7
  rintro k ⟨hk, hB⟩
  by_cases hkl : k < P.length
  · obtain ⟨x, hx, hx2, hxo⟩ := hgo k hkl
    by_cases he : oneE x = 0
    · by_cases ht : targB x = true
      · by_cases hv : (P.length : Int) ≤ targV x
        · have eb : badAt P.length x = 142 := by unfold badAt; rw [if_neg (fun h => h he), if_pos ⟨ht, hv⟩]
          have e := checkK_bad hB hx2 eb (by decide)
          rw [e]
          repeat' (first | refine Ctl.h ?_ | ((with_reducible intro hif); first | (focus (cases hif; done)) | (simp only [JH] at hif; try (exfalso; omega)) | (try (exfalso; omega))) | ((first | ((with_reducible apply J22 cRCk_ok tab_ok); (· rfl)) | ((with_reducible apply J23 fol cRCk_ok tab_ok); (· rfl)) | with_reducible apply J24); (· exact Vm.b21); (try kernel_rfl); (try exact Vm.b20)) | fail)
          apply At.endsRet tab_ok (fn := Tryz.f85) (rs := [.tmp 2, .tmp 3]) Anc.refl hro (Nat.le_of_ble_eq_true rfl) rfl
          · exact Vm.b11
          · exact Vm.b9
          · exact Vm.b6
          · rfl
          · exact Vm.b7
          · exact Vm.b10
          · exact fun β => rfl
          · exact Vm.b7
        · have eb : badAt P.length x = 0 := by unfold badAt; rw [if_neg (fun h => h he), if_neg (fun h => hv h.2)]
          repeat' (first | refine Ctl.h ?_ | ((with_reducible intro hif); first | (focus (cases hif; done)) | (simp only [JH] at hif; try (exfalso; omega)) | (try (exfalso; omega))) | ((first | ((with_reducible apply J22 cRCk_ok tab_ok); (· rfl)) | ((with_reducible apply J23 fol cRCk_ok tab_ok); (· rfl)) | with_reducible apply J24); (· exact Vm.b21); (try kernel_rfl); (try exact Vm.b20)) | fail)
          refine At.next (k + 1) ?_ ?_ ?_ rfl ?_ ?_ rfl
          · exact Vm.b16
          · exact Vm.b5
          · exact Vm.b6
          · exact Vm.b7
          · exact Vm.b7
      · have eb : badAt P.length x = 0 := by unfold badAt; rw [if_neg (fun h => h he), if_neg (fun h => ht h.1)]
        repeat' (first | refine Ctl.h ?_ | ((with_reducible intro hif); first | (focus (cases hif; done)) | (simp only [JH] at hif; try (exfalso; omega)) | (try (exfalso; omega))) | ((first | ((with_reducible apply J22 cRCk_ok tab_ok); (· rfl)) | ((with_reducible apply J23 fol cRCk_ok tab_ok); (· rfl)) | with_reducible apply J24); (· (simp only [push_cast, ↓JP, Nat.reduceAdd, Nat.reduceEqDiff, Nat.reduceLT, Nat.reduceMul, Nat.reduceLeDiff, reduceCtorEq, reduceIte, ↓JK, evm_in1, cRCk, sROne, sRTarg, sRGoes, hkl, hx, he, ht, inR, inN]; rfl)); (try kernel_rfl); (try exact Vm.b20)) | fail)
        refine At.next (k + 1) ?_ ?_ ?_ rfl ?_ ?_ rfl
        · exact Vm.b16
        · exact Vm.b5
        · exact Vm.b6
        · exact Vm.b7
        · exact Vm.b7
    · have eb : badAt P.length x = oneE x := if_pos he
      have e := checkK_bad hB hx2 eb he
      rw [e]
      repeat' (first | refine Ctl.h ?_ | ((with_reducible intro hif); first | (focus (cases hif; done)) | (simp only [JH] at hif; try (exfalso; omega)) | (try (exfalso; omega))) | ((first | ((with_reducible apply J22 cRCk_ok tab_ok); (· rfl)) | ((with_reducible apply J23 fol cRCk_ok tab_ok); (· rfl)) | with_reducible apply J24); (· (simp only [push_cast, ↓JP, Nat.reduceAdd, Nat.reduceEqDiff, Nat.reduceLT, Nat.reduceMul, Nat.reduceLeDiff, reduceCtorEq, reduceIte, ↓JK, evm_in1, cRCk, sROne, sRTarg, sRGoes, hkl, hx, he, inR, inN]; rfl)); (try kernel_rfl); (try exact Vm.b20)) | fail)
      apply At.endsRet tab_ok (fn := Tryz.f85) (rs := [.tmp 2, .tmp 3]) Anc.refl hro (Nat.le_of_ble_eq_true rfl) rfl
      · exact Vm.b11
      · exact Vm.b9
      · exact Vm.b6
      · rfl
      · exact Vm.b7
      · exact Vm.b10
      · exact fun β => rfl
      · exact Vm.b7
  · obtain rfl : k = P.length := by omega
    have e := checkK_none (p := P) (fun i hi y hy => hB i hi y hy)
    obtain ⟨x, hx, hx2, hxo⟩ := hgo (P.length - 1) (by omega)
    rw [e, hx]
    have hlm : ((P.length : Int) - 1).toNat = P.length - 1 := by omega
    by_cases hg : goesB x = true
    · rw [if_pos hg]
      repeat' (first | refine Ctl.h ?_ | ((with_reducible intro hif); first | (focus (cases hif; done)) | (simp only [JH] at hif; try (exfalso; omega)) | (try (exfalso; omega))) | ((first | ((with_reducible apply J22 cRCk_ok tab_ok); (· rfl)) | ((with_reducible apply J23 fol cRCk_ok tab_ok); (· rfl)) | with_reducible apply J24); (· exact Vm.b22); (try kernel_rfl); (try exact Vm.b20)) | fail)
      apply At.endsRet tab_ok (fn := Tryz.f85) (rs := [.tmp 2, .tmp 3]) Anc.refl hro (Nat.le_of_ble_eq_true rfl) rfl
      · exact Vm.b11
      · exact Vm.b9
      · exact Vm.b6
      · rfl
      · exact Vm.b7
      · exact Vm.b10
      · exact fun β => rfl
      · exact Vm.b7
    · rw [if_neg hg]
      repeat' (first | refine Ctl.h ?_ | ((with_reducible intro hif); first | (focus (cases hif; done)) | (simp only [JH] at hif; try (exfalso; omega)) | (try (exfalso; omega))) | ((first | ((with_reducible apply J22 cRCk_ok tab_ok); (· rfl)) | ((with_reducible apply J23 fol cRCk_ok tab_ok); (· rfl)) | with_reducible apply J24); (· exact Vm.b22); (try kernel_rfl); (try exact Vm.b20)) | fail)
      apply At.endsRet tab_ok (fn := Tryz.f85) (rs := [.tmp 2, .tmp 3]) Anc.refl hro (Nat.le_of_ble_eq_true rfl) rfl
      · exact Vm.b11
      · exact Vm.b9
      · exact Vm.b6
      · rfl
      · exact Vm.b7
      · exact Vm.b10
      · exact fun β => rfl
      · exact Vm.b7
def sRCheck : Spec := fun args h m => match args with
  | [v1] => match srcV h 5 (.tup []) v1 with
    | some (c1, n1, f1, r1) => some (c1 ∧ (∀ q, q < n1 → isIns (f1 q) = true) ∧ ((∀ x ∈ (ls insOf n1 f1), x.ok)), .tup [.int .i64 (checkI (ls insOf n1 f1)).1, .int .i64 (checkI (ls insOf n1 f1)).2], r1, [])
    | _ => none
  | _ => none
theorem sRCheck_ok : CallOk Tryz.prog 85 sRCheck := by
  refine ⟨named_spec (by kernel_rfl), fun args h m c v rd wr hs hm hc w0 M β h' w R hrd hwr hst => ?_⟩
  unfold sRCheck at hs
  split at hs
  · rename_i v1
    split at hs
    · rename_i c1 n1 f1 r1 a1
      simp only [Option.some.injEq, Prod.mk.injEq] at hs
      obtain ⟨rfl, rfl, rfl, rfl⟩ := hs
      obtain ⟨k1, g1, y1⟩ := hc
      obtain ⟨A1, p1, d1, e1, t1⟩ := reads_src R a1 k1 (fun i hi => hrd i hi) (by omega)
      refine callRo (views := [⟨5, (ls insOf n1 f1).length, prS (ls insOf n1 f1), A1, p1⟩]) (rcheck_lit (ls insOf n1 f1) p1 y1) ?_ R hm hwr ?_ ?_ ?_
      · intro x hx
        simp only [List.mem_cons, List.not_mem_nil, or_false] at hx
        subst hx
        · exact viewIns t1 e1 g1
      · intro β1 hv
        simp only [Vd, ls_length, and_true] at hv
        have z1 := hv
        simp only [denL, aggDen, intDen, natDen, boolDen, ls_length, z1, d1]
      · exact Vm.b7
      · exact Vm.b7
    · cases hs
  · cases hs
end Go.Proofs.YtjliakjbdcplcaaGreat.Vm
end

section
namespace Go.Proofs.YtjliakjbdcplcaaGreat.Vm
open Go.RowKit
attribute [local push_cast] runR opG gtmp gval gus opX tmpsOf tm tmO tmP restr look look2 tab tys zs ets eqB eqBL allB numOf ieq Int.cast_ofNat_Int Int.ofNat_zero beq_true beq_false frameOf ev evL ofV opV loadV noW pushF wrsL setH allBorn allGone HB.born HB.isGone HB.val SV.plain dstOk hp nav fitsT SV.size sizeL SV.isAgg TK.size TK.agg bin binE binN binI arN arI cmpN cmpI keq kn narrow callV storeV setp fillV buildV buildSliceV makeV sliceV appendV appendFV slice3V copyV List.isEmpty_nil srcV evO asN ite_t ite_f ite_bool ite_int ite_nat maxV v_beq v_ble v_blt cond_true cond_false List.getElem?_cons_zero List.getElem?_cons_succ List.getD_cons_zero List.getD_cons_succ List.getD_nil List.length_cons List.length_nil List.take_succ_cons List.take_zero List.set_cons_zero List.set_cons_succ List.cons_append List.nil_append List.append_assoc List.replicate_succ List.replicate_zero Nat.zero_add Nat.add_zero decide_true decide_false Bool.true_and Bool.and_true Bool.false_and Bool.and_false Bool.true_or Bool.or_true Bool.false_or Bool.or_false beq_self_eq_true Bool.or_self Nat.lt_irrefl Nat.not_lt_zero Nat.le_refl Option.getD_some Option.getD_none BEq.rfl Bool.not_true Bool.not_false Bool.cond_true_left Bool.cond_false_right
set_option linter.unusedVariables false
set_option linter.unusedSimpArgs false
set_option maxRecDepth 100000
set_option maxHeartbeats 4000000
end Go.Proofs.YtjliakjbdcplcaaGreat.Vm
end

section
namespace Go.Proofs.YtjliakjbdcplcaaGreat.Vm
open Go.RowKit
set_option linter.unusedVariables false
set_option linter.unusedSimpArgs false
set_option maxRecDepth 100000
structure Evt where
  time : Int
  source : Int
  seq : Int
  to_ : Int
  value : Int
deriving DecidableEq
def Evt.cells (e : Evt) : List Value := [.int .i64 e.time, .int .i64 e.source, .int .i64 e.seq, .int .i64 e.to_, .int .i64 e.value]
def evtsV (l : List Evt) : List Value := l.flatMap Evt.cells
def evtOf : SV → Evt
  | .agg [.agg [a, b, c], d, e] => ⟨iOf a, iOf b, iOf c, iOf d, iOf e⟩
  | _ => ⟨0, 0, 0, 0, 0⟩
def isEvt : SV → Bool
  | .agg [.agg [a, b, c], d, e] => isI .i64 a && isI .i64 b && isI .i64 c && isI .i64 d && isI .i64 e
  | _ => false
theorem isEvt_cl {v : SV} {β : Env} (h : isEvt v = true) : v.cl β = (evtOf v).cells := by
  unfold isEvt at h
  split at h
  · rename_i a b c d e
    simp only [Bool.and_eq_true] at h
    obtain ⟨⟨⟨⟨h1, h2⟩, h3⟩, h4⟩, h5⟩ := h
    rw [cl_agg]
    simp only [clL_cons, clL_nil, cl_agg, isI_cl h1, isI_cl h2, isI_cl h3, isI_cl h4, isI_cl h5, evtOf, Evt.cells, List.cons_append, List.nil_append, List.append_nil]
  · cases h
def evtS (e : Evt) : SV := .agg [.agg [.int .i64 e.time, .int .i64 e.source, .int .i64 e.seq], .int .i64 e.to_, .int .i64 e.value]
theorem evtOf_evtS (e : Evt) : evtOf (evtS e) = e := rfl
theorem isEvt_evtS (e : Evt) : isEvt (evtS e) = true := rfl
theorem evtS_stable {h : HM} (e : Evt) : Stable h (evtS e) := by simp [evtS, Stable, StableL]
def evtsS (l : List Evt) : Nat → SV := fun q => evtS (l.getD q ⟨0, 0, 0, 0, 0⟩)
theorem evtsS_stable {h : HM} {l : List Evt} (q : Nat) : Stable h (evtsS l q) := by simp [evtsS, evtS, Stable, StableL]
theorem elems_evt {β : Env} {n : Nat} {f : Nat → SV} (hf : ∀ q, q < n → isEvt (f q) = true) : elems β 5 n f = evtsV (ls evtOf n f) := elems_ls isEvt_cl (fun _ => rfl) hf
theorem elems_evtsS {β : Env} (l : List Evt) : elems β 5 l.length (evtsS l) = evtsV l := by
  rw [elems_evt fun q _ => rfl]
  congr 1
  exact ls_of evtOf_evtS l _
theorem ls_evtsS (l : List Evt) : ls evtOf l.length (evtsS l) = l := ls_of evtOf_evtS l _
theorem ls_evtsS' (l : List Evt) : ls evtOf l.length (fun q => evtsS l q) = l := ls_evtsS l
theorem evtsS_ren (ρ : Nat → Nat) (l : List Evt) : (fun q => (evtsS l q).ren ρ) = evtsS l := by
  funext q; unfold evtsS; simp only [evtS, SV.ren, renL]
theorem viewEvt {w : World} {β : Env} {A : Option Addr} {n cap : Nat} {f : Nat → SV} (hr : Reads w w.heap.size 5 A n (elems β 5 n f)) (hn : n ≤ cap) (hf : ∀ q, q < n → isEvt (f q) = true) : (View.mk 5 (ls evtOf n f).length (evtsS (ls evtOf n f)) A cap).Ok w :=
  ⟨fun β' => by rw [elems_evtsS, ls_length]; rwa [elems_evt hf] at hr, by rw [ls_length]; exact hn, fun h q => evtsS_stable q, Nat.succ_pos _⟩
theorem den_evtOf {v : SV} {β : Env} (h : isEvt v = true) : v.den β = .agg (evtOf v).cells.toArray := by
  have ha : v.isAgg = true := by cases v <;> first | rfl | (cases h; done)
  rw [den_agg ha, isEvt_cl h]
theorem den_evtS {β : Env} (e : Evt) : (evtS e).den β = .agg e.cells.toArray := rfl
def u8S (l : List Int) : Nat → SV := fun q => .int .u8 (l.getD q 0)
end Go.Proofs.YtjliakjbdcplcaaGreat.Vm
end

section
namespace Go.Proofs.YtjliakjbdcplcaaGreat.Vm
open Go.RowKit
set_option linter.unusedVariables false
set_option linter.unusedSimpArgs false
structure PG (P : List Ins) : Prop where
  ok : ∀ x ∈ P, x.ok
  chk : (checkI P).2 = 0
structure SG (P : List Ins) (s : Sta) : Prop where
  a0 : 0 ≤ s.at_
  a1 : s.at_ < P.length
  d0 : 0 ≤ s.draws
  d1 : s.draws ≤ 1099511627776
  c1 : s.cells.length ≤ 1024
  n1 : s.sends.length ≤ 1000000
theorem PG.len {P : List Ins} (h : PG P) : P.length ≤ 256 := (right_last' h.chk).2.1
theorem SG.sok {P : List Ins} {s : Sta} (h : SG P s) (hP : PG P) : SOk s := ⟨h.a0, by have := h.a1; have := hP.len; omega, h.d0, h.d1, h.c1, h.n1⟩
theorem SG.ri {P : List Ins} {s : Sta} (h : SG P s) (hP : PG P) : RI (insAt P s.at_) := ri_at hP.ok hP.chk (by have := h.a0; have := h.a1; omega)
theorem SG.of {P : List Ins} {s : Sta} (h : s.rightB P.length = true) (hn : s.sends.length ≤ 1000000) : SG P s := by
  have := of_decide_eq_true (show decide _ = true from h)
  exact ⟨by omega, by omega, by omega, by omega, by omega, hn⟩
theorem doS_good {P : List Ins} {s : Sta} {v : Evi} (h : SG P s) (hP : PG P) : SG P (doS s v (insAt P s.at_)) := by
  by_cases he : doE s v (insAt P s.at_) ≠ 0
  · rw [doS_bad he]; exact h
  · have hR := right_at hP.ok hP.chk (k := s.at_.toNat) (by have := h.a0; have := h.a1; omega)
    have hx : P.getD s.at_.toNat ⟨0, 0, 0, 0, 0⟩ = insAt P s.at_ := rfl
    rw [hx] at hR
    generalize insAt P s.at_ = x at *
    obtain ⟨a0, a1, d0, d1, c1, n1⟩ := h
    have hg := goesB_of hR.one
    have ht := targB_of hR.one
    have hgo : x.op ≠ 1 → x.op ≠ 2 → x.op ≠ 9 → s.at_ + 1 < P.length := fun h1 h2 h9 => by
      have := hR.goes (by rw [hg]; simp [h1, h2, h9])
      omega
    have hta : (x.op = 9 ∨ x.op = 10 ∨ x.op = 11) → 0 ≤ x.n ∧ x.n < P.length := fun hj => by
      have hb : targB x = true := by rw [ht]; rcases hj with e | e | e <;> simp [e]
      have := hR.targ hb
      unfold targV at this
      rwa [if_pos hb] at this
    have h2 : x.op ≠ 2 := fun e => he (by simp [doE, e])
    have hE : doE s v x = 0 := by omega
    have hP : ∀ k y, s.at_ + 1 < P.length → SG P (s.put k y) := fun k y h => ⟨by show 0 ≤ s.at_ + 1; omega, h, d0, d1, c1, n1⟩
    rcases hR.cls with q | q | q | q | q | q | q | q | q | q | q | q
    · rw [show doS s v x = { s with ended := true } by simp [doS, hE, q]]; exact ⟨a0, a1, d0, d1, c1, n1⟩
    · exact absurd q h2
    · rw [show doS s v x = s.put x.a.toNat x.n by simp [doS, hE, q]]; exact hP _ _ (hgo (by omega) h2 (by omega))
    · rw [show doS s v x = s.put x.a.toNat (s.regs x.b.toNat) by simp [doS, hE, q]]; exact hP _ _ (hgo (by omega) h2 (by omega))
    · rw [show doS s v x = s.put x.a.toNat (s.cells.getD (s.regs x.b.toNat).toNat 0) by simp [doS, hE, q]]; exact hP _ _ (hgo (by omega) h2 (by omega))
    · rw [show doS s v x = { s with cells := s.cells.set (s.regs x.b.toNat).toNat (s.regs x.a.toNat), at_ := s.at_ + 1 } by simp [doS, hE, q]]
      exact ⟨by show 0 ≤ s.at_ + 1; omega, hgo (by omega) h2 (by omega), d0, d1, by simpa using c1, n1⟩
    · rw [show doS s v x = { s.put x.a.toNat (drawI v.seed v.process s.draws (s.regs x.b.toNat)) with draws := s.draws + 1 } by simp [doS, hE, q]]
      have hd : s.draws ≠ 1099511627776 := fun e => by
        have h3 : doE s v x = if s.regs x.b.toNat < 1 then 186 else if s.draws = 1099511627776 then 187 else 0 := by simp [doE, q]
        rw [hE, if_pos e] at h3
        split at h3 <;> omega
      exact ⟨by show 0 ≤ s.at_ + 1; omega, hgo (by omega) h2 (by omega), by show 0 ≤ s.draws + 1; omega, by show s.draws + 1 ≤ _; omega, c1, n1⟩
    · rw [show doS s v x = { s with at_ := s.at_ + 1, sends := s.sends ++ [⟨x.n, s.regs x.a.toNat, s.regs x.b.toNat⟩] } by simp [doS, hE, q]]
      have hs : s.sends.length < 256 := by
        rcases Nat.lt_or_ge s.sends.length 256 with h' | h'
        · exact h'
        · exfalso
          have h3 : doE s v x = sendE s v x := by simp [doE, q]
          unfold sendE at h3
          rw [hE, if_pos h'] at h3
          split at h3
          · omega
          · split at h3
            · omega
            · split at h3 <;> omega
      exact ⟨by show 0 ≤ s.at_ + 1; omega, hgo (by omega) h2 (by omega), d0, d1, c1, by simp; omega⟩
    · rw [show doS s v x = { s with at_ := x.n } by simp [doS, hE, q]]
      have := hta (.inl q); exact ⟨this.1, this.2, d0, d1, c1, n1⟩
    · rw [show doS s v x = { s with at_ := if s.regs x.a.toNat = 0 then x.n else s.at_ + 1 } by simp [doS, hE, q]]
      have h3 := hta (.inr (.inl q))
      have h4 := hgo (by omega) h2 (by omega)
      refine ⟨?_, ?_, d0, d1, c1, n1⟩ <;> dsimp only <;> split <;> omega
    · rw [show doS s v x = { s with at_ := if s.regs x.a.toNat < 0 then x.n else s.at_ + 1 } by simp [doS, hE, q]]
      have h3 := hta (.inr (.inr q))
      have h4 := hgo (by omega) h2 (by omega)
      refine ⟨?_, ?_, d0, d1, c1, n1⟩ <;> dsimp only <;> split <;> omega
    · rw [show doS s v x = s.put x.a.toNat (applyV (x.op - 32) (s.regs x.b.toNat) (s.regs x.c.toNat)) by
        unfold doS
        rw [hE]
        simp [show ¬ x.op = 1 by omega, show ¬ x.op = 3 by omega, show ¬ x.op = 4 by omega, show ¬ x.op = 5 by omega, show ¬ x.op = 6 by omega, show ¬ x.op = 7 by omega, show ¬ x.op = 8 by omega, show ¬ x.op = 9 by omega, show ¬ x.op = 10 by omega, show ¬ x.op = 11 by omega]]
      exact hP _ _ (hgo (by omega) h2 (by omega))
theorem stepS_good {P : List Ins} {s : Sta} {v : Evi} (h : SG P s) (hP : PG P) : SG P (stepS P v s) := by
  unfold stepS
  split
  · exact h
  · exact doS_good h hP
end Go.Proofs.YtjliakjbdcplcaaGreat.Vm
end

section
namespace Go.Proofs.YtjliakjbdcplcaaGreat.Vm
open Go.RowKit
set_option linter.unusedVariables false
set_option linter.unusedSimpArgs false
def stepX (P : List Ins) (s : Sta) (x : Ins) : Ins := if s.ended = true then x else insAt P s.at_
structure RR where
  tr : List Int
  at_ : Int
  bad : Int
  s : Sta
  x : Ins
def runA (P : List Ins) (v : Evi) : Nat → Sta → Ins → List Int → Int → RR
  | 0, s, x, tr, a => if s.ended = true then ⟨tr, a, 0, s, x⟩ else ⟨tr, s.at_, 190, s, x⟩
  | n + 1, s, x, tr, a => if s.ended = true then ⟨tr, a, 0, s, x⟩ else
    if stepE P v s = 0 then runA P v n (stepS P v s) (stepX P s x) (tr ++ [s.at_]) s.at_ else ⟨tr ++ [s.at_], s.at_, stepE P v s, stepS P v s, stepX P s x⟩
theorem runA_end {P : List Ins} {v : Evi} {n : Nat} {s : Sta} {x : Ins} {tr : List Int} {a : Int} (h : s.ended = true) : runA P v n s x tr a = ⟨tr, a, 0, s, x⟩ := by
  cases n <;> simp [runA, h]
theorem runA_zero {P : List Ins} {v : Evi} {s : Sta} {x : Ins} {tr : List Int} {a : Int} (h : s.ended = false) : runA P v 0 s x tr a = ⟨tr, s.at_, 190, s, x⟩ := by simp [runA, h]
theorem runA_go {P : List Ins} {v : Evi} {n : Nat} {s : Sta} {x : Ins} {tr : List Int} {a : Int} (h : s.ended = false) (hn : 0 < n) (he : stepE P v s = 0) : runA P v n s x tr a = runA P v (n - 1) (stepS P v s) (stepX P s x) (tr ++ [s.at_]) s.at_ := by
  obtain ⟨n, rfl⟩ : ∃ k, n = k + 1 := ⟨n - 1, by omega⟩
  simp [runA, h, he]
theorem runA_bad {P : List Ins} {v : Evi} {n : Nat} {s : Sta} {x : Ins} {tr : List Int} {a : Int} (h : s.ended = false) (hn : 0 < n) (he : stepE P v s ≠ 0) : runA P v n s x tr a = ⟨tr ++ [s.at_], s.at_, stepE P v s, stepS P v s, stepX P s x⟩ := by
  obtain ⟨n, rfl⟩ : ∃ k, n = k + 1 := ⟨n - 1, by omega⟩
  simp [runA, h, he]
theorem wrongE_vals (op b : Int) : wrongE op b = 0 ∨ wrongE op b = 130 ∨ wrongE op b = 131 := by
  unfold wrongE
  split
  · omega
  · split <;> omega
theorem doE_ne190 (s : Sta) (v : Evi) (x : Ins) : doE s v x ≠ 190 := by
  unfold doE sendE
  have := wrongE_vals (x.op - 32) (s.regs x.c.toNat)
  repeat' split
  all_goals omega
theorem stepE_ne190 (P : List Ins) (v : Evi) (s : Sta) : stepE P v s ≠ 190 := by
  unfold stepE
  split
  · omega
  · exact doE_ne190 _ _ _
def rrE (f : Int) : Int := if f < 0 ∨ 4096 < f then 2 else 0
def begR (value time source : Int) : Nat → Int := fun q => if q = 2 then source else if q = 1 then time else if q = 0 then value else 0
def begS (value time source : Int) (cells : List Int) (draws : Int) : Sta := ⟨0, false, begR value time source, cells, draws, []⟩
def ropE (P : List Ins) (v : Evi) (s : Sta) (f : Int) : Int := if rrE f = 0 then openE P v s else rrE f
def runO (P : List Ins) (v : Evi) (s : Sta) (f : Int) : RR := if ropE P v s f = 0 then runA P v f.toNat s Ins0 [] 0 else ⟨[], 0, ropE P v s f, zeroSt, Ins0⟩
theorem ropE_zero {P : List Ins} {v : Evi} {s : Sta} {f : Int} (h : ropE P v s f = 0) : (0 ≤ f ∧ f ≤ 4096) ∧ openE P v s = 0 := by
  unfold ropE at h
  by_cases q : rrE f = 0
  · rw [if_pos q] at h
    refine ⟨?_, h⟩
    unfold rrE at q
    split at q <;> omega
  · rw [if_neg q] at h; exact absurd h q
theorem openE_zero {P : List Ins} {v : Evi} {s : Sta} (h : openE P v s = 0) : (checkI P).2 = 0 ∧ v.rightB = true ∧ s.rightB P.length = true := by
  unfold openE at h
  have q1 : (checkI P).2 = 0 := by
    by_cases q : (checkI P).2 = 0
    · exact q
    · rw [if_pos q] at h; cases h
  rw [if_neg (fun h => h q1)] at h
  have q2 : v.rightB = true := by
    cases q : v.rightB
    · rw [if_pos q] at h; cases h
    · rfl
  rw [if_neg (by rw [q2]; exact Bool.noConfusion)] at h
  refine ⟨q1, q2, ?_⟩
  cases q : s.rightB P.length
  · rw [if_pos q] at h; cases h
  · rfl
end Go.Proofs.YtjliakjbdcplcaaGreat.Vm
end

section
namespace Go.Proofs.YtjliakjbdcplcaaGreat
open Go.RowKit
set_option linter.unusedVariables false
set_option linter.unusedSimpArgs false

theorem reads_new (X : World) (t : TypeId) (cs : Array Value) (k n B gg : Nat) (h : gg = X.heap.size) (hB : gg < B) (hl : cs.size = n * k) : Reads (X.alloc (.cells cs t)) B k (some ⟨gg, 0, none⟩) n cs.toList := by
  subst h
  refine ⟨by simpa using hl, fun _ => ⟨_, rfl, hB, fun j u hu => ?_⟩⟩
  rw [Addr.add_lit, cell_of_row _ _ _ _ _ _ (heap_alloc_new X _), Nat.zero_add]
  simpa using hu
theorem Blk.row {W : World} {g : Nat} {t : TypeId} {cs : Array Value} (h : Blk W g t cs) (cs' : Array Value) : Blk (W.setRow g cs') g t cs' := setRow_heap _ _ _ _ _ _ h
def haltI : Ins := ⟨1, 0, 0, 0, 0⟩
theorem infoIns : (Tryz.prog.info? 38).map (fun i => (i.zero, i.size, i.bytes)) = some (some (.agg #[.int .u8 0, .int .u8 0, .int .u8 0, .int .u8 0, .int .i64 0]), 5, 16) := by kernel_rfl
def IsRow (w : World) (g k : Nat) : Prop := ∃ t cs, Blk w g t cs ∧ cs.size = k
section
variable {d : Option Tmp} {x y : Operand} {ty : TypeId} {pos : String} {after : Array Edge} {guard : Option (Nat × Bool)} {a : Act} {w : World} {K : Act → World → Prop} {Q : Exit → Act → World → Prop}
end

structure Rd where
  size : Nat
  A : Option Addr
  n : Nat
  xs : List Value
structure Bk where
  g : Nat
  t : TypeId
  cs : Array Value
structure AW (w : World) (L : List Bk) (R : List Rd) (W : World) : Prop where
  b : Below w.heap.size w W
  l : ∀ e ∈ L, Blk W e.g e.t e.cs
  r : ∀ e ∈ R, Reads W W.heap.size e.size e.A e.n e.xs
section
variable {w W W' : World} {L : List Bk} {R : List Rd}
theorem AW.start (w : World) : AW w [] [⟨1, none, 0, []⟩, ⟨3, none, 0, []⟩] w :=
  ⟨Below.refl _ _, by simp, fun e he => by
    simp only [List.mem_cons, List.not_mem_nil, or_false] at he
    rcases he with rfl | rfl <;> exact Reads.none_⟩
theorem AW.drew (h : AW w L R W) : AW w L R W.drew := ⟨h.b.drew, h.l, h.r⟩
theorem AW.call (h : AW w L R W) (hb : Below W.heap.size W W') : AW w L R W' :=
  ⟨h.b.trans (hb.mono h.b.size), fun e he => (h.l e he).below hb (h.l e he).lt, fun e he => ((h.r e he).below hb).more hb.size⟩
theorem AW.alloc (h : AW w L R W) (o : Obj) : AW w L R (W.alloc o) :=
  ⟨h.b.alloc h.b.size _, fun e he => (h.l e he).alloc _, fun e he => ((h.r e he).alloc (Nat.le_refl _) o).more (by simp)⟩
theorem AW.put (h : AW w L R W) (t : TypeId) (cs : Array Value) : AW w (⟨W.heap.size, t, cs⟩ :: L) R (W.alloc (.cells cs t)) :=
  ⟨(h.alloc _).b, fun e he => by
    rcases List.mem_cons.1 he with rfl | he
    · exact Blk.new _ _ _
    · exact (h.alloc _).l e he, (h.alloc _).r⟩
theorem AW.read (h : AW w L R W) {e : Rd} (he : Reads W W.heap.size e.size e.A e.n e.xs) : AW w L (e :: R) W :=
  ⟨h.b, h.l, fun x hx => by
    rcases List.mem_cons.1 hx with rfl | hx
    · exact he
    · exact h.r x hx⟩
theorem AW.array (h : AW w L R W) (t : TypeId) (cs : Array Value) (k n : Nat) (hl : cs.size = n * k) : AW w L (⟨k, some ⟨W.heap.size, 0, none⟩, n, cs.toList⟩ :: R) (W.alloc (.cells cs t)) :=
  (h.alloc _).read (reads_new W t cs k n _ _ rfl (by simp) hl)
theorem AW.less (h : AW w L R W) {L' : List Bk} {R' : List Rd} (hl : L' ⊆ L) (hr : R' ⊆ R) : AW w L' R' W := ⟨h.b, fun e he => h.l e (hl he), fun e he => h.r e (hr he)⟩
theorem IsRow.below {g k : Nat} (h : IsRow W g k) (hb : Below W.heap.size W W') : IsRow W' g k := by
  obtain ⟨t, cs, hB, hk⟩ := h
  exact ⟨t, cs, hB.below hb hB.lt, hk⟩
theorem Reads.call {k n : Nat} {A : Option Addr} {xs : List Value} (h : Reads W W.heap.size k A n xs) (hb : Below W.heap.size W W') : Reads W' W'.heap.size k A n xs := (h.below hb).more hb.size
end
end Go.Proofs.YtjliakjbdcplcaaGreat
end

section
namespace Go.Proofs.YtjliakjbdcplcaaGreat
open Go.RowKit
set_option linter.unusedVariables false
set_option linter.unusedSimpArgs false

def tbl14 : List Int := [3, 3, 3, 3, 3, 4, 5, 5, 5, 6, 6, 6, 7, 8, 8, 9, 10, 10, 10, 11, 11, 1, 2]
def op14 (o : Int) : Int := if o % 40 < 17 then 33 + o % 40 else tbl14.getD (o % 40 - 17).toNat 0
def fld14 (x : Ins) : Nat → Int | 0 => x.a | 1 => x.b | _ => x.c
def setF14 (i : Ins) (k : Nat) (v : Int) : Ins := match k with | 0 => { i with a := v } | 1 => { i with b := v } | _ => { i with c := v }
def step14 (x : Ins) (M : Int) (st : Nat × Ins) (l : UInt8) : Nat × Ins :=
  if l.toNat = 114 then (st.1 + 1, if st.1 < 3 then setF14 st.2 st.1 (fld14 x st.1 % 8) else st.2)
  else if l.toNat = 110 then (st.1, { st.2 with n := x.n })
  else if l.toNat = 112 then (st.1, { st.2 with n := IntKind.u64.wrap x.n % 16 })
  else (st.1, { st.2 with n := IntKind.u64.wrap x.n % M })
def fold14 (x : Ins) (M : Int) (S : ByteArray) (p : Nat) : Nat × Ins := (S.data.toList.take p).foldl (step14 x M) (0, ⟨op14 x.op, 0, 0, 0, 0⟩)
structure MI (w : World) (B : Nat) (x : Ins) (S : ByteArray) (p : Nat) (out : Ins) (X : World) : Prop where
  it : X.heap[B + 2]? = some (.stringIter S p)
  b8 : Blk X B 38 #[.int .u8 out.op, .int .u8 out.a, .int .u8 out.b, .int .u8 out.c, .int .i64 out.n]
  b2 : Blk X w.heap.size 194 #[.int .u8 x.op, .int .u8 x.a, .int .u8 x.b, .int .u8 x.c, .int .i64 x.n]
  b9 : Blk X (B + 1) 226 #[.pointer (some ⟨B, 1, none⟩), .pointer (some ⟨B, 2, none⟩), .pointer (some ⟨B, 3, none⟩)]
  b4 : Blk X (w.heap.size + 1) 38 #[.int .u8 0, .int .u8 0, .int .u8 0, .int .u8 0, .int .i64 0]
  below : Below w.heap.size w X
section
variable {w X : World} {B : Nat} {x out : Ins} {S : ByteArray} {p : Nat}
theorem MI.next (h : MI w B x S p out X) (hB : w.heap.size + 1 < B) (q : Nat) : MI w B x S q out (X.iterAt (B + 2) S q) :=
  have f : ∀ {g t cs}, g ≠ B + 2 → Blk X g t cs → Blk (X.iterAt (B + 2) S q) g t cs := fun hg hb => (Lib.iterAt_other X (B + 2) _ S q hg).trans hb
  ⟨Lib.iterAt_heap X (B + 2) S p q h.it, f (by omega) h.b8, f (by omega) h.b2, f (by omega) h.b9, f (by omega) h.b4, Lib.below_iterAt h.below (by omega) S q⟩
theorem MI.alloc (h : MI w B x S p out X) (o : Obj) : MI w B x S p out (X.alloc o) :=
  ⟨(Below.heap_alloc X o _ (Array.getElem?_eq_some_iff.1 h.it).1).trans h.it, h.b8.alloc o, h.b2.alloc o, h.b9.alloc o, h.b4.alloc o, h.below.alloc h.below.size o⟩
theorem MI.drew (h : MI w B x S p out X) : MI w B x S p out X.drew := ⟨h.it, h.b8, h.b2, h.b9, h.b4, h.below.drew⟩
theorem MI.set (h : MI w B x S p out X) (hB : w.heap.size + 1 < B) (i : Nat) (u : Value) (out' : Ins) (ho : (#[.int .u8 out.op, .int .u8 out.a, .int .u8 out.b, .int .u8 out.c, .int .i64 out.n] : Array Value).setIfInBounds i u = #[.int .u8 out'.op, .int .u8 out'.a, .int .u8 out'.b, .int .u8 out'.c, .int .i64 out'.n]) :
    MI w B x S p out' (X.setCell ⟨B, i, none⟩ u) :=
  ⟨(Below.heap_setCell X ⟨B, i, none⟩ u (B + 2) (by show B + 2 ≠ B; omega)).trans h.it, ho ▸ h.b8.set_ i u, h.b2.far (p := ⟨B, i, none⟩) (by show w.heap.size ≠ B; omega) u, h.b9.far (p := ⟨B, i, none⟩) (by show B + 1 ≠ B; omega) u, h.b4.far (p := ⟨B, i, none⟩) (by show w.heap.size + 1 ≠ B; omega) u, h.below.setCell (p := ⟨B, i, none⟩) (by show w.heap.size ≤ B; omega) u⟩
end
end Go.Proofs.YtjliakjbdcplcaaGreat
end

section
namespace Go.Proofs.YtjliakjbdcplcaaGreat
open Go.RowKit
set_option linter.unusedVariables false
set_option linter.unusedSimpArgs false

def one14 (x : Ins) (M : Int) : Ins := (fold14 x M (formS (formC (op14 x.op))) (formS (formC (op14 x.op))).size).2
theorem formC_cases (op : Int) : formC op = 0 ∨ formC op = 1 ∨ formC op = 2 ∨ formC op = 3 ∨ formC op = 4 ∨ formC op = 5 ∨ formC op = 6 ∨ formC op = 7 := by
  unfold formC; repeat (first | (split; · simp) | simp)
theorem formS_size (k : Nat) : (formS k).size ≤ 100 := by
  unfold formS; split <;> decide
def made14 (xs : List Ins) : List Ins := (xs.take 40).map (fun x => one14 x ((xs.take 40).length + 1 : Nat)) ++ [haltI]
end Go.Proofs.YtjliakjbdcplcaaGreat
end

section
namespace Go.Proofs.YtjliakjbdcplcaaGreat.Vm
open Go.RowKit
set_option linter.unusedVariables false
set_option linter.unusedSimpArgs false
end Go.Proofs.YtjliakjbdcplcaaGreat.Vm
end

section
namespace Go.Proofs.YtjliakjbdcplcaaGreat.Vm
open Go.RowKit
set_option linter.unusedVariables false
set_option linter.unusedSimpArgs false
section
variable {P : List Ins} {v : Evi}
theorem runA_le : ∀ (n : Nat) (s : Sta) (x : Ins) (tr : List Int) (a : Int), tr.length ≤ (runA P v n s x tr a).tr.length ∧ (runA P v n s x tr a).tr.length ≤ tr.length + n
  | 0, s, x, tr, a => by
    unfold runA
    split <;> simp
  | n + 1, s, x, tr, a => by
    unfold runA
    split
    · simp
    · split
      · have := runA_le n (stepS P v s) (stepX P s x) (tr ++ [s.at_]) s.at_
        simp at this
        omega
      · simp
variable {s : Sta} {F n : Int}
theorem ropE_of (hO : openE P v s = 0) (h0 : 0 ≤ F) (h1 : F ≤ 4096) : ropE P v s F = 0 := by
  unfold ropE
  have : rrE F = 0 := by unfold rrE; rw [if_neg (by omega)]
  rw [if_pos this]; exact hO
theorem runO_of (hO : openE P v s = 0) (h0 : 0 ≤ F) (h1 : F ≤ 4096) : runO P v s F = runA P v F.toNat s Ins0 [] 0 := by
  unfold runO; rw [if_pos (ropE_of hO h0 h1)]
theorem runO_le (hO : openE P v s = 0) (h0 : 0 ≤ F) (h1 : F ≤ 4096) : ((runO P v s F).tr.length : Int) ≤ F := by
  rw [runO_of hO h0 h1]
  have := (runA_le (P := P) (v := v) F.toNat s Ins0 [] 0).2
  simp at this
  omega
end
theorem runA_good {P : List Ins} {v : Evi} (hP : PG P) : ∀ (n : Nat) (s : Sta) (x : Ins) (tr : List Int) (a : Int), SG P s → SG P (runA P v n s x tr a).s
  | 0, s, x, tr, a, h => by
    unfold runA
    split <;> exact h
  | n + 1, s, x, tr, a, h => by
    unfold runA
    split
    · exact h
    · split
      · exact runA_good hP n _ _ _ _ (stepS_good h hP)
      · exact stepS_good h hP
end Go.Proofs.YtjliakjbdcplcaaGreat.Vm
end

section
namespace Go.Proofs.YtjliakjbdcplcaaGreat.Vm
open Go.RowKit
set_option linter.unusedVariables false
set_option linter.unusedSimpArgs false
def cnt (P : List Ins) (op : Int) (tr : List Int) : Nat := (tr.filter fun k => decide ((insAt P k).op = op)).length
theorem cnt_app (P : List Ins) (op : Int) (tr : List Int) (k : Int) : cnt P op (tr ++ [k]) = cnt P op tr + (if (insAt P k).op = op then 1 else 0) := by
  unfold cnt
  rw [List.filter_append, List.length_append]
  congr 1
  by_cases h : (insAt P k).op = op <;> simp [h]
def chg (a b : List Int) : Nat := ((List.range a.length).filter fun i => decide (a.getD i 0 ≠ b.getD i 0)).length
theorem chg_self (a : List Int) : chg a a = 0 := by simp [chg]
theorem filter_one {l : List Nat} (hl : l.Nodup) (p q : Nat → Bool) (r : Nat) (h : ∀ i, i ≠ r → p i = q i) : (l.filter p).length ≤ (l.filter q).length + 1 := by
  induction l with
  | nil => simp
  | cons x l ih =>
    rw [List.nodup_cons] at hl
    by_cases hx : x = r
    · subst hx
      have e : l.filter p = l.filter q := List.filter_congr fun i hi => h i (fun e => hl.1 (e ▸ hi))
      simp only [List.filter_cons, e]
      cases p x <;> cases q x <;> simp only [cond_true, cond_false, if_true, if_false, List.length_cons, Bool.false_eq_true] <;> omega
    · have := ih hl.2
      simp only [List.filter_cons, h x hx]
      cases q x <;> simp only [if_true, if_false, List.length_cons, Bool.false_eq_true] <;> omega
theorem chg_set (a b : List Int) (r : Nat) (z : Int) : chg a (b.set r z) ≤ chg a b + 1 := by
  unfold chg
  refine filter_one List.nodup_range _ _ r fun i hi => ?_
  rw [List.getD_eq_getElem?_getD (l := b.set r z), List.getElem?_set_ne (fun e => hi e.symm), ← List.getD_eq_getElem?_getD]
structure SI (P : List Ins) (v : Evi) (c0 : List Int) (d0 : Int) (tr : List Int) (s : Sta) : Prop where
  at_ : ∀ k ∈ tr, 0 ≤ k ∧ k < P.length
  n : s.sends.length = cnt P 8 tr
  d : s.draws = d0 + cnt P 7 tr
  l : s.cells.length = c0.length
  c : chg c0 s.cells ≤ cnt P 6 tr
  s : ∀ y ∈ s.sends, 0 ≤ y.port ∧ y.port < v.ports ∧ v.look ≤ y.delay ∧ y.delay ≤ 281474976710656 - v.now
theorem si_step {P : List Ins} {v : Evi} {c0 : List Int} {d0 : Int} {tr : List Int} {s : Sta} (hP : PG P) (h : SI P v c0 d0 tr s) (hG : SG P s) (he : s.ended = false) (hs : stepE P v s = 0) : SI P v c0 d0 (tr ++ [s.at_]) (stepS P v s) := by
  have hE : doE s v (insAt P s.at_) = 0 := by unfold stepE at hs; rw [he] at hs; exact hs
  have e0 : stepS P v s = doS s v (insAt P s.at_) := by unfold stepS; rw [he]; rfl
  have R := hG.ri hP
  rw [e0]
  have ht : ∀ k ∈ tr ++ [s.at_], 0 ≤ k ∧ k < P.length := fun k hk => by
    rw [List.mem_append] at hk
    rcases hk with hk | hk
    · exact h.at_ k hk
    · simp at hk; subst hk; exact ⟨hG.a0, hG.a1⟩
  have c6 := cnt_app P 6 tr s.at_
  have c7 := cnt_app P 7 tr s.at_
  have c8 := cnt_app P 8 tr s.at_
  generalize hx : insAt P s.at_ = x at *
  have hd := h.d
  have hn := h.n
  have hc := h.c
  -- the same lists and draws
  have base : ∀ t : Sta, t.sends = s.sends → t.draws = s.draws → t.cells = s.cells → x.op ≠ 7 → x.op ≠ 8 → SI P v c0 d0 (tr ++ [s.at_]) t := fun t h1 h2 h3 n7 n8 => by
    rw [if_neg n7] at c7
    rw [if_neg n8] at c8
    exact ⟨ht, by rw [h1, c8, hn]; rfl, by rw [h2, c7, hd]; rfl, by rw [h3, h.l], by rw [h3, c6]; omega, by rw [h1]; exact h.s⟩
  rcases R.cls with q | q | q | q | q | q | q | q | q | q | q | q
  · rw [show doS s v x = { s with ended := true } by simp [doS, hE, q]]; exact base _ rfl rfl rfl (by omega) (by omega)
  · exact absurd hE (by simp [doE, q])
  · rw [show doS s v x = s.put x.a.toNat x.n by simp [doS, hE, q]]; exact base _ rfl rfl rfl (by omega) (by omega)
  · rw [show doS s v x = s.put x.a.toNat (s.regs x.b.toNat) by simp [doS, hE, q]]; exact base _ rfl rfl rfl (by omega) (by omega)
  · rw [show doS s v x = s.put x.a.toNat (s.cells.getD (s.regs x.b.toNat).toNat 0) by simp [doS, hE, q]]; exact base _ rfl rfl rfl (by omega) (by omega)
  · rw [show doS s v x = { s with cells := s.cells.set (s.regs x.b.toNat).toNat (s.regs x.a.toNat), at_ := s.at_ + 1 } by simp [doS, hE, q]]
    rw [if_neg (by omega)] at c7 c8
    rw [if_pos q] at c6
    refine ⟨ht, by rw [c8]; exact hn, by rw [c7]; exact hd, by simpa using h.l, ?_, h.s⟩
    have := chg_set c0 s.cells (s.regs x.b.toNat).toNat (s.regs x.a.toNat)
    rw [c6]
    exact Nat.le_trans this (by omega)
  · rw [show doS s v x = { s.put x.a.toNat (drawI v.seed v.process s.draws (s.regs x.b.toNat)) with draws := s.draws + 1 } by simp [doS, hE, q]]
    rw [if_neg (by omega)] at c8 c6
    rw [if_pos q] at c7
    refine ⟨ht, by rw [c8]; exact hn, ?_, h.l, by rw [c6]; exact hc, h.s⟩
    show s.draws + 1 = _
    rw [c7]
    omega
  · rw [show doS s v x = { s with at_ := s.at_ + 1, sends := s.sends ++ [⟨x.n, s.regs x.a.toNat, s.regs x.b.toNat⟩] } by simp [doS, hE, q]]
    rw [if_neg (by omega)] at c7 c6
    rw [if_pos q] at c8
    refine ⟨ht, ?_, by rw [c7]; exact hd, h.l, by rw [c6]; exact hc, fun y hy => ?_⟩
    · show (s.sends ++ [_]).length = _
      rw [List.length_append, c8, hn]; rfl
    · rw [List.mem_append] at hy
      rcases hy with hy | hy
      · exact h.s y hy
      · simp at hy
        subst hy
        have hx8 := R.snd q
        have h3 : sendE s v x = 0 := by
          have : doE s v x = sendE s v x := by simp [doE, q]
          rw [← this]; exact hE
        unfold sendE at h3
        split at h3
        · omega
        · split at h3
          · omega
          · split at h3
            · omega
            · refine ⟨hx8.1, ?_, ?_, ?_⟩ <;> dsimp only <;> omega
  · rw [show doS s v x = { s with at_ := x.n } by simp [doS, hE, q]]; exact base _ rfl rfl rfl (by omega) (by omega)
  · rw [show doS s v x = { s with at_ := if s.regs x.a.toNat = 0 then x.n else s.at_ + 1 } by simp [doS, hE, q]]; exact base _ rfl rfl rfl (by omega) (by omega)
  · rw [show doS s v x = { s with at_ := if s.regs x.a.toNat < 0 then x.n else s.at_ + 1 } by simp [doS, hE, q]]; exact base _ rfl rfl rfl (by omega) (by omega)
  · rw [show doS s v x = s.put x.a.toNat (applyV (x.op - 32) (s.regs x.b.toNat) (s.regs x.c.toNat)) by
      unfold doS
      rw [hE]
      simp [show ¬ x.op = 1 by omega, show ¬ x.op = 3 by omega, show ¬ x.op = 4 by omega, show ¬ x.op = 5 by omega, show ¬ x.op = 6 by omega, show ¬ x.op = 7 by omega, show ¬ x.op = 8 by omega, show ¬ x.op = 9 by omega, show ¬ x.op = 10 by omega, show ¬ x.op = 11 by omega]]
    exact base _ rfl rfl rfl (by omega) (by omega)
theorem si_run {P : List Ins} {v : Evi} {c0 : List Int} {d0 : Int} (hP : PG P) : ∀ (n : Nat) (s : Sta) (x : Ins) (tr : List Int) (a : Int), SI P v c0 d0 tr s → SG P s → (runA P v n s x tr a).bad = 0 → SI P v c0 d0 (runA P v n s x tr a).tr (runA P v n s x tr a).s
  | 0, s, x, tr, a, h, hG, hb => by
    cases he : s.ended
    · rw [runA_zero he] at hb; cases hb
    · rw [runA_end he]; exact h
  | n + 1, s, x, tr, a, h, hG, hb => by
    cases he : s.ended
    · by_cases hs : stepE P v s = 0
      · rw [runA_go he (Nat.succ_pos n) hs] at hb ⊢
        exact si_run hP n _ _ _ _ (si_step hP h hG he hs) (stepS_good hG hP) hb
      · rw [runA_bad he (Nat.succ_pos n) hs] at hb
        exact absurd hb hs
    · rw [runA_end he]; exact h
end Go.Proofs.YtjliakjbdcplcaaGreat.Vm
end

section
namespace Go.Proofs.YtjliakjbdcplcaaGreat.Vm
open Go.RowKit
set_option linter.unusedVariables false
set_option linter.unusedSimpArgs false
structure Prc where
  id : Int
  P : List Ins
  cells : List Int
  draws : Int
  seq : Int
  ports : List Int
structure Rul where
  seed : Int
  ahead : Int
  fuel : Int
structure Dn where
  p : Prc
  sent : List Evt
  used : Nat
def keyB (t s q : Int) : Bool := decide (0 ≤ t ∧ t ≤ 281474976710656 ∧ 0 ≤ s ∧ s ≤ 16 ∧ 0 ≤ q ∧ q ≤ 4294967295)
def isB (x : Int) : Bool := decide (1 ≤ x ∧ x ≤ 16)
def noPort (x : Int) : Bool := decide (x ≠ 0) && !isB x
def Prc.rightB (p : Prc) : Bool := decide ((checkI p.P).2 = 0) && (isB p.id && (decide (p.cells.length ≤ 1024) && (decide (0 ≤ p.draws) && (decide (p.draws ≤ 1099511627776) && (decide (0 ≤ p.seq) && (decide (p.seq ≤ 4294967296) && (decide (p.ports.length ≤ 16) && !(p.ports.any noPort))))))))
def Rul.rightB (r : Rul) : Bool := decide (1 ≤ r.ahead ∧ r.ahead ≤ 1048576 ∧ 0 ≤ r.fuel ∧ r.fuel ≤ 4096)
def procE (r : Rul) (p : Prc) : Int := if r.rightB = false then 280 else if p.rightB = false then 281 else 0
def takesB (p : Prc) (e : Evt) : Bool := keyB e.time e.source e.seq && decide (e.to_ = p.id)
def hV (r : Rul) (p : Prc) (t : Int) : Evi := ⟨r.seed, p.id, p.ports.length, r.ahead, t⟩
def hB (p : Prc) (e : Evt) : Sta := begS e.value e.time e.source p.cells p.draws
def hR (r : Rul) (p : Prc) (e : Evt) : RR := runO p.P (hV r p e.time) (hB p e) r.fuel
def goneB (ports : List Int) (l : List Snd) : Bool := l.any fun s => decide (ports.getD s.port.toNat 0 = 0)
def sentL (p : Prc) (t : Int) : Int → List Snd → List Evt
  | _, [] => []
  | q, s :: l => ⟨t + s.delay, p.id, q, p.ports.getD s.port.toNat 0, s.value⟩ :: sentL p t (q + 1) l
def hE (r : Rul) (p : Prc) (e : Evt) : Int :=
  if (hR r p e).bad ≠ 0 then (hR r p e).bad else if goneB p.ports (hR r p e).s.sends = true then 285 else if 4294967296 < p.seq + (hR r p e).s.sends.length then 284 else 0
def hS (r : Rul) (D : Dn) (e : Evt) : Dn :=
  { p := { D.p with cells := (hR r D.p e).s.cells, draws := (hR r D.p e).s.draws, seq := D.p.seq + (hR r D.p e).s.sends.length },
    sent := D.sent ++ sentL D.p e.time D.p.seq (hR r D.p e).s.sends, used := D.used + (hR r D.p e).tr.length }
theorem sentL_len (p : Prc) (t : Int) : ∀ (l : List Snd) (q : Int), (sentL p t q l).length = l.length
  | [], _ => rfl
  | s :: l, q => by simp [sentL, sentL_len p t l]
theorem sentL_app (p : Prc) (t : Int) : ∀ (l m : List Snd) (q : Int), sentL p t q (l ++ m) = sentL p t q l ++ sentL p t (q + l.length) m
  | [], m, q => by simp [sentL]
  | s :: l, m, q => by
    simp only [List.cons_append, sentL, sentL_app p t l m, List.length_cons]
    rw [show q + 1 + (l.length : Int) = q + ((l.length + 1 : Nat) : Int) by omega]
theorem rightB_iff {p : Prc} : p.rightB = true ↔ (checkI p.P).2 = 0 ∧ (1 ≤ p.id ∧ p.id ≤ 16) ∧ p.cells.length ≤ 1024 ∧ 0 ≤ p.draws ∧ p.draws ≤ 1099511627776 ∧ 0 ≤ p.seq ∧ p.seq ≤ 4294967296 ∧ p.ports.length ≤ 16 ∧ p.ports.any noPort = false := by
  unfold Prc.rightB isB
  simp only [Bool.and_eq_true, decide_eq_true_eq, Bool.not_eq_true']
theorem proc_open {r : Rul} {p : Prc} {e : Evt} (hr : r.rightB = true) (hp : p.rightB = true) (ht : 0 ≤ e.time ∧ e.time ≤ 281474976710656) : openE p.P (hV r p e.time) (hB p e) = 0 := by
  obtain ⟨h1, ⟨h2, h3⟩, h4, h5, h6, h7, h8, h9, _⟩ := rightB_iff.1 hp
  have hr' := of_decide_eq_true (show decide _ = true from hr)
  unfold openE
  have q1 : (hV r p e.time).rightB = true := decide_eq_true ⟨by show 0 ≤ p.id; omega, by show p.id ≤ 65536; omega, by show (0 : Int) ≤ (p.ports.length : Int); omega, hr'.1, ht.1, ht.2⟩
  have hl := right_last' h1
  have q2 : (hB p e).rightB p.P.length = true := decide_eq_true ⟨Int.le_refl 0, by show (0 : Int) < _; omega, by show (p.cells.length : Int) ≤ 1024; omega, h5, h6⟩
  rw [if_neg (fun h => h h1), if_neg (by rw [q1]; exact Bool.noConfusion), if_neg (by rw [q2]; exact Bool.noConfusion)]
end Go.Proofs.YtjliakjbdcplcaaGreat.Vm
end

section
namespace Go.Proofs.YtjliakjbdcplcaaGreat.Vm
open Go.RowKit
set_option linter.unusedVariables false
set_option linter.unusedSimpArgs false
set_option maxRecDepth 100000
set_option maxHeartbeats 4000000
def sCheck : Spec := fun args h m => match args with
  | [v1] => match srcV h 5 (.tup []) v1 with
    | some (c1, n1, f1, r1) => some (c1 ∧ (∀ q, q < n1 → isIns (f1 q) = true) ∧ ((∀ x ∈ (ls insOf n1 f1), x.ok)) ∧ (n1 ≤ 281474976710656), .tup [.int .i64 (checkI (ls insOf n1 f1)).1, .int .i64 (checkI (ls insOf n1 f1)).2], r1, [])
    | _ => none
  | _ => none
theorem sCheck_ok : CallOk Tryz.prog 109 sCheck := by
  refine ⟨named_spec (by kernel_rfl), fun args h m c v rd wr hs hm hc w0 M β h' w R hrd hwr hst => ?_⟩
  unfold sCheck at hs
  split at hs
  · rename_i v1
    split at hs
    · rename_i c1 n1 f1 r1 a1
      simp only [Option.some.injEq, Prod.mk.injEq] at hs
      obtain ⟨rfl, rfl, rfl, rfl⟩ := hs
      obtain ⟨k1, g1, y1, y2⟩ := hc
      obtain ⟨A1, p1, d1, e1, t1⟩ := reads_src R a1 k1 (fun i hi => hrd i hi) (by omega)
      rw [elems_ins g1] at t1
      simp only [denL, aggDen, intDen, natDen, boolDen, d1]
      exact (check_c A1 n1 p1 (by omega) (ls insOf n1 f1) y1 w t1).mono fun e w' he => post_read R (by (repeat' (first | exact trivial | exact rfl | assumption | apply Stable.ite | apply And.intro | intro _ | (simp only [Stable, StableL, i64S, prS, insS, sndsS, sndS]; done)))) rfl he.1 he.2
    · cases hs
  · cases hs
end Go.Proofs.YtjliakjbdcplcaaGreat.Vm
end

section
namespace Go.Proofs.YtjliakjbdcplcaaGreat.Vm
open Go.RowKit
set_option linter.unusedVariables false
set_option linter.unusedSimpArgs false
set_option maxRecDepth 100000

def oldB (ρ : Nat → Nat) : List HB → List HB → List Nat → List (Nat × HB)
  | [], _, _ => []
  | b :: L0, L1, l => match L1, l with
    | c :: L1, j :: l => bif b.mine then (j, c.ren ρ) :: oldB ρ L0 L1 l else oldB ρ L0 L1 l
    | _, _ => []
def mrgL : List HB → List HB → List HB
  | [], L1 => L1
  | b :: L0, L1 => match L1 with
    | c :: L1 => (bif b.mine then c else b) :: mrgL L0 L1
    | [] => []
def noRo2 : List HB → List HB → Bool
  | [], L1 => L1.all fun c => !c.isRo
  | b :: L0, L1 => match L1 with
    | c :: L1 => (!b.mine || (c.born && !c.isRo)) && noRo2 L0 L1
    | [] => true
theorem hp_cons (b : HB) (L : List HB) (i : Nat) : hp (b :: L) (i + 1) = hp L i := by unfold hp; simp
theorem hp_zero (b : HB) (L : List HB) : hp (b :: L) 0 = b := by unfold hp; simp
theorem noRo2_old : ∀ {L0 L1 : List HB}, noRo2 L0 L1 = true → L0.length ≤ L1.length → ∀ i, i < L0.length → (hp L0 i).mine = true → (hp L1 i).born = true ∧ (hp L1 i).isRo = false
  | [], _, _, _, i, hi, _ => by simp at hi
  | b :: L0, [], _, hl, _, _, _ => by simp at hl
  | b :: L0, c :: L1, h, hl, i, hi, hm => by
    simp only [noRo2, Bool.and_eq_true, Bool.or_eq_true, Bool.not_eq_true'] at h
    cases i with
    | zero =>
      rw [hp_zero] at hm
      rw [hp_zero]
      rcases h.1 with h1 | h1
      · rw [hm] at h1; cases h1
      · exact h1
    | succ i =>
      rw [hp_cons] at hm
      rw [hp_cons]
      exact noRo2_old h.2 (by simpa using hl) i (by simpa using hi) hm
theorem noRo2_new : ∀ {L0 L1 : List HB}, noRo2 L0 L1 = true → L0.length ≤ L1.length → ∀ i, L0.length ≤ i → (hp L1 i).isRo = false
  | [], L1, h, _, i, _ => by
    simp only [noRo2, List.all_eq_true] at h
    unfold hp
    rw [List.getD_eq_getElem?_getD]
    cases hh : L1[i]? with
    | none => rfl
    | some x => simpa using h x (List.mem_of_getElem? hh)
  | b :: L0, [], _, hl, _, _ => by simp at hl
  | b :: L0, c :: L1, h, hl, i, hi => by
    simp only [noRo2, Bool.and_eq_true] at h
    cases i with
    | zero => simp at hi
    | succ i =>
      rw [hp_cons]
      exact noRo2_new h.2 (by simpa using hl) i (by simpa using hi)
theorem mrgL_get : ∀ {L0 L1 : List HB}, L0.length ≤ L1.length → ∀ i, hp (mrgL L0 L1) i = if i < L0.length then (bif (hp L0 i).mine then hp L1 i else hp L0 i) else hp L1 i
  | [], L1, _, i => by simp [mrgL]
  | b :: L0, [], hl, _ => by simp at hl
  | b :: L0, c :: L1, hl, i => by
    cases i with
    | zero => simp [mrgL, hp_zero]
    | succ i =>
      simp only [mrgL, hp_cons]
      rw [mrgL_get (by simpa using hl) i]
      simp
theorem wrs_oldB_ne {ρ : Nat → Nat} : ∀ {L0 L1 : List HB} {l : List Nat} {h : HM} {j : Nat}, (∀ i, i < L0.length → (hp L0 i).mine = true → l.getD i 0 ≠ j) → wrs h (oldB ρ L0 L1 l) j = h j
  | [], _, _, h, j, _ => rfl
  | b :: L0, [], l, h, j, _ => rfl
  | b :: L0, c :: L1, [], h, j, _ => rfl
  | b :: L0, c :: L1, k :: l, h, j, hn => by
    have ih := fun h' => wrs_oldB_ne (ρ := ρ) (L0 := L0) (L1 := L1) (l := l) (h := h') (j := j) (fun i hi hm => by
      have := hn (i + 1) (by simpa using hi) (by rw [hp_cons]; exact hm)
      simpa using this)
    cases hb : b.mine with
    | false => simp only [oldB, hb, cond_false]; exact ih h
    | true =>
      simp only [oldB, hb, cond_true]
      show wrs (upd h k (c.ren ρ)) (oldB ρ L0 L1 l) j = h j
      rw [ih, upd_ne (fun e => hn 0 (by simp) (by rw [hp_zero]; exact hb) (by simpa using e.symm))]
theorem wrs_oldB {ρ : Nat → Nat} : ∀ {L0 L1 : List HB} {l : List Nat} {h : HM}, L0.length ≤ L1.length → l.length = L0.length → (∀ i j, i < j → j < L0.length → (hp L0 i).mine = true → (hp L0 j).mine = true → l.getD i 0 ≠ l.getD j 0) → ∀ i, i < L0.length → (hp L0 i).mine = true → wrs h (oldB ρ L0 L1 l) (l.getD i 0) = (hp L1 i).ren ρ
  | [], _, _, h, _, _, _, i, hi, _ => by simp at hi
  | b :: L0, [], l, h, hl, _, _, _, _, _ => by simp at hl
  | b :: L0, c :: L1, [], h, _, hl, _, _, _, _ => by simp at hl
  | b :: L0, c :: L1, k :: l, h, hle, hln, hn, i, hi, hm => by
    cases i with
    | zero =>
      rw [hp_zero] at hm
      simp only [oldB, hm, cond_true, List.getD_cons_zero]
      show wrs (upd h k (c.ren ρ)) (oldB ρ L0 L1 l) k = _
      rw [wrs_oldB_ne (fun i hi hm' e => hn 0 (i + 1) (by omega) (by simpa using hi) (by rw [hp_zero]; exact hm) (by rw [hp_cons]; exact hm') (by simpa using e.symm)), upd_same, hp_zero]
    | succ i =>
      rw [hp_cons] at hm
      have ih := fun h' => wrs_oldB (ρ := ρ) (L0 := L0) (L1 := L1) (l := l) (h := h') (by simpa using hle) (by simpa using hln) (fun a b hab hb ha hb' => by
        have := hn (a + 1) (b + 1) (by omega) (by simpa using hb) (by rw [hp_cons]; exact ha) (by rw [hp_cons]; exact hb')
        simpa using this) i (by simpa using hi) hm
      rw [List.getD_cons_succ, hp_cons]
      cases hb : b.mine with
      | false => simp only [oldB, hb, cond_false]; exact ih h
      | true =>
        simp only [oldB, hb, cond_true]
        exact ih (upd h k (c.ren ρ))
theorem wrs_app : ∀ (l : List (Nat × HB)) {m : List (Nat × HB)} {h : HM}, wrs h (l ++ m) = wrs (wrs h l) m
  | [], _, _ => rfl
  | p :: l, m, h => wrs_app l
theorem laid_rw {L0 L1 : List HB} {h : HM} {l : List Nat} {m : Nat} {v : SV} (hlen : l.length = L0.length) (hpos : 0 < L0.length) (h00 : l.getD 0 0 = 0) (hz : hp L0 0 = .gone) (hfit : FitL (rhoL l m) h L0 l) (hinj : ∀ i j, i < L0.length → j < L0.length → i ≠ j → (hp L0 i).mine = true → (hp L0 j).mine = true ∨ (hp L0 j).isRo = true → l.getD i 0 ≠ l.getD j 0)
    (hm : ∀ i, m ≤ i → i < m + (L1.length - L0.length) → h i = .dead) (hle : L0.length ≤ L1.length) (hno : noRo2 L0 L1 = true)
    (hst0 : StableH (hp L0) L0) (hstb : ∀ j, (h j).stable h) (hst1 : StableH (hp (mrgL L0 L1)) (mrgL L0 L1)) (hv : Stable (hp (mrgL L0 L1)) v) :
    Laid L0 L1 h (wrs h (oldB (rhoL l m) L0 L1 l ++ newB (rhoL l m) m (L1.drop L0.length))) (rhoL l m) m v := by
  rw [wrs_app]
  obtain ⟨k, hk⟩ : ∃ k, k = L1.length - L0.length := ⟨_, rfl⟩
  have hdl : (L1.drop L0.length).length = k := by rw [List.length_drop, hk]
  have hrl : ∀ i, i < L0.length → rhoL l m i = l.getD i 0 := fun i hi => if_pos (by omega)
  have hrn : ∀ i, L0.length ≤ i → rhoL l m i = m + (i - L0.length) := fun i hi => by
    unfold rhoL; rw [if_neg (by omega), hlen]
  have hget : ∀ j, m ≤ j → (L1.drop L0.length).getD (j - m) .dead = hp L1 (L0.length + (j - m)) := fun j hj => by
    unfold hp
    rw [List.getD_eq_getElem?_getD, List.getD_eq_getElem?_getD, List.getElem?_drop]
  have hmr := mrgL_get hle
  generalize hh1 : wrs h (oldB (rhoL l m) L0 L1 l) = h1
  have hnewj : ∀ j, m ≤ j → j < m + k → wrs h1 (newB (rhoL l m) m (L1.drop L0.length)) j = (hp L1 (L0.length + (j - m))).ren (rhoL l m) := fun j h1 h3 => by
    rw [wrs_newB, if_pos ⟨h1, by omega⟩, hget j h1]
  have holdj : ∀ j, ¬ (m ≤ j ∧ j < m + k) → wrs h1 (newB (rhoL l m) m (L1.drop L0.length)) j = h1 j := fun j hj => by
    rw [wrs_newB, if_neg (by rw [hdl]; exact hj)]
  have bornold : ∀ j, (h j).born = true → ¬ (m ≤ j ∧ j < m + k) := fun j hj hc => by
    rw [hm j hc.1 (by omega)] at hj; cases hj
  have hfit' : ∀ i, i < L0.length → Fit (rhoL l m) (hp L0 i) (h (rhoL l m i)) := fun i hi => by rw [hrl i hi]; exact fitL_get hfit i hi
  have hborn : ∀ i, i < L0.length → (h (l.getD i 0)).born = true := fun i hi => by rw [← hrl i hi]; exact (hfit' i hi).born
  have him : ∀ i, i < L0.length → (hp L0 i).mine = true → h1 (l.getD i 0) = (hp L1 i).ren (rhoL l m) := fun i hi hmi => by
    rw [← hh1]
    exact wrs_oldB hle hlen (fun a b hab hb ha hb' => hinj a b (by omega) hb (by omega) ha (.inl hb')) i hi hmi
  have hne : ∀ j, (∀ i, i < L0.length → (hp L0 i).mine = true → l.getD i 0 ≠ j) → h1 j = h j := fun j hj => by
    rw [← hh1]
    exact wrs_oldB_ne hj
  have born_ren : ∀ {b : HB}, b.born = true → (b.ren (rhoL l m)).born = true := fun {b} hb => by
    cases b <;> first | rfl | (cases hb; done)
  have more1 : ∀ j, (h j).born = true → (h1 j).born = true := fun j hj => by
    by_cases hc : ∃ i, i < L0.length ∧ (hp L0 i).mine = true ∧ l.getD i 0 = j
    · obtain ⟨i, hi, hmi, rfl⟩ := hc
      rw [him i hi hmi]
      exact born_ren (noRo2_old hno hle i hi hmi).1
    · rw [hne j (fun i hi hmi e => hc ⟨i, hi, hmi, e⟩)]; exact hj
  have more : ∀ i, (h i).born = true → (wrs h1 (newB (rhoL l m) m (L1.drop L0.length)) i).born = true := fun i hi => by rw [holdj i (bornold i hi)]; exact more1 i hi
  have moreG : ∀ i, (hp (mrgL L0 L1) i).born = true → (wrs h1 (newB (rhoL l m) m (L1.drop L0.length)) (rhoL l m i)).born = true := fun i hi => by
    rw [hmr i] at hi
    split at hi
    · rename_i hlt
      exact more _ (hfit' i hlt).born
    · rename_i hge
      have hlt : i < L1.length := by
        rcases Nat.lt_or_ge i L1.length with h' | h'
        · exact h'
        · rw [hp_dead h'] at hi; cases hi
      rw [hrn i (by omega), hnewj _ (by omega) (by omega), show L0.length + (m + (i - L0.length) - m) = i by omega]
      exact born_ren hi
  have stG := stableH_spec hst1
  have ren_st : ∀ {b : HB}, b.stable (hp (mrgL L0 L1)) → (b.ren (rhoL l m)).stable (wrs h1 (newB (rhoL l m) m (L1.drop L0.length))) := fun {b} hs => by
    cases b with
    | own t u ex => exact Stable.ren moreG hs
    | ro u => exact Stable.ren moreG hs
    | raw o => trivial
    | gone => trivial
    | dead => trivial
  refine { z := by rw [hrl 0 hpos, h00], z0 := hz, new := fun i hi => hrn i hi, pre := hfit', inj := fun i j hi hj hne hmi hmj => by rw [hrl i hi, hrl j hj]; exact hinj i j hi hj hne hmi hmj, img := fun i hi hmi => ?_, old := fun j hj hno => ?_, fresh := fun j hj => ?_, un := fun i hi hb => ?_, st0 := stableH_spec hst0, st2 := fun j => ?_, stv := hv.ren moreG }
  · rw [hrl i hi, holdj _ (bornold _ (hborn i hi)), him i hi hmi]
    exact ⟨rfl, (noRo2_old hno hle i hi hmi).2⟩
  · rw [holdj j (bornold j hj)]
    exact hne j fun i hi hmi => by rw [← hrl i hi]; exact hno i hi hmi
  · by_cases hc : m ≤ j ∧ j < m + k
    · exact .inr ⟨hc.1, hnewj j hc.1 hc.2, noRo2_new hno hle _ (by omega)⟩
    · left
      rw [holdj j hc, hne j (fun i hi hmi e => by rw [← e, hborn i hi] at hj; cases hj)]
      cases hh : h j <;> rw [hh] at hj <;> first | rfl | (cases hj; done)
  · have hlt : i < L1.length := by
      rcases Nat.lt_or_ge i L1.length with h' | h'
      · exact h'
      · rw [hp_dead h'] at hb; cases hb
    rw [hrn i hi, hm _ (by omega) (by omega)]
    rfl
  · by_cases hc : m ≤ j ∧ j < m + k
    · rw [hnewj j hc.1 hc.2]
      have hs := stG (L0.length + (j - m))
      rw [hmr, if_neg (by omega)] at hs
      exact ren_st hs
    · rw [holdj j hc]
      by_cases hc2 : ∃ i, i < L0.length ∧ (hp L0 i).mine = true ∧ l.getD i 0 = j
      · obtain ⟨i, hi, hmi, rfl⟩ := hc2
        rw [him i hi hmi]
        have hs := stG i
        rw [hmr, if_pos hi, hmi] at hs
        exact ren_st hs
      · rw [hne j (fun i hi hmi e => hc2 ⟨i, hi, hmi, e⟩)]
        exact HB.stable_more (hstb j) more
theorem callRW {P : Program} {f : FuncId} {args : List SV} {L0 L1 : List HB} {v : SV} {w0 w : World} {M : Nat → Prop} {β : Env} {h h' : HM} {m : Nat} (l : List Nat) (H : LitOk P f args L0 v L1) (R : Rep w0 M β h' w) (hlen : l.length = L0.length) (hpos : 0 < L0.length) (h00 : l.getD 0 0 = 0) (hz : hp L0 0 = .gone) (hfit : FitL (rhoL l m) h' L0 l)
    (hinj : ∀ i j, i < L0.length → j < L0.length → i ≠ j → (hp L0 i).mine = true → (hp L0 j).mine = true ∨ (hp L0 j).isRo = true → l.getD i 0 ≠ l.getD j 0)
    (hm : ∀ i, m ≤ i → h i = .dead) (hwr : ∀ p ∈ newB (rhoL l m) m (L1.drop L0.length), h' p.1 = h p.1) (hle : L0.length ≤ L1.length) (hno : noRo2 L0 L1 = true)
    (hst0 : StableH (hp L0) L0) (hsta : StableL (hp L0) args) (hst1 : StableH (hp (mrgL L0 L1)) (mrgL L0 L1)) (hv : Stable (hp (mrgL L0 L1)) v) :
    Calls P f (denL β (renL (rhoL l m) args)).toArray w fun e w' => ∃ β', (∀ i, (h' i).born = true → β i = β' i) ∧ Rep w0 M β' (wrs h' (oldB (rhoL l m) L0 L1 l ++ newB (rhoL l m) m (L1.drop L0.length))) w' ∧ Stable (wrs h' (oldB (rhoL l m) L0 L1 l ++ newB (rhoL l m) m (L1.drop L0.length))) (v.ren (rhoL l m)) ∧ e = .returned ((v.ren (rhoL l m)).den β') :=
  call_lit H R (laid_rw hlen hpos h00 hz hfit hinj (fun i hi hlt => by
    obtain ⟨b, hb⟩ := newB_mem (ρ := rhoL l m) (l := L1.drop L0.length) hi (by rw [List.length_drop]; exact hlt)
    exact (hwr _ hb).trans (hm i hi)) hle hno hst0 R.st hst1 hv) hsta
end Go.Proofs.YtjliakjbdcplcaaGreat.Vm
end

section
namespace Go.Proofs.YtjliakjbdcplcaaGreat.Vm
open Go.RowKit
set_option linter.unusedVariables false
set_option linter.unusedSimpArgs false
set_option maxRecDepth 100000
theorem arrCl {β : Env} {n k : Nat} {f g : Nat → SV} (h : ∀ q, q < n → (f q).cl β = (g q).cl β) : (SV.arr n k f).cl β = (SV.arr n k g).cl β := by
  have e : (List.range n).flatMap (fun i => fit k (((f i).den β).cells.toList.map sane)) = (List.range n).flatMap (fun i => fit k (((g i).den β).cells.toList.map sane)) := by
    rw [List.flatMap_def, List.flatMap_def]
    exact congrArg List.flatten (List.map_congr_left fun q hq => congrArg (fit k) (h q (List.mem_range.1 hq)))
  simp only [SV.cl, SV.den, e]
end Go.Proofs.YtjliakjbdcplcaaGreat.Vm
end

section
namespace Go.Proofs.YtjliakjbdcplcaaGreat.Vm
open Go.RowKit
set_option linter.unusedVariables false
set_option linter.unusedSimpArgs false
set_option maxRecDepth 100000

def stS (s : Sta) (c k : Nat) : SV := .agg [.int .i64 s.at_, .bool s.ended, .arr 8 1 fun q => .int .i64 (s.regs q), .sl c c [] 1 0 s.cells.length none, .int .i64 s.draws, .sl k k [] 3 0 s.sends.length none]
def evS (v : Evi) : SV := .agg [.int .u64 v.seed, .int .i64 v.process, .int .i64 v.ports, .int .i64 v.look, .int .i64 v.now]
def macS (s : Sta) (v : Evi) (x : Ins) (c k : Nat) : SV := .agg [stS s c k, evS v, insS x]
def mB (s : Sta) (v : Evi) (x : Ins) (c k : Nat) : HB := .own 186 (macS s v x c k) true
def cB (s : Sta) : HB := .own 2 (.arr s.cells.length 1 (i64S s.cells)) false
def sB (s : Sta) : HB := .own 125 (.arr s.sends.length 3 (sndsS s.sends)) false
theorem stS_eq (s : Sta) (c k : Nat) : stS s c k = .agg [.int .i64 s.at_, .bool s.ended, .arr 8 1 fun q => .int .i64 (s.regs q), .sl c c [] 1 0 s.cells.length none, .int .i64 s.draws, .sl k k [] 3 0 s.sends.length none] := rfl
theorem evS_eq (v : Evi) : evS v = .agg [.int .u64 v.seed, .int .i64 v.process, .int .i64 v.ports, .int .i64 v.look, .int .i64 v.now] := rfl
theorem macS_eq (s : Sta) (v : Evi) (x : Ins) (c k : Nat) : macS s v x c k = .agg [stS s c k, evS v, insS x] := rfl
theorem mB_eq (s : Sta) (v : Evi) (x : Ins) (c k : Nat) : mB s v x c k = .own 186 (macS s v x c k) true := rfl
theorem cB_eq (s : Sta) : cB s = .own 2 (.arr s.cells.length 1 (i64S s.cells)) false := rfl
theorem sB_eq (s : Sta) : sB s = .own 125 (.arr s.sends.length 3 (sndsS s.sends)) false := rfl
set_option linter.defProp false in
def JM := And.intro @stS_eq (And.intro @evS_eq (And.intro @macS_eq (And.intro @mB_eq (And.intro @cB_eq @sB_eq))))

theorem ls_getD {α : Type} {g : SV → α} {n q : Nat} {f : Nat → SV} {d : α} (h : q < n) : (ls g n f).getD q d = g (f q) := by
  simp [ls, h]
def macP (h : HM) (g : Nat) : Option (Sta × Evi × Ins × Nat × Nat × Prop) := match h g with
  | .own t (.agg [.agg [a, .bool e, .arr 8 1 rg, .sl z c [] 1 0 nc none, d, .sl z2 k [] 3 0 ns none], .agg [e0, e1, e2, e3, e4], iv]) true => match h c, h k with
    | .own t1 (.arr n1 1 cf) false, .own t2 (.arr n2 3 sf) false =>
      bif (Nat.beq t 186 && Nat.beq t1 2 && Nat.beq t2 125) && (Nat.beq z c && Nat.beq z2 k && Nat.beq n1 nc && Nat.beq n2 ns) && (isI .i64 a && isI .i64 d) && (isI .u64 e0 && isI .i64 e1 && isI .i64 e2 && isI .i64 e3 && isI .i64 e4) && isIns iv then
        some (⟨iOf a, e, fun q => iOf (rg q), ls iOf nc cf, iOf d, ls sndOf ns sf⟩, ⟨iOf e0, iOf e1, iOf e2, iOf e3, iOf e4⟩, insOf iv, c, k, (∀ q, q < 8 → isI .i64 (rg q) = true) ∧ (∀ q, q < nc → isI .i64 (cf q) = true) ∧ ∀ q, q < ns → isSnd (sf q) = true) else none
    | _, _ => none
  | _ => none
theorem mac_val {h : HM} {g c k : Nat} {s : Sta} {v : Evi} {x : Ins} {ok : Prop} (hp : macP h g = some (s, v, x, c, k, ok)) (hok : ok) :
    ∃ l cf sf, h g = .own 186 (.agg l) true ∧ (∀ β, (SV.agg l).cl β = (macS s v x c k).cl β) ∧ h c = .own 2 (.arr s.cells.length 1 cf) false ∧ (∀ β q, q < s.cells.length → (cf q).cl β = (i64S s.cells q).cl β) ∧
      h k = .own 125 (.arr s.sends.length 3 sf) false ∧ (∀ β q, q < s.sends.length → (sf q).cl β = (sndsS s.sends q).cl β) ∧ g ≠ c ∧ g ≠ k ∧ c ≠ k := by
  unfold macP at hp
  split at hp
  · rename_i t a e rg z c0 nc d z2 k0 ns e0 e1 e2 e3 e4 iv hg
    split at hp
    · rename_i t1 n1 cf t2 n2 sf hc hk
      obtain ⟨hb, hs⟩ := bif_some hp
      simp only [Option.some.injEq, Prod.mk.injEq] at hs
      obtain ⟨rfl, rfl, rfl, rfl, rfl, rfl⟩ := hs
      simp only [Bool.and_eq_true] at hb
      obtain ⟨⟨⟨⟨⟨⟨b1, b2⟩, b3⟩, ⟨⟨b4, b5⟩, b6⟩, b7⟩, b8, b9⟩, ⟨⟨⟨b10, b11⟩, b12⟩, b13⟩, b14⟩, b15⟩ := hb
      have b1 := Nat.eq_of_beq_eq_true b1
      have b2 := Nat.eq_of_beq_eq_true b2
      have b3 := Nat.eq_of_beq_eq_true b3
      have b4 := Nat.eq_of_beq_eq_true b4
      have b5 := Nat.eq_of_beq_eq_true b5
      have b6 := Nat.eq_of_beq_eq_true b6
      have b7 := Nat.eq_of_beq_eq_true b7
      subst b1 b2 b3 b4 b5 b6 b7
      obtain ⟨hr, hcf, hsf⟩ := hok
      refine ⟨_, cf, sf, hg, fun β => ?_, by rw [hc, ls_length], fun β q hq => ?_, by rw [hk, ls_length], fun β q hq => ?_, ?_, ?_, ?_⟩
      · have h8 : (SV.arr 8 1 rg).cl β = (SV.arr 8 1 fun q => .int .i64 (iOf (rg q))).cl β := arrCl fun q hq => by rw [isI_cl (hr q hq)]; rfl
        simp only [macS, stS, evS, cl_agg, clL_cons, clL_nil, h8, isI_cl b8, isI_cl b9, isI_cl b10, isI_cl b11, isI_cl b12, isI_cl b13, isI_cl b14, isIns_cl b15, isIns_cl (isIns_insS _), insOf_insS, ls_length]
        rfl
      · rw [ls_length] at hq
        rw [isI_cl (hcf q hq)]
        unfold i64S
        rw [ls_getD hq]; rfl
      · rw [ls_length] at hq
        rw [isSnd_cl (hsf q hq)]
        unfold sndsS
        rw [ls_getD hq, isSnd_cl (isSnd_sndS _), sndOf_sndS]
      · rintro rfl; rw [hg] at hc; cases hc
      · rintro rfl; rw [hg] at hk; cases hk
      · rintro rfl; rw [hc] at hk; cases hk
    · cases hp
  · cases hp
def macH (h : HM) (g c k : Nat) (s : Sta) (v : Evi) (x : Ins) : HM := upd (upd (upd h g (mB s v x c k)) c (cB s)) k (sB s)
theorem macH_g {h : HM} {g c k : Nat} {s : Sta} {v : Evi} {x : Ins} (n1 : g ≠ c) (n2 : g ≠ k) : macH h g c k s v x g = mB s v x c k := by
  unfold macH; rw [upd_ne n2, upd_ne n1, upd_same]
theorem macH_c {h : HM} {g c k : Nat} {s : Sta} {v : Evi} {x : Ins} (n3 : c ≠ k) : macH h g c k s v x c = cB s := by
  unfold macH; rw [upd_ne n3, upd_same]
theorem macH_k {h : HM} {g c k : Nat} {s : Sta} {v : Evi} {x : Ins} : macH h g c k s v x k = sB s := by
  unfold macH; rw [upd_same]
theorem macH_o {h : HM} {g c k i : Nat} {s : Sta} {v : Evi} {x : Ins} (n1 : i ≠ g) (n2 : i ≠ c) (n3 : i ≠ k) : macH h g c k s v x i = h i := by
  unfold macH; rw [upd_ne n3, upd_ne n2, upd_ne n1]
theorem macH_born {h : HM} {g c k i : Nat} {s : Sta} {v : Evi} {x : Ins} (hi : (h i).born = true) : (macH h g c k s v x i).born = true := by
  unfold macH Vm.upd
  split
  · rfl
  · split
    · rfl
    · split
      · rfl
      · exact hi
theorem cB_st {h : HM} {s : Sta} : (cB s).stable h := fun q => i64S_stable q
theorem sB_st {h : HM} {s : Sta} : (sB s).stable h := fun q => sndsS_stable q
theorem mB_st {h : HM} {s : Sta} {v : Evi} {x : Ins} {c k : Nat} (hc : (h c).born = true) (hk : (h k).born = true) : (mB s v x c k).stable h := by
  simp [mB, HB.stable, macS, stS, evS, insS, Stable, StableL, hc, hk]
theorem macS_ren (ρ : Nat → Nat) (s : Sta) (v : Evi) (x : Ins) (c k : Nat) : (macS s v x c k).ren ρ = macS s v x (ρ c) (ρ k) := by
  simp [macS, stS, evS, insS, SV.ren, renL]
theorem mB_ren (ρ : Nat → Nat) (s : Sta) (v : Evi) (x : Ins) (c k : Nat) : (mB s v x c k).ren ρ = mB s v x (ρ c) (ρ k) := by
  simp [mB, HB.ren, macS_ren]
theorem cB_ren (ρ : Nat → Nat) (s : Sta) : (cB s).ren ρ = cB s := rfl
theorem sB_ren (ρ : Nat → Nat) (s : Sta) : (sB s).ren ρ = sB s := by
  have : (fun q => (sndsS s.sends q).ren ρ) = sndsS s.sends := by
    funext q; unfold sndsS; simp only [sndS, SV.ren, renL]
  simp [sB, HB.ren, SV.ren, this]
section
variable {w0 w : World} {M : Nat → Prop} {β : Env} {h h' : HM} {g c k : Nat} {s : Sta} {v : Evi} {x : Ins} {ok : Prop}
theorem mac_canon (hp : macP h g = some (s, v, x, c, k, ok)) (hok : ok) (R : Rep w0 M β h' w) (eg : h' g = h g) (ec : h' c = h c) (ek : h' k = h k) :
    Rep w0 M β (macH h' g c k s v x) w ∧ g ≠ c ∧ g ≠ k ∧ c ≠ k ∧ 0 ≠ g ∧ 0 ≠ c ∧ 0 ≠ k := by
  obtain ⟨l, cf, sf, hg, hgl, hc, hcl, hk, hkl, n1, n2, n3⟩ := mac_val hp hok
  have z : ∀ {j : Nat} {b : HB}, h' j = b → b.mine = true → 0 ≠ j := fun {j b} hj hb e => by
    subst e; rw [R.nil0] at hj; subst hj; cases hb
  have z1 := z (eg.trans hg) rfl
  have z2 := z (ec.trans hc) rfl
  have z3 := z (ek.trans hk) rfl
  have hnn : (macH h' g c k s v x) 0 = .gone := by rw [macH_o z1 z2 z3]; exact R.nil0
  refine ⟨R.less (fun i => ?_) hnn (fun i => ?_), n1, n2, n3, z1, z2, z3⟩
  · by_cases e1 : i = g
    · subst e1
      rw [macH_g n1 n2, eg, hg]
      exact .val hgl (fun n k f e => by cases e) (fun n k f e => by cases e)
    · by_cases e2 : i = c
      · subst e2
        rw [macH_c n3, ec, hc]
        exact .val (fun β => arrCl (hcl β)) (fun n k f e => by injection e with e1 e2 e3; subst e1 e2; exact ⟨_, rfl⟩) (fun n k f e => by injection e with e1 e2 e3; subst e1 e2; exact ⟨_, rfl⟩)
      · by_cases e3 : i = k
        · subst e3
          rw [macH_k, ek, hk]
          exact .val (fun β => arrCl (hkl β)) (fun n k f e => by injection e with e1 e2 e3; subst e1 e2; exact ⟨_, rfl⟩) (fun n k f e => by injection e with e1 e2 e3; subst e1 e2; exact ⟨_, rfl⟩)
        · rw [macH_o e1 e2 e3]; exact .same _
  · by_cases e1 : i = g
    · subst e1
      rw [macH_g n1 n2]
      exact mB_st (by rw [macH_c n3]; rfl) (by rw [macH_k]; rfl)
    · by_cases e2 : i = c
      · subst e2
        rw [macH_c n3]; exact cB_st
      · by_cases e3 : i = k
        · subst e3
          rw [macH_k]; exact sB_st
        · rw [macH_o e1 e2 e3]
          exact HB.stable_more (R.st i) fun j hj => macH_born hj
end
abbrev MF := List SV → Sta → Evi → Ins → Option (Prop × (Nat → SV) × Sta × Ins × Bool)
def mS (F : MF) : Spec := fun args h m => match args with
  | .ptr g [] :: ar => match macP h g with
    | some (s, v, x, c, k, ok) => match F ar s v x with
      | some (cond, val, s', x', mv) => some (ok ∧ cond, val c, [g, c, k], bif mv then [(g, mB s' v x' c m), (c, cB s'), (k, .gone), (m, sB s')] else [(g, mB s' v x' c k), (c, cB s'), (k, sB s')])
      | none => none
    | none => none
  | _ => none
theorem inj4 {g c k : Nat} {a b d : HB} (n1 : g ≠ c) (n2 : g ≠ k) (n3 : c ≠ k) : ∀ i j, i < [HB.gone, a, b, d].length → j < [HB.gone, a, b, d].length → i ≠ j → (hp [HB.gone, a, b, d] i).mine = true → (hp [HB.gone, a, b, d] j).mine = true ∨ (hp [HB.gone, a, b, d] j).isRo = true → [0, g, c, k].getD i 0 ≠ [0, g, c, k].getD j 0 := by
  intro i j hi hj hne hmi hmj
  simp only [List.length_cons, List.length_nil] at hi hj
  have hi0 : i ≠ 0 := by rintro rfl; cases hmi
  have hj0 : j ≠ 0 := by
    rintro rfl
    rcases hmj with h | h <;> cases h
  rcases i with _ | _ | _ | _ | i
  · exact absurd rfl hi0
  all_goals rcases j with _ | _ | _ | _ | j
  all_goals first | exact absurd rfl hj0 | exact absurd rfl hne | (simp only [List.getD_cons_succ, List.getD_cons_zero]; first | exact n1 | exact n2 | exact n3 | exact n1.symm | exact n2.symm | exact n3.symm) | omega
theorem mS_ok {f : FuncId} {F : MF} (hf : named Tryz.prog f = true)
    (H : ∀ ar s v x cond val s' x' mv, F ar s v x = some (cond, val, s', x', mv) → cond → (∀ ρ, renL ρ ar = ar) ∧ (∀ h, StableL h ar) ∧ (∀ ρ : Nat → Nat, ρ 0 = 0 → (val 2).ren ρ = val (ρ 2)) ∧ (∀ h : HM, (h 0).born = true → (h 2).born = true → Stable h (val 2)) ∧
      LitOk Tryz.prog f (.ptr 1 [] :: ar) [.gone, mB s v x 2 3, cB s, sB s] (val 2) (bif mv then [.gone, mB s' v x' 2 4, cB s', .gone, sB s'] else [.gone, mB s' v x' 2 3, cB s', sB s'])) : CallOk Tryz.prog f (mS F) := by
  refine ⟨named_spec hf, fun args h m c v rd wr hs hm hc w0 M β h' w R hrd hwr hst => ?_⟩
  unfold mS at hs
  split at hs
  · rename_i g ar
    split at hs
    · rename_i s v x c k ok hmp
      split at hs
      · rename_i cond val s' x' mv hF
        simp only [Option.some.injEq, Prod.mk.injEq] at hs
        obtain ⟨rfl, rfl, rfl, rfl⟩ := hs
        obtain ⟨hok, hcond⟩ := hc
        obtain ⟨q1, q2, q3, q4, hl⟩ := H ar s v x _ _ _ _ _ hF hcond
        obtain ⟨R1, n1, n2, n3, z1, z2, z3⟩ := mac_canon hmp hok R (hrd g (by simp)) (hrd c (by simp)) (hrd k (by simp))
        have hfit : FitL (rhoL [0, g, c, k] m) (macH h' g c k s v x) [.gone, mB s v x 2 3, cB s, sB s] [0, g, c, k] := by
          refine ⟨.gone ?_, ?_, ?_, ?_, trivial⟩
          · rw [R1.nil0]; rfl
          · rw [macH_g n1 n2]
            have e : mB s v x c k = .own 186 ((macS s v x 2 3).ren (rhoL [0, g, c, k] m)) true := by rw [macS_ren]; rfl
            rw [e]; exact .own
          · rw [macH_c n3]
            exact .own (v := .arr s.cells.length 1 (i64S s.cells))
          · rw [macH_k]
            have e : sB s = (sB s).ren (rhoL [0, g, c, k] m) := (sB_ren _ _).symm
            rw [e]; exact .own (v := .arr s.sends.length 3 (sndsS s.sends))
        have hargs : renL (rhoL [0, g, c, k] m) (.ptr 1 [] :: ar) = .ptr g [] :: ar := by
          simp only [renL, SV.ren, q1]; rfl
        have hval : (val 2).ren (rhoL [0, g, c, k] m) = val c := q3 _ rfl
        have hst0 : StableH (hp [.gone, mB s v x 2 3, cB s, sB s]) [.gone, mB s v x 2 3, cB s, sB s] := ⟨trivial, mB_st rfl rfl, cB_st, sB_st, trivial⟩
        cases mv with
        | false =>
          have C := callRW (h := h) (m := m) [0, g, c, k] hl R1 rfl (by simp) rfl rfl hfit (inj4 n1 n2 n3) hm (fun p hp => by cases hp) (by simp) rfl hst0 ⟨rfl, q2 _⟩
            ⟨trivial, mB_st rfl rfl, cB_st, sB_st, trivial⟩ (q4 _ rfl rfl)
          rw [hargs] at C
          have hw : wrs (macH h' g c k s v x) (oldB (rhoL [0, g, c, k] m) [.gone, mB s v x 2 3, cB s, sB s] [.gone, mB s' v x' 2 3, cB s', sB s'] [0, g, c, k] ++ newB (rhoL [0, g, c, k] m) m ([HB.gone, mB s' v x' 2 3, cB s', sB s'].drop 4)) = wrs h' [(g, mB s' v x' c k), (c, cB s'), (k, sB s')] := by
            simp only [oldB, newB, mB_ren, cB_ren, sB_ren, List.drop, List.append_nil]
            funext i
            show upd (upd (upd (macH h' g c k s v x) g (mB s' v x' c k)) c (cB s')) k (sB s') i = upd (upd (upd h' g (mB s' v x' c k)) c (cB s')) k (sB s') i
            unfold macH Vm.upd
            split
            · rfl
            · split
              · rfl
              · split <;> rfl
          refine C.mono fun e w' ⟨β', g1, g2, g3, g4⟩ => ⟨β', fun i hi => g1 i (macH_born hi), ?_, ?_, ?_⟩
          · rw [cond_false, ← hw]; exact g2
          · rw [cond_false, ← hval, ← hw]; exact g3
          · rw [← hval]; exact g4
        | true =>
          have hmd : h m = .dead := hm m (Nat.le_refl _)
          have hm' : h' m = .dead := (hwr (m, sB s') (by simp)).trans hmd
          have mg : m ≠ g := by rintro rfl; have := mac_val hmp hok; obtain ⟨l, cf, sf, e, _⟩ := this; rw [hmd] at e; cases e
          have mc : m ≠ c := by rintro rfl; have := mac_val hmp hok; obtain ⟨l, cf, sf, _, _, e, _⟩ := this; rw [hmd] at e; cases e
          have mk : m ≠ k := by rintro rfl; have := mac_val hmp hok; obtain ⟨l, cf, sf, _, _, _, _, e, _⟩ := this; rw [hmd] at e; cases e
          have C := callRW (h := h) (m := m) [0, g, c, k] hl R1 rfl (by simp) rfl rfl hfit (inj4 n1 n2 n3) hm (fun p hp => by
              simp only [newB, List.drop, cond_true, List.length_cons, List.length_nil, List.mem_cons, List.not_mem_nil, or_false] at hp
              subst hp
              show macH h' g c k s v x m = h m
              rw [macH_o mg mc mk, hm', hmd]) (by simp) rfl hst0 ⟨rfl, q2 _⟩
            ⟨trivial, mB_st rfl rfl, cB_st, trivial, sB_st, trivial⟩ (q4 _ rfl rfl)
          rw [hargs] at C
          have hw : wrs (macH h' g c k s v x) (oldB (rhoL [0, g, c, k] m) [.gone, mB s v x 2 3, cB s, sB s] [.gone, mB s' v x' 2 4, cB s', .gone, sB s'] [0, g, c, k] ++ newB (rhoL [0, g, c, k] m) m ([HB.gone, mB s' v x' 2 4, cB s', .gone, sB s'].drop 4)) = wrs h' [(g, mB s' v x' c m), (c, cB s'), (k, .gone), (m, sB s')] := by
            have e4 : rhoL [0, g, c, k] m 4 = m := by simp [rhoL]
            simp only [oldB, newB, mB_ren, cB_ren, sB_ren, List.drop, e4]
            funext i
            show upd (upd (upd (upd (macH h' g c k s v x) g (mB s' v x' c m)) c (cB s')) k .gone) m (sB s') i = upd (upd (upd (upd h' g (mB s' v x' c m)) c (cB s')) k .gone) m (sB s') i
            unfold macH Vm.upd
            split
            · rfl
            · split
              · rfl
              · split
                · rfl
                · split <;> rfl
          refine C.mono fun e w' ⟨β', g1, g2, g3, g4⟩ => ⟨β', fun i hi => g1 i (macH_born hi), ?_, ?_, ?_⟩
          · rw [cond_true, ← hw]; exact g2
          · rw [cond_true, ← hval, ← hw]; exact g3
          · rw [← hval]; exact g4
      · cases hs
    · cases hs
  · cases hs
abbrev RF := Sta → Evi → Ins → Option (Prop × SV)
def rS (F : RF) : Spec := fun args h m => match args with
  | [.ptr g []] => match macP h g with
    | some (s, v, x, c, k, ok) => match F s v x with
      | some (cond, val) => some (ok ∧ cond, val, [g, c, k], [])
      | none => none
    | none => none
  | _ => none
theorem rS_ok {f : FuncId} {F : RF} (hf : named Tryz.prog f = true)
    (H : ∀ s v x cond val, F s v x = some (cond, val) → cond → (∀ ρ, val.ren ρ = val) ∧ (∀ h : HM, Stable h val) ∧
      LitOk Tryz.prog f [.ptr 1 []] [.gone, .ro (macS s v x 2 3), .gone, .gone] val [.gone, .gone, .gone, .gone]) : CallOk Tryz.prog f (rS F) := by
  refine ⟨named_spec hf, fun args h m c v rd wr hs hm hc w0 M β h' w R hrd hwr hst => ?_⟩
  unfold rS at hs
  split at hs
  · rename_i g
    split at hs
    · rename_i s v x c k ok hmp
      split at hs
      · rename_i cond val hF
        simp only [Option.some.injEq, Prod.mk.injEq] at hs
        obtain ⟨rfl, rfl, rfl, rfl⟩ := hs
        obtain ⟨hok, hcond⟩ := hc
        obtain ⟨q1, q2, hl⟩ := H s v x _ _ hF hcond
        obtain ⟨l, cf, sf, hg, hgl, hcc, _, hk, _⟩ := mac_val hmp hok
        have hfit : FitL (rhoL [0, g, c, k] m) h' [.gone, .ro (macS s v x 2 3), .gone, .gone] [0, g, c, k] := by
          refine ⟨.gone ?_, .ro (u := .agg l) (by rw [hrd g (by simp), hg]; rfl) (fun β => by rw [macS_ren]; exact hgl β) (fun n k f e => by rw [macS_ren] at e; cases e), .gone (by rw [hrd c (by simp), hcc]; rfl), .gone (by rw [hrd k (by simp), hk]; rfl), trivial⟩
          rw [R.nil0]; rfl
        have C := callG (h := h) (m := m) [0, g, c, k] hl R rfl (by simp) rfl rfl rfl hfit hm (fun p hp => by cases hp) (by simp)
          (by simp [StableH, HB.stable, macS, stS, evS, insS, Stable, StableL, hp, HB.born]) ⟨rfl, trivial⟩ trivial (q2 _)
        refine C.mono fun e w' ⟨β', g1, g2, g3, g4⟩ => ⟨β', g1, g2, q2 _, by rw [← q1 (rhoL [0, g, c, k] m)]; exact g4⟩
      · cases hs
    · cases hs
  · cases hs
end Go.Proofs.YtjliakjbdcplcaaGreat.Vm
end

section
namespace Go.Proofs.YtjliakjbdcplcaaGreat.Vm
open Go.RowKit
set_option linter.unusedVariables false
set_option linter.unusedSimpArgs false
set_option maxRecDepth 100000
set_option maxHeartbeats 4000000
theorem ls_i64S2 (l : List Int) : ls iOf l.length (fun q => .int .i64 (l.getD q 0)) = l := ls_i64S l
theorem ls_sndsS2 (l : List Snd) : ls sndOf l.length (fun q => sndS (l.getD q ⟨0, 0, 0⟩)) = l := ls_sndsS l
theorem ls_prS2 (l : List Ins) : ls insOf l.length (fun q => insS (l.getD q ⟨0, 0, 0, 0, 0⟩)) = l := ls_prS l
def cM0 : FuncId → Option Spec := look2 []
theorem cM0_ok : ∀ f S, cM0 f = some S → CallOk Tryz.prog f S := fun f S h => by cases h
def aF : RF := fun s v x => some (0 ≤ x.a ∧ x.a < 8, .int .i64 (s.regs x.a.toNat))
def bF : RF := fun s v x => some (0 ≤ x.b ∧ x.b < 8, .int .i64 (s.regs x.b.toNat))
def cF : RF := fun s v x => some (0 ≤ x.c ∧ x.c < 8, .int .i64 (s.regs x.c.toNat))
theorem a_ok : CallOk Tryz.prog 177 (rS aF) := rS_ok (by kernel_rfl) fun s v x cond val hF hc => by
  cases hF
  obtain ⟨h0, h8⟩ := hc
  have hn : x.a.toNat < 8 := by omega
  refine ⟨fun _ => rfl, fun _ => trivial, ?_⟩
  refine litOkM (fn := Tryz.f177) 4 14 0 rfl rfl rfl rfl rfl (by simp only [StableL, Stable, hp, i64S, prS, insS, sndsS, sndS, stS, evS, macS]; simp [HB.born, mB, cB, sB]) rfl fun w0 M E hro => ?_
  repeat' (first | refine Ctl.h ?_ | ((with_reducible intro hif); first | (focus (cases hif; done)) | (simp only [JH] at hif; try (exfalso; omega)) | (try (exfalso; omega))) | ((first | ((with_reducible apply J22 cM0_ok tab_ok); (· rfl)) | ((with_reducible apply J23 fol cM0_ok tab_ok); (· rfl)) | with_reducible apply J24); (· exact Vm.b24); (try kernel_rfl); (try exact Vm.b23)) | fail)
  apply At.endsRet tab_ok (fn := Tryz.f177) (rs := [.tmp 2]) Anc.refl hro (Nat.le_of_ble_eq_true rfl) rfl
  · exact Vm.b11
  · exact Vm.b9
  · exact Vm.b6
  · rfl
  · exact Vm.b17
  · exact Vm.b10
  · exact fun β => rfl
  · exact Vm.b17
theorem b_ok : CallOk Tryz.prog 175 (rS bF) := rS_ok (by kernel_rfl) fun s v x cond val hF hc => by
  cases hF
  obtain ⟨h0, h8⟩ := hc
  have hn : x.b.toNat < 8 := by omega
  refine ⟨fun _ => rfl, fun _ => trivial, ?_⟩
  refine litOkM (fn := Tryz.f175) 4 14 0 rfl rfl rfl rfl rfl (by simp only [StableL, Stable, hp, i64S, prS, insS, sndsS, sndS, stS, evS, macS]; simp [HB.born, mB, cB, sB]) rfl fun w0 M E hro => ?_
  repeat' (first | refine Ctl.h ?_ | ((with_reducible intro hif); first | (focus (cases hif; done)) | (simp only [JH] at hif; try (exfalso; omega)) | (try (exfalso; omega))) | ((first | ((with_reducible apply J22 cM0_ok tab_ok); (· rfl)) | ((with_reducible apply J23 fol cM0_ok tab_ok); (· rfl)) | with_reducible apply J24); (· exact Vm.b24); (try kernel_rfl); (try exact Vm.b23)) | fail)
  apply At.endsRet tab_ok (fn := Tryz.f175) (rs := [.tmp 2]) Anc.refl hro (Nat.le_of_ble_eq_true rfl) rfl
  · exact Vm.b11
  · exact Vm.b9
  · exact Vm.b6
  · rfl
  · exact Vm.b17
  · exact Vm.b10
  · exact fun β => rfl
  · exact Vm.b17
theorem c_ok : CallOk Tryz.prog 181 (rS cF) := rS_ok (by kernel_rfl) fun s v x cond val hF hc => by
  cases hF
  obtain ⟨h0, h8⟩ := hc
  have hn : x.c.toNat < 8 := by omega
  refine ⟨fun _ => rfl, fun _ => trivial, ?_⟩
  refine litOkM (fn := Tryz.f181) 4 14 0 rfl rfl rfl rfl rfl (by simp only [StableL, Stable, hp, i64S, prS, insS, sndsS, sndS, stS, evS, macS]; simp [HB.born, mB, cB, sB]) rfl fun w0 M E hro => ?_
  repeat' (first | refine Ctl.h ?_ | ((with_reducible intro hif); first | (focus (cases hif; done)) | (simp only [JH] at hif; try (exfalso; omega)) | (try (exfalso; omega))) | ((first | ((with_reducible apply J22 cM0_ok tab_ok); (· rfl)) | ((with_reducible apply J23 fol cM0_ok tab_ok); (· rfl)) | with_reducible apply J24); (· exact Vm.b24); (try kernel_rfl); (try exact Vm.b23)) | fail)
  apply At.endsRet tab_ok (fn := Tryz.f181) (rs := [.tmp 2]) Anc.refl hro (Nat.le_of_ble_eq_true rfl) rfl
  · exact Vm.b11
  · exact Vm.b9
  · exact Vm.b6
  · rfl
  · exact Vm.b17
  · exact Vm.b10
  · exact fun β => rfl
  · exact Vm.b17
def putF : MF := fun ar s v x => match ar with
  | [.int .i64 n] => some (0 ≤ x.a ∧ x.a < 8 ∧ 0 ≤ s.at_ ∧ s.at_ ≤ 256, fun _ => .int .i64 0, s.put x.a.toNat n, x, false)
  | _ => none
theorem put_ok : CallOk Tryz.prog 174 (mS putF) := mS_ok (by kernel_rfl) fun ar s v x cond val s' x' mv hF hc => by
  unfold putF at hF
  split at hF
  · cases hF
    obtain ⟨h0, h8, a0, a1⟩ := hc
    have hn : x.a.toNat < 8 := by omega
    refine ⟨fun _ => rfl, fun _ => ⟨trivial, trivial⟩, fun _ _ => rfl, fun _ _ _ => trivial, ?_⟩
    refine litOkM (fn := Tryz.f174) 4 25 0 rfl rfl rfl rfl rfl (by simp only [StableL, Stable, hp, i64S, prS, insS, sndsS, sndS, stS, evS, macS]; simp [HB.born, mB, cB, sB]) rfl fun w0 M E hro => ?_
    repeat' (first | refine Ctl.h ?_ | ((with_reducible intro hif); first | (focus (cases hif; done)) | (simp only [JH] at hif; try (exfalso; omega)) | (try (exfalso; omega))) | ((first | ((with_reducible apply J22 cM0_ok tab_ok); (· rfl)) | ((with_reducible apply J23 fol cM0_ok tab_ok); (· rfl)) | with_reducible apply J24); (· exact Vm.b25); (try kernel_rfl); (try exact Vm.b14)) | fail)
    apply At.endsRet tab_ok (fn := Tryz.f174) (rs := [.tmp 4]) Anc.refl hro (Nat.le_of_ble_eq_true rfl) rfl
    · exact Vm.b11
    · exact Vm.b9
    · exact Vm.b6
    · rfl
    · exact Vm.b17
    · exact Vm.b10
    · exact fun β => rfl
    · exact Vm.b17
  · cases hF
def jumpIfF : MF := fun ar s v x => match ar with
  | [.bool is] => some (0 ≤ s.at_ ∧ s.at_ ≤ 256 ∧ 0 ≤ x.n ∧ x.n < 256, fun _ => .int .i64 0, { s with at_ := if is = true then x.n else s.at_ + 1 }, x, false)
  | _ => none
theorem jumpIf_ok : CallOk Tryz.prog 179 (mS jumpIfF) := mS_ok (by kernel_rfl) fun ar s v x cond val s' x' mv hF hc => by
  unfold jumpIfF at hF
  split at hF
  · rename_i is
    cases hF
    obtain ⟨a0, a1, n0, n1⟩ := hc
    refine ⟨fun _ => rfl, fun _ => ⟨trivial, trivial⟩, fun _ _ => rfl, fun _ _ _ => trivial, ?_⟩
    cases is
    · refine litOkM (fn := Tryz.f179) 4 24 0 rfl rfl rfl rfl rfl (by simp only [StableL, Stable, hp, i64S, prS, insS, sndsS, sndS, stS, evS, macS]; simp [HB.born, mB, cB, sB]) rfl fun w0 M E hro => ?_
      repeat' (first | refine Ctl.h ?_ | ((with_reducible intro hif); first | (focus (cases hif; done)) | (simp only [JH] at hif; try (exfalso; omega)) | (try (exfalso; omega))) | ((first | ((with_reducible apply J22 cM0_ok tab_ok); (· rfl)) | ((with_reducible apply J23 fol cM0_ok tab_ok); (· rfl)) | with_reducible apply J24); (· exact Vm.b25); (try kernel_rfl); (try exact Vm.b14)) | fail)
      apply At.endsRet tab_ok (fn := Tryz.f179) (rs := [.tmp 4]) Anc.refl hro (Nat.le_of_ble_eq_true rfl) rfl
      · exact Vm.b11
      · exact Vm.b9
      · exact Vm.b6
      · rfl
      · exact Vm.b17
      · exact Vm.b10
      · exact fun β => rfl
      · exact Vm.b17
    · refine litOkM (fn := Tryz.f179) 4 24 0 rfl rfl rfl rfl rfl (by simp only [StableL, Stable, hp, i64S, prS, insS, sndsS, sndS, stS, evS, macS]; simp [HB.born, mB, cB, sB]) rfl fun w0 M E hro => ?_
      repeat' (first | refine Ctl.h ?_ | ((with_reducible intro hif); first | (focus (cases hif; done)) | (simp only [JH] at hif; try (exfalso; omega)) | (try (exfalso; omega))) | ((first | ((with_reducible apply J22 cM0_ok tab_ok); (· rfl)) | ((with_reducible apply J23 fol cM0_ok tab_ok); (· rfl)) | with_reducible apply J24); (· exact Vm.b25); (try kernel_rfl); (try exact Vm.b14)) | fail)
      apply At.endsRet tab_ok (fn := Tryz.f179) (rs := [.tmp 4]) Anc.refl hro (Nat.le_of_ble_eq_true rfl) rfl
      · exact Vm.b11
      · exact Vm.b9
      · exact Vm.b6
      · rfl
      · exact Vm.b17
      · exact Vm.b10
      · exact fun β => rfl
      · exact Vm.b17
  · cases hF
end Go.Proofs.YtjliakjbdcplcaaGreat.Vm
end
end
