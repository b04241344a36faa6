import Derived.Test.YtjliakjbdcplcaaG7
import Derived.Test.YtjliakjbdcplcaaG8
import Derived.Test.YtjliakjbdcplcaaG13
import Derived.Test.YtjliakjbdcplcaaG14
section
namespace Go.Proofs.Ytjliakjbdcplcaa.Vm
theorem b89 {P : Prop} (h : P := by ((repeat' (first | exact trivial | apply And.intro)) <;> (first | rfl | (simp only [c8, c7, c6]; rfl)))) : P := h
theorem b90 {P : Prop} (h : P := by (first | exact True.intro | ((try simp only [JS, implies_true, forall_const, shaped, shapedL, kndOf, capB]); (repeat' (first | exact True.intro | assumption | omega | apply And.intro | rfl | decide | intro _)); done) | ((try simp only [JS, implies_true, forall_const, shaped, shapedL, kndOf, inR, inN]); (repeat' (first | assumption | exact True.intro | omega | apply And.intro)); done))) : P := h
theorem b91 {P : Prop} (h : P := by (first | exact True.intro | ((try simp only [JS, implies_true, forall_const, shaped, shapedL, kndOf, capB]); (repeat' (first | exact True.intro | assumption | omega | apply And.intro | rfl | decide | intro _)); done) | ((try simp only [JS, implies_true, forall_const, shaped, shapedL, kndOf, inR, inN, inR]); (repeat' (first | assumption | exact True.intro | omega | apply And.intro)); done))) : P := h
theorem b92 {P : Prop} (h : P := by (simp only [push_cast, ↓JP, Nat.reduceAdd, Nat.reduceEqDiff, Nat.reduceLT, Nat.reduceMul, Nat.reduceLeDiff, reduceCtorEq, reduceIte, ↓JK, cB_eq, sB_eq, JE, JB, sAw19, sMd19, sCrG, sCrB, sTrS, inR, inN, Nat.sub_zero, cSeG, inR]; rfl)) : P := h
theorem b93 {P : Prop} (h : P := by (simp only [push_cast, ↓JP, Nat.reduceAdd, Nat.reduceEqDiff, Nat.reduceLT, Nat.reduceMul, Nat.reduceLeDiff, reduceCtorEq, reduceIte, ↓JK, cB_eq, sB_eq, JE, JB, sAw19, sMd19, sCrG, sCrB, sTrS, inR, inN, Nat.sub_zero, cSeG, inR, he]; rfl)) : P := h
end Go.Proofs.Ytjliakjbdcplcaa.Vm
end
section
namespace Go.Proofs.Ytjliakjbdcplcaa.Vm
open Go.RowKit
attribute [local push_cast] runR opG gtmp gval gus opX tmpsOf tm tmO tmP restr look look2 tab tys zs ets eqB eqBL allB numOf ieq Int.cast_ofNat_Int Int.ofNat_zero beq_true beq_false frameOf ev evL ofV opV loadV noW pushF wrsL setH allBorn allGone HB.born HB.isGone HB.val SV.plain dstOk hp nav fitsT SV.size sizeL SV.isAgg TK.size TK.agg bin binE binN binI arN arI cmpN cmpI keq kn narrow callV storeV setp fillV buildV buildSliceV makeV sliceV appendV copyV List.isEmpty_nil srcV evO asN ite_t ite_f ite_bool ite_int ite_nat maxV v_beq v_ble v_blt cond_true cond_false List.getElem?_cons_zero List.getElem?_cons_succ List.getD_cons_zero List.getD_cons_succ List.getD_nil List.length_cons List.length_nil List.take_succ_cons List.take_zero List.set_cons_zero List.set_cons_succ List.cons_append List.nil_append List.append_assoc List.replicate_succ List.replicate_zero Nat.zero_add Nat.add_zero decide_true decide_false Bool.true_and Bool.and_true Bool.false_and Bool.and_false Bool.true_or Bool.or_true Bool.false_or Bool.or_false beq_self_eq_true Bool.or_self Nat.lt_irrefl Nat.not_lt_zero Nat.le_refl Option.getD_some Option.getD_none BEq.rfl Bool.not_true Bool.not_false Bool.cond_true_left Bool.cond_false_right prS sndsS i64S nav_ins nav_ins0 nav_ins1 nav_ins2 nav_ins3 nav_ins4 nav_snd nav_snd0 nav_snd1 nav_snd2 isIns_insS insOf_insS isSnd_sndS sndOf_sndS isI_int isI_nat iOf
set_option linter.unusedVariables false
set_option linter.unusedSimpArgs false
set_option maxRecDepth 100000
set_option maxHeartbeats 4000000
def chgT (a b : List Int) (j : Nat) : Nat := ((List.range j).filter fun i => decide (a.getD i 0 ≠ b.getD i 0)).length
theorem chgT_succ (a b : List Int) (j : Nat) : chgT a b (j + 1) = chgT a b j + (if a.getD j 0 = b.getD j 0 then 0 else 1) := by
  unfold chgT
  rw [List.range_succ, List.filter_append, List.length_append]
  congr 1
  by_cases h : a.getD j 0 = b.getD j 0 <;> simp only [List.filter_cons, List.filter_nil, h, ne_eq, not_true_eq_false, not_false_eq_true, decide_true, decide_false, Bool.false_eq_true, if_true, if_false, List.length_nil, List.length_cons]
theorem chgT_le (a b : List Int) (j : Nat) : chgT a b j ≤ j := Nat.le_trans (List.length_filter_le _ _) (by simp)
def cSeG : FuncId → Option Spec := look2 [(12, sAw19), (13, sMd19), (14, sCrG), (25, sTrS)]
theorem cSeG_ok : ∀ f S, cSeG f = some S → CallOk Try.prog f S := allOk_spec ⟨sAw19_ok, sMd19_ok, sCrG_ok, sTrS_ok, trivial⟩
def cSeB : FuncId → Option Spec := look2 [(12, sAw19), (13, sMd19), (14, sCrB)]
theorem cSeB_ok : ∀ f S, cSeB f = some S → CallOk Try.prog f S := allOk_spec ⟨sAw19_ok, sMd19_ok, sCrB_ok, trivial⟩
theorem sends_lit (xs : List Ins) (a d sn time source value fuel : Int) (rg : Nat → Int) (cs : List Int) (v : Evi) (p1 p2 : Nat) (hx : ∀ x ∈ xs, x.ok) (hcap : max xs.length p1 ≤ 9223372036854775807) (hcp : cs.length ≤ p2) (ha : 0 ≤ a ∧ a ≤ 255) (hd : 0 ≤ d ∧ d ≤ 4294967295) (hs : 0 ≤ sn ∧ sn ≤ 255) (ht : 0 ≤ time ∧ time ≤ 4294967295) (hso : 0 ≤ source ∧ source ≤ 255) (hf : 0 ≤ fuel ∧ fuel ≤ 65535) : LitOk Try.prog 5
    [.agg [.sl 1 2 [] 5 0 xs.length (some p1), .agg [.int .u8 a, .arr 8 1 (fun q => .int .i64 (rg q)), .sl 3 4 [] 1 0 cs.length (some p2), .int .u32 d, .int .u8 sn], .agg [.int .u64 v.seed, .int .i64 v.process, .int .i64 v.ports, .int .i64 v.look, .int .i64 v.now], .int .u32 time, .int .u8 source, .int .i64 value, .int .u16 fuel]]
    [.gone, .gone, .ro (.arr xs.length 5 (prS xs)), .gone, .ro (.arr cs.length 1 (i64S cs))] (.bool true) [.gone] := by
  have w1 := wrap_u16 v.process
  have w2 := wrap_u8 v.ports
  have w3 := wrap_u8 v.look
  have f0 := Int.tmod_nonneg 512 hf.1
  have f1 := Int.tmod_lt_of_pos fuel (show (0 : Int) < 512 by decide)
  have pt0 := Int.tmod_nonneg 17 w2.1
  have hok := made14_ok xs hx
  have hml := (made14_le xs).2
  have hml0 := (made14_le xs).1
  have hn : (made14 xs).length ≤ 1000000 := by omega
  have hct : (cs.take 12).length ≤ 12 := by rw [List.length_take]; omega
  have hcl : (cs.take 12).length ≤ 1000000 := by omega
  have hO : openE (made14 xs) ⟨v.seed, IntKind.wrap .u16 v.process, (IntKind.wrap .u8 v.ports).tmod 17, 1 + IntKind.wrap .u8 v.look, time⟩ (begS value time source (cs.take 12) d) = 0 := made_open xs w1.1 (by show IntKind.wrap .u16 v.process ≤ 65536; omega) pt0 (by show 1 ≤ 1 + IntKind.wrap .u8 v.look; omega) ht.1 (by show time ≤ 281474976710656; omega) (by omega) hd.1 (by omega)
  have hPG : PG (made14 xs) := ⟨hok, (openE_zero hO).1⟩
  have hSG : SG (made14 xs) (begS value time source (cs.take 12) d) := SG.of (openE_zero hO).2.2 (by simp [begS])
  have g1 := runO_le hO f0 (by omega)
  have g5 := runO_good' hok hO (by simp [begS]) f0 (by omega)
  have hSI : (runO (made14 xs) ⟨v.seed, IntKind.wrap .u16 v.process, (IntKind.wrap .u8 v.ports).tmod 17, 1 + IntKind.wrap .u8 v.look, time⟩ (begS value time source (cs.take 12) d) (fuel.tmod 512)).bad = 0 → SI (made14 xs) ⟨v.seed, IntKind.wrap .u16 v.process, (IntKind.wrap .u8 v.ports).tmod 17, 1 + IntKind.wrap .u8 v.look, time⟩ (cs.take 12) d (runO (made14 xs) ⟨v.seed, IntKind.wrap .u16 v.process, (IntKind.wrap .u8 v.ports).tmod 17, 1 + IntKind.wrap .u8 v.look, time⟩ (begS value time source (cs.take 12) d) (fuel.tmod 512)).tr (runO (made14 xs) ⟨v.seed, IntKind.wrap .u16 v.process, (IntKind.wrap .u8 v.ports).tmod 17, 1 + IntKind.wrap .u8 v.look, time⟩ (begS value time source (cs.take 12) d) (fuel.tmod 512)).s := fun hb => by
    rw [runO_of hO f0 (by omega)] at hb ⊢
    exact si_run hPG _ _ _ _ _ ⟨(fun k hk => by cases hk), rfl, (by simp [begS, cnt]), rfl, (by rw [show (begS value time source (cs.take 12) d).cells = cs.take 12 from rfl, chg_self]; exact Nat.zero_le _), (fun y hy => by cases hy)⟩ hSG hb
  obtain ⟨R, hR⟩ : ∃ R, runO (made14 xs) ⟨v.seed, IntKind.wrap .u16 v.process, (IntKind.wrap .u8 v.ports).tmod 17, 1 + IntKind.wrap .u8 v.look, time⟩ (begS value time source (cs.take 12) d) (fuel.tmod 512) = R := ⟨_, rfl⟩
  rw [hR] at g1 g5 hSI
  have c5 := g5.c1
  have n5 := g5.n1
  have c5' : R.s.cells.length ≤ 1000000 := by omega
  by_cases hb : R.bad = 0
  · have I := hSI hb
    have hne : R.tr.isEmpty = false := by
      have h1 : 0 < R.tr.length := by
        rw [← hR, runO_of hO f0 (by omega)]
        rw [← hR, runO_of hO f0 (by omega)] at hb
        by_cases hz : 0 < (fuel.tmod 512).toNat
        · exact runA_more (tr := []) rfl hz
        · rw [show (fuel.tmod 512).toNat = 0 by omega, runA_zero rfl] at hb
          cases hb
      cases h2 : R.tr with
      | nil => rw [h2] at h1; exact absurd h1 (by decide)
      | cons x l => rfl

    refine litOkM (fn := Try.f5) 5 179 0 rfl rfl rfl rfl rfl (by simp only [StableL, Stable, hp, i64S, prS, insS, sndsS, sndS, stS, evS, macS, cB, sB, HB.stable]; simp [HB.born]) rfl fun w0 M E hro => ?_
    repeat' (first | with_reducible (first | apply J1 | apply J3 | apply J4 | apply J5 | apply J6 | apply J7 | apply J8 | apply J9 | apply J10 | apply J11 | apply J12 | apply J13 | apply J14 | apply J15 | apply J16 | apply J17 | apply J18 | apply J19 | apply J20 | refine J2 ?_) | ((with_reducible apply J21); (· rfl)) | ((with_reducible intro hif); first | (focus (cases hif; done)) | (simp only [JH] at hif; try (exfalso; omega)) | (try (exfalso; omega))) | ((first | ((with_reducible apply J22 cSeG_ok tab_ok); (· rfl)) | ((with_reducible apply J23 fol cSeG_ok tab_ok); (· rfl)) | with_reducible apply J24); (· (simp only [push_cast, ↓JP, Nat.reduceAdd, Nat.reduceEqDiff, Nat.reduceLT, Nat.reduceMul, Nat.reduceLeDiff, reduceCtorEq, reduceIte, ↓JK, cB_eq, sB_eq, JE, JB, sAw19, sMd19, sCrG, sCrB, sTrS, inR, inN, Nat.sub_zero, cSeG, hR, hb, hne]; rfl)); (try kernel_rfl); (try exact Vm.b90)) | fail)
    refine WF.loopAt (fun (j : Nat) => j ≤ R.tr.length) (fun (j : Nat) => [(2, .bool false), (3, .ptr 8 []), (4, .ptr 11 []), (8, .nat .i64 (cnt (made14 xs) 8 (R.tr.take j))), (9, .nat .i64 (cnt (made14 xs) 7 (R.tr.take j))), (10, .nat .i64 (cnt (made14 xs) 6 (R.tr.take j))), (57, .sl 12 12 [] 1 0 R.tr.length none), (58, .nat .i64 R.tr.length), (59, .nat .i64 j)]) (fun (j : Nat) => [.gone, .gone, .ro (.arr xs.length 5 (prS xs)), .gone, .ro (.arr cs.length 1 (i64S cs)), .gone, .own 73 (.arr (made14 xs).length 5 (prS (made14 xs))) false, .own 2 (.arr (cs.take 12).length 1 (i64S (cs.take 12))) false, .own 41 (.agg [.sl 6 6 [] 5 0 (made14 xs).length none, .agg [.int .u64 v.seed, .int .i64 (IntKind.wrap .u16 v.process), .int .i64 ((IntKind.wrap .u8 v.ports).tmod 17), .int .i64 (1 + IntKind.wrap .u8 v.look), .int .i64 time], .agg [.agg [.int .i64 time, .int .i64 source, .int .i64 1], .int .i64 0, .int .i64 value], .sl 7 7 [] 1 0 (cs.take 12).length none, .int .i64 d, .int .i64 (fuel.tmod 512)]) true, cB R.s, sB R.s, .own 45 (.agg [.nat .i64 R.tr.length, .int .i64 R.at_, .sl 9 9 [] 1 0 R.s.cells.length none, .int .i64 R.s.draws, .sl 10 10 [] 3 0 R.s.sends.length none]) true, .own 3 (.arr R.tr.length 1 (i64S R.tr)) false]) (fun (j : Nat) => R.tr.length - j) 0 (Nat.zero_le _) ?_ ?_ rfl ?_ ?_ rfl ?_
    · exact Vm.b26
    · exact Vm.b7
    · exact Vm.b83
    · exact Vm.b83
    intro j hj
    by_cases hj1 : j < R.tr.length
    · obtain ⟨k, hk⟩ : ∃ k, R.tr.getD j 0 = k := ⟨_, rfl⟩
      have hkm : k ∈ R.tr := by
        rw [← hk, List.getD_eq_getElem?_getD, List.getElem?_eq_getElem hj1]; exact List.getElem_mem hj1
      obtain ⟨k0, k1⟩ := I.at_ k hkm
      have kn : k.toNat < (made14 xs).length := by omega
      have htk : R.tr.take (j + 1) = R.tr.take j ++ [k] := by
        rw [← hk, List.getD_eq_getElem?_getD, List.getElem?_eq_getElem hj1, List.take_add_one, List.getElem?_eq_getElem hj1]; rfl
      have c8 := cnt_app (made14 xs) 8 (R.tr.take j) k
      have c7 := cnt_app (made14 xs) 7 (R.tr.take j) k
      have c6 := cnt_app (made14 xs) 6 (R.tr.take j) k
      rw [← htk] at c8 c7 c6
      have b8 : cnt (made14 xs) 8 (R.tr.take j) ≤ 1000 := Nat.le_trans (List.length_filter_le _ _) (by rw [List.length_take]; omega)
      have b7 : cnt (made14 xs) 7 (R.tr.take j) ≤ 1000 := Nat.le_trans (List.length_filter_le _ _) (by rw [List.length_take]; omega)
      have b6 : cnt (made14 xs) 6 (R.tr.take j) ≤ 1000 := Nat.le_trans (List.length_filter_le _ _) (by rw [List.length_take]; omega)
      obtain ⟨x, hX⟩ : ∃ x, (made14 xs).getD k.toNat ⟨0, 0, 0, 0, 0⟩ = x := ⟨_, rfl⟩
      have hxi : insAt (made14 xs) k = x := hX
      have hxo : x.ok := by
        rw [← hX, List.getD_eq_getElem?_getD, List.getElem?_eq_getElem kn]; exact hok _ (List.getElem_mem kn)
      obtain ⟨o0, o1, _, _, _, _, _, _, _, _⟩ := hxo
      rw [hxi] at c8 c7 c6
      have kneg : ¬ k < 0 := by omega
      have kge : ¬ ((made14 xs).length : Int) ≤ k := by omega
      by_cases h8 : x.op = 8
      · rw [if_pos h8] at c8
        rw [if_neg (by omega)] at c7 c6
        repeat' (first | with_reducible (first | apply J1 | apply J3 | apply J4 | apply J5 | apply J6 | apply J7 | apply J8 | apply J9 | apply J10 | apply J11 | apply J12 | apply J13 | apply J14 | apply J15 | apply J16 | apply J17 | apply J18 | apply J19 | apply J20 | refine J2 ?_) | ((with_reducible apply J21); (· rfl)) | ((with_reducible intro hif); first | (focus (cases hif; done)) | (simp only [JH] at hif; try (exfalso; omega)) | (try (exfalso; omega))) | ((first | ((with_reducible apply J22 cSeG_ok tab_ok); (· rfl)) | ((with_reducible apply J23 fol cSeG_ok tab_ok); (· rfl)) | with_reducible apply J24); (· (simp only [push_cast, ↓JP, Nat.reduceAdd, Nat.reduceEqDiff, Nat.reduceLT, Nat.reduceMul, Nat.reduceLeDiff, reduceCtorEq, reduceIte, ↓JK, cB_eq, sB_eq, JE, JB, sAw19, sMd19, sCrG, sCrB, sTrS, inR, inN, Nat.sub_zero, cSeG, hk, hX, inR, kneg, kge, h8]; rfl)); (try kernel_rfl); (try exact Vm.b91)) | fail)
        refine At.next (j + 1) ?_ ?_ ?_ rfl ?_ ?_ rfl
        · exact ⟨hj1, by omega⟩
        · exact Vm.b89
        · exact Vm.b7
        · exact Vm.b83
        · exact Vm.b83
      · rw [if_neg h8] at c8
        by_cases h7 : x.op = 7
        · rw [if_pos h7] at c7
          rw [if_neg (by omega)] at c6
          repeat' (first | with_reducible (first | apply J1 | apply J3 | apply J4 | apply J5 | apply J6 | apply J7 | apply J8 | apply J9 | apply J10 | apply J11 | apply J12 | apply J13 | apply J14 | apply J15 | apply J16 | apply J17 | apply J18 | apply J19 | apply J20 | refine J2 ?_) | ((with_reducible apply J21); (· rfl)) | ((with_reducible intro hif); first | (focus (cases hif; done)) | (simp only [JH] at hif; try (exfalso; omega)) | (try (exfalso; omega))) | ((first | ((with_reducible apply J22 cSeG_ok tab_ok); (· rfl)) | ((with_reducible apply J23 fol cSeG_ok tab_ok); (· rfl)) | with_reducible apply J24); (· (simp only [push_cast, ↓JP, Nat.reduceAdd, Nat.reduceEqDiff, Nat.reduceLT, Nat.reduceMul, Nat.reduceLeDiff, reduceCtorEq, reduceIte, ↓JK, cB_eq, sB_eq, JE, JB, sAw19, sMd19, sCrG, sCrB, sTrS, inR, inN, Nat.sub_zero, cSeG, hk, hX, inR, kneg, kge, h7]; rfl)); (try kernel_rfl); (try exact Vm.b91)) | fail)
          refine At.next (j + 1) ?_ ?_ ?_ rfl ?_ ?_ rfl
          · exact ⟨hj1, by omega⟩
          · exact Vm.b89
          · exact Vm.b7
          · exact Vm.b83
          · exact Vm.b83
        · rw [if_neg h7] at c7
          by_cases h6 : x.op = 6
          · rw [if_pos h6] at c6
            repeat' (first | with_reducible (first | apply J1 | apply J3 | apply J4 | apply J5 | apply J6 | apply J7 | apply J8 | apply J9 | apply J10 | apply J11 | apply J12 | apply J13 | apply J14 | apply J15 | apply J16 | apply J17 | apply J18 | apply J19 | apply J20 | refine J2 ?_) | ((with_reducible apply J21); (· rfl)) | ((with_reducible intro hif); first | (focus (cases hif; done)) | (simp only [JH] at hif; try (exfalso; omega)) | (try (exfalso; omega))) | ((first | ((with_reducible apply J22 cSeG_ok tab_ok); (· rfl)) | ((with_reducible apply J23 fol cSeG_ok tab_ok); (· rfl)) | with_reducible apply J24); (· (simp only [push_cast, ↓JP, Nat.reduceAdd, Nat.reduceEqDiff, Nat.reduceLT, Nat.reduceMul, Nat.reduceLeDiff, reduceCtorEq, reduceIte, ↓JK, cB_eq, sB_eq, JE, JB, sAw19, sMd19, sCrG, sCrB, sTrS, inR, inN, Nat.sub_zero, cSeG, hk, hX, inR, kneg, kge, h6]; rfl)); (try kernel_rfl); (try exact Vm.b91)) | fail)
            refine At.next (j + 1) ?_ ?_ ?_ rfl ?_ ?_ rfl
            · exact ⟨hj1, by omega⟩
            · exact Vm.b89
            · exact Vm.b7
            · exact Vm.b83
            · exact Vm.b83
          · rw [if_neg h6] at c6
            repeat' (first | with_reducible (first | apply J1 | apply J3 | apply J4 | apply J5 | apply J6 | apply J7 | apply J8 | apply J9 | apply J10 | apply J11 | apply J12 | apply J13 | apply J14 | apply J15 | apply J16 | apply J17 | apply J18 | apply J19 | apply J20 | refine J2 ?_) | ((with_reducible apply J21); (· rfl)) | ((with_reducible intro hif); first | (focus (cases hif; done)) | (simp only [JH] at hif; try (exfalso; omega)) | (try (exfalso; omega))) | ((first | ((with_reducible apply J22 cSeG_ok tab_ok); (· rfl)) | ((with_reducible apply J23 fol cSeG_ok tab_ok); (· rfl)) | with_reducible apply J24); (· (simp only [push_cast, ↓JP, Nat.reduceAdd, Nat.reduceEqDiff, Nat.reduceLT, Nat.reduceMul, Nat.reduceLeDiff, reduceCtorEq, reduceIte, ↓JK, cB_eq, sB_eq, JE, JB, sAw19, sMd19, sCrG, sCrB, sTrS, inR, inN, Nat.sub_zero, cSeG, hk, hX, inR, kneg, kge, h8, h7, h6]; rfl)); (try kernel_rfl); (try exact Vm.b91)) | fail)
            refine At.next (j + 1) ?_ ?_ ?_ rfl ?_ ?_ rfl
            · exact ⟨hj1, by omega⟩
            · exact Vm.b89
            · exact Vm.b7
            · exact Vm.b83
            · exact Vm.b83
    · obtain rfl : j = R.tr.length := by omega
      rw [List.take_length]
      repeat' (first | with_reducible (first | apply J1 | apply J3 | apply J4 | apply J5 | apply J6 | apply J7 | apply J8 | apply J9 | apply J10 | apply J11 | apply J12 | apply J13 | apply J14 | apply J15 | apply J16 | apply J17 | apply J18 | apply J19 | apply J20 | refine J2 ?_) | ((with_reducible apply J21); (· rfl)) | ((with_reducible intro hif); first | (focus (cases hif; done)) | (simp only [JH] at hif; try (exfalso; omega)) | (try (exfalso; omega))) | ((first | ((with_reducible apply J22 cSeG_ok tab_ok); (· rfl)) | ((with_reducible apply J23 fol cSeG_ok tab_ok); (· rfl)) | with_reducible apply J24); (· exact Vm.b92); (try kernel_rfl); (try exact Vm.b91)) | fail)
      refine WF.loopAt (fun (i : Nat) => i ≤ R.s.sends.length) (fun (i : Nat) => [(2, .bool false), (3, .ptr 8 []), (4, .ptr 11 []), (8, .nat .i64 (cnt (made14 xs) 8 R.tr)), (9, .nat .i64 (cnt (made14 xs) 7 R.tr)), (10, .nat .i64 (cnt (made14 xs) 6 R.tr)), (92, .sl 10 10 [] 3 0 R.s.sends.length none), (93, .nat .i64 R.s.sends.length), (94, .nat .i64 i)]) (fun (i : Nat) => [.gone, .gone, .ro (.arr xs.length 5 (prS xs)), .gone, .ro (.arr cs.length 1 (i64S cs)), .gone, .own 73 (.arr (made14 xs).length 5 (prS (made14 xs))) false, .own 2 (.arr (cs.take 12).length 1 (i64S (cs.take 12))) false, .own 41 (.agg [.sl 6 6 [] 5 0 (made14 xs).length none, .agg [.int .u64 v.seed, .int .i64 (IntKind.wrap .u16 v.process), .int .i64 ((IntKind.wrap .u8 v.ports).tmod 17), .int .i64 (1 + IntKind.wrap .u8 v.look), .int .i64 time], .agg [.agg [.int .i64 time, .int .i64 source, .int .i64 1], .int .i64 0, .int .i64 value], .sl 7 7 [] 1 0 (cs.take 12).length none, .int .i64 d, .int .i64 (fuel.tmod 512)]) true, cB R.s, sB R.s, .own 45 (.agg [.nat .i64 R.tr.length, .int .i64 R.at_, .sl 9 9 [] 1 0 R.s.cells.length none, .int .i64 R.s.draws, .sl 10 10 [] 3 0 R.s.sends.length none]) true, .own 3 (.arr R.tr.length 1 (i64S R.tr)) false]) (fun (i : Nat) => R.s.sends.length - i) 0 (Nat.zero_le _) ?_ ?_ rfl ?_ ?_ rfl ?_
      · exact Vm.b26
      · exact Vm.b7
      · exact Vm.b83
      · exact Vm.b83
      intro i hi
      by_cases hi1 : i < R.s.sends.length
      · obtain ⟨y, hY⟩ : ∃ y, R.s.sends.getD i ⟨0, 0, 0⟩ = y := ⟨_, rfl⟩
        have hym : y ∈ R.s.sends := by
          rw [← hY, List.getD_eq_getElem?_getD, List.getElem?_eq_getElem hi1]; exact List.getElem_mem hi1
        obtain ⟨z1, z2, z3, z4⟩ := I.s y hym
        dsimp only at z2 z3 z4
        have n1 : ¬ y.port < 0 := by omega
        have n2 : ¬ (IntKind.wrap .u8 v.ports).tmod 17 ≤ y.port := by omega
        have n3 : ¬ y.delay < 1 + IntKind.wrap .u8 v.look := by omega
        have n4 : ¬ 281474976710656 - time < y.delay := by omega
        repeat' (first | with_reducible (first | apply J1 | apply J3 | apply J4 | apply J5 | apply J6 | apply J7 | apply J8 | apply J9 | apply J10 | apply J11 | apply J12 | apply J13 | apply J14 | apply J15 | apply J16 | apply J17 | apply J18 | apply J19 | apply J20 | refine J2 ?_) | ((with_reducible apply J21); (· rfl)) | ((with_reducible intro hif); first | (focus (cases hif; done)) | (simp only [JH] at hif; try (exfalso; omega)) | (try (exfalso; omega))) | ((first | ((with_reducible apply J22 cSeG_ok tab_ok); (· rfl)) | ((with_reducible apply J23 fol cSeG_ok tab_ok); (· rfl)) | with_reducible apply J24); (· (simp only [push_cast, ↓JP, Nat.reduceAdd, Nat.reduceEqDiff, Nat.reduceLT, Nat.reduceMul, Nat.reduceLeDiff, reduceCtorEq, reduceIte, ↓JK, cB_eq, sB_eq, JE, JB, sAw19, sMd19, sCrG, sCrB, sTrS, inR, inN, Nat.sub_zero, cSeG, inR, hY, n1, n2, n3, n4]; rfl)); (try kernel_rfl); (try exact Vm.b91)) | fail)
        refine At.next (i + 1) ?_ ?_ ?_ rfl ?_ ?_ rfl
        · exact ⟨hi1, by omega⟩
        · exact Vm.b26
        · exact Vm.b7
        · exact Vm.b83
        · exact Vm.b83
      · obtain rfl : i = R.s.sends.length := by omega
        repeat' (first | with_reducible (first | apply J1 | apply J3 | apply J4 | apply J5 | apply J6 | apply J7 | apply J8 | apply J9 | apply J10 | apply J11 | apply J12 | apply J13 | apply J14 | apply J15 | apply J16 | apply J17 | apply J18 | apply J19 | apply J20 | refine J2 ?_) | ((with_reducible apply J21); (· rfl)) | ((with_reducible intro hif); first | (focus (cases hif; done)) | (simp only [JH] at hif; try (exfalso; omega)) | (try (exfalso; omega))) | ((first | ((with_reducible apply J22 cSeG_ok tab_ok); (· rfl)) | ((with_reducible apply J23 fol cSeG_ok tab_ok); (· rfl)) | with_reducible apply J24); (· exact Vm.b92); (try kernel_rfl); (try exact Vm.b91)) | fail)
        refine WF.loopAt (fun (q : Nat) => q ≤ min (cs.take 12).length R.s.cells.length) (fun (q : Nat) => [(2, .bool false), (3, .ptr 8 []), (4, .ptr 11 []), (8, .nat .i64 (cnt (made14 xs) 8 R.tr)), (9, .nat .i64 (cnt (made14 xs) 7 R.tr)), (10, .nat .i64 (cnt (made14 xs) 6 R.tr)), (15, .nat .i64 (chgT (cs.take 12) R.s.cells q)), (133, .nat .i64 (min (cs.take 12).length R.s.cells.length)), (134, .nat .i64 q)]) (fun (q : Nat) => [.gone, .gone, .ro (.arr xs.length 5 (prS xs)), .gone, .ro (.arr cs.length 1 (i64S cs)), .gone, .own 73 (.arr (made14 xs).length 5 (prS (made14 xs))) false, .own 2 (.arr (cs.take 12).length 1 (i64S (cs.take 12))) false, .own 41 (.agg [.sl 6 6 [] 5 0 (made14 xs).length none, .agg [.int .u64 v.seed, .int .i64 (IntKind.wrap .u16 v.process), .int .i64 ((IntKind.wrap .u8 v.ports).tmod 17), .int .i64 (1 + IntKind.wrap .u8 v.look), .int .i64 time], .agg [.agg [.int .i64 time, .int .i64 source, .int .i64 1], .int .i64 0, .int .i64 value], .sl 7 7 [] 1 0 (cs.take 12).length none, .int .i64 d, .int .i64 (fuel.tmod 512)]) true, cB R.s, sB R.s, .own 45 (.agg [.nat .i64 R.tr.length, .int .i64 R.at_, .sl 9 9 [] 1 0 R.s.cells.length none, .int .i64 R.s.draws, .sl 10 10 [] 3 0 R.s.sends.length none]) true, .own 3 (.arr R.tr.length 1 (i64S R.tr)) false]) (fun (q : Nat) => min (cs.take 12).length R.s.cells.length - q) 0 (Nat.zero_le _) ?_ ?_ rfl ?_ ?_ rfl ?_
        · exact Vm.b26
        · exact Vm.b7
        · exact Vm.b83
        · exact Vm.b83
        intro q hq
        have hcb := chgT_le (cs.take 12) R.s.cells q
        have hll := I.l
        by_cases hq1 : q < min (cs.take 12).length R.s.cells.length
        · have cq := chgT_succ (cs.take 12) R.s.cells q
          have r1 : q < (cs.take 12).length := by omega
          have r2 : q < R.s.cells.length := by omega
          by_cases he : (cs.take 12).getD q 0 = R.s.cells.getD q 0
          · rw [if_pos he] at cq
            repeat' (first | with_reducible (first | apply J1 | apply J3 | apply J4 | apply J5 | apply J6 | apply J7 | apply J8 | apply J9 | apply J10 | apply J11 | apply J12 | apply J13 | apply J14 | apply J15 | apply J16 | apply J17 | apply J18 | apply J19 | apply J20 | refine J2 ?_) | ((with_reducible apply J21); (· rfl)) | ((with_reducible intro hif); first | (focus (cases hif; done)) | (simp only [JH] at hif; try (exfalso; omega)) | (try (exfalso; omega))) | ((first | ((with_reducible apply J22 cSeG_ok tab_ok); (· rfl)) | ((with_reducible apply J23 fol cSeG_ok tab_ok); (· rfl)) | with_reducible apply J24); (· exact Vm.b93); (try kernel_rfl); (try exact Vm.b91)) | fail)
            refine At.next (q + 1) ?_ ?_ ?_ rfl ?_ ?_ rfl
            · exact ⟨hq1, by omega⟩
            · ((repeat' (first | exact trivial | apply And.intro)) <;> (first | rfl | (simp only [cq]; rfl)))
            · exact Vm.b7
            · exact Vm.b83
            · exact Vm.b83
          · rw [if_neg he] at cq
            repeat' (first | with_reducible (first | apply J1 | apply J3 | apply J4 | apply J5 | apply J6 | apply J7 | apply J8 | apply J9 | apply J10 | apply J11 | apply J12 | apply J13 | apply J14 | apply J15 | apply J16 | apply J17 | apply J18 | apply J19 | apply J20 | refine J2 ?_) | ((with_reducible apply J21); (· rfl)) | ((with_reducible intro hif); first | (focus (cases hif; done)) | (simp only [JH] at hif; try (exfalso; omega)) | (try (exfalso; omega))) | ((first | ((with_reducible apply J22 cSeG_ok tab_ok); (· rfl)) | ((with_reducible apply J23 fol cSeG_ok tab_ok); (· rfl)) | with_reducible apply J24); (· exact Vm.b93); (try kernel_rfl); (try exact Vm.b91)) | fail)
            refine At.next (q + 1) ?_ ?_ ?_ rfl ?_ ?_ rfl
            · exact ⟨hq1, by omega⟩
            · ((repeat' (first | exact trivial | apply And.intro)) <;> (first | rfl | (simp only [cq]; rfl)))
            · exact Vm.b7
            · exact Vm.b83
            · exact Vm.b83
        · have hqe : q = (cs.take 12).length := by omega
          subst hqe
          have x1 := I.n
          have x2 := I.d
          have x3 : chgT (cs.take 12) R.s.cells (cs.take 12).length ≤ cnt (made14 xs) 6 R.tr := I.c
          have x4 : ¬ cnt (made14 xs) 6 R.tr < chgT (cs.take 12) R.s.cells (cs.take 12).length := by omega
          have b7 : cnt (made14 xs) 7 R.tr ≤ 1000 := Nat.le_trans (List.length_filter_le _ _) (by omega)
          have nn : ¬ (cs.take 12).length < min (cs.take 12).length R.s.cells.length := hq1
          repeat' (first | with_reducible (first | apply J1 | apply J3 | apply J4 | apply J5 | apply J6 | apply J7 | apply J8 | apply J9 | apply J10 | apply J11 | apply J12 | apply J13 | apply J14 | apply J15 | apply J16 | apply J17 | apply J18 | apply J19 | apply J20 | refine J2 ?_) | ((with_reducible apply J21); (· rfl)) | ((with_reducible intro hif); first | (focus (cases hif; done)) | (simp only [JH] at hif; try (exfalso; omega)) | (try (exfalso; omega))) | ((first | ((with_reducible apply J22 cSeG_ok tab_ok); (· rfl)) | ((with_reducible apply J23 fol cSeG_ok tab_ok); (· rfl)) | with_reducible apply J24); (· (simp only [push_cast, ↓JP, Nat.reduceAdd, Nat.reduceEqDiff, Nat.reduceLT, Nat.reduceMul, Nat.reduceLeDiff, reduceCtorEq, reduceIte, ↓JK, cB_eq, sB_eq, JE, JB, sAw19, sMd19, sCrG, sCrB, sTrS, inR, inN, Nat.sub_zero, cSeG, inR, nn, x1, x2, hll, x3, x4]; rfl)); (try kernel_rfl); (try exact Vm.b91)) | fail)
          apply At.endsRet tab_ok (fn := Try.f5) (rs := [.tmp 2]) Anc.refl hro (Nat.le_of_ble_eq_true rfl) rfl
          · simp only [push_cast, ↓JP, Nat.reduceAdd, Nat.reduceEqDiff, Nat.reduceLT, Nat.reduceMul, Nat.reduceLeDiff, reduceCtorEq, reduceIte, ↓JK, resV, resV1, cB_eq, sB_eq, JE, JB, sAw19, sMd19, sCrG, sCrB, sTrS, inR, inN, Nat.sub_zero, cSeG, x1, x2, hll, x3, x4]; rfl
          · exact Vm.b6
          · exact Vm.b7
          · rfl
          · exact Vm.b83
          · exact Vm.b9
          · exact fun β => rfl
          · exact Vm.b83
  · skip

    refine litOkM (fn := Try.f5) 5 179 0 rfl rfl rfl rfl rfl (by simp only [StableL, Stable, hp, i64S, prS, insS, sndsS, sndS, stS, evS, macS, cB, sB, HB.stable]; simp [HB.born]) rfl fun w0 M E hro => ?_
    repeat' (first | with_reducible (first | apply J1 | apply J3 | apply J4 | apply J5 | apply J6 | apply J7 | apply J8 | apply J9 | apply J10 | apply J11 | apply J12 | apply J13 | apply J14 | apply J15 | apply J16 | apply J17 | apply J18 | apply J19 | apply J20 | refine J2 ?_) | ((with_reducible apply J21); (· rfl)) | ((with_reducible intro hif); first | (focus (cases hif; done)) | (simp only [JH] at hif; try (exfalso; omega)) | (try (exfalso; omega))) | ((first | ((with_reducible apply J22 cSeB_ok tab_ok); (· rfl)) | ((with_reducible apply J23 fol cSeB_ok tab_ok); (· rfl)) | with_reducible apply J24); (· (simp only [push_cast, ↓JP, Nat.reduceAdd, Nat.reduceEqDiff, Nat.reduceLT, Nat.reduceMul, Nat.reduceLeDiff, reduceCtorEq, reduceIte, ↓JK, cB_eq, sB_eq, JE, JB, sAw19, sMd19, sCrG, sCrB, sTrS, inR, inN, Nat.sub_zero, cSeB, hR, hb]; rfl)); (try kernel_rfl); (try exact Vm.b90)) | fail)
    apply At.endsRet tab_ok (fn := Try.f5) (rs := [.tmp 2]) Anc.refl hro (Nat.le_of_ble_eq_true rfl) rfl
    · simp only [push_cast, ↓JP, Nat.reduceAdd, Nat.reduceEqDiff, Nat.reduceLT, Nat.reduceMul, Nat.reduceLeDiff, reduceCtorEq, reduceIte, ↓JK, resV, resV1, cB_eq, sB_eq, JE, JB, sAw19, sMd19, sCrG, sCrB, sTrS, inR, inN, Nat.sub_zero, cSeB, hR, hb]; rfl
    · exact Vm.b6
    · exact Vm.b7
    · rfl
    · exact Vm.b83
    · exact Vm.b9
    · exact fun β => rfl
    · exact Vm.b83
end Go.Proofs.Ytjliakjbdcplcaa.Vm
end
