import Derived.Test.YtjliakjbdcplcaaG9
import Derived.Test.YtjliakjbdcplcaaG11
import Derived.Test.YtjliakjbdcplcaaG14
section
open Go.Proofs.Ytjliakjbdcplcaa.Vm Go.RowKit
attribute [local push_cast] runR opG gtmp gval gus opX tmpsOf tm tmO tmP restr look look2 tab tys zs ets eqB eqBL allB numOf ieq Int.cast_ofNat_Int Int.ofNat_zero beq_true beq_false frameOf ev evL ofV opV loadV noW pushF wrsL setH allBorn allGone HB.born HB.isGone HB.val SV.plain dstOk hp nav fitsT SV.size sizeL SV.isAgg TK.size TK.agg bin binE binN binI arN arI cmpN cmpI keq kn narrow callV storeV setp fillV buildV buildSliceV makeV sliceV appendV copyV List.isEmpty_nil srcV evO asN ite_t ite_f ite_bool ite_int ite_nat maxV v_beq v_ble v_blt cond_true cond_false List.getElem?_cons_zero List.getElem?_cons_succ List.getD_cons_zero List.getD_cons_succ List.getD_nil List.length_cons List.length_nil List.take_succ_cons List.take_zero List.set_cons_zero List.set_cons_succ List.cons_append List.nil_append List.append_assoc List.replicate_succ List.replicate_zero Nat.zero_add Nat.add_zero decide_true decide_false Bool.true_and Bool.and_true Bool.false_and Bool.and_false Bool.true_or Bool.or_true Bool.false_or Bool.or_false beq_self_eq_true Bool.or_self Nat.lt_irrefl Nat.not_lt_zero Nat.le_refl Option.getD_some Option.getD_none BEq.rfl Bool.not_true Bool.not_false Bool.cond_true_left Bool.cond_false_right prS sndsS i64S nav_ins nav_ins0 nav_ins1 nav_ins2 nav_ins3 nav_ins4 nav_snd nav_snd0 nav_snd1 nav_snd2 isIns_insS insOf_insS isSnd_sndS sndOf_sndS isI_int isI_nat iOf
section
/- run.Trace that is rejected, as a call. -/
namespace Go.Proofs.Ytjliakjbdcplcaa.Vm
open Go.RowKit
set_option linter.unusedVariables false
set_option linter.unusedSimpArgs false
set_option maxRecDepth 100000
set_option maxHeartbeats 4000000
theorem Trace_rejN (P : List Ins) (v : Evi) (t s q o y d f : Int) (cs : List Int) (p1 p2 : Nat) (hok : ∀ x ∈ P, x.ok) (hn : P.length ≤ 1000000) (hc : cs.length ≤ 1000000) (hE : ropE P v (begS y t s cs d) f ≠ 0) : LitOk Try.prog 25 [.sl 1 2 [] 5 0 P.length (some p1), .agg [.int .u64 v.seed, .int .i64 v.process, .int .i64 v.ports, .int .i64 v.look, .int .i64 v.now], .agg [.agg [.int .i64 t, .int .i64 s, .int .i64 q], .int .i64 o, .int .i64 y], .sl 3 4 [] 1 0 cs.length (some p2), .int .i64 d, .int .i64 f]
    [.gone, .gone, .ro (.arr P.length 5 (prS P)), .gone, .ro (.arr cs.length 1 (i64S cs))]
    (.tup [.sl 0 0 [] 0 0 0 (some 0), .int .i64 (ropE P v (begS y t s cs d) f)]) [.gone] := by
  obtain ⟨s0, hs0⟩ : ∃ s0, begS y t s cs d = s0 := ⟨_, rfl⟩
  rw [hs0] at hE ⊢
  refine litOkM (fn := Try.f25) 5 46 0 rfl rfl rfl rfl rfl (by simp only [StableL, Stable, hp, i64S, prS, insS, sndsS, sndS, stS, evS, macS, mB, cB, sB, eB, prO, prR, pbB, fbB, HB.stable]; simp [HB.born]) rfl fun w0 M E hro => ?_
  repeat' (first | with_reducible (first | apply J1 | apply J3 | apply J4 | apply J5 | apply J6 | apply J7 | apply J8 | apply J9 | apply J10 | apply J11 | apply J12 | apply J13 | apply J14 | apply J15 | apply J16 | apply J17 | apply J18 | apply J19 | apply J20 | refine J2 ?_) | ((with_reducible apply J21); (· rfl)) | ((with_reducible intro hif); first | (focus (cases hif; done)) | (simp only [JH] at hif; try (exfalso; omega)) | (try (exfalso; omega))) | ((first | ((with_reducible apply J22 cRej_ok tab_ok); (· rfl)) | ((with_reducible apply J23 fol cRej_ok tab_ok); (· rfl)) | with_reducible apply J24); (· (simp only [push_cast, ↓JP, Nat.reduceAdd, Nat.reduceEqDiff, Nat.reduceLT, Nat.reduceMul, Nat.reduceLeDiff, reduceCtorEq, reduceIte, ↓JK, cRej, sRoB, JE, hs0, inR, inN, hE]; rfl)); (try kernel_rfl); (try (focus (first | exact True.intro | ((try simp only [JS, implies_true, forall_const, shaped, shapedL, kndOf, inR, inN]); (first | first | omega | exact ⟨hok, hn, hc⟩ | (repeat' (first | assumption | exact True.intro | omega | apply And.intro))); done))))) | fail)
  apply At.endsRet tab_ok (fn := Try.f25) (rs := [.tmp 12, .tmp 13]) Anc.refl hro (Nat.le_of_ble_eq_true rfl) rfl
  · simp only [push_cast, ↓JP, Nat.reduceAdd, Nat.reduceEqDiff, Nat.reduceLT, Nat.reduceMul, Nat.reduceLeDiff, reduceCtorEq, reduceIte, ↓JK, resV, resV1]; rfl
  · (first | trivial | (simp only [and_self]; done))
  · (repeat' (first | exact trivial | exact .same _ | exact .dead _ | exact .gone rfl | exact .loose | assumption | exact .arr (by assumption) | apply And.intro))
  · rfl
  · (repeat' (first | exact trivial | exact rfl | assumption | apply Stable.ite | apply And.intro | intro _ | (simp only [Stable, StableL, i64S, prS, insS, sndsS, sndS, stS, evS, macS, mB, cB, sB, eB, prO, prR, pbB, fbB, HB.stable]; done)))
  · (repeat' (first | exact trivial | exact .inl rfl | exact .inr rfl | exact rfl | apply And.intro))
  · exact fun β => rfl
  · (repeat' (first | exact trivial | exact rfl | assumption | apply Stable.ite | apply And.intro | intro _ | (simp only [Stable, StableL, i64S, prS, insS, sndsS, sndS, stS, evS, macS, mB, cB, sB, eB, prO, prR, pbB, fbB, HB.stable]; done)))
def sTrR : Spec := fun args h m => match args with
  | [v1, .agg [v2, v3, v4, v5, v6], .agg [.agg [v7, v8, v9], v10, v11], v12, v13, v14] => match srcV h 5 (.tup []) v1, srcV h 1 (.tup []) v12 with
    | some (c1, n1, f1, r1), some (c12, n12, f12, r12) => bif isI .u64 v2 && isI .i64 v3 && isI .i64 v4 && isI .i64 v5 && isI .i64 v6 && isI .i64 v7 && isI .i64 v8 && isI .i64 v9 && isI .i64 v10 && isI .i64 v11 && isI .i64 v13 && isI .i64 v14 then some (c1 ∧ c12 ∧ (∀ q, q < n1 → isIns (f1 q) = true) ∧ (∀ q, q < n12 → isI .i64 (f12 q) = true) ∧ ((∀ x ∈ (ls insOf n1 f1), x.ok)) ∧ (n1 ≤ 1000000) ∧ (n12 ≤ 1000000) ∧ (ropE (ls insOf n1 f1) ⟨(iOf v2), (iOf v3), (iOf v4), (iOf v5), (iOf v6)⟩ (begS (iOf v11) (iOf v7) (iOf v8) (ls iOf n12 f12) (iOf v13)) (iOf v14) ≠ 0), .tup [.sl 0 0 [] 0 0 0 (some 0), .int .i64 (ropE (ls insOf n1 f1) ⟨(iOf v2), (iOf v3), (iOf v4), (iOf v5), (iOf v6)⟩ (begS (iOf v11) (iOf v7) (iOf v8) (ls iOf n12 f12) (iOf v13)) (iOf v14))], r1 ++ r12, []) else none
    | _, _ => none
  | _ => none
theorem sTrR_ok : CallOk Try.prog 25 sTrR := by
  refine ⟨named_spec (by kernel_rfl), fun args h m c v rd wr hs hm hc w0 M β h' w R hrd hwr hst => ?_⟩
  unfold sTrR at hs
  split at hs
  · rename_i v1 v2 v3 v4 v5 v6 v7 v8 v9 v10 v11 v12 v13 v14
    split at hs
    · rename_i c1 n1 f1 r1 c12 n12 f12 r12 a1 a12
      obtain ⟨hb, hs⟩ := bif_some hs
      simp only [Option.some.injEq, Prod.mk.injEq] at hs
      obtain ⟨rfl, rfl, rfl, rfl⟩ := hs
      simp only [Bool.and_eq_true] at hb
      obtain ⟨⟨⟨⟨⟨⟨⟨⟨⟨⟨⟨b2, b3⟩, b4⟩, b5⟩, b6⟩, b7⟩, b8⟩, b9⟩, b10⟩, b11⟩, b13⟩, b14⟩ := hb
      obtain ⟨k1, k12, g1, g12, y1, y2, y3, y4⟩ := hc
      obtain ⟨A1, p1, d1, e1, t1⟩ := reads_src R a1 k1 (fun i hi => hrd i (List.mem_append_left _ hi)) (by omega)
      obtain ⟨A12, p12, d12, e12, t12⟩ := reads_src R a12 k12 (fun i hi => hrd i (List.mem_append_right _ hi)) (by omega)
      refine callRo (views := [⟨5, (ls insOf n1 f1).length, prS (ls insOf n1 f1), A1, p1⟩, ⟨1, (ls iOf n12 f12).length, i64S (ls iOf n12 f12), A12, p12⟩]) (Trace_rejN (ls insOf n1 f1) ⟨(iOf v2), (iOf v3), (iOf v4), (iOf v5), (iOf v6)⟩ (iOf v7) (iOf v8) (iOf v9) (iOf v10) (iOf v11) (iOf v13) (iOf v14) (ls iOf n12 f12) p1 p12 y1 (by rw [ls_length]; exact y2) (by rw [ls_length]; exact y3) y4) ?_ R hm hwr ?_ ?_ ?_
      · intro x hx
        simp only [List.mem_cons, List.not_mem_nil, or_false] at hx
        rcases hx with rfl | rfl
        · exact viewIns t1 e1 g1
        · exact viewI64 t12 e12 g12
      · intro β1 hv
        simp only [Vd, ls_length, and_true] at hv
        obtain ⟨z1, z12⟩ := hv
        simp only [denL, aggDen, intDen, natDen, boolDen, ls_length, z1, z12, d1, d12, isI_den b2, isI_den b3, isI_den b4, isI_den b5, isI_den b6, isI_den b7, isI_den b8, isI_den b9, isI_den b10, isI_den b11, isI_den b13, isI_den b14]
      · (repeat' (first | exact trivial | exact rfl | assumption | apply Stable.ite | apply And.intro | intro _ | (simp only [Stable, StableL, i64S, prS, insS, sndsS, sndS, stS, evS, macS, mB, cB, sB, eB, prO, prR, pbB, fbB, HB.stable]; done)))
      · (repeat' (first | exact trivial | exact rfl | assumption | apply Stable.ite | apply And.intro | intro _ | (simp only [Stable, StableL, i64S, prS, insS, sndsS, sndS, stS, evS, macS, mB, cB, sB, eB, prO, prR, pbB, fbB, HB.stable]; done)))
    · cases hs
  · cases hs
end Go.Proofs.Ytjliakjbdcplcaa.Vm
end

section
/- A case that is made opens. -/
namespace Go.Proofs.Ytjliakjbdcplcaa.Vm
open Go.RowKit
set_option linter.unusedVariables false
set_option linter.unusedSimpArgs false
/-- a case that is made opens -/
theorem made_open (xs : List Ins) {v : Evi} {y t s d : Int} {cs : List Int} (p0 : 0 ≤ v.process) (p1 : v.process ≤ 65536) (o0 : 0 ≤ v.ports) (l0 : 1 ≤ v.look) (t0 : 0 ≤ v.now) (t1 : v.now ≤ 281474976710656) (hc : cs.length ≤ 1024) (d0 : 0 ≤ d) (d1 : d ≤ 1099511627776) : openE (made14 xs) v (begS y t s cs d) = 0 := by
  unfold openE
  have h3 : v.rightB = true := decide_eq_true ⟨p0, p1, o0, l0, t0, t1⟩
  have hl := (made14_le xs).1
  have h4 : (begS y t s cs d).rightB (made14 xs).length = true := decide_eq_true ⟨Int.le_refl 0, by show (0 : Int) < _; omega, by show (cs.length : Int) ≤ 1024; omega, d0, d1⟩
  rw [if_neg (fun h => h (made14_right xs)), if_neg (by rw [h3]; exact Bool.noConfusion), if_neg (by rw [h4]; exact Bool.noConfusion)]
end Go.Proofs.Ytjliakjbdcplcaa.Vm
end

section
/- RunWrong, walked. (printed by gen_lm2.py) -/
namespace Go.Proofs.Ytjliakjbdcplcaa.Vm
open Go.RowKit
set_option linter.unusedVariables false
set_option linter.unusedSimpArgs false
set_option maxRecDepth 100000
set_option maxHeartbeats 4000000
theorem sameE_self (u a : Int) (c : List Int) (d : Int) (s : List Snd) : sameE u a c d s u a c d s = true := by
  simp [sameE, eqL]
theorem runO_rej {P : List Ins} {v : Evi} {s : Sta} {f e : Int} (h : ropE P v s f = e) (he : e ≠ 0) : runO P v s f = ⟨[], 0, e, zeroSt, Ins0⟩ := by
  subst h
  unfold runO; rw [if_neg he]
theorem rop_fuel {P : List Ins} {v : Evi} {s : Sta} {f : Int} (h : f < 0 ∨ 4096 < f) : ropE P v s f = 2 := by
  have : rrE f = 2 := by unfold rrE; rw [if_pos h]
  unfold ropE; rw [this]; rfl
theorem rop_open {P : List Ins} {v : Evi} {s : Sta} {f : Int} (h0 : 0 ≤ f) (h1 : f ≤ 4096) : ropE P v s f = openE P v s := by
  have : rrE f = 0 := by unfold rrE; rw [if_neg (by omega)]
  unfold ropE; rw [if_pos this]
def bad60 (P : List Ins) : Nat → SV := fun j => SV.ite (decide (j = 0)) (SV.agg [SV.nat .u8 60, SV.nat .u8 0, SV.nat .u8 0, SV.nat .u8 0, SV.nat .i64 0]) (insS (P.getD j ⟨0, 0, 0, 0, 0⟩))
theorem bad60_is (P : List Ins) (q : Nat) : isIns (bad60 P q) = true := by
  unfold bad60
  rw [ite_eq]
  cases decide (q = 0) <;> rfl
theorem bad60_ok {P : List Ins} (hx : ∀ x ∈ P, x.ok) : ∀ x ∈ ls insOf P.length (bad60 P), x.ok := by
  intro x h
  obtain ⟨j, hj, rfl⟩ := List.getElem_of_mem h
  rw [ls_length] at hj
  have e := ls_getD (g := insOf) (f := bad60 P) (d := ⟨0, 0, 0, 0, 0⟩) hj
  rw [List.getD_eq_getElem?_getD, List.getElem?_eq_getElem (by rw [ls_length]; exact hj)] at e
  simp only [Option.getD_some] at e
  rw [e]
  unfold bad60
  rw [ite_eq]
  by_cases h0 : j = 0
  · simp only [h0, decide_true, cond_true]
    refine ⟨?_, ?_, ?_, ?_, ?_, ?_, ?_, ?_, ?_, ?_⟩ <;> decide
  · simp only [h0, decide_false, cond_false, insOf_insS]
    rw [List.getD_eq_getElem?_getD, List.getElem?_eq_getElem hj]
    exact hx _ (List.getElem_mem hj)
theorem bad60_open {P : List Ins} {v : Evi} {s : Sta} (hx : ∀ x ∈ P, x.ok) (h0 : 0 < P.length) : openE (ls insOf P.length (bad60 P)) v s = 180 := by
  unfold openE
  rw [if_pos]
  intro h
  have R := ri_at (bad60_ok hx) h (k := 0) (by rw [ls_length]; exact h0)
  rw [ls_getD h0] at R
  have := R.cls
  unfold bad60 at this
  rw [ite_eq] at this
  simp [insOf, iOf] at this
def cWa : FuncId → Option Spec := look2 [(12, sAw19), (13, sMd19), (16, sNewG), (17, rGoR), (19, rUsed)]
theorem cWa_ok : ∀ f S, cWa f = some S → CallOk Try.prog f S := allOk_spec ⟨sAw19_ok, sMd19_ok, sNewG_ok, rGoR_ok, rUsed_ok, trivial⟩
def cWG : FuncId → Option Spec := look2 [(16, sNewG), (14, sCrB), (25, sTrR), (15, sSame19)]
theorem cWG_ok : ∀ f S, cWG f = some S → CallOk Try.prog f S := allOk_spec ⟨sNewG_ok, sCrB_ok, sTrR_ok, sSame19_ok, trivial⟩
def cWB : FuncId → Option Spec := look2 [(16, sNewB), (14, sCrB), (25, sTrR), (15, sSame19)]
theorem cWB_ok : ∀ f S, cWB f = some S → CallOk Try.prog f S := allOk_spec ⟨sNewB_ok, sCrB_ok, sTrR_ok, sSame19_ok, trivial⟩
theorem wrong_lit (xs : List Ins) (a d sn time source value fuel way n : Int) (rg : Nat → Int) (cs : List Int) (v : Evi) (p1 p2 : Nat) (hx : ∀ x ∈ xs, x.ok) (hcap : max xs.length p1 ≤ 9223372036854775807) (hcp : cs.length ≤ p2) (ha : 0 ≤ a ∧ a ≤ 255) (hd : 0 ≤ d ∧ d ≤ 4294967295) (hs : 0 ≤ sn ∧ sn ≤ 255) (ht : 0 ≤ time ∧ time ≤ 4294967295) (hso : 0 ≤ source ∧ source ≤ 255) (hf : 0 ≤ fuel ∧ fuel ≤ 65535) (hw : 0 ≤ way ∧ way ≤ 255) : LitOk Try.prog 6
    [.agg [.sl 1 2 [] 5 0 xs.length (some p1), .agg [.int .u8 a, .arr 8 1 (fun q => .int .i64 (rg q)), .sl 3 4 [] 1 0 cs.length (some p2), .int .u32 d, .int .u8 sn], .agg [.int .u64 v.seed, .int .i64 v.process, .int .i64 v.ports, .int .i64 v.look, .int .i64 v.now], .int .u32 time, .int .u8 source, .int .i64 value, .int .u16 fuel], .int .u8 way, .int .i64 n]
    [.gone, .gone, .ro (.arr xs.length 5 (prS xs)), .gone, .ro (.arr cs.length 1 (i64S cs))] (.bool true) [.gone] := by
  have w1 := wrap_u16 v.process
  have w2 := wrap_u8 v.ports
  have w3 := wrap_u8 v.look
  have f0 := Int.tmod_nonneg 512 hf.1
  have f1 := Int.tmod_lt_of_pos fuel (show (0 : Int) < 512 by decide)
  have y0 := Int.tmod_nonneg 6 hw.1
  have y1 := Int.tmod_lt_of_pos way (show (0 : Int) < 6 by decide)
  have pt0 := Int.tmod_nonneg 17 w2.1
  have hok := made14_ok xs hx
  have hml := (made14_le xs).2
  have hml0 := (made14_le xs).1
  have hn : (made14 xs).length ≤ 1000000 := by omega
  have hct : (cs.take 12).length ≤ 12 := by rw [List.length_take]; omega
  have hcl : (cs.take 12).length ≤ 1000000 := by omega
  have hO : openE (made14 xs) ⟨v.seed, IntKind.wrap .u16 v.process, (IntKind.wrap .u8 v.ports).tmod 17, 1 + IntKind.wrap .u8 v.look, time⟩ (begS value time source (cs.take 12) d) = 0 := made_open xs w1.1 (by show IntKind.wrap .u16 v.process ≤ 65536; omega) pt0 (by show 1 ≤ 1 + IntKind.wrap .u8 v.look; omega) ht.1 (by show time ≤ 281474976710656; omega) (by omega) hd.1 (by omega)
  have hst : ∀ (h : HM) (i : Nat), Stable h ((fun i => [SV.int .i64 (min n (-1)), SV.int .i64 (max n 4097)].getD i (.nat .i64 0)) i) := fun h i => by rcases i with _ | _ | i <;> trivial
  have m1 : rrE (min n (-1)) ≠ 0 := by unfold rrE; rw [if_pos (.inl (by omega))]; decide
  have m2 : rrE (max n 4097) ≠ 0 := by unfold rrE; rw [if_pos (.inr (by omega))]; decide

  refine litOkM (fn := Try.f6) 5 178 0 rfl rfl rfl rfl rfl (by simp only [StableL, Stable, hp, i64S, prS, insS, sndsS, sndS, stS, evS, macS, cB, sB, rB, rvS, HB.stable]; simp [HB.born]) rfl fun w0 M E hro => ?_
  repeat' (first | with_reducible (first | apply J1 | apply J3 | apply J4 | apply J5 | apply J6 | apply J7 | apply J8 | apply J9 | apply J10 | apply J11 | apply J12 | apply J13 | apply J14 | apply J15 | apply J16 | apply J17 | apply J18 | apply J19 | apply J20 | refine J2 ?_) | ((with_reducible apply J21); (· rfl)) | ((with_reducible intro hif); first | (focus (cases hif; done)) | (simp only [JH] at hif; try (exfalso; omega)) | (try (exfalso; omega))) | ((first | ((with_reducible apply J22 cWa_ok tab_ok); (· rfl)) | ((with_reducible apply J23 fol cWa_ok tab_ok); (· rfl)) | with_reducible apply J24); (· (simp only [push_cast, ↓JP, Nat.reduceAdd, Nat.reduceEqDiff, Nat.reduceLT, Nat.reduceMul, Nat.reduceLeDiff, reduceCtorEq, reduceIte, ↓JK, JE, JB, cWa, sAw19, sMd19, sNewG, rGoR, rGoRQ, rUsed, rUsedQ, rB, rvS, nodupN, memN, inR, inN, Nat.sub_zero]; rfl)); (try kernel_rfl); (try (focus (first | exact True.intro | ((try simp only [JS, implies_true, forall_const, shaped, shapedL, kndOf, capB]); (repeat' (first | exact True.intro | assumption | omega | apply And.intro | rfl | decide | intro _)); done) | ((try simp only [JS, implies_true, forall_const, shaped, shapedL, kndOf, inR, inN]); (repeat' (first | assumption | exact True.intro | omega | apply And.intro)); done))))) | fail)
  refine WF.loopAt (fun (k : Nat) => k ≤ 2) (fun (k : Nat) => [(1, .int .u8 way), (2, .int .i64 n), (6, .bool false), (7, .ptr 8 []), (8, .ptr 9 []), (49, .sl 20 20 [] 1 0 2 none), (50, .nat .i64 2), (51, .nat .i64 k)]) (fun (k : Nat) => [.gone, .gone, .ro (.arr xs.length 5 (prS xs)), .gone, .ro (.arr cs.length 1 (i64S cs)), .gone, .own 73 (.arr (made14 xs).length 5 (prS (made14 xs))) false, .own 2 (.arr (cs.take 12).length 1 (i64S (cs.take 12))) false, .own 41 (.agg [.sl 6 6 [] 5 0 (made14 xs).length none, .agg [.int .u64 v.seed, .int .i64 (IntKind.wrap .u16 v.process), .int .i64 ((IntKind.wrap .u8 v.ports).tmod 17), .int .i64 (1 + IntKind.wrap .u8 v.look), .int .i64 time], .agg [.agg [.int .i64 time, .int .i64 source, .int .i64 1], .int .i64 0, .int .i64 value], .sl 7 7 [] 1 0 (cs.take 12).length none, .int .i64 d, .int .i64 (fuel.tmod 512)]) true, rB 10 15 16 17 0 false, .gone, .gone, .gone, .gone, .gone, .gone, .gone, .gone, .gone, .gone, .own 3 (.arr 2 1 fun i => [SV.int .i64 (min n (-1)), SV.int .i64 (max n 4097)].getD i (.nat .i64 0)) true]) (fun (k : Nat) => 2 - k) 0 (Nat.zero_le _) ?_ ?_ rfl ?_ ?_ rfl ?_
  · ((repeat' (first | exact trivial | apply And.intro)) <;> (first | rfl | (simp only [look, cond_true, cond_false]; done)))
  · (repeat' (first | exact trivial | exact .same _ | exact .dead _ | exact .gone rfl | exact .loose | assumption | exact .arr (by assumption) | apply And.intro))
  · (repeat' (first | exact trivial | exact rfl | assumption | exact hst _ _ | exact hst1 _ _ | exact hst2 _ _ | apply Stable.ite | apply And.intro | intro _ | (simp only [Stable, StableL, i64S, prS, insS, sndsS, sndS, stS, evS, macS, cB, sB, rB, rvS, HB.stable]; done)))
  · (repeat' (first | exact trivial | exact rfl | assumption | exact hst _ _ | exact hst1 _ _ | exact hst2 _ _ | apply Stable.ite | apply And.intro | intro _ | (simp only [Stable, StableL, i64S, prS, insS, sndsS, sndS, stS, evS, macS, cB, sB, rB, rvS, HB.stable]; done)))
  intro k hk
  have hk3 : k = 0 ∨ k = 1 ∨ k = 2 := by omega
  rcases hk3 with rfl | rfl | rfl
  · repeat' (first | with_reducible (first | apply J1 | apply J3 | apply J4 | apply J5 | apply J6 | apply J7 | apply J8 | apply J9 | apply J10 | apply J11 | apply J12 | apply J13 | apply J14 | apply J15 | apply J16 | apply J17 | apply J18 | apply J19 | apply J20 | refine J2 ?_) | ((with_reducible apply J21); (· rfl)) | ((with_reducible intro hif); first | (focus (cases hif; done)) | (simp only [JH] at hif; try (exfalso; omega)) | (try (exfalso; omega))) | ((first | ((with_reducible apply J22 cWa_ok tab_ok); (· rfl)) | ((with_reducible apply J23 fol cWa_ok tab_ok); (· rfl)) | with_reducible apply J24); (· (simp only [push_cast, ↓JP, Nat.reduceAdd, Nat.reduceEqDiff, Nat.reduceLT, Nat.reduceMul, Nat.reduceLeDiff, reduceCtorEq, reduceIte, ↓JK, JE, JB, cWa, sAw19, sMd19, sNewG, rGoR, rGoRQ, rUsed, rUsedQ, rB, rvS, nodupN, memN, inR, inN, Nat.sub_zero, m1]; rfl)); (try kernel_rfl); (try (focus (first | exact True.intro | ((try simp only [JS, implies_true, forall_const, shaped, shapedL, kndOf, capB]); (repeat' (first | exact True.intro | assumption | omega | apply And.intro | rfl | decide | intro _)); done) | ((try simp only [JS, implies_true, forall_const, shaped, shapedL, kndOf, inR, inN]); (repeat' (first | assumption | exact True.intro | omega | apply And.intro)); done))))) | fail)
    refine At.next 1 ?_ ?_ ?_ rfl ?_ ?_ rfl
    · omega
    · ((repeat' (first | exact trivial | apply And.intro)) <;> (first | rfl | (simp only [look, cond_true, cond_false]; done)))
    · (repeat' (first | exact trivial | exact .same _ | exact .dead _ | exact .gone rfl | exact .loose | assumption | exact .arr (by assumption) | apply And.intro))
    · (repeat' (first | exact trivial | exact rfl | assumption | exact hst _ _ | exact hst1 _ _ | exact hst2 _ _ | apply Stable.ite | apply And.intro | intro _ | (simp only [Stable, StableL, i64S, prS, insS, sndsS, sndS, stS, evS, macS, cB, sB, rB, rvS, HB.stable]; done)))
    · (repeat' (first | exact trivial | exact rfl | assumption | exact hst _ _ | exact hst1 _ _ | exact hst2 _ _ | apply Stable.ite | apply And.intro | intro _ | (simp only [Stable, StableL, i64S, prS, insS, sndsS, sndS, stS, evS, macS, cB, sB, rB, rvS, HB.stable]; done)))
  · repeat' (first | with_reducible (first | apply J1 | apply J3 | apply J4 | apply J5 | apply J6 | apply J7 | apply J8 | apply J9 | apply J10 | apply J11 | apply J12 | apply J13 | apply J14 | apply J15 | apply J16 | apply J17 | apply J18 | apply J19 | apply J20 | refine J2 ?_) | ((with_reducible apply J21); (· rfl)) | ((with_reducible intro hif); first | (focus (cases hif; done)) | (simp only [JH] at hif; try (exfalso; omega)) | (try (exfalso; omega))) | ((first | ((with_reducible apply J22 cWa_ok tab_ok); (· rfl)) | ((with_reducible apply J23 fol cWa_ok tab_ok); (· rfl)) | with_reducible apply J24); (· (simp only [push_cast, ↓JP, Nat.reduceAdd, Nat.reduceEqDiff, Nat.reduceLT, Nat.reduceMul, Nat.reduceLeDiff, reduceCtorEq, reduceIte, ↓JK, JE, JB, cWa, sAw19, sMd19, sNewG, rGoR, rGoRQ, rUsed, rUsedQ, rB, rvS, nodupN, memN, inR, inN, Nat.sub_zero, m2]; rfl)); (try kernel_rfl); (try (focus (first | exact True.intro | ((try simp only [JS, implies_true, forall_const, shaped, shapedL, kndOf, capB]); (repeat' (first | exact True.intro | assumption | omega | apply And.intro | rfl | decide | intro _)); done) | ((try simp only [JS, implies_true, forall_const, shaped, shapedL, kndOf, inR, inN]); (repeat' (first | assumption | exact True.intro | omega | apply And.intro)); done))))) | fail)
    refine At.next 2 ?_ ?_ ?_ rfl ?_ ?_ rfl
    · omega
    · ((repeat' (first | exact trivial | apply And.intro)) <;> (first | rfl | (simp only [look, cond_true, cond_false]; done)))
    · (repeat' (first | exact trivial | exact .same _ | exact .dead _ | exact .gone rfl | exact .loose | assumption | exact .arr (by assumption) | apply And.intro))
    · (repeat' (first | exact trivial | exact rfl | assumption | exact hst _ _ | exact hst1 _ _ | exact hst2 _ _ | apply Stable.ite | apply And.intro | intro _ | (simp only [Stable, StableL, i64S, prS, insS, sndsS, sndS, stS, evS, macS, cB, sB, rB, rvS, HB.stable]; done)))
    · (repeat' (first | exact trivial | exact rfl | assumption | exact hst _ _ | exact hst1 _ _ | exact hst2 _ _ | apply Stable.ite | apply And.intro | intro _ | (simp only [Stable, StableL, i64S, prS, insS, sndsS, sndS, stS, evS, macS, cB, sB, rB, rvS, HB.stable]; done)))
  · have hw6 : way.tmod 6 = 0 ∨ way.tmod 6 = 1 ∨ way.tmod 6 = 2 ∨ way.tmod 6 = 3 ∨ way.tmod 6 = 4 ∨ way.tmod 6 = 5 := by omega
    rcases hw6 with q | q | q | q | q | q

    · have hQ := rop_fuel (P := (made14 xs)) (v := ⟨v.seed, IntKind.wrap .u16 v.process, (IntKind.wrap .u8 v.ports).tmod 17, 1 + IntKind.wrap .u8 v.look, time⟩) (s := (begS value time source (cs.take 12) d)) (f := min n (-1)) (.inl (by omega))
      have hR := runO_rej hQ (by decide)
      repeat' (first | with_reducible (first | apply J1 | apply J3 | apply J4 | apply J5 | apply J6 | apply J7 | apply J8 | apply J9 | apply J10 | apply J11 | apply J12 | apply J13 | apply J14 | apply J15 | apply J16 | apply J17 | apply J18 | apply J19 | apply J20 | refine J2 ?_) | ((with_reducible apply J21); (· rfl)) | ((with_reducible intro hif); first | (focus (cases hif; done)) | (simp only [JH] at hif; try (exfalso; omega)) | (try (exfalso; omega))) | ((first | ((with_reducible apply J22 cWG_ok tab_ok); (· rfl)) | ((with_reducible apply J23 fol cWG_ok tab_ok); (· rfl)) | with_reducible apply J24); (· (simp only [push_cast, ↓JP, Nat.reduceAdd, Nat.reduceEqDiff, Nat.reduceLT, Nat.reduceMul, Nat.reduceLeDiff, reduceCtorEq, reduceIte, ↓JK, cB_eq, sB_eq, JE, JB, sNewG, sNewB, sCrB, sTrR, sSame19, sameE_self, ls_zero, nat_zero_int, inR, inN, Nat.sub_zero, cWG, q, hR, hQ]; rfl)); (try kernel_rfl); (try (focus (first | exact True.intro | ((try simp only [JS, implies_true, forall_const, shaped, shapedL, kndOf, capB]); (repeat' (first | exact True.intro | assumption | omega | apply And.intro | rfl | decide | intro _)); done) | ((try simp only [JS, implies_true, forall_const, shaped, shapedL, kndOf, inR, inN]); (repeat' (first | assumption | exact True.intro | omega | apply And.intro)); done))))) | fail)
      apply At.endsRet tab_ok (fn := Try.f6) (rs := [.tmp 6]) Anc.refl hro (Nat.le_of_ble_eq_true rfl) rfl
      · simp only [push_cast, ↓JP, Nat.reduceAdd, Nat.reduceEqDiff, Nat.reduceLT, Nat.reduceMul, Nat.reduceLeDiff, reduceCtorEq, reduceIte, ↓JK, resV, resV1, cB_eq, sB_eq, JE, JB, sNewG, sNewB, sCrB, sTrR, sSame19, sameE_self, ls_zero, nat_zero_int, inR, inN, Nat.sub_zero, cWG, q, hR, hQ]; rfl
      · (first | trivial | (simp only [and_self]; done))
      · (repeat' (first | exact trivial | exact .same _ | exact .dead _ | exact .gone rfl | exact .loose | assumption | exact .arr (by assumption) | apply And.intro))
      · rfl
      · (repeat' (first | exact trivial | exact rfl | assumption | exact hst _ _ | exact hst1 _ _ | exact hst2 _ _ | apply Stable.ite | apply And.intro | intro _ | (simp only [Stable, StableL, i64S, prS, insS, sndsS, sndS, stS, evS, macS, cB, sB, rB, rvS, HB.stable]; done)))
      · (repeat' (first | exact trivial | exact .inl rfl | exact .inr rfl | exact rfl | apply And.intro))
      · exact fun β => rfl
      · (repeat' (first | exact trivial | exact rfl | assumption | exact hst _ _ | exact hst1 _ _ | exact hst2 _ _ | apply Stable.ite | apply And.intro | intro _ | (simp only [Stable, StableL, i64S, prS, insS, sndsS, sndS, stS, evS, macS, cB, sB, rB, rvS, HB.stable]; done)))

    · have hQ := rop_fuel (P := (made14 xs)) (v := ⟨v.seed, IntKind.wrap .u16 v.process, (IntKind.wrap .u8 v.ports).tmod 17, 1 + IntKind.wrap .u8 v.look, time⟩) (s := (begS value time source (cs.take 12) d)) (f := max n 4097) (.inr (by omega))
      have hR := runO_rej hQ (by decide)
      repeat' (first | with_reducible (first | apply J1 | apply J3 | apply J4 | apply J5 | apply J6 | apply J7 | apply J8 | apply J9 | apply J10 | apply J11 | apply J12 | apply J13 | apply J14 | apply J15 | apply J16 | apply J17 | apply J18 | apply J19 | apply J20 | refine J2 ?_) | ((with_reducible apply J21); (· rfl)) | ((with_reducible intro hif); first | (focus (cases hif; done)) | (simp only [JH] at hif; try (exfalso; omega)) | (try (exfalso; omega))) | ((first | ((with_reducible apply J22 cWG_ok tab_ok); (· rfl)) | ((with_reducible apply J23 fol cWG_ok tab_ok); (· rfl)) | with_reducible apply J24); (· (simp only [push_cast, ↓JP, Nat.reduceAdd, Nat.reduceEqDiff, Nat.reduceLT, Nat.reduceMul, Nat.reduceLeDiff, reduceCtorEq, reduceIte, ↓JK, cB_eq, sB_eq, JE, JB, sNewG, sNewB, sCrB, sTrR, sSame19, sameE_self, ls_zero, nat_zero_int, inR, inN, Nat.sub_zero, cWG, q, hR, hQ]; rfl)); (try kernel_rfl); (try (focus (first | exact True.intro | ((try simp only [JS, implies_true, forall_const, shaped, shapedL, kndOf, capB]); (repeat' (first | exact True.intro | assumption | omega | apply And.intro | rfl | decide | intro _)); done) | ((try simp only [JS, implies_true, forall_const, shaped, shapedL, kndOf, inR, inN]); (repeat' (first | assumption | exact True.intro | omega | apply And.intro)); done))))) | fail)
      apply At.endsRet tab_ok (fn := Try.f6) (rs := [.tmp 6]) Anc.refl hro (Nat.le_of_ble_eq_true rfl) rfl
      · simp only [push_cast, ↓JP, Nat.reduceAdd, Nat.reduceEqDiff, Nat.reduceLT, Nat.reduceMul, Nat.reduceLeDiff, reduceCtorEq, reduceIte, ↓JK, resV, resV1, cB_eq, sB_eq, JE, JB, sNewG, sNewB, sCrB, sTrR, sSame19, sameE_self, ls_zero, nat_zero_int, inR, inN, Nat.sub_zero, cWG, q, hR, hQ]; rfl
      · (first | trivial | (simp only [and_self]; done))
      · (repeat' (first | exact trivial | exact .same _ | exact .dead _ | exact .gone rfl | exact .loose | assumption | exact .arr (by assumption) | apply And.intro))
      · rfl
      · (repeat' (first | exact trivial | exact rfl | assumption | exact hst _ _ | exact hst1 _ _ | exact hst2 _ _ | apply Stable.ite | apply And.intro | intro _ | (simp only [Stable, StableL, i64S, prS, insS, sndsS, sndS, stS, evS, macS, cB, sB, rB, rvS, HB.stable]; done)))
      · (repeat' (first | exact trivial | exact .inl rfl | exact .inr rfl | exact rfl | apply And.intro))
      · exact fun β => rfl
      · (repeat' (first | exact trivial | exact rfl | assumption | exact hst _ _ | exact hst1 _ _ | exact hst2 _ _ | apply Stable.ite | apply And.intro | intro _ | (simp only [Stable, StableL, i64S, prS, insS, sndsS, sndS, stS, evS, macS, cB, sB, rB, rvS, HB.stable]; done)))

    · have i2 : ∀ j, j < (made14 xs).length → isIns (SV.ite (decide (j = 0)) (SV.agg [SV.nat .u8 60, SV.nat .u8 0, SV.nat .u8 0, SV.nat .u8 0, SV.nat .i64 0]) (insS ((made14 xs).getD j ⟨0, 0, 0, 0, 0⟩))) = true := fun j _ => bad60_is (made14 xs) j
      have k2 : ∀ x ∈ (ls insOf (made14 xs).length fun j => SV.ite (decide (j = 0)) (SV.agg [SV.nat .u8 60, SV.nat .u8 0, SV.nat .u8 0, SV.nat .u8 0, SV.nat .i64 0]) (insS ((made14 xs).getD j ⟨0, 0, 0, 0, 0⟩))), x.ok := bad60_ok hok
      have hc : openE (ls insOf (made14 xs).length fun j => SV.ite (decide (j = 0)) (SV.agg [SV.nat .u8 60, SV.nat .u8 0, SV.nat .u8 0, SV.nat .u8 0, SV.nat .i64 0]) (insS ((made14 xs).getD j ⟨0, 0, 0, 0, 0⟩))) ⟨v.seed, IntKind.wrap .u16 v.process, (IntKind.wrap .u8 v.ports).tmod 17, 1 + IntKind.wrap .u8 v.look, time⟩ (begS value time source (cs.take 12) d) = 180 := bad60_open hok (by omega)
      have hQ := (rop_open (f := (fuel.tmod 512)) f0 (by omega)).trans hc
      have hR := runO_rej hQ (by decide)
      have hc0 : openE (ls insOf (made14 xs).length fun j => SV.ite (decide (j = 0)) (SV.agg [SV.nat .u8 60, SV.nat .u8 0, SV.nat .u8 0, SV.nat .u8 0, SV.nat .i64 0]) (insS ((made14 xs).getD j ⟨0, 0, 0, 0, 0⟩))) ⟨v.seed, IntKind.wrap .u16 v.process, (IntKind.wrap .u8 v.ports).tmod 17, 1 + IntKind.wrap .u8 v.look, time⟩ (begS value time source (cs.take 12) d) ≠ 0 := by rw [hc]; decide
      repeat' (first | with_reducible (first | apply J1 | apply J3 | apply J4 | apply J5 | apply J6 | apply J7 | apply J8 | apply J9 | apply J10 | apply J11 | apply J12 | apply J13 | apply J14 | apply J15 | apply J16 | apply J17 | apply J18 | apply J19 | apply J20 | refine J2 ?_) | ((with_reducible apply J21); (· rfl)) | ((with_reducible intro hif); first | (focus (cases hif; done)) | (simp only [JH] at hif; try (exfalso; omega)) | (try (exfalso; omega))) | ((first | ((with_reducible apply J22 cWB_ok tab_ok); (· rfl)) | ((with_reducible apply J23 fol cWB_ok tab_ok); (· rfl)) | with_reducible apply J24); (· (simp only [push_cast, ↓JP, Nat.reduceAdd, Nat.reduceEqDiff, Nat.reduceLT, Nat.reduceMul, Nat.reduceLeDiff, reduceCtorEq, reduceIte, ↓JK, cB_eq, sB_eq, JE, JB, sNewG, sNewB, sCrB, sTrR, sSame19, sameE_self, ls_zero, nat_zero_int, inR, inN, Nat.sub_zero, cWB, q, hR, hQ, hc]; rfl)); (try kernel_rfl); (try (focus (first | exact True.intro | ((try simp only [JS, implies_true, forall_const, shaped, shapedL, kndOf, capB]); (repeat' (first | exact True.intro | assumption | omega | apply And.intro | rfl | decide | intro _)); done) | ((try simp only [JS, implies_true, forall_const, shaped, shapedL, kndOf, inR, inN]); (repeat' (first | assumption | exact True.intro | omega | apply And.intro)); done))))) | fail)
      apply At.endsRet tab_ok (fn := Try.f6) (rs := [.tmp 6]) Anc.refl hro (Nat.le_of_ble_eq_true rfl) rfl
      · simp only [push_cast, ↓JP, Nat.reduceAdd, Nat.reduceEqDiff, Nat.reduceLT, Nat.reduceMul, Nat.reduceLeDiff, reduceCtorEq, reduceIte, ↓JK, resV, resV1, cB_eq, sB_eq, JE, JB, sNewG, sNewB, sCrB, sTrR, sSame19, sameE_self, ls_zero, nat_zero_int, inR, inN, Nat.sub_zero, cWB, q, hR, hQ, hc]; rfl
      · (first | trivial | (simp only [and_self]; done))
      · (repeat' (first | exact trivial | exact .same _ | exact .dead _ | exact .gone rfl | exact .loose | assumption | exact .arr (by assumption) | apply And.intro))
      · rfl
      · (repeat' (first | exact trivial | exact rfl | assumption | exact hst _ _ | exact hst1 _ _ | exact hst2 _ _ | apply Stable.ite | apply And.intro | intro _ | (simp only [Stable, StableL, i64S, prS, insS, sndsS, sndS, stS, evS, macS, cB, sB, rB, rvS, HB.stable]; done)))
      · (repeat' (first | exact trivial | exact .inl rfl | exact .inr rfl | exact rfl | apply And.intro))
      · exact fun β => rfl
      · (repeat' (first | exact trivial | exact rfl | assumption | exact hst _ _ | exact hst1 _ _ | exact hst2 _ _ | apply Stable.ite | apply And.intro | intro _ | (simp only [Stable, StableL, i64S, prS, insS, sndsS, sndS, stS, evS, macS, cB, sB, rB, rvS, HB.stable]; done)))

    · have hc : openE (made14 xs) ⟨v.seed, IntKind.wrap .u16 v.process, (IntKind.wrap .u8 v.ports).tmod 17, min n 0, time⟩ (begS value time source (cs.take 12) d) = 181 := by
        unfold openE
        have h3 : Evi.rightB ⟨v.seed, IntKind.wrap .u16 v.process, (IntKind.wrap .u8 v.ports).tmod 17, min n 0, time⟩ = false := decide_eq_false (by show ¬ (_ ∧ _ ∧ _ ∧ 1 ≤ min n 0 ∧ _); omega)
        rw [if_neg (fun h => h (made14_right xs)), if_pos h3]
      have hQ := (rop_open (f := (fuel.tmod 512)) f0 (by omega)).trans hc
      have hR := runO_rej hQ (by decide)
      have hc0 : openE (made14 xs) ⟨v.seed, IntKind.wrap .u16 v.process, (IntKind.wrap .u8 v.ports).tmod 17, min n 0, time⟩ (begS value time source (cs.take 12) d) ≠ 0 := by rw [hc]; decide
      repeat' (first | with_reducible (first | apply J1 | apply J3 | apply J4 | apply J5 | apply J6 | apply J7 | apply J8 | apply J9 | apply J10 | apply J11 | apply J12 | apply J13 | apply J14 | apply J15 | apply J16 | apply J17 | apply J18 | apply J19 | apply J20 | refine J2 ?_) | ((with_reducible apply J21); (· rfl)) | ((with_reducible intro hif); first | (focus (cases hif; done)) | (simp only [JH] at hif; try (exfalso; omega)) | (try (exfalso; omega))) | ((first | ((with_reducible apply J22 cWB_ok tab_ok); (· rfl)) | ((with_reducible apply J23 fol cWB_ok tab_ok); (· rfl)) | with_reducible apply J24); (· (simp only [push_cast, ↓JP, Nat.reduceAdd, Nat.reduceEqDiff, Nat.reduceLT, Nat.reduceMul, Nat.reduceLeDiff, reduceCtorEq, reduceIte, ↓JK, cB_eq, sB_eq, JE, JB, sNewG, sNewB, sCrB, sTrR, sSame19, sameE_self, ls_zero, nat_zero_int, inR, inN, Nat.sub_zero, cWB, q, hR, hQ, hc]; rfl)); (try kernel_rfl); (try (focus (first | exact True.intro | ((try simp only [JS, implies_true, forall_const, shaped, shapedL, kndOf, capB]); (repeat' (first | exact True.intro | assumption | omega | apply And.intro | rfl | decide | intro _)); done) | ((try simp only [JS, implies_true, forall_const, shaped, shapedL, kndOf, inR, inN]); (repeat' (first | assumption | exact True.intro | omega | apply And.intro)); done))))) | fail)
      apply At.endsRet tab_ok (fn := Try.f6) (rs := [.tmp 6]) Anc.refl hro (Nat.le_of_ble_eq_true rfl) rfl
      · simp only [push_cast, ↓JP, Nat.reduceAdd, Nat.reduceEqDiff, Nat.reduceLT, Nat.reduceMul, Nat.reduceLeDiff, reduceCtorEq, reduceIte, ↓JK, resV, resV1, cB_eq, sB_eq, JE, JB, sNewG, sNewB, sCrB, sTrR, sSame19, sameE_self, ls_zero, nat_zero_int, inR, inN, Nat.sub_zero, cWB, q, hR, hQ, hc]; rfl
      · (first | trivial | (simp only [and_self]; done))
      · (repeat' (first | exact trivial | exact .same _ | exact .dead _ | exact .gone rfl | exact .loose | assumption | exact .arr (by assumption) | apply And.intro))
      · rfl
      · (repeat' (first | exact trivial | exact rfl | assumption | exact hst _ _ | exact hst1 _ _ | exact hst2 _ _ | apply Stable.ite | apply And.intro | intro _ | (simp only [Stable, StableL, i64S, prS, insS, sndsS, sndS, stS, evS, macS, cB, sB, rB, rvS, HB.stable]; done)))
      · (repeat' (first | exact trivial | exact .inl rfl | exact .inr rfl | exact rfl | apply And.intro))
      · exact fun β => rfl
      · (repeat' (first | exact trivial | exact rfl | assumption | exact hst _ _ | exact hst1 _ _ | exact hst2 _ _ | apply Stable.ite | apply And.intro | intro _ | (simp only [Stable, StableL, i64S, prS, insS, sndsS, sndS, stS, evS, macS, cB, sB, rB, rvS, HB.stable]; done)))

    · have h3 : Evi.rightB ⟨v.seed, IntKind.wrap .u16 v.process, (IntKind.wrap .u8 v.ports).tmod 17, 1 + IntKind.wrap .u8 v.look, time⟩ = true := decide_eq_true ⟨w1.1, by show IntKind.wrap .u16 v.process ≤ 65536; omega, pt0, by show 1 ≤ 1 + IntKind.wrap .u8 v.look; omega, ht.1, by show time ≤ 281474976710656; omega⟩
      have hc : openE (made14 xs) ⟨v.seed, IntKind.wrap .u16 v.process, (IntKind.wrap .u8 v.ports).tmod 17, 1 + IntKind.wrap .u8 v.look, time⟩ (begS value time source (cs.take 12) (max n 1099511627777)) = 182 := by
        unfold openE
        have h4 : Sta.rightB (begS value time source (cs.take 12) (max n 1099511627777)) (made14 xs).length = false := decide_eq_false (by show ¬ (_ ∧ _ ∧ _ ∧ _ ∧ max n 1099511627777 ≤ 1099511627776); omega)
        rw [if_neg (fun h => h (made14_right xs)), if_neg (by rw [h3]; exact Bool.noConfusion), if_pos h4]
      have hQ := (rop_open (f := (fuel.tmod 512)) f0 (by omega)).trans hc
      have hR := runO_rej hQ (by decide)
      have hc0 : openE (made14 xs) ⟨v.seed, IntKind.wrap .u16 v.process, (IntKind.wrap .u8 v.ports).tmod 17, 1 + IntKind.wrap .u8 v.look, time⟩ (begS value time source (cs.take 12) (max n 1099511627777)) ≠ 0 := by rw [hc]; decide
      repeat' (first | with_reducible (first | apply J1 | apply J3 | apply J4 | apply J5 | apply J6 | apply J7 | apply J8 | apply J9 | apply J10 | apply J11 | apply J12 | apply J13 | apply J14 | apply J15 | apply J16 | apply J17 | apply J18 | apply J19 | apply J20 | refine J2 ?_) | ((with_reducible apply J21); (· rfl)) | ((with_reducible intro hif); first | (focus (cases hif; done)) | (simp only [JH] at hif; try (exfalso; omega)) | (try (exfalso; omega))) | ((first | ((with_reducible apply J22 cWB_ok tab_ok); (· rfl)) | ((with_reducible apply J23 fol cWB_ok tab_ok); (· rfl)) | with_reducible apply J24); (· (simp only [push_cast, ↓JP, Nat.reduceAdd, Nat.reduceEqDiff, Nat.reduceLT, Nat.reduceMul, Nat.reduceLeDiff, reduceCtorEq, reduceIte, ↓JK, cB_eq, sB_eq, JE, JB, sNewG, sNewB, sCrB, sTrR, sSame19, sameE_self, ls_zero, nat_zero_int, inR, inN, Nat.sub_zero, cWB, q, hR, hQ, hc]; rfl)); (try kernel_rfl); (try (focus (first | exact True.intro | ((try simp only [JS, implies_true, forall_const, shaped, shapedL, kndOf, capB]); (repeat' (first | exact True.intro | assumption | omega | apply And.intro | rfl | decide | intro _)); done) | ((try simp only [JS, implies_true, forall_const, shaped, shapedL, kndOf, inR, inN]); (repeat' (first | assumption | exact True.intro | omega | apply And.intro)); done))))) | fail)
      apply At.endsRet tab_ok (fn := Try.f6) (rs := [.tmp 6]) Anc.refl hro (Nat.le_of_ble_eq_true rfl) rfl
      · simp only [push_cast, ↓JP, Nat.reduceAdd, Nat.reduceEqDiff, Nat.reduceLT, Nat.reduceMul, Nat.reduceLeDiff, reduceCtorEq, reduceIte, ↓JK, resV, resV1, cB_eq, sB_eq, JE, JB, sNewG, sNewB, sCrB, sTrR, sSame19, sameE_self, ls_zero, nat_zero_int, inR, inN, Nat.sub_zero, cWB, q, hR, hQ, hc]; rfl
      · (first | trivial | (simp only [and_self]; done))
      · (repeat' (first | exact trivial | exact .same _ | exact .dead _ | exact .gone rfl | exact .loose | assumption | exact .arr (by assumption) | apply And.intro))
      · rfl
      · (repeat' (first | exact trivial | exact rfl | assumption | exact hst _ _ | exact hst1 _ _ | exact hst2 _ _ | apply Stable.ite | apply And.intro | intro _ | (simp only [Stable, StableL, i64S, prS, insS, sndsS, sndS, stS, evS, macS, cB, sB, rB, rvS, HB.stable]; done)))
      · (repeat' (first | exact trivial | exact .inl rfl | exact .inr rfl | exact rfl | apply And.intro))
      · exact fun β => rfl
      · (repeat' (first | exact trivial | exact rfl | assumption | exact hst _ _ | exact hst1 _ _ | exact hst2 _ _ | apply Stable.ite | apply And.intro | intro _ | (simp only [Stable, StableL, i64S, prS, insS, sndsS, sndS, stS, evS, macS, cB, sB, rB, rvS, HB.stable]; done)))

    · have h3 : Evi.rightB ⟨v.seed, IntKind.wrap .u16 v.process, (IntKind.wrap .u8 v.ports).tmod 17, 1 + IntKind.wrap .u8 v.look, time⟩ = true := decide_eq_true ⟨w1.1, by show IntKind.wrap .u16 v.process ≤ 65536; omega, pt0, by show 1 ≤ 1 + IntKind.wrap .u8 v.look; omega, ht.1, by show time ≤ 281474976710656; omega⟩
      have hl5 : (ls iOf 1025 (fun _ => SV.nat .i64 0)).length = 1025 := by rw [ls_length]
      have hc : openE (made14 xs) ⟨v.seed, IntKind.wrap .u16 v.process, (IntKind.wrap .u8 v.ports).tmod 17, 1 + IntKind.wrap .u8 v.look, time⟩ (begS value time source (ls iOf 1025 (fun _ => SV.nat .i64 0)) d) = 182 := by
        unfold openE
        have h4 : Sta.rightB (begS value time source (ls iOf 1025 (fun _ => SV.nat .i64 0)) d) (made14 xs).length = false := decide_eq_false (by
          intro hh
          have h6 : ((ls iOf 1025 (fun _ => SV.nat .i64 0)).length : Int) ≤ 1024 := hh.2.2.1
          rw [hl5] at h6
          omega)
        rw [if_neg (fun h => h (made14_right xs)), if_neg (by rw [h3]; exact Bool.noConfusion), if_pos h4]
      have hQ := (rop_open (f := (fuel.tmod 512)) f0 (by omega)).trans hc
      have hR := runO_rej hQ (by decide)
      have hc0 : openE (made14 xs) ⟨v.seed, IntKind.wrap .u16 v.process, (IntKind.wrap .u8 v.ports).tmod 17, 1 + IntKind.wrap .u8 v.look, time⟩ (begS value time source (ls iOf 1025 (fun _ => SV.nat .i64 0)) d) ≠ 0 := by rw [hc]; decide
      repeat' (first | with_reducible (first | apply J1 | apply J3 | apply J4 | apply J5 | apply J6 | apply J7 | apply J8 | apply J9 | apply J10 | apply J11 | apply J12 | apply J13 | apply J14 | apply J15 | apply J16 | apply J17 | apply J18 | apply J19 | apply J20 | refine J2 ?_) | ((with_reducible apply J21); (· rfl)) | ((with_reducible intro hif); first | (focus (cases hif; done)) | (simp only [JH] at hif; try (exfalso; omega)) | (try (exfalso; omega))) | ((first | ((with_reducible apply J22 cWB_ok tab_ok); (· rfl)) | ((with_reducible apply J23 fol cWB_ok tab_ok); (· rfl)) | with_reducible apply J24); (· (simp only [push_cast, ↓JP, Nat.reduceAdd, Nat.reduceEqDiff, Nat.reduceLT, Nat.reduceMul, Nat.reduceLeDiff, reduceCtorEq, reduceIte, ↓JK, cB_eq, sB_eq, JE, JB, sNewG, sNewB, sCrB, sTrR, sSame19, sameE_self, ls_zero, nat_zero_int, inR, inN, Nat.sub_zero, cWB, q, hR, hQ, hc]; rfl)); (try kernel_rfl); (try (focus (first | exact True.intro | ((try simp only [JS, implies_true, forall_const, shaped, shapedL, kndOf, capB]); (repeat' (first | exact True.intro | assumption | omega | apply And.intro | rfl | decide | intro _)); done) | ((try simp only [JS, implies_true, forall_const, shaped, shapedL, kndOf, inR, inN]); (repeat' (first | assumption | exact True.intro | omega | apply And.intro)); done))))) | fail)
      apply At.endsRet tab_ok (fn := Try.f6) (rs := [.tmp 6]) Anc.refl hro (Nat.le_of_ble_eq_true rfl) rfl
      · simp only [push_cast, ↓JP, Nat.reduceAdd, Nat.reduceEqDiff, Nat.reduceLT, Nat.reduceMul, Nat.reduceLeDiff, reduceCtorEq, reduceIte, ↓JK, resV, resV1, cB_eq, sB_eq, JE, JB, sNewG, sNewB, sCrB, sTrR, sSame19, sameE_self, ls_zero, nat_zero_int, inR, inN, Nat.sub_zero, cWB, q, hR, hQ, hc]; rfl
      · (first | trivial | (simp only [and_self]; done))
      · (repeat' (first | exact trivial | exact .same _ | exact .dead _ | exact .gone rfl | exact .loose | assumption | exact .arr (by assumption) | apply And.intro))
      · rfl
      · (repeat' (first | exact trivial | exact rfl | assumption | exact hst _ _ | exact hst1 _ _ | exact hst2 _ _ | apply Stable.ite | apply And.intro | intro _ | (simp only [Stable, StableL, i64S, prS, insS, sndsS, sndS, stS, evS, macS, cB, sB, rB, rvS, HB.stable]; done)))
      · (repeat' (first | exact trivial | exact .inl rfl | exact .inr rfl | exact rfl | apply And.intro))
      · exact fun β => rfl
      · (repeat' (first | exact trivial | exact rfl | assumption | exact hst _ _ | exact hst1 _ _ | exact hst2 _ _ | apply Stable.ite | apply And.intro | intro _ | (simp only [Stable, StableL, i64S, prS, insS, sndsS, sndS, stS, evS, macS, cB, sB, rB, rvS, HB.stable]; done)))
end Go.Proofs.Ytjliakjbdcplcaa.Vm
end
end
