import Derived.Test.YtmljmabbopkpiaaG12
section
/- InstrOne, walked. -/
namespace Go.Proofs.Ytmljmabbopkpiaa.Vm
open Go.RowKit
attribute [local push_cast] runR opG gtmp gval gus opX tmpsOf tm tmO tmP restr look look2 tab tys zs ets eqB eqBL allB numOf ieq Int.cast_ofNat_Int Int.ofNat_zero beq_true beq_false frameOf ev evL ofV opV loadV noW pushF wrsL setH allBorn allGone HB.born HB.isGone HB.val SV.plain dstOk hp nav fitsT SV.size sizeL SV.isAgg TK.size TK.agg bin binE binN binI arN arI cmpN cmpI keq kn narrow callV storeV setp fillV buildV buildSliceV makeV sliceV appendV copyV List.isEmpty_nil srcV evO asN ite_t ite_f ite_bool ite_int ite_nat maxV v_beq v_ble v_blt cond_true cond_false List.getElem?_cons_zero List.getElem?_cons_succ List.getD_cons_zero List.getD_cons_succ List.getD_nil List.length_cons List.length_nil List.take_succ_cons List.take_zero List.set_cons_zero List.set_cons_succ List.cons_append List.nil_append List.append_assoc List.replicate_succ List.replicate_zero Nat.zero_add Nat.add_zero decide_true decide_false Bool.true_and Bool.and_true Bool.false_and Bool.and_false Bool.true_or Bool.or_true Bool.false_or Bool.or_false beq_self_eq_true Bool.or_self Nat.lt_irrefl Nat.not_lt_zero Nat.le_refl Option.getD_some Option.getD_none BEq.rfl Bool.not_true Bool.not_false Bool.cond_true_left Bool.cond_false_right prS sndsS i64S insS_size insS_agg insS_plain nav_ins nav_ins0 nav_ins1 nav_ins2 nav_ins3 nav_ins4 sndS_size sndS_agg sndS_plain nav_snd nav_snd0 nav_snd1 nav_snd2 isIns_insS insOf_insS isSnd_sndS sndOf_sndS isI_int isI_nat iOf
set_option linter.unusedVariables false
set_option linter.unusedSimpArgs false
set_option maxRecDepth 100000
set_option maxHeartbeats 40000000
def cOne : FuncId → Option Spec := look2 [(23, sAwake), (19, sMade14), (24, sMade18), (26, sEnv), (31, sDo), (30, sSame1), (49, sRepI), (50, sDiffer), (51, sNext), (52, sEqSnd), (38, sCont)]
theorem cOne_ok : ∀ f S, cOne f = some S → CallOk Try.prog f S := allOk_spec ⟨awake_ok, made14_ok', made18_ok, env_ok, do_ok, same1_ok, sRepI_ok, sDiffer_ok, sNext_ok, sEqSnd_ok, sCont_ok, trivial⟩

theorem made18V_of (y : Sm) (l : Nat) : made18V (.int .u8 y.at_) (.int .u32 y.draws) (.int .u8 y.sends) (fun q => .int .i64 (y.regs q)) y.cells.length (i64S y.cells) l = made18 y l := by
  unfold made18V
  rw [ls_i64S]
  rfl
theorem made18V_of' (y : Sm) (l : Nat) : made18V (.int .u8 y.at_) (.int .u32 y.draws) (.int .u8 y.sends) (fun q => .int .i64 (y.regs q)) y.cells.length (fun q => i64S y.cells q) l = made18 y l := made18V_of y l
theorem made18V_of2 (y : Sm) (l : Nat) : made18V (.int .u8 y.at_) (.int .u32 y.draws) (.int .u8 y.sends) (fun q => .int .i64 (y.regs q)) y.cells.length (fun q => .int .i64 (y.cells.getD q 0)) l = made18 y l := made18V_of y l
theorem ls_prS2 (l : List Ins) : ls insOf l.length (fun q => insS (l.getD q ⟨0, 0, 0, 0, 0⟩)) = l := ls_prS l
theorem ls_i64S2 (l : List Int) : ls iOf l.length (fun q => .int .i64 (l.getD q 0)) = l := ls_i64S l
theorem ls_sndsS2 (l : List Snd) : ls sndOf l.length (fun q => sndS (l.getD q ⟨0, 0, 0⟩)) = l := ls_sndsS l
theorem sta_eta (s : Sta) : Go.Proofs.Ytmljmabbopkpiaa.St.mk s.at_ s.ended (fun q => s.regs q) s.cells s.draws s.sends = s := rfl
theorem ls_one {α : Type} (g : SV → α) (f : Nat → SV) : ls g 1 f = [g (f 0)] := rfl
theorem isIns_lit (a b c d n : Nat) : isIns (.agg [.nat .u8 a, .nat .u8 b, .nat .u8 c, .nat .u8 d, .nat .i64 n]) = true := rfl
theorem insOf_lit (a b c d n : Nat) : insOf (.agg [.nat .u8 a, .nat .u8 b, .nat .u8 c, .nat .u8 d, .nat .i64 n]) = ⟨a, b, c, d, n⟩ := rfl
theorem isIns_bl (a b c d n : Nat) (z : SV) : (∀ q, q < 1 → isIns ([SV.agg [.nat .u8 a, .nat .u8 b, .nat .u8 c, .nat .u8 d, .nat .i64 n]].getD q z) = true) = True := by
  refine eq_true fun q h => ?_
  obtain rfl : q = 0 := by omega
  rfl
theorem set_cl3 {β : Env} (p : List Ins) (k q : Nat) (x : Ins) (hk : k < p.length) : (SV.ite (decide (q = k)) (insS x) (insS (p.getD q ⟨0, 0, 0, 0, 0⟩))).cl β = (prS (p.set k x) q).cl β := by
  rw [ite_eq]
  unfold prS
  by_cases h : q = k
  · subst h
    simp [hk]
  · have h' : ¬ k = q := fun e => h e.symm
    simp [h, List.getElem?_set_ne h']
theorem ls_regs (r : Nat → Int) : ls iOf 8 (fun q => .int .i64 (r q)) = regsL r := rfl
theorem ls_take (l : List Snd) {k : Nat} (h : k ≤ l.length) : ls sndOf k (fun q => sndS (l.getD q ⟨0, 0, 0⟩)) = l.take k := by
  unfold ls
  refine List.ext_getElem (by simp; omega) fun i h1 h2 => ?_
  simp at h1
  simp [sndOf_sndS, show i < l.length by omega]
theorem eqL_self {α : Type} [DecidableEq α] (l : List α) : eqL l l = true := eqL_true rfl
theorem ls_zero {α : Type} (g : SV → α) (f : Nat → SV) : ls g 0 f = [] := rfl
theorem one_lit (xs : List Ins) (hx : ∀ x ∈ xs, x.ok) (cap : Nat) (hcap : max xs.length cap ≤ 9223372036854775807) (y : Sm) (hy : y.ok) (cap2 : Nat) (hcap2 : max y.cells.length cap2 ≤ 9223372036854775807) (v : Envi) :
    LitOk Try.prog 17 [.sl 1 2 [] 5 0 xs.length (some cap), .agg [.int .u8 y.at_, .arr 8 1 (fun q => .int .i64 (y.regs q)), .sl 3 4 [] 1 0 y.cells.length (some cap2), .int .u32 y.draws, .int .u8 y.sends], .agg [.int .u64 v.seed, .int .i64 v.process, .int .i64 v.ports, .int .i64 v.look, .int .i64 v.now]]
      [.gone, .gone, .ro (.arr xs.length 5 (prS xs)), .gone, .ro (.arr y.cells.length 1 (i64S y.cells))] (.bool true) [.gone] := by
  refine litOkM (fn := Try.f17) 5 303 0 rfl rfl rfl rfl rfl (by simp only [StableL, Stable, hp]; simp [HB.born]) rfl fun w0 M E hro => ?_
  have hl := made14_le xs
  have hP := made14_right xs
  have hc2 : ∀ x : Ins, x ∈ made14 xs → x.ok := made14_ok xs hx
  have hlast := made14_last xs
  obtain ⟨P, hPe⟩ : ∃ P, P = made14 xs := ⟨_, rfl⟩
  rw [← hPe] at hl hP hc2 hlast
  obtain ⟨S, hSe⟩ : ∃ S, S = made18 y P.length := ⟨_, rfl⟩
  have hat : 0 ≤ S.at_ ∧ S.at_ < P.length := by
    subst hSe
    show 0 ≤ y.at_ % ((max P.length 1 : Nat) : Int) ∧ y.at_ % ((max P.length 1 : Nat) : Int) < P.length
    have e : max P.length 1 = P.length := by omega
    rw [e]
    exact ⟨Int.emod_nonneg _ (by omega), Int.emod_lt_of_pos _ (by omega)⟩
  have hcl : S.cells.length ≤ 12 := by subst hSe; show (y.cells.take 12).length ≤ 12; rw [List.length_take]; omega
  have hdr : 0 ≤ S.draws ∧ S.draws ≤ 4294967295 := by subst hSe; exact ⟨hy.d0, hy.d1⟩
  have hend : S.ended = false := by subst hSe; rfl
  have hsl : S.sends.length ≤ 20 := by
    subst hSe
    show (mSends (y.sends % 21).toNat).length ≤ 20
    have := mSends_len (y.sends % 21).toNat
    omega
  have wp : 0 ≤ IntKind.u16.wrap v.process ∧ IntKind.u16.wrap v.process ≤ 65535 := by simp [IntKind.wrap, IntKind.bits, IntKind.signed]; omega
  have wq : 0 ≤ IntKind.u8.wrap v.ports % 17 ∧ IntKind.u8.wrap v.ports % 17 ≤ 255 := by simp [IntKind.wrap, IntKind.bits, IntKind.signed]; omega
  have wq' : 0 ≤ IntKind.u8.wrap v.ports ∧ IntKind.u8.wrap v.ports ≤ 255 := by simp [IntKind.wrap, IntKind.bits, IntKind.signed]; omega
  have wl : 0 ≤ IntKind.u8.wrap v.look ∧ IntKind.u8.wrap v.look ≤ 255 := by simp [IntKind.wrap, IntKind.bits, IntKind.signed]; omega
  have wn : 0 ≤ IntKind.u32.wrap v.now ∧ IntKind.u32.wrap v.now ≤ 4294967295 := by simp [IntKind.wrap, IntKind.bits, IntKind.signed]; omega
  obtain ⟨V, hVe⟩ : ∃ V : Envi, V = ⟨v.seed, IntKind.u16.wrap v.process, IntKind.u8.wrap v.ports % 17, 1 + IntKind.u8.wrap v.look, IntKind.u32.wrap v.now⟩ := ⟨_, rfl⟩
  have hV : V.rightB = true := by subst hVe; unfold Envi.rightB; simp only [decide_eq_true_eq]; omega
  have hR : rightB S.at_ S.draws P.length S.cells.length = true := by unfold rightB; simp only [decide_eq_true_eq]; omega
  obtain ⟨T, hT⟩ : ∃ T, topS P V S = T := ⟨_, rfl⟩
  obtain ⟨e, hE⟩ : ∃ e, topE P V S = e := ⟨_, rfl⟩
  have hTb : T.cells.length ≤ 1000 ∧ T.sends.length ≤ 1000 := by
    subst hT
    by_cases h0 : e = 0
    · have h := one_top_f hP hc2 hend (by omega) (by rw [hE]; exact h0) _ rfl
      have h1 := h.cellLen
      have h2 := h.sendLen
      exact ⟨by omega, by omega⟩
    · rw [top_zero (by rw [hE]; exact h0)]
      exact ⟨by simp [zeroSt], by simp [zeroSt]⟩
  iterate 32 (try (first
    | with_reducible (first | apply WF.seq | refine At.code ?_ | apply At.thenNormal | apply At.thenRet | apply At.thenExit | apply At.thenGoto | apply At.inNormal | apply At.inRet | apply At.inGoto | apply At.inHit | apply At.noGotoNormal | apply At.noGotoRet | apply At.noGotoExit | apply WF.skip | apply WF.ret | apply WF.exit | apply WF.goto | apply WF.label | apply WF.block | apply WF.scope)
    | ((with_reducible apply At.inMiss); · rfl)
    | ((with_reducible intro hif); first | (focus (cases hif; done)) | (simp only [Bool.not_eq_true', Bool.not_eq_false', decide_eq_true_eq, decide_eq_false_iff_not, Bool.and_eq_true, Bool.or_eq_true] at hif; try (exfalso; omega)) | (try (exfalso; omega)))
    | ((first | ((with_reducible apply WF.region cOne_ok tab_ok); · rfl) | ((with_reducible apply WF.drawn fol cOne_ok tab_ok); · rfl) | with_reducible apply WF.cond)
       · simp only [push_cast, ↓Int.cast_ofNat_Int, ↓ofV_m1, ↓ofV_min, Nat.reduceAdd, Nat.reduceEqDiff, Nat.reduceLT, Nat.reduceMul, Nat.reduceLeDiff, reduceCtorEq, reduceIte, cOne, sAwake, sMade14, sMade18, sEnv, sDo, sSame1, sRepI, sDiffer, sNext, sEqSnd, sCont, arrV, arrV0, isSmall, isI_int, isI_nat, stS, made18V_of2, ls_prS2, ls_i64S2, ls_sndsS2, iOf, iOf, ← hPe, ← hSe, ← hVe, doTS, doTE, sta_eta, hT, hE, stB, ls_one, isIns_lit, insOf_lit, isIns_bl, List.all_cons, List.all_nil, eq_self]; rfl
       try kernel_rfl
       try (focus ((first | exact True.intro | (simp only [and_self, implies_true, true_and, and_true, forall_const, false_implies, true_implies, Bool.not_eq_true', imp_self, shaped, shapedL, kndOf, cOne, sAwake, sMade14, sMade18, sEnv, sDo, sSame1, sRepI, sDiffer, sNext, sEqSnd, sCont, arrV, arrV0, isSmall, isI_int, isI_nat, stS, made18V_of2, ls_prS2, ls_i64S2, ls_sndsS2, iOf, iOf, ← hPe, ← hSe, ← hVe, doTS, doTE, sta_eta, hT, hE, stB, ls_one, isIns_lit, insOf_lit, isIns_bl, List.all_cons, List.all_nil, eq_self]; done) | (simp only [and_self, implies_true, true_and, and_true, forall_const, false_implies, true_implies, Bool.not_eq_true', imp_self, shaped, shapedL, kndOf, cOne, sAwake, sMade14, sMade18, sEnv, sDo, sSame1, sRepI, sDiffer, sNext, sEqSnd, sCont, arrV, arrV0, isSmall, isI_int, isI_nat, stS, made18V_of2, ls_prS2, ls_i64S2, ls_sndsS2, iOf, iOf, ← hPe, ← hSe, ← hVe, doTS, doTE, sta_eta, hT, hE, stB, ls_one, isIns_lit, insOf_lit, isIns_bl, List.all_cons, List.all_nil, eq_self]; (repeat' (first | assumption | exact True.intro | omega | apply And.intro))) | ((repeat' (first | assumption | exact True.intro | omega | apply And.intro)))); done)))
    | fail))
  iterate 1 (try (first
    | with_reducible (first | apply WF.seq | refine At.code ?_ | apply At.thenNormal | apply At.thenRet | apply At.thenExit | apply At.thenGoto | apply At.inNormal | apply At.inRet | apply At.inGoto | apply At.inHit | apply At.noGotoNormal | apply At.noGotoRet | apply At.noGotoExit | apply WF.skip | apply WF.ret | apply WF.exit | apply WF.goto | apply WF.label | apply WF.block | apply WF.scope)
    | ((with_reducible apply At.inMiss); · rfl)
    | ((with_reducible intro hif); first | (focus (cases hif; done)) | (simp only [Bool.not_eq_true', Bool.not_eq_false', decide_eq_true_eq, decide_eq_false_iff_not, Bool.and_eq_true, Bool.or_eq_true] at hif; try (exfalso; omega)) | (try (exfalso; omega)))
    | ((first | ((with_reducible apply WF.region cOne_ok tab_ok); · rfl) | ((with_reducible apply WF.drawn fol cOne_ok tab_ok); · rfl) | with_reducible apply WF.cond)
       · simp only [push_cast, ↓Int.cast_ofNat_Int, ↓ofV_m1, ↓ofV_min, Nat.reduceAdd, Nat.reduceEqDiff, Nat.reduceLT, Nat.reduceMul, Nat.reduceLeDiff, reduceCtorEq, reduceIte, cOne, sAwake, sMade14, sMade18, sEnv, sDo, sSame1, sRepI, sDiffer, sNext, sEqSnd, sCont, arrV, arrV0, isSmall, isI_int, isI_nat, stS, made18V_of2, ls_prS2, ls_i64S2, ls_sndsS2, iOf, iOf, ← hPe, ← hSe, ← hVe, doTS, doTE, sta_eta, hT, hE, stB, ls_one, isIns_lit, insOf_lit, isIns_bl, List.all_cons, List.all_nil, eq_self, insS]; rfl
       try kernel_rfl
       try (focus ((first | exact True.intro | (simp only [and_self, implies_true, true_and, and_true, forall_const, false_implies, true_implies, Bool.not_eq_true', imp_self, shaped, shapedL, kndOf, cOne, sAwake, sMade14, sMade18, sEnv, sDo, sSame1, sRepI, sDiffer, sNext, sEqSnd, sCont, arrV, arrV0, isSmall, isI_int, isI_nat, stS, made18V_of2, ls_prS2, ls_i64S2, ls_sndsS2, iOf, iOf, ← hPe, ← hSe, ← hVe, doTS, doTE, sta_eta, hT, hE, stB, ls_one, isIns_lit, insOf_lit, isIns_bl, List.all_cons, List.all_nil, eq_self, insS]; done) | (simp only [and_self, implies_true, true_and, and_true, forall_const, false_implies, true_implies, Bool.not_eq_true', imp_self, shaped, shapedL, kndOf, cOne, sAwake, sMade14, sMade18, sEnv, sDo, sSame1, sRepI, sDiffer, sNext, sEqSnd, sCont, arrV, arrV0, isSmall, isI_int, isI_nat, stS, made18V_of2, ls_prS2, ls_i64S2, ls_sndsS2, iOf, iOf, ← hPe, ← hSe, ← hVe, doTS, doTE, sta_eta, hT, hE, stB, ls_one, isIns_lit, insOf_lit, isIns_bl, List.all_cons, List.all_nil, eq_self, insS]; (repeat' (first | assumption | exact True.intro | omega | apply And.intro))) | ((repeat' (first | assumption | exact True.intro | omega | apply And.intro)))); done)))
    | fail))
  refine At.put 15 (.own 28 (.arr P.length 5 (prS ((List.replicate P.length ⟨2, 0, 0, 0, 0⟩).set S.at_.toNat (P.getD S.at_.toNat ⟨0, 0, 0, 0, 0⟩)))) false) (.val (fun β => cl_arr_congr fun q _ => set_cl3 _ _ _ _ (by rw [List.length_replicate]; omega)) (fun _ _ _ h => by injection h with h1 h2 _; subst h1 h2; exact ⟨_, rfl⟩) (fun _ _ _ h => by injection h with h1 h2 _; subst h1 h2; exact ⟨_, rfl⟩)) (by simp only [HB.stable, Stable]; exact prS_stable) rfl rfl ?_
  obtain ⟨hq1, hq2⟩ := alone hP hV hat.1 (by omega) hR (by omega)
  have hq3 : ∀ i ∈ (List.replicate P.length (⟨2, 0, 0, 0, 0⟩ : Ins)).set S.at_.toNat (P.getD S.at_.toNat ⟨0, 0, 0, 0, 0⟩), i.ok := set_ok (fun i hi => by rw [List.eq_of_mem_replicate hi]; exact failI_ok 0 (.inl rfl)) _ _ (by
    have hk : S.at_.toNat < P.length := by omega
    rw [List.getD_eq_getElem?_getD, List.getElem?_eq_getElem hk]; exact hc2 _ (List.getElem_mem hk))
  have hq4 : ((List.replicate P.length (⟨2, 0, 0, 0, 0⟩ : Ins)).set S.at_.toNat (P.getD S.at_.toNat ⟨0, 0, 0, 0, 0⟩)).length = P.length := by rw [List.length_set, List.length_replicate]
  rw [hE] at hq1
  rw [hT] at hq2
  generalize (List.replicate P.length (⟨2, 0, 0, 0, 0⟩ : Ins)).set S.at_.toNat (P.getD S.at_.toNat ⟨0, 0, 0, 0, 0⟩) = Q at hq1 hq2 hq3 hq4 ⊢
  obtain ⟨x, hxe⟩ : ∃ x, P.getD S.at_.toNat ⟨0, 0, 0, 0, 0⟩ = x := ⟨_, rfl⟩
  have hlsQ : ls insOf P.length (fun q => insS (Q.getD q ⟨0, 0, 0, 0, 0⟩)) = Q := by rw [← hq4]; exact ls_prS2 Q
  iterate 4 (try (first
    | with_reducible (first | apply WF.seq | refine At.code ?_ | apply At.thenNormal | apply At.thenRet | apply At.thenExit | apply At.thenGoto | apply At.inNormal | apply At.inRet | apply At.inGoto | apply At.inHit | apply At.noGotoNormal | apply At.noGotoRet | apply At.noGotoExit | apply WF.skip | apply WF.ret | apply WF.exit | apply WF.goto | apply WF.label | apply WF.block | apply WF.scope)
    | ((with_reducible apply At.inMiss); · rfl)
    | ((with_reducible intro hif); first | (focus (cases hif; done)) | (simp only [Bool.not_eq_true', Bool.not_eq_false', decide_eq_true_eq, decide_eq_false_iff_not, Bool.and_eq_true, Bool.or_eq_true] at hif; try (exfalso; omega)) | (try (exfalso; omega)))
    | ((first | ((with_reducible apply WF.region cOne_ok tab_ok); · rfl) | ((with_reducible apply WF.drawn fol cOne_ok tab_ok); · rfl) | with_reducible apply WF.cond)
       · simp only [push_cast, ↓Int.cast_ofNat_Int, ↓ofV_m1, ↓ofV_min, Nat.reduceAdd, Nat.reduceEqDiff, Nat.reduceLT, Nat.reduceMul, Nat.reduceLeDiff, reduceCtorEq, reduceIte, cOne, sAwake, sMade14, sMade18, sEnv, sDo, sSame1, sRepI, sDiffer, sNext, sEqSnd, sCont, arrV, arrV0, isSmall, isI_int, isI_nat, stS, made18V_of2, ls_prS2, ls_i64S2, ls_sndsS2, iOf, iOf, ← hPe, ← hSe, ← hVe, doTS, doTE, sta_eta, hT, hE, stB, ls_one, isIns_lit, insOf_lit, isIns_bl, List.all_cons, List.all_nil, eq_self, hq1, hq2, hlsQ]; rfl
       try kernel_rfl
       try (focus ((first | exact True.intro | (simp only [and_self, implies_true, true_and, and_true, forall_const, false_implies, true_implies, Bool.not_eq_true', imp_self, shaped, shapedL, kndOf, cOne, sAwake, sMade14, sMade18, sEnv, sDo, sSame1, sRepI, sDiffer, sNext, sEqSnd, sCont, arrV, arrV0, isSmall, isI_int, isI_nat, stS, made18V_of2, ls_prS2, ls_i64S2, ls_sndsS2, iOf, iOf, ← hPe, ← hSe, ← hVe, doTS, doTE, sta_eta, hT, hE, stB, ls_one, isIns_lit, insOf_lit, isIns_bl, List.all_cons, List.all_nil, eq_self, hq1, hq2, hlsQ]; done) | (simp only [and_self, implies_true, true_and, and_true, forall_const, false_implies, true_implies, Bool.not_eq_true', imp_self, shaped, shapedL, kndOf, cOne, sAwake, sMade14, sMade18, sEnv, sDo, sSame1, sRepI, sDiffer, sNext, sEqSnd, sCont, arrV, arrV0, isSmall, isI_int, isI_nat, stS, made18V_of2, ls_prS2, ls_i64S2, ls_sndsS2, iOf, iOf, ← hPe, ← hSe, ← hVe, doTS, doTE, sta_eta, hT, hE, stB, ls_one, isIns_lit, insOf_lit, isIns_bl, List.all_cons, List.all_nil, eq_self, hq1, hq2, hlsQ]; (repeat' (first | assumption | exact True.intro | omega | apply And.intro))) | ((repeat' (first | assumption | exact True.intro | omega | apply And.intro)))); done)))
    | fail))
  by_cases hA : S.at_ = (P.length : Int) - 1
  · have hxh : P.getD S.at_.toNat ⟨0, 0, 0, 0, 0⟩ = haltI := by rw [show S.at_.toNat = P.length - 1 by omega]; exact hlast
    obtain ⟨g1, g2⟩ := last_halt hP hV hR hend hxh
    rw [hE] at g1
    rw [hT] at g2
    subst g1
    repeat' (first
      | with_reducible (first | apply WF.seq | refine At.code ?_ | apply At.thenNormal | apply At.thenRet | apply At.thenExit | apply At.thenGoto | apply At.inNormal | apply At.inRet | apply At.inGoto | apply At.inHit | apply At.noGotoNormal | apply At.noGotoRet | apply At.noGotoExit | apply WF.skip | apply WF.ret | apply WF.exit | apply WF.goto | apply WF.label | apply WF.block | apply WF.scope)
      | ((with_reducible apply At.inMiss); · rfl)
      | ((with_reducible intro hif); first | (focus (cases hif; done)) | (simp only [Bool.not_eq_true', Bool.not_eq_false', decide_eq_true_eq, decide_eq_false_iff_not, Bool.and_eq_true, Bool.or_eq_true] at hif; try (exfalso; omega)) | (try (exfalso; omega)))
      | ((first | ((with_reducible apply WF.region cOne_ok tab_ok); · rfl) | ((with_reducible apply WF.drawn fol cOne_ok tab_ok); · rfl) | with_reducible apply WF.cond)
         · simp only [push_cast, ↓Int.cast_ofNat_Int, ↓ofV_m1, ↓ofV_min, Nat.reduceAdd, Nat.reduceEqDiff, Nat.reduceLT, Nat.reduceMul, Nat.reduceLeDiff, reduceCtorEq, reduceIte, cOne, sAwake, sMade14, sMade18, sEnv, sDo, sSame1, sRepI, sDiffer, sNext, sEqSnd, sCont, arrV, arrV0, isSmall, isI_int, isI_nat, stS, made18V_of2, ls_prS2, ls_i64S2, ls_sndsS2, iOf, iOf, ← hPe, ← hSe, ← hVe, doTS, doTE, sta_eta, hT, hE, stB, ls_one, isIns_lit, insOf_lit, isIns_bl, List.all_cons, List.all_nil, eq_self, hA, g2, sameB_refl]; rfl
         try kernel_rfl
         try (focus ((first | exact True.intro | (simp only [and_self, implies_true, true_and, and_true, forall_const, false_implies, true_implies, Bool.not_eq_true', imp_self, shaped, shapedL, kndOf, cOne, sAwake, sMade14, sMade18, sEnv, sDo, sSame1, sRepI, sDiffer, sNext, sEqSnd, sCont, arrV, arrV0, isSmall, isI_int, isI_nat, stS, made18V_of2, ls_prS2, ls_i64S2, ls_sndsS2, iOf, iOf, ← hPe, ← hSe, ← hVe, doTS, doTE, sta_eta, hT, hE, stB, ls_one, isIns_lit, insOf_lit, isIns_bl, List.all_cons, List.all_nil, eq_self, hA, g2, sameB_refl]; done) | (simp only [and_self, implies_true, true_and, and_true, forall_const, false_implies, true_implies, Bool.not_eq_true', imp_self, shaped, shapedL, kndOf, cOne, sAwake, sMade14, sMade18, sEnv, sDo, sSame1, sRepI, sDiffer, sNext, sEqSnd, sCont, arrV, arrV0, isSmall, isI_int, isI_nat, stS, made18V_of2, ls_prS2, ls_i64S2, ls_sndsS2, iOf, iOf, ← hPe, ← hSe, ← hVe, doTS, doTE, sta_eta, hT, hE, stB, ls_one, isIns_lit, insOf_lit, isIns_bl, List.all_cons, List.all_nil, eq_self, hA, g2, sameB_refl]; (repeat' (first | assumption | exact True.intro | omega | apply And.intro))) | ((repeat' (first | assumption | exact True.intro | omega | apply And.intro)))); done)))
      | fail)
    apply At.endsRet tab_ok (fn := Try.f17) (rs := [.tmp 6]) Anc.refl hro (Nat.le_of_ble_eq_true rfl) rfl
    · simp only [push_cast, ↓Int.cast_ofNat_Int, ↓ofV_m1, ↓ofV_min, Nat.reduceAdd, Nat.reduceEqDiff, Nat.reduceLT, Nat.reduceMul, Nat.reduceLeDiff, reduceCtorEq, reduceIte, resV, resV1]; rfl
    · (first | trivial | (simp only [and_self]; done))
    · (repeat' (first | exact trivial | exact .same _ | exact .dead _ | exact .gone rfl | exact .loose | assumption | exact .arr (by assumption) | apply And.intro))
    · rfl
    · (first | exact trivial | (repeat' (first | exact trivial | exact rfl | assumption | exact prS_stable _ | exact i64S_stable _ | exact sndsS_stable _ | exact insS_stable _ | exact sndS_stable _ | exact hst _ _ | exact hst1 _ _ | exact hst2 _ _ | apply Stable.ite | apply And.intro | intro _ | (simp only [Stable, StableL, i64S, prS, insS, sndsS, sndS]; done))))
    · (repeat' (first | exact trivial | exact .inl rfl | exact .inr rfl | exact rfl | apply And.intro))
    · exact fun β => rfl
    · (first | exact trivial | (repeat' (first | exact trivial | exact rfl | assumption | exact prS_stable _ | exact i64S_stable _ | exact sndsS_stable _ | exact insS_stable _ | exact sndS_stable _ | exact hst _ _ | exact hst1 _ _ | exact hst2 _ _ | apply Stable.ite | apply And.intro | intro _ | (simp only [Stable, StableL, i64S, prS, insS, sndsS, sndS]; done))))
  by_cases h0 : e = 0
  · subst h0
    have F := one_top_f hP hc2 hend (by omega) hE x hxe
    rw [hT] at F
    have hN : nextE P S.at_ = 0 := by
      have : rightI P = 0 := by unfold rightI; rw [if_pos hP]
      unfold nextE
      rw [if_neg (by simp [this]), if_neg (by omega)]
    have hNL : nextL P S.at_ = edgesL x S.at_ := by
      unfold nextL
      rw [if_neg (by simp [hN]), hxe]
    have h16 := F.sendLen
    have h17 := F.draw
    have hi16 : inR .i64 ((T.sends.length : Int) - (S.sends.length : Int)) := by constructor <;> omega
    have hi17 : inR .i64 (T.draws - S.draws) := by constructor <;> omega
    iterate 39 (try (first
      | with_reducible (first | apply WF.seq | refine At.code ?_ | apply At.thenNormal | apply At.thenRet | apply At.thenExit | apply At.thenGoto | apply At.inNormal | apply At.inRet | apply At.inGoto | apply At.inHit | apply At.noGotoNormal | apply At.noGotoRet | apply At.noGotoExit | apply WF.skip | apply WF.ret | apply WF.exit | apply WF.goto | apply WF.label | apply WF.block | apply WF.scope)
      | ((with_reducible apply At.inMiss); · rfl)
      | ((with_reducible intro hif); first | (focus (cases hif; done)) | (simp only [Bool.not_eq_true', Bool.not_eq_false', decide_eq_true_eq, decide_eq_false_iff_not, Bool.and_eq_true, Bool.or_eq_true] at hif; try (exfalso; omega)) | (try (exfalso; omega)))
      | ((first | ((with_reducible apply WF.region cOne_ok tab_ok); · rfl) | ((with_reducible apply WF.drawn fol cOne_ok tab_ok); · rfl) | with_reducible apply WF.cond)
         · simp only [push_cast, ↓Int.cast_ofNat_Int, ↓ofV_m1, ↓ofV_min, Nat.reduceAdd, Nat.reduceEqDiff, Nat.reduceLT, Nat.reduceMul, Nat.reduceLeDiff, reduceCtorEq, reduceIte, ls_zero, cOne, sAwake, sMade14, sMade18, sEnv, sDo, sSame1, sRepI, sDiffer, sNext, sEqSnd, sCont, arrV, arrV0, isSmall, isI_int, isI_nat, stS, made18V_of2, ls_prS2, ls_i64S2, ls_sndsS2, iOf, iOf, ← hPe, ← hSe, ← hVe, doTS, doTE, sta_eta, hT, hE, stB, ls_one, isIns_lit, insOf_lit, isIns_bl, List.all_cons, List.all_nil, eq_self, hA, sameB_refl, hxe, ls_regs, ls_sndsS2, Int.reduceLT, Int.reduceLE, Int.reduceEq, Int.reduceNeg, Nat.sub_zero, regsL_len, hN, hNL]; rfl
         try kernel_rfl
         try (focus ((first | exact True.intro | (simp only [and_self, implies_true, true_and, and_true, forall_const, false_implies, true_implies, Bool.not_eq_true', imp_self, shaped, shapedL, kndOf, ls_zero, cOne, sAwake, sMade14, sMade18, sEnv, sDo, sSame1, sRepI, sDiffer, sNext, sEqSnd, sCont, arrV, arrV0, isSmall, isI_int, isI_nat, stS, made18V_of2, ls_prS2, ls_i64S2, ls_sndsS2, iOf, iOf, ← hPe, ← hSe, ← hVe, doTS, doTE, sta_eta, hT, hE, stB, ls_one, isIns_lit, insOf_lit, isIns_bl, List.all_cons, List.all_nil, eq_self, hA, sameB_refl, hxe, ls_regs, ls_sndsS2, Int.reduceLT, Int.reduceLE, Int.reduceEq, Int.reduceNeg, Nat.sub_zero, regsL_len, hN, hNL]; done) | (simp only [and_self, implies_true, true_and, and_true, forall_const, false_implies, true_implies, Bool.not_eq_true', imp_self, shaped, shapedL, kndOf, ls_zero, cOne, sAwake, sMade14, sMade18, sEnv, sDo, sSame1, sRepI, sDiffer, sNext, sEqSnd, sCont, arrV, arrV0, isSmall, isI_int, isI_nat, stS, made18V_of2, ls_prS2, ls_i64S2, ls_sndsS2, iOf, iOf, ← hPe, ← hSe, ← hVe, doTS, doTE, sta_eta, hT, hE, stB, ls_one, isIns_lit, insOf_lit, isIns_bl, List.all_cons, List.all_nil, eq_self, hA, sameB_refl, hxe, ls_regs, ls_sndsS2, Int.reduceLT, Int.reduceLE, Int.reduceEq, Int.reduceNeg, Nat.sub_zero, regsL_len, hN, hNL]; (repeat' (first | assumption | exact True.intro | omega | apply And.intro))) | ((repeat' (first | assumption | exact True.intro | omega | apply And.intro)))); done)))
      | fail))
    have hc15 := F.cell
    have hn15 : ¬ differI S.cells T.cells < 0 := by omega
    have hTS : ls sndOf S.sends.length (fun q => sndS (T.sends.getD q ⟨0, 0, 0⟩)) = S.sends := (ls_take _ h16.1).trans F.sends
    have hEL : (edgesL x S.at_).length ≤ 281474976710656 := by unfold edgesL; simp only [List.length_append]; (repeat' split) <;> simp
    have ha8 : x.a.toNat < 8 := by have := one_a (badAt_zero (hxe ▸ (right_last hP).2 _ (by omega))); omega
    have hxa : 0 ≤ x.a := by
      have hk : S.at_.toNat < P.length := by omega
      have hxm : x ∈ P := by rw [← hxe, List.getD_eq_getElem?_getD, List.getElem?_eq_getElem hk]; exact List.getElem_mem hk
      obtain ⟨o0, o1, a0, _⟩ := hc2 x hxm
      exact a0
    rcases F.ops with ⟨hop, f14, f15, f16, f17⟩ | ⟨hop, f14, f15, f16, f17⟩ | ⟨hop, f14, f15, f16, f17⟩ | ⟨hop, f14, f15, f16, f17⟩ | ⟨⟨n1, n6, n7, n8, n9, n10, n11⟩, f14, f15, f16, f17, f18⟩
    · rcases hop with hop | hop | hop | hop
      · have g16 : (T.sends.length : Int) - (S.sends.length : Int) = 0 := by omega
        have g17 : T.draws - S.draws = 0 := by omega
        have hEnd : T.ended = true := by rw [F.ended, hop]; rfl
        have hAt := F.at_ hop
        repeat' (first
          | with_reducible (first | apply WF.seq | refine At.code ?_ | apply At.thenNormal | apply At.thenRet | apply At.thenExit | apply At.thenGoto | apply At.inNormal | apply At.inRet | apply At.inGoto | apply At.inHit | apply At.noGotoNormal | apply At.noGotoRet | apply At.noGotoExit | apply WF.skip | apply WF.ret | apply WF.exit | apply WF.goto | apply WF.label | apply WF.block | apply WF.scope)
          | ((with_reducible apply At.inMiss); · rfl)
          | ((with_reducible intro hif); first | (focus (cases hif; done)) | (simp only [Bool.not_eq_true', Bool.not_eq_false', decide_eq_true_eq, decide_eq_false_iff_not, Bool.and_eq_true, Bool.or_eq_true] at hif; try (exfalso; omega)) | (try (exfalso; omega)))
          | ((first | ((with_reducible apply WF.region cOne_ok tab_ok); · rfl) | ((with_reducible apply WF.drawn fol cOne_ok tab_ok); · rfl) | with_reducible apply WF.cond)
             · simp only [push_cast, ↓Int.cast_ofNat_Int, ↓ofV_m1, ↓ofV_min, Nat.reduceAdd, Nat.reduceEqDiff, Nat.reduceLT, Nat.reduceMul, Nat.reduceLeDiff, reduceCtorEq, reduceIte, ls_zero, cOne, sAwake, sMade14, sMade18, sEnv, sDo, sSame1, sRepI, sDiffer, sNext, sEqSnd, sCont, arrV, arrV0, isSmall, isI_int, isI_nat, stS, made18V_of2, ls_prS2, ls_i64S2, ls_sndsS2, iOf, iOf, ← hPe, ← hSe, ← hVe, doTS, doTE, sta_eta, hT, hE, stB, ls_one, isIns_lit, insOf_lit, isIns_bl, List.all_cons, List.all_nil, eq_self, hA, sameB_refl, hxe, ls_regs, ls_sndsS2, Int.reduceLT, Int.reduceLE, Int.reduceEq, Int.reduceNeg, Nat.sub_zero, regsL_len, hN, hNL, Nat.sub_self, hn15, hTS, eqL_self, hEnd, g16, g17, f14, f15, hAt, hop]; rfl
             try kernel_rfl
             try (focus ((first | exact True.intro | (simp only [and_self, implies_true, true_and, and_true, forall_const, false_implies, true_implies, Bool.not_eq_true', imp_self, shaped, shapedL, kndOf, ls_zero, cOne, sAwake, sMade14, sMade18, sEnv, sDo, sSame1, sRepI, sDiffer, sNext, sEqSnd, sCont, arrV, arrV0, isSmall, isI_int, isI_nat, stS, made18V_of2, ls_prS2, ls_i64S2, ls_sndsS2, iOf, iOf, ← hPe, ← hSe, ← hVe, doTS, doTE, sta_eta, hT, hE, stB, ls_one, isIns_lit, insOf_lit, isIns_bl, List.all_cons, List.all_nil, eq_self, hA, sameB_refl, hxe, ls_regs, ls_sndsS2, Int.reduceLT, Int.reduceLE, Int.reduceEq, Int.reduceNeg, Nat.sub_zero, regsL_len, hN, hNL, Nat.sub_self, hn15, hTS, eqL_self, hEnd, g16, g17, f14, f15, hAt, hop]; done) | (simp only [and_self, implies_true, true_and, and_true, forall_const, false_implies, true_implies, Bool.not_eq_true', imp_self, shaped, shapedL, kndOf, ls_zero, cOne, sAwake, sMade14, sMade18, sEnv, sDo, sSame1, sRepI, sDiffer, sNext, sEqSnd, sCont, arrV, arrV0, isSmall, isI_int, isI_nat, stS, made18V_of2, ls_prS2, ls_i64S2, ls_sndsS2, iOf, iOf, ← hPe, ← hSe, ← hVe, doTS, doTE, sta_eta, hT, hE, stB, ls_one, isIns_lit, insOf_lit, isIns_bl, List.all_cons, List.all_nil, eq_self, hA, sameB_refl, hxe, ls_regs, ls_sndsS2, Int.reduceLT, Int.reduceLE, Int.reduceEq, Int.reduceNeg, Nat.sub_zero, regsL_len, hN, hNL, Nat.sub_self, hn15, hTS, eqL_self, hEnd, g16, g17, f14, f15, hAt, hop]; (repeat' (first | assumption | exact True.intro | omega | apply And.intro))) | ((repeat' (first | assumption | exact True.intro | omega | apply And.intro)))); done)))
          | fail)
        apply At.endsRet tab_ok (fn := Try.f17) (rs := [.tmp 6]) Anc.refl hro (Nat.le_of_ble_eq_true rfl) rfl
        · simp only [push_cast, ↓Int.cast_ofNat_Int, ↓ofV_m1, ↓ofV_min, Nat.reduceAdd, Nat.reduceEqDiff, Nat.reduceLT, Nat.reduceMul, Nat.reduceLeDiff, reduceCtorEq, reduceIte, resV, resV1]; rfl
        · (first | trivial | (simp only [and_self]; done))
        · (repeat' (first | exact trivial | exact .same _ | exact .dead _ | exact .gone rfl | exact .loose | assumption | exact .arr (by assumption) | apply And.intro))
        · rfl
        · (first | exact trivial | (repeat' (first | exact trivial | exact rfl | assumption | exact prS_stable _ | exact i64S_stable _ | exact sndsS_stable _ | exact insS_stable _ | exact sndS_stable _ | exact hst _ _ | exact hst1 _ _ | exact hst2 _ _ | apply Stable.ite | apply And.intro | intro _ | (simp only [Stable, StableL, i64S, prS, insS, sndsS, sndS]; done))))
        · (repeat' (first | exact trivial | exact .inl rfl | exact .inr rfl | exact rfl | apply And.intro))
        · exact fun β => rfl
        · (first | exact trivial | (repeat' (first | exact trivial | exact rfl | assumption | exact prS_stable _ | exact i64S_stable _ | exact sndsS_stable _ | exact insS_stable _ | exact sndS_stable _ | exact hst _ _ | exact hst1 _ _ | exact hst2 _ _ | apply Stable.ite | apply And.intro | intro _ | (simp only [Stable, StableL, i64S, prS, insS, sndsS, sndS]; done))))
      · have g16 : (T.sends.length : Int) - (S.sends.length : Int) = 0 := by omega
        have g17 : T.draws - S.draws = 0 := by omega
        have hEnd : T.ended = false := by rw [F.ended]; exact decide_eq_false (by omega)
        have hC : T.at_ ∈ edgesL x S.at_ := F.next (by omega)
        repeat' (first
          | with_reducible (first | apply WF.seq | refine At.code ?_ | apply At.thenNormal | apply At.thenRet | apply At.thenExit | apply At.thenGoto | apply At.inNormal | apply At.inRet | apply At.inGoto | apply At.inHit | apply At.noGotoNormal | apply At.noGotoRet | apply At.noGotoExit | apply WF.skip | apply WF.ret | apply WF.exit | apply WF.goto | apply WF.label | apply WF.block | apply WF.scope)
          | ((with_reducible apply At.inMiss); · rfl)
          | ((with_reducible intro hif); first | (focus (cases hif; done)) | (simp only [Bool.not_eq_true', Bool.not_eq_false', decide_eq_true_eq, decide_eq_false_iff_not, Bool.and_eq_true, Bool.or_eq_true] at hif; try (exfalso; omega)) | (try (exfalso; omega)))
          | ((first | ((with_reducible apply WF.region cOne_ok tab_ok); · rfl) | ((with_reducible apply WF.drawn fol cOne_ok tab_ok); · rfl) | with_reducible apply WF.cond)
             · simp only [push_cast, ↓Int.cast_ofNat_Int, ↓ofV_m1, ↓ofV_min, Nat.reduceAdd, Nat.reduceEqDiff, Nat.reduceLT, Nat.reduceMul, Nat.reduceLeDiff, reduceCtorEq, reduceIte, ls_zero, cOne, sAwake, sMade14, sMade18, sEnv, sDo, sSame1, sRepI, sDiffer, sNext, sEqSnd, sCont, arrV, arrV0, isSmall, isI_int, isI_nat, stS, made18V_of2, ls_prS2, ls_i64S2, ls_sndsS2, iOf, iOf, ← hPe, ← hSe, ← hVe, doTS, doTE, sta_eta, hT, hE, stB, ls_one, isIns_lit, insOf_lit, isIns_bl, List.all_cons, List.all_nil, eq_self, hA, sameB_refl, hxe, ls_regs, ls_sndsS2, Int.reduceLT, Int.reduceLE, Int.reduceEq, Int.reduceNeg, Nat.sub_zero, regsL_len, hN, hNL, Nat.sub_self, hn15, hTS, eqL_self, hEnd, g16, g17, f14, f15, hC, hop]; rfl
             try kernel_rfl
             try (focus ((first | exact True.intro | (simp only [and_self, implies_true, true_and, and_true, forall_const, false_implies, true_implies, Bool.not_eq_true', imp_self, shaped, shapedL, kndOf, ls_zero, cOne, sAwake, sMade14, sMade18, sEnv, sDo, sSame1, sRepI, sDiffer, sNext, sEqSnd, sCont, arrV, arrV0, isSmall, isI_int, isI_nat, stS, made18V_of2, ls_prS2, ls_i64S2, ls_sndsS2, iOf, iOf, ← hPe, ← hSe, ← hVe, doTS, doTE, sta_eta, hT, hE, stB, ls_one, isIns_lit, insOf_lit, isIns_bl, List.all_cons, List.all_nil, eq_self, hA, sameB_refl, hxe, ls_regs, ls_sndsS2, Int.reduceLT, Int.reduceLE, Int.reduceEq, Int.reduceNeg, Nat.sub_zero, regsL_len, hN, hNL, Nat.sub_self, hn15, hTS, eqL_self, hEnd, g16, g17, f14, f15, hC, hop]; done) | (simp only [and_self, implies_true, true_and, and_true, forall_const, false_implies, true_implies, Bool.not_eq_true', imp_self, shaped, shapedL, kndOf, ls_zero, cOne, sAwake, sMade14, sMade18, sEnv, sDo, sSame1, sRepI, sDiffer, sNext, sEqSnd, sCont, arrV, arrV0, isSmall, isI_int, isI_nat, stS, made18V_of2, ls_prS2, ls_i64S2, ls_sndsS2, iOf, iOf, ← hPe, ← hSe, ← hVe, doTS, doTE, sta_eta, hT, hE, stB, ls_one, isIns_lit, insOf_lit, isIns_bl, List.all_cons, List.all_nil, eq_self, hA, sameB_refl, hxe, ls_regs, ls_sndsS2, Int.reduceLT, Int.reduceLE, Int.reduceEq, Int.reduceNeg, Nat.sub_zero, regsL_len, hN, hNL, Nat.sub_self, hn15, hTS, eqL_self, hEnd, g16, g17, f14, f15, hC, hop]; (repeat' (first | assumption | exact True.intro | omega | apply And.intro))) | ((repeat' (first | assumption | exact True.intro | omega | apply And.intro)))); done)))
          | fail)
        apply At.endsRet tab_ok (fn := Try.f17) (rs := [.tmp 6]) Anc.refl hro (Nat.le_of_ble_eq_true rfl) rfl
        · simp only [push_cast, ↓Int.cast_ofNat_Int, ↓ofV_m1, ↓ofV_min, Nat.reduceAdd, Nat.reduceEqDiff, Nat.reduceLT, Nat.reduceMul, Nat.reduceLeDiff, reduceCtorEq, reduceIte, resV, resV1]; rfl
        · (first | trivial | (simp only [and_self]; done))
        · (repeat' (first | exact trivial | exact .same _ | exact .dead _ | exact .gone rfl | exact .loose | assumption | exact .arr (by assumption) | apply And.intro))
        · rfl
        · (first | exact trivial | (repeat' (first | exact trivial | exact rfl | assumption | exact prS_stable _ | exact i64S_stable _ | exact sndsS_stable _ | exact insS_stable _ | exact sndS_stable _ | exact hst _ _ | exact hst1 _ _ | exact hst2 _ _ | apply Stable.ite | apply And.intro | intro _ | (simp only [Stable, StableL, i64S, prS, insS, sndsS, sndS]; done))))
        · (repeat' (first | exact trivial | exact .inl rfl | exact .inr rfl | exact rfl | apply And.intro))
        · exact fun β => rfl
        · (first | exact trivial | (repeat' (first | exact trivial | exact rfl | assumption | exact prS_stable _ | exact i64S_stable _ | exact sndsS_stable _ | exact insS_stable _ | exact sndS_stable _ | exact hst _ _ | exact hst1 _ _ | exact hst2 _ _ | apply Stable.ite | apply And.intro | intro _ | (simp only [Stable, StableL, i64S, prS, insS, sndsS, sndS]; done))))
      · have g16 : (T.sends.length : Int) - (S.sends.length : Int) = 0 := by omega
        have g17 : T.draws - S.draws = 0 := by omega
        have hEnd : T.ended = false := by rw [F.ended]; exact decide_eq_false (by omega)
        have hC : T.at_ ∈ edgesL x S.at_ := F.next (by omega)
        repeat' (first
          | with_reducible (first | apply WF.seq | refine At.code ?_ | apply At.thenNormal | apply At.thenRet | apply At.thenExit | apply At.thenGoto | apply At.inNormal | apply At.inRet | apply At.inGoto | apply At.inHit | apply At.noGotoNormal | apply At.noGotoRet | apply At.noGotoExit | apply WF.skip | apply WF.ret | apply WF.exit | apply WF.goto | apply WF.label | apply WF.block | apply WF.scope)
          | ((with_reducible apply At.inMiss); · rfl)
          | ((with_reducible intro hif); first | (focus (cases hif; done)) | (simp only [Bool.not_eq_true', Bool.not_eq_false', decide_eq_true_eq, decide_eq_false_iff_not, Bool.and_eq_true, Bool.or_eq_true] at hif; try (exfalso; omega)) | (try (exfalso; omega)))
          | ((first | ((with_reducible apply WF.region cOne_ok tab_ok); · rfl) | ((with_reducible apply WF.drawn fol cOne_ok tab_ok); · rfl) | with_reducible apply WF.cond)
             · simp only [push_cast, ↓Int.cast_ofNat_Int, ↓ofV_m1, ↓ofV_min, Nat.reduceAdd, Nat.reduceEqDiff, Nat.reduceLT, Nat.reduceMul, Nat.reduceLeDiff, reduceCtorEq, reduceIte, ls_zero, cOne, sAwake, sMade14, sMade18, sEnv, sDo, sSame1, sRepI, sDiffer, sNext, sEqSnd, sCont, arrV, arrV0, isSmall, isI_int, isI_nat, stS, made18V_of2, ls_prS2, ls_i64S2, ls_sndsS2, iOf, iOf, ← hPe, ← hSe, ← hVe, doTS, doTE, sta_eta, hT, hE, stB, ls_one, isIns_lit, insOf_lit, isIns_bl, List.all_cons, List.all_nil, eq_self, hA, sameB_refl, hxe, ls_regs, ls_sndsS2, Int.reduceLT, Int.reduceLE, Int.reduceEq, Int.reduceNeg, Nat.sub_zero, regsL_len, hN, hNL, Nat.sub_self, hn15, hTS, eqL_self, hEnd, g16, g17, f14, f15, hC, hop]; rfl
             try kernel_rfl
             try (focus ((first | exact True.intro | (simp only [and_self, implies_true, true_and, and_true, forall_const, false_implies, true_implies, Bool.not_eq_true', imp_self, shaped, shapedL, kndOf, ls_zero, cOne, sAwake, sMade14, sMade18, sEnv, sDo, sSame1, sRepI, sDiffer, sNext, sEqSnd, sCont, arrV, arrV0, isSmall, isI_int, isI_nat, stS, made18V_of2, ls_prS2, ls_i64S2, ls_sndsS2, iOf, iOf, ← hPe, ← hSe, ← hVe, doTS, doTE, sta_eta, hT, hE, stB, ls_one, isIns_lit, insOf_lit, isIns_bl, List.all_cons, List.all_nil, eq_self, hA, sameB_refl, hxe, ls_regs, ls_sndsS2, Int.reduceLT, Int.reduceLE, Int.reduceEq, Int.reduceNeg, Nat.sub_zero, regsL_len, hN, hNL, Nat.sub_self, hn15, hTS, eqL_self, hEnd, g16, g17, f14, f15, hC, hop]; done) | (simp only [and_self, implies_true, true_and, and_true, forall_const, false_implies, true_implies, Bool.not_eq_true', imp_self, shaped, shapedL, kndOf, ls_zero, cOne, sAwake, sMade14, sMade18, sEnv, sDo, sSame1, sRepI, sDiffer, sNext, sEqSnd, sCont, arrV, arrV0, isSmall, isI_int, isI_nat, stS, made18V_of2, ls_prS2, ls_i64S2, ls_sndsS2, iOf, iOf, ← hPe, ← hSe, ← hVe, doTS, doTE, sta_eta, hT, hE, stB, ls_one, isIns_lit, insOf_lit, isIns_bl, List.all_cons, List.all_nil, eq_self, hA, sameB_refl, hxe, ls_regs, ls_sndsS2, Int.reduceLT, Int.reduceLE, Int.reduceEq, Int.reduceNeg, Nat.sub_zero, regsL_len, hN, hNL, Nat.sub_self, hn15, hTS, eqL_self, hEnd, g16, g17, f14, f15, hC, hop]; (repeat' (first | assumption | exact True.intro | omega | apply And.intro))) | ((repeat' (first | assumption | exact True.intro | omega | apply And.intro)))); done)))
          | fail)
        apply At.endsRet tab_ok (fn := Try.f17) (rs := [.tmp 6]) Anc.refl hro (Nat.le_of_ble_eq_true rfl) rfl
        · simp only [push_cast, ↓Int.cast_ofNat_Int, ↓ofV_m1, ↓ofV_min, Nat.reduceAdd, Nat.reduceEqDiff, Nat.reduceLT, Nat.reduceMul, Nat.reduceLeDiff, reduceCtorEq, reduceIte, resV, resV1]; rfl
        · (first | trivial | (simp only [and_self]; done))
        · (repeat' (first | exact trivial | exact .same _ | exact .dead _ | exact .gone rfl | exact .loose | assumption | exact .arr (by assumption) | apply And.intro))
        · rfl
        · (first | exact trivial | (repeat' (first | exact trivial | exact rfl | assumption | exact prS_stable _ | exact i64S_stable _ | exact sndsS_stable _ | exact insS_stable _ | exact sndS_stable _ | exact hst _ _ | exact hst1 _ _ | exact hst2 _ _ | apply Stable.ite | apply And.intro | intro _ | (simp only [Stable, StableL, i64S, prS, insS, sndsS, sndS]; done))))
        · (repeat' (first | exact trivial | exact .inl rfl | exact .inr rfl | exact rfl | apply And.intro))
        · exact fun β => rfl
        · (first | exact trivial | (repeat' (first | exact trivial | exact rfl | assumption | exact prS_stable _ | exact i64S_stable _ | exact sndsS_stable _ | exact insS_stable _ | exact sndS_stable _ | exact hst _ _ | exact hst1 _ _ | exact hst2 _ _ | apply Stable.ite | apply And.intro | intro _ | (simp only [Stable, StableL, i64S, prS, insS, sndsS, sndS]; done))))
      · have g16 : (T.sends.length : Int) - (S.sends.length : Int) = 0 := by omega
        have g17 : T.draws - S.draws = 0 := by omega
        have hEnd : T.ended = false := by rw [F.ended]; exact decide_eq_false (by omega)
        have hC : T.at_ ∈ edgesL x S.at_ := F.next (by omega)
        repeat' (first
          | with_reducible (first | apply WF.seq | refine At.code ?_ | apply At.thenNormal | apply At.thenRet | apply At.thenExit | apply At.thenGoto | apply At.inNormal | apply At.inRet | apply At.inGoto | apply At.inHit | apply At.noGotoNormal | apply At.noGotoRet | apply At.noGotoExit | apply WF.skip | apply WF.ret | apply WF.exit | apply WF.goto | apply WF.label | apply WF.block | apply WF.scope)
          | ((with_reducible apply At.inMiss); · rfl)
          | ((with_reducible intro hif); first | (focus (cases hif; done)) | (simp only [Bool.not_eq_true', Bool.not_eq_false', decide_eq_true_eq, decide_eq_false_iff_not, Bool.and_eq_true, Bool.or_eq_true] at hif; try (exfalso; omega)) | (try (exfalso; omega)))
          | ((first | ((with_reducible apply WF.region cOne_ok tab_ok); · rfl) | ((with_reducible apply WF.drawn fol cOne_ok tab_ok); · rfl) | with_reducible apply WF.cond)
             · simp only [push_cast, ↓Int.cast_ofNat_Int, ↓ofV_m1, ↓ofV_min, Nat.reduceAdd, Nat.reduceEqDiff, Nat.reduceLT, Nat.reduceMul, Nat.reduceLeDiff, reduceCtorEq, reduceIte, ls_zero, cOne, sAwake, sMade14, sMade18, sEnv, sDo, sSame1, sRepI, sDiffer, sNext, sEqSnd, sCont, arrV, arrV0, isSmall, isI_int, isI_nat, stS, made18V_of2, ls_prS2, ls_i64S2, ls_sndsS2, iOf, iOf, ← hPe, ← hSe, ← hVe, doTS, doTE, sta_eta, hT, hE, stB, ls_one, isIns_lit, insOf_lit, isIns_bl, List.all_cons, List.all_nil, eq_self, hA, sameB_refl, hxe, ls_regs, ls_sndsS2, Int.reduceLT, Int.reduceLE, Int.reduceEq, Int.reduceNeg, Nat.sub_zero, regsL_len, hN, hNL, Nat.sub_self, hn15, hTS, eqL_self, hEnd, g16, g17, f14, f15, hC, hop]; rfl
             try kernel_rfl
             try (focus ((first | exact True.intro | (simp only [and_self, implies_true, true_and, and_true, forall_const, false_implies, true_implies, Bool.not_eq_true', imp_self, shaped, shapedL, kndOf, ls_zero, cOne, sAwake, sMade14, sMade18, sEnv, sDo, sSame1, sRepI, sDiffer, sNext, sEqSnd, sCont, arrV, arrV0, isSmall, isI_int, isI_nat, stS, made18V_of2, ls_prS2, ls_i64S2, ls_sndsS2, iOf, iOf, ← hPe, ← hSe, ← hVe, doTS, doTE, sta_eta, hT, hE, stB, ls_one, isIns_lit, insOf_lit, isIns_bl, List.all_cons, List.all_nil, eq_self, hA, sameB_refl, hxe, ls_regs, ls_sndsS2, Int.reduceLT, Int.reduceLE, Int.reduceEq, Int.reduceNeg, Nat.sub_zero, regsL_len, hN, hNL, Nat.sub_self, hn15, hTS, eqL_self, hEnd, g16, g17, f14, f15, hC, hop]; done) | (simp only [and_self, implies_true, true_and, and_true, forall_const, false_implies, true_implies, Bool.not_eq_true', imp_self, shaped, shapedL, kndOf, ls_zero, cOne, sAwake, sMade14, sMade18, sEnv, sDo, sSame1, sRepI, sDiffer, sNext, sEqSnd, sCont, arrV, arrV0, isSmall, isI_int, isI_nat, stS, made18V_of2, ls_prS2, ls_i64S2, ls_sndsS2, iOf, iOf, ← hPe, ← hSe, ← hVe, doTS, doTE, sta_eta, hT, hE, stB, ls_one, isIns_lit, insOf_lit, isIns_bl, List.all_cons, List.all_nil, eq_self, hA, sameB_refl, hxe, ls_regs, ls_sndsS2, Int.reduceLT, Int.reduceLE, Int.reduceEq, Int.reduceNeg, Nat.sub_zero, regsL_len, hN, hNL, Nat.sub_self, hn15, hTS, eqL_self, hEnd, g16, g17, f14, f15, hC, hop]; (repeat' (first | assumption | exact True.intro | omega | apply And.intro))) | ((repeat' (first | assumption | exact True.intro | omega | apply And.intro)))); done)))
          | fail)
        apply At.endsRet tab_ok (fn := Try.f17) (rs := [.tmp 6]) Anc.refl hro (Nat.le_of_ble_eq_true rfl) rfl
        · simp only [push_cast, ↓Int.cast_ofNat_Int, ↓ofV_m1, ↓ofV_min, Nat.reduceAdd, Nat.reduceEqDiff, Nat.reduceLT, Nat.reduceMul, Nat.reduceLeDiff, reduceCtorEq, reduceIte, resV, resV1]; rfl
        · (first | trivial | (simp only [and_self]; done))
        · (repeat' (first | exact trivial | exact .same _ | exact .dead _ | exact .gone rfl | exact .loose | assumption | exact .arr (by assumption) | apply And.intro))
        · rfl
        · (first | exact trivial | (repeat' (first | exact trivial | exact rfl | assumption | exact prS_stable _ | exact i64S_stable _ | exact sndsS_stable _ | exact insS_stable _ | exact sndS_stable _ | exact hst _ _ | exact hst1 _ _ | exact hst2 _ _ | apply Stable.ite | apply And.intro | intro _ | (simp only [Stable, StableL, i64S, prS, insS, sndsS, sndS]; done))))
        · (repeat' (first | exact trivial | exact .inl rfl | exact .inr rfl | exact rfl | apply And.intro))
        · exact fun β => rfl
        · (first | exact trivial | (repeat' (first | exact trivial | exact rfl | assumption | exact prS_stable _ | exact i64S_stable _ | exact sndsS_stable _ | exact insS_stable _ | exact sndS_stable _ | exact hst _ _ | exact hst1 _ _ | exact hst2 _ _ | apply Stable.ite | apply And.intro | intro _ | (simp only [Stable, StableL, i64S, prS, insS, sndsS, sndS]; done))))
    · have g16 : (T.sends.length : Int) - (S.sends.length : Int) = 0 := by omega
      have g17 : T.draws - S.draws = 0 := by omega
      have hEnd : T.ended = false := by rw [F.ended]; exact decide_eq_false (by omega)
      have hC : T.at_ ∈ edgesL x S.at_ := F.next (by omega)
      repeat' (first
        | with_reducible (first | apply WF.seq | refine At.code ?_ | apply At.thenNormal | apply At.thenRet | apply At.thenExit | apply At.thenGoto | apply At.inNormal | apply At.inRet | apply At.inGoto | apply At.inHit | apply At.noGotoNormal | apply At.noGotoRet | apply At.noGotoExit | apply WF.skip | apply WF.ret | apply WF.exit | apply WF.goto | apply WF.label | apply WF.block | apply WF.scope)
        | ((with_reducible apply At.inMiss); · rfl)
        | ((with_reducible intro hif); first | (focus (cases hif; done)) | (simp only [Bool.not_eq_true', Bool.not_eq_false', decide_eq_true_eq, decide_eq_false_iff_not, Bool.and_eq_true, Bool.or_eq_true] at hif; try (exfalso; omega)) | (try (exfalso; omega)))
        | ((first | ((with_reducible apply WF.region cOne_ok tab_ok); · rfl) | ((with_reducible apply WF.drawn fol cOne_ok tab_ok); · rfl) | with_reducible apply WF.cond)
           · simp only [push_cast, ↓Int.cast_ofNat_Int, ↓ofV_m1, ↓ofV_min, Nat.reduceAdd, Nat.reduceEqDiff, Nat.reduceLT, Nat.reduceMul, Nat.reduceLeDiff, reduceCtorEq, reduceIte, ls_zero, cOne, sAwake, sMade14, sMade18, sEnv, sDo, sSame1, sRepI, sDiffer, sNext, sEqSnd, sCont, arrV, arrV0, isSmall, isI_int, isI_nat, stS, made18V_of2, ls_prS2, ls_i64S2, ls_sndsS2, iOf, iOf, ← hPe, ← hSe, ← hVe, doTS, doTE, sta_eta, hT, hE, stB, ls_one, isIns_lit, insOf_lit, isIns_bl, List.all_cons, List.all_nil, eq_self, hA, sameB_refl, hxe, ls_regs, ls_sndsS2, Int.reduceLT, Int.reduceLE, Int.reduceEq, Int.reduceNeg, Nat.sub_zero, regsL_len, hN, hNL, Nat.sub_self, hn15, hTS, eqL_self, hEnd, g16, g17, f14, f15, hC, hop]; rfl
           try kernel_rfl
           try (focus ((first | exact True.intro | (simp only [and_self, implies_true, true_and, and_true, forall_const, false_implies, true_implies, Bool.not_eq_true', imp_self, shaped, shapedL, kndOf, ls_zero, cOne, sAwake, sMade14, sMade18, sEnv, sDo, sSame1, sRepI, sDiffer, sNext, sEqSnd, sCont, arrV, arrV0, isSmall, isI_int, isI_nat, stS, made18V_of2, ls_prS2, ls_i64S2, ls_sndsS2, iOf, iOf, ← hPe, ← hSe, ← hVe, doTS, doTE, sta_eta, hT, hE, stB, ls_one, isIns_lit, insOf_lit, isIns_bl, List.all_cons, List.all_nil, eq_self, hA, sameB_refl, hxe, ls_regs, ls_sndsS2, Int.reduceLT, Int.reduceLE, Int.reduceEq, Int.reduceNeg, Nat.sub_zero, regsL_len, hN, hNL, Nat.sub_self, hn15, hTS, eqL_self, hEnd, g16, g17, f14, f15, hC, hop]; done) | (simp only [and_self, implies_true, true_and, and_true, forall_const, false_implies, true_implies, Bool.not_eq_true', imp_self, shaped, shapedL, kndOf, ls_zero, cOne, sAwake, sMade14, sMade18, sEnv, sDo, sSame1, sRepI, sDiffer, sNext, sEqSnd, sCont, arrV, arrV0, isSmall, isI_int, isI_nat, stS, made18V_of2, ls_prS2, ls_i64S2, ls_sndsS2, iOf, iOf, ← hPe, ← hSe, ← hVe, doTS, doTE, sta_eta, hT, hE, stB, ls_one, isIns_lit, insOf_lit, isIns_bl, List.all_cons, List.all_nil, eq_self, hA, sameB_refl, hxe, ls_regs, ls_sndsS2, Int.reduceLT, Int.reduceLE, Int.reduceEq, Int.reduceNeg, Nat.sub_zero, regsL_len, hN, hNL, Nat.sub_self, hn15, hTS, eqL_self, hEnd, g16, g17, f14, f15, hC, hop]; (repeat' (first | assumption | exact True.intro | omega | apply And.intro))) | ((repeat' (first | assumption | exact True.intro | omega | apply And.intro)))); done)))
        | fail)
      apply At.endsRet tab_ok (fn := Try.f17) (rs := [.tmp 6]) Anc.refl hro (Nat.le_of_ble_eq_true rfl) rfl
      · simp only [push_cast, ↓Int.cast_ofNat_Int, ↓ofV_m1, ↓ofV_min, Nat.reduceAdd, Nat.reduceEqDiff, Nat.reduceLT, Nat.reduceMul, Nat.reduceLeDiff, reduceCtorEq, reduceIte, resV, resV1]; rfl
      · (first | trivial | (simp only [and_self]; done))
      · (repeat' (first | exact trivial | exact .same _ | exact .dead _ | exact .gone rfl | exact .loose | assumption | exact .arr (by assumption) | apply And.intro))
      · rfl
      · (first | exact trivial | (repeat' (first | exact trivial | exact rfl | assumption | exact prS_stable _ | exact i64S_stable _ | exact sndsS_stable _ | exact insS_stable _ | exact sndS_stable _ | exact hst _ _ | exact hst1 _ _ | exact hst2 _ _ | apply Stable.ite | apply And.intro | intro _ | (simp only [Stable, StableL, i64S, prS, insS, sndsS, sndS]; done))))
      · (repeat' (first | exact trivial | exact .inl rfl | exact .inr rfl | exact rfl | apply And.intro))
      · exact fun β => rfl
      · (first | exact trivial | (repeat' (first | exact trivial | exact rfl | assumption | exact prS_stable _ | exact i64S_stable _ | exact sndsS_stable _ | exact insS_stable _ | exact sndS_stable _ | exact hst _ _ | exact hst1 _ _ | exact hst2 _ _ | apply Stable.ite | apply And.intro | intro _ | (simp only [Stable, StableL, i64S, prS, insS, sndsS, sndS]; done))))
    · have g16 : (T.sends.length : Int) - (S.sends.length : Int) = 1 := by omega
      have g17 : T.draws - S.draws = 0 := by omega
      have hEnd : T.ended = false := by rw [F.ended]; exact decide_eq_false (by omega)
      have hC : T.at_ ∈ edgesL x S.at_ := F.next (by omega)
      repeat' (first
        | with_reducible (first | apply WF.seq | refine At.code ?_ | apply At.thenNormal | apply At.thenRet | apply At.thenExit | apply At.thenGoto | apply At.inNormal | apply At.inRet | apply At.inGoto | apply At.inHit | apply At.noGotoNormal | apply At.noGotoRet | apply At.noGotoExit | apply WF.skip | apply WF.ret | apply WF.exit | apply WF.goto | apply WF.label | apply WF.block | apply WF.scope)
        | ((with_reducible apply At.inMiss); · rfl)
        | ((with_reducible intro hif); first | (focus (cases hif; done)) | (simp only [Bool.not_eq_true', Bool.not_eq_false', decide_eq_true_eq, decide_eq_false_iff_not, Bool.and_eq_true, Bool.or_eq_true] at hif; try (exfalso; omega)) | (try (exfalso; omega)))
        | ((first | ((with_reducible apply WF.region cOne_ok tab_ok); · rfl) | ((with_reducible apply WF.drawn fol cOne_ok tab_ok); · rfl) | with_reducible apply WF.cond)
           · simp only [push_cast, ↓Int.cast_ofNat_Int, ↓ofV_m1, ↓ofV_min, Nat.reduceAdd, Nat.reduceEqDiff, Nat.reduceLT, Nat.reduceMul, Nat.reduceLeDiff, reduceCtorEq, reduceIte, ls_zero, cOne, sAwake, sMade14, sMade18, sEnv, sDo, sSame1, sRepI, sDiffer, sNext, sEqSnd, sCont, arrV, arrV0, isSmall, isI_int, isI_nat, stS, made18V_of2, ls_prS2, ls_i64S2, ls_sndsS2, iOf, iOf, ← hPe, ← hSe, ← hVe, doTS, doTE, sta_eta, hT, hE, stB, ls_one, isIns_lit, insOf_lit, isIns_bl, List.all_cons, List.all_nil, eq_self, hA, sameB_refl, hxe, ls_regs, ls_sndsS2, Int.reduceLT, Int.reduceLE, Int.reduceEq, Int.reduceNeg, Nat.sub_zero, regsL_len, hN, hNL, Nat.sub_self, hn15, hTS, eqL_self, hEnd, g16, g17, f14, f15, hC, hop]; rfl
           try kernel_rfl
           try (focus ((first | exact True.intro | (simp only [and_self, implies_true, true_and, and_true, forall_const, false_implies, true_implies, Bool.not_eq_true', imp_self, shaped, shapedL, kndOf, ls_zero, cOne, sAwake, sMade14, sMade18, sEnv, sDo, sSame1, sRepI, sDiffer, sNext, sEqSnd, sCont, arrV, arrV0, isSmall, isI_int, isI_nat, stS, made18V_of2, ls_prS2, ls_i64S2, ls_sndsS2, iOf, iOf, ← hPe, ← hSe, ← hVe, doTS, doTE, sta_eta, hT, hE, stB, ls_one, isIns_lit, insOf_lit, isIns_bl, List.all_cons, List.all_nil, eq_self, hA, sameB_refl, hxe, ls_regs, ls_sndsS2, Int.reduceLT, Int.reduceLE, Int.reduceEq, Int.reduceNeg, Nat.sub_zero, regsL_len, hN, hNL, Nat.sub_self, hn15, hTS, eqL_self, hEnd, g16, g17, f14, f15, hC, hop]; done) | (simp only [and_self, implies_true, true_and, and_true, forall_const, false_implies, true_implies, Bool.not_eq_true', imp_self, shaped, shapedL, kndOf, ls_zero, cOne, sAwake, sMade14, sMade18, sEnv, sDo, sSame1, sRepI, sDiffer, sNext, sEqSnd, sCont, arrV, arrV0, isSmall, isI_int, isI_nat, stS, made18V_of2, ls_prS2, ls_i64S2, ls_sndsS2, iOf, iOf, ← hPe, ← hSe, ← hVe, doTS, doTE, sta_eta, hT, hE, stB, ls_one, isIns_lit, insOf_lit, isIns_bl, List.all_cons, List.all_nil, eq_self, hA, sameB_refl, hxe, ls_regs, ls_sndsS2, Int.reduceLT, Int.reduceLE, Int.reduceEq, Int.reduceNeg, Nat.sub_zero, regsL_len, hN, hNL, Nat.sub_self, hn15, hTS, eqL_self, hEnd, g16, g17, f14, f15, hC, hop]; (repeat' (first | assumption | exact True.intro | omega | apply And.intro))) | ((repeat' (first | assumption | exact True.intro | omega | apply And.intro)))); done)))
        | fail)
      apply At.endsRet tab_ok (fn := Try.f17) (rs := [.tmp 6]) Anc.refl hro (Nat.le_of_ble_eq_true rfl) rfl
      · simp only [push_cast, ↓Int.cast_ofNat_Int, ↓ofV_m1, ↓ofV_min, Nat.reduceAdd, Nat.reduceEqDiff, Nat.reduceLT, Nat.reduceMul, Nat.reduceLeDiff, reduceCtorEq, reduceIte, resV, resV1]; rfl
      · (first | trivial | (simp only [and_self]; done))
      · (repeat' (first | exact trivial | exact .same _ | exact .dead _ | exact .gone rfl | exact .loose | assumption | exact .arr (by assumption) | apply And.intro))
      · rfl
      · (first | exact trivial | (repeat' (first | exact trivial | exact rfl | assumption | exact prS_stable _ | exact i64S_stable _ | exact sndsS_stable _ | exact insS_stable _ | exact sndS_stable _ | exact hst _ _ | exact hst1 _ _ | exact hst2 _ _ | apply Stable.ite | apply And.intro | intro _ | (simp only [Stable, StableL, i64S, prS, insS, sndsS, sndS]; done))))
      · (repeat' (first | exact trivial | exact .inl rfl | exact .inr rfl | exact rfl | apply And.intro))
      · exact fun β => rfl
      · (first | exact trivial | (repeat' (first | exact trivial | exact rfl | assumption | exact prS_stable _ | exact i64S_stable _ | exact sndsS_stable _ | exact insS_stable _ | exact sndS_stable _ | exact hst _ _ | exact hst1 _ _ | exact hst2 _ _ | apply Stable.ite | apply And.intro | intro _ | (simp only [Stable, StableL, i64S, prS, insS, sndsS, sndS]; done))))
    · have g16 : (T.sends.length : Int) - (S.sends.length : Int) = 0 := by omega
      have g17 : T.draws - S.draws = 1 := by omega
      have hEnd : T.ended = false := by rw [F.ended]; exact decide_eq_false (by omega)
      have hC : T.at_ ∈ edgesL x S.at_ := F.next (by omega)
      repeat' (first
        | with_reducible (first | apply WF.seq | refine At.code ?_ | apply At.thenNormal | apply At.thenRet | apply At.thenExit | apply At.thenGoto | apply At.inNormal | apply At.inRet | apply At.inGoto | apply At.inHit | apply At.noGotoNormal | apply At.noGotoRet | apply At.noGotoExit | apply WF.skip | apply WF.ret | apply WF.exit | apply WF.goto | apply WF.label | apply WF.block | apply WF.scope)
        | ((with_reducible apply At.inMiss); · rfl)
        | ((with_reducible intro hif); first | (focus (cases hif; done)) | (simp only [Bool.not_eq_true', Bool.not_eq_false', decide_eq_true_eq, decide_eq_false_iff_not, Bool.and_eq_true, Bool.or_eq_true] at hif; try (exfalso; omega)) | (try (exfalso; omega)))
        | ((first | ((with_reducible apply WF.region cOne_ok tab_ok); · rfl) | ((with_reducible apply WF.drawn fol cOne_ok tab_ok); · rfl) | with_reducible apply WF.cond)
           · simp only [push_cast, ↓Int.cast_ofNat_Int, ↓ofV_m1, ↓ofV_min, Nat.reduceAdd, Nat.reduceEqDiff, Nat.reduceLT, Nat.reduceMul, Nat.reduceLeDiff, reduceCtorEq, reduceIte, ls_zero, cOne, sAwake, sMade14, sMade18, sEnv, sDo, sSame1, sRepI, sDiffer, sNext, sEqSnd, sCont, arrV, arrV0, isSmall, isI_int, isI_nat, stS, made18V_of2, ls_prS2, ls_i64S2, ls_sndsS2, iOf, iOf, ← hPe, ← hSe, ← hVe, doTS, doTE, sta_eta, hT, hE, stB, ls_one, isIns_lit, insOf_lit, isIns_bl, List.all_cons, List.all_nil, eq_self, hA, sameB_refl, hxe, ls_regs, ls_sndsS2, Int.reduceLT, Int.reduceLE, Int.reduceEq, Int.reduceNeg, Nat.sub_zero, regsL_len, hN, hNL, Nat.sub_self, hn15, hTS, eqL_self, hEnd, g16, g17, f14, f15, hC, hop]; rfl
           try kernel_rfl
           try (focus ((first | exact True.intro | (simp only [and_self, implies_true, true_and, and_true, forall_const, false_implies, true_implies, Bool.not_eq_true', imp_self, shaped, shapedL, kndOf, ls_zero, cOne, sAwake, sMade14, sMade18, sEnv, sDo, sSame1, sRepI, sDiffer, sNext, sEqSnd, sCont, arrV, arrV0, isSmall, isI_int, isI_nat, stS, made18V_of2, ls_prS2, ls_i64S2, ls_sndsS2, iOf, iOf, ← hPe, ← hSe, ← hVe, doTS, doTE, sta_eta, hT, hE, stB, ls_one, isIns_lit, insOf_lit, isIns_bl, List.all_cons, List.all_nil, eq_self, hA, sameB_refl, hxe, ls_regs, ls_sndsS2, Int.reduceLT, Int.reduceLE, Int.reduceEq, Int.reduceNeg, Nat.sub_zero, regsL_len, hN, hNL, Nat.sub_self, hn15, hTS, eqL_self, hEnd, g16, g17, f14, f15, hC, hop]; done) | (simp only [and_self, implies_true, true_and, and_true, forall_const, false_implies, true_implies, Bool.not_eq_true', imp_self, shaped, shapedL, kndOf, ls_zero, cOne, sAwake, sMade14, sMade18, sEnv, sDo, sSame1, sRepI, sDiffer, sNext, sEqSnd, sCont, arrV, arrV0, isSmall, isI_int, isI_nat, stS, made18V_of2, ls_prS2, ls_i64S2, ls_sndsS2, iOf, iOf, ← hPe, ← hSe, ← hVe, doTS, doTE, sta_eta, hT, hE, stB, ls_one, isIns_lit, insOf_lit, isIns_bl, List.all_cons, List.all_nil, eq_self, hA, sameB_refl, hxe, ls_regs, ls_sndsS2, Int.reduceLT, Int.reduceLE, Int.reduceEq, Int.reduceNeg, Nat.sub_zero, regsL_len, hN, hNL, Nat.sub_self, hn15, hTS, eqL_self, hEnd, g16, g17, f14, f15, hC, hop]; (repeat' (first | assumption | exact True.intro | omega | apply And.intro))) | ((repeat' (first | assumption | exact True.intro | omega | apply And.intro)))); done)))
        | fail)
      apply At.endsRet tab_ok (fn := Try.f17) (rs := [.tmp 6]) Anc.refl hro (Nat.le_of_ble_eq_true rfl) rfl
      · simp only [push_cast, ↓Int.cast_ofNat_Int, ↓ofV_m1, ↓ofV_min, Nat.reduceAdd, Nat.reduceEqDiff, Nat.reduceLT, Nat.reduceMul, Nat.reduceLeDiff, reduceCtorEq, reduceIte, resV, resV1]; rfl
      · (first | trivial | (simp only [and_self]; done))
      · (repeat' (first | exact trivial | exact .same _ | exact .dead _ | exact .gone rfl | exact .loose | assumption | exact .arr (by assumption) | apply And.intro))
      · rfl
      · (first | exact trivial | (repeat' (first | exact trivial | exact rfl | assumption | exact prS_stable _ | exact i64S_stable _ | exact sndsS_stable _ | exact insS_stable _ | exact sndS_stable _ | exact hst _ _ | exact hst1 _ _ | exact hst2 _ _ | apply Stable.ite | apply And.intro | intro _ | (simp only [Stable, StableL, i64S, prS, insS, sndsS, sndS]; done))))
      · (repeat' (first | exact trivial | exact .inl rfl | exact .inr rfl | exact rfl | apply And.intro))
      · exact fun β => rfl
      · (first | exact trivial | (repeat' (first | exact trivial | exact rfl | assumption | exact prS_stable _ | exact i64S_stable _ | exact sndsS_stable _ | exact insS_stable _ | exact sndS_stable _ | exact hst _ _ | exact hst1 _ _ | exact hst2 _ _ | apply Stable.ite | apply And.intro | intro _ | (simp only [Stable, StableL, i64S, prS, insS, sndsS, sndS]; done))))
    · by_cases hd : differI (regsL S.regs) (regsL T.regs) = 0
      · have g16 : (T.sends.length : Int) - (S.sends.length : Int) = 0 := by omega
        have g17 : T.draws - S.draws = 0 := by omega
        have hEnd : T.ended = false := by rw [F.ended]; exact decide_eq_false (by omega)
        have hC : T.at_ ∈ edgesL x S.at_ := F.next (by omega)
        repeat' (first
          | with_reducible (first | apply WF.seq | refine At.code ?_ | apply At.thenNormal | apply At.thenRet | apply At.thenExit | apply At.thenGoto | apply At.inNormal | apply At.inRet | apply At.inGoto | apply At.inHit | apply At.noGotoNormal | apply At.noGotoRet | apply At.noGotoExit | apply WF.skip | apply WF.ret | apply WF.exit | apply WF.goto | apply WF.label | apply WF.block | apply WF.scope)
          | ((with_reducible apply At.inMiss); · rfl)
          | ((with_reducible intro hif); first | (focus (cases hif; done)) | (simp only [Bool.not_eq_true', Bool.not_eq_false', decide_eq_true_eq, decide_eq_false_iff_not, Bool.and_eq_true, Bool.or_eq_true] at hif; try (exfalso; omega)) | (try (exfalso; omega)))
          | ((first | ((with_reducible apply WF.region cOne_ok tab_ok); · rfl) | ((with_reducible apply WF.drawn fol cOne_ok tab_ok); · rfl) | with_reducible apply WF.cond)
             · simp only [push_cast, ↓Int.cast_ofNat_Int, ↓ofV_m1, ↓ofV_min, Nat.reduceAdd, Nat.reduceEqDiff, Nat.reduceLT, Nat.reduceMul, Nat.reduceLeDiff, reduceCtorEq, reduceIte, ls_zero, cOne, sAwake, sMade14, sMade18, sEnv, sDo, sSame1, sRepI, sDiffer, sNext, sEqSnd, sCont, arrV, arrV0, isSmall, isI_int, isI_nat, stS, made18V_of2, ls_prS2, ls_i64S2, ls_sndsS2, iOf, iOf, ← hPe, ← hSe, ← hVe, doTS, doTE, sta_eta, hT, hE, stB, ls_one, isIns_lit, insOf_lit, isIns_bl, List.all_cons, List.all_nil, eq_self, hA, sameB_refl, hxe, ls_regs, ls_sndsS2, Int.reduceLT, Int.reduceLE, Int.reduceEq, Int.reduceNeg, Nat.sub_zero, regsL_len, hN, hNL, Nat.sub_self, hn15, hTS, eqL_self, hEnd, g16, g17, f14, f15, hC, hd, n1, n6, n7, n8, n9, n10, n11]; rfl
             try kernel_rfl
             try (focus ((first | exact True.intro | (simp only [and_self, implies_true, true_and, and_true, forall_const, false_implies, true_implies, Bool.not_eq_true', imp_self, shaped, shapedL, kndOf, ls_zero, cOne, sAwake, sMade14, sMade18, sEnv, sDo, sSame1, sRepI, sDiffer, sNext, sEqSnd, sCont, arrV, arrV0, isSmall, isI_int, isI_nat, stS, made18V_of2, ls_prS2, ls_i64S2, ls_sndsS2, iOf, iOf, ← hPe, ← hSe, ← hVe, doTS, doTE, sta_eta, hT, hE, stB, ls_one, isIns_lit, insOf_lit, isIns_bl, List.all_cons, List.all_nil, eq_self, hA, sameB_refl, hxe, ls_regs, ls_sndsS2, Int.reduceLT, Int.reduceLE, Int.reduceEq, Int.reduceNeg, Nat.sub_zero, regsL_len, hN, hNL, Nat.sub_self, hn15, hTS, eqL_self, hEnd, g16, g17, f14, f15, hC, hd, n1, n6, n7, n8, n9, n10, n11]; done) | (simp only [and_self, implies_true, true_and, and_true, forall_const, false_implies, true_implies, Bool.not_eq_true', imp_self, shaped, shapedL, kndOf, ls_zero, cOne, sAwake, sMade14, sMade18, sEnv, sDo, sSame1, sRepI, sDiffer, sNext, sEqSnd, sCont, arrV, arrV0, isSmall, isI_int, isI_nat, stS, made18V_of2, ls_prS2, ls_i64S2, ls_sndsS2, iOf, iOf, ← hPe, ← hSe, ← hVe, doTS, doTE, sta_eta, hT, hE, stB, ls_one, isIns_lit, insOf_lit, isIns_bl, List.all_cons, List.all_nil, eq_self, hA, sameB_refl, hxe, ls_regs, ls_sndsS2, Int.reduceLT, Int.reduceLE, Int.reduceEq, Int.reduceNeg, Nat.sub_zero, regsL_len, hN, hNL, Nat.sub_self, hn15, hTS, eqL_self, hEnd, g16, g17, f14, f15, hC, hd, n1, n6, n7, n8, n9, n10, n11]; (repeat' (first | assumption | exact True.intro | omega | apply And.intro))) | ((repeat' (first | assumption | exact True.intro | omega | apply And.intro)))); done)))
          | fail)
        apply At.endsRet tab_ok (fn := Try.f17) (rs := [.tmp 6]) Anc.refl hro (Nat.le_of_ble_eq_true rfl) rfl
        · simp only [push_cast, ↓Int.cast_ofNat_Int, ↓ofV_m1, ↓ofV_min, Nat.reduceAdd, Nat.reduceEqDiff, Nat.reduceLT, Nat.reduceMul, Nat.reduceLeDiff, reduceCtorEq, reduceIte, resV, resV1]; rfl
        · (first | trivial | (simp only [and_self]; done))
        · (repeat' (first | exact trivial | exact .same _ | exact .dead _ | exact .gone rfl | exact .loose | assumption | exact .arr (by assumption) | apply And.intro))
        · rfl
        · (first | exact trivial | (repeat' (first | exact trivial | exact rfl | assumption | exact prS_stable _ | exact i64S_stable _ | exact sndsS_stable _ | exact insS_stable _ | exact sndS_stable _ | exact hst _ _ | exact hst1 _ _ | exact hst2 _ _ | apply Stable.ite | apply And.intro | intro _ | (simp only [Stable, StableL, i64S, prS, insS, sndsS, sndS]; done))))
        · (repeat' (first | exact trivial | exact .inl rfl | exact .inr rfl | exact rfl | apply And.intro))
        · exact fun β => rfl
        · (first | exact trivial | (repeat' (first | exact trivial | exact rfl | assumption | exact prS_stable _ | exact i64S_stable _ | exact sndsS_stable _ | exact insS_stable _ | exact sndS_stable _ | exact hst _ _ | exact hst1 _ _ | exact hst2 _ _ | apply Stable.ite | apply And.intro | intro _ | (simp only [Stable, StableL, i64S, prS, insS, sndsS, sndS]; done))))
      · have hg := f18 hd
        have g16 : (T.sends.length : Int) - (S.sends.length : Int) = 0 := by omega
        have g17 : T.draws - S.draws = 0 := by omega
        have hEnd : T.ended = false := by rw [F.ended]; exact decide_eq_false (by omega)
        have hC : T.at_ ∈ edgesL x S.at_ := F.next (by omega)
        repeat' (first
          | with_reducible (first | apply WF.seq | refine At.code ?_ | apply At.thenNormal | apply At.thenRet | apply At.thenExit | apply At.thenGoto | apply At.inNormal | apply At.inRet | apply At.inGoto | apply At.inHit | apply At.noGotoNormal | apply At.noGotoRet | apply At.noGotoExit | apply WF.skip | apply WF.ret | apply WF.exit | apply WF.goto | apply WF.label | apply WF.block | apply WF.scope)
          | ((with_reducible apply At.inMiss); · rfl)
          | ((with_reducible intro hif); first | (focus (cases hif; done)) | (simp only [Bool.not_eq_true', Bool.not_eq_false', decide_eq_true_eq, decide_eq_false_iff_not, Bool.and_eq_true, Bool.or_eq_true] at hif; try (exfalso; omega)) | (try (exfalso; omega)))
          | ((first | ((with_reducible apply WF.region cOne_ok tab_ok); · rfl) | ((with_reducible apply WF.drawn fol cOne_ok tab_ok); · rfl) | with_reducible apply WF.cond)
             · simp only [push_cast, ↓Int.cast_ofNat_Int, ↓ofV_m1, ↓ofV_min, Nat.reduceAdd, Nat.reduceEqDiff, Nat.reduceLT, Nat.reduceMul, Nat.reduceLeDiff, reduceCtorEq, reduceIte, ls_zero, cOne, sAwake, sMade14, sMade18, sEnv, sDo, sSame1, sRepI, sDiffer, sNext, sEqSnd, sCont, arrV, arrV0, isSmall, isI_int, isI_nat, stS, made18V_of2, ls_prS2, ls_i64S2, ls_sndsS2, iOf, iOf, ← hPe, ← hSe, ← hVe, doTS, doTE, sta_eta, hT, hE, stB, ls_one, isIns_lit, insOf_lit, isIns_bl, List.all_cons, List.all_nil, eq_self, hA, sameB_refl, hxe, ls_regs, ls_sndsS2, Int.reduceLT, Int.reduceLE, Int.reduceEq, Int.reduceNeg, Nat.sub_zero, regsL_len, hN, hNL, Nat.sub_self, hn15, hTS, eqL_self, hEnd, g16, g17, f14, f15, hC, hd, hg, n1, n6, n7, n8, n9, n10, n11]; rfl
             try kernel_rfl
             try (focus ((first | exact True.intro | (simp only [and_self, implies_true, true_and, and_true, forall_const, false_implies, true_implies, Bool.not_eq_true', imp_self, shaped, shapedL, kndOf, ls_zero, cOne, sAwake, sMade14, sMade18, sEnv, sDo, sSame1, sRepI, sDiffer, sNext, sEqSnd, sCont, arrV, arrV0, isSmall, isI_int, isI_nat, stS, made18V_of2, ls_prS2, ls_i64S2, ls_sndsS2, iOf, iOf, ← hPe, ← hSe, ← hVe, doTS, doTE, sta_eta, hT, hE, stB, ls_one, isIns_lit, insOf_lit, isIns_bl, List.all_cons, List.all_nil, eq_self, hA, sameB_refl, hxe, ls_regs, ls_sndsS2, Int.reduceLT, Int.reduceLE, Int.reduceEq, Int.reduceNeg, Nat.sub_zero, regsL_len, hN, hNL, Nat.sub_self, hn15, hTS, eqL_self, hEnd, g16, g17, f14, f15, hC, hd, hg, n1, n6, n7, n8, n9, n10, n11]; done) | (simp only [and_self, implies_true, true_and, and_true, forall_const, false_implies, true_implies, Bool.not_eq_true', imp_self, shaped, shapedL, kndOf, ls_zero, cOne, sAwake, sMade14, sMade18, sEnv, sDo, sSame1, sRepI, sDiffer, sNext, sEqSnd, sCont, arrV, arrV0, isSmall, isI_int, isI_nat, stS, made18V_of2, ls_prS2, ls_i64S2, ls_sndsS2, iOf, iOf, ← hPe, ← hSe, ← hVe, doTS, doTE, sta_eta, hT, hE, stB, ls_one, isIns_lit, insOf_lit, isIns_bl, List.all_cons, List.all_nil, eq_self, hA, sameB_refl, hxe, ls_regs, ls_sndsS2, Int.reduceLT, Int.reduceLE, Int.reduceEq, Int.reduceNeg, Nat.sub_zero, regsL_len, hN, hNL, Nat.sub_self, hn15, hTS, eqL_self, hEnd, g16, g17, f14, f15, hC, hd, hg, n1, n6, n7, n8, n9, n10, n11]; (repeat' (first | assumption | exact True.intro | omega | apply And.intro))) | ((repeat' (first | assumption | exact True.intro | omega | apply And.intro)))); done)))
          | fail)
        apply At.endsRet tab_ok (fn := Try.f17) (rs := [.tmp 6]) Anc.refl hro (Nat.le_of_ble_eq_true rfl) rfl
        · simp only [push_cast, ↓Int.cast_ofNat_Int, ↓ofV_m1, ↓ofV_min, Nat.reduceAdd, Nat.reduceEqDiff, Nat.reduceLT, Nat.reduceMul, Nat.reduceLeDiff, reduceCtorEq, reduceIte, resV, resV1]; rfl
        · (first | trivial | (simp only [and_self]; done))
        · (repeat' (first | exact trivial | exact .same _ | exact .dead _ | exact .gone rfl | exact .loose | assumption | exact .arr (by assumption) | apply And.intro))
        · rfl
        · (first | exact trivial | (repeat' (first | exact trivial | exact rfl | assumption | exact prS_stable _ | exact i64S_stable _ | exact sndsS_stable _ | exact insS_stable _ | exact sndS_stable _ | exact hst _ _ | exact hst1 _ _ | exact hst2 _ _ | apply Stable.ite | apply And.intro | intro _ | (simp only [Stable, StableL, i64S, prS, insS, sndsS, sndS]; done))))
        · (repeat' (first | exact trivial | exact .inl rfl | exact .inr rfl | exact rfl | apply And.intro))
        · exact fun β => rfl
        · (first | exact trivial | (repeat' (first | exact trivial | exact rfl | assumption | exact prS_stable _ | exact i64S_stable _ | exact sndsS_stable _ | exact insS_stable _ | exact sndS_stable _ | exact hst _ _ | exact hst1 _ _ | exact hst2 _ _ | apply Stable.ite | apply And.intro | intro _ | (simp only [Stable, StableL, i64S, prS, insS, sndsS, sndS]; done))))
  · have hTz : T = zeroSt := by rw [← hT]; exact top_zero (by rw [hE]; exact h0)
    have hz : sameB T ⟨0, false, fun _ => 0, [], 0, []⟩ = true := by subst hTz; exact sameB_refl _
    repeat' (first
      | with_reducible (first | apply WF.seq | refine At.code ?_ | apply At.thenNormal | apply At.thenRet | apply At.thenExit | apply At.thenGoto | apply At.inNormal | apply At.inRet | apply At.inGoto | apply At.inHit | apply At.noGotoNormal | apply At.noGotoRet | apply At.noGotoExit | apply WF.skip | apply WF.ret | apply WF.exit | apply WF.goto | apply WF.label | apply WF.block | apply WF.scope)
      | ((with_reducible apply At.inMiss); · rfl)
      | ((with_reducible intro hif); first | (focus (cases hif; done)) | (simp only [Bool.not_eq_true', Bool.not_eq_false', decide_eq_true_eq, decide_eq_false_iff_not, Bool.and_eq_true, Bool.or_eq_true] at hif; try (exfalso; omega)) | (try (exfalso; omega)))
      | ((first | ((with_reducible apply WF.region cOne_ok tab_ok); · rfl) | ((with_reducible apply WF.drawn fol cOne_ok tab_ok); · rfl) | with_reducible apply WF.cond)
         · simp only [push_cast, ↓Int.cast_ofNat_Int, ↓ofV_m1, ↓ofV_min, Nat.reduceAdd, Nat.reduceEqDiff, Nat.reduceLT, Nat.reduceMul, Nat.reduceLeDiff, reduceCtorEq, reduceIte, ls_zero, cOne, sAwake, sMade14, sMade18, sEnv, sDo, sSame1, sRepI, sDiffer, sNext, sEqSnd, sCont, arrV, arrV0, isSmall, isI_int, isI_nat, stS, made18V_of2, ls_prS2, ls_i64S2, ls_sndsS2, iOf, iOf, ← hPe, ← hSe, ← hVe, doTS, doTE, sta_eta, hT, hE, stB, ls_one, isIns_lit, insOf_lit, isIns_bl, List.all_cons, List.all_nil, eq_self, Int.reduceLT, Int.reduceLE, Int.reduceEq, Int.reduceNeg, hA, h0, hz, sameB_refl, hxe]; rfl
         try kernel_rfl
         try (focus ((first | exact True.intro | (simp only [and_self, implies_true, true_and, and_true, forall_const, false_implies, true_implies, Bool.not_eq_true', imp_self, shaped, shapedL, kndOf, ls_zero, cOne, sAwake, sMade14, sMade18, sEnv, sDo, sSame1, sRepI, sDiffer, sNext, sEqSnd, sCont, arrV, arrV0, isSmall, isI_int, isI_nat, stS, made18V_of2, ls_prS2, ls_i64S2, ls_sndsS2, iOf, iOf, ← hPe, ← hSe, ← hVe, doTS, doTE, sta_eta, hT, hE, stB, ls_one, isIns_lit, insOf_lit, isIns_bl, List.all_cons, List.all_nil, eq_self, Int.reduceLT, Int.reduceLE, Int.reduceEq, Int.reduceNeg, hA, h0, hz, sameB_refl, hxe]; done) | (simp only [and_self, implies_true, true_and, and_true, forall_const, false_implies, true_implies, Bool.not_eq_true', imp_self, shaped, shapedL, kndOf, ls_zero, cOne, sAwake, sMade14, sMade18, sEnv, sDo, sSame1, sRepI, sDiffer, sNext, sEqSnd, sCont, arrV, arrV0, isSmall, isI_int, isI_nat, stS, made18V_of2, ls_prS2, ls_i64S2, ls_sndsS2, iOf, iOf, ← hPe, ← hSe, ← hVe, doTS, doTE, sta_eta, hT, hE, stB, ls_one, isIns_lit, insOf_lit, isIns_bl, List.all_cons, List.all_nil, eq_self, Int.reduceLT, Int.reduceLE, Int.reduceEq, Int.reduceNeg, hA, h0, hz, sameB_refl, hxe]; (repeat' (first | assumption | exact True.intro | omega | apply And.intro))) | ((repeat' (first | assumption | exact True.intro | omega | apply And.intro)))); done)))
      | fail)
    apply At.endsRet tab_ok (fn := Try.f17) (rs := [.tmp 6]) Anc.refl hro (Nat.le_of_ble_eq_true rfl) rfl
    · simp only [push_cast, ↓Int.cast_ofNat_Int, ↓ofV_m1, ↓ofV_min, Nat.reduceAdd, Nat.reduceEqDiff, Nat.reduceLT, Nat.reduceMul, Nat.reduceLeDiff, reduceCtorEq, reduceIte, resV, resV1]; rfl
    · (first | trivial | (simp only [and_self]; done))
    · (repeat' (first | exact trivial | exact .same _ | exact .dead _ | exact .gone rfl | exact .loose | assumption | exact .arr (by assumption) | apply And.intro))
    · rfl
    · (first | exact trivial | (repeat' (first | exact trivial | exact rfl | assumption | exact prS_stable _ | exact i64S_stable _ | exact sndsS_stable _ | exact insS_stable _ | exact sndS_stable _ | exact hst _ _ | exact hst1 _ _ | exact hst2 _ _ | apply Stable.ite | apply And.intro | intro _ | (simp only [Stable, StableL, i64S, prS, insS, sndsS, sndS]; done))))
    · (repeat' (first | exact trivial | exact .inl rfl | exact .inr rfl | exact rfl | apply And.intro))
    · exact fun β => rfl
    · (first | exact trivial | (repeat' (first | exact trivial | exact rfl | assumption | exact prS_stable _ | exact i64S_stable _ | exact sndsS_stable _ | exact insS_stable _ | exact sndS_stable _ | exact hst _ _ | exact hst1 _ _ | exact hst2 _ _ | apply Stable.ite | apply And.intro | intro _ | (simp only [Stable, StableL, i64S, prS, insS, sndsS, sndS]; done))))
end Go.Proofs.Ytmljmabbopkpiaa.Vm
end
