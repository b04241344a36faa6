import Derived.Test.YtmljmabbopkpiaaG4
import Derived.Test.YtmljmabbopkpiaaG6
import Derived.Test.YtmljmabbopkpiaaG7
import Derived.Test.YtmljmabbopkpiaaG8
import Derived.Test.YtmljmabbopkpiaaG10
import Derived.Lib.OthersKept
import Derived.Deep.RegionHeld3
import Derived.Test.YtmljmabbopkpiaaProg
import Derived.Deep.DeepCutAuto
import Derived.Deep.RegionLaw
import Derived.Handy
import Derived.BigQuiet
section
/- flow.edges, AppendSeq and Collect over it, as calls; flow.Next. -/
namespace Go.Proofs.Ytmljmabbopkpiaa.Vm
open Go.RowKit
attribute [local push_cast] runR opG gtmp gval gus opX tmpsOf tm tmO tmP restr look look2 tab tys zs ets eqB eqBL allB numOf ieq Int.cast_ofNat_Int Int.ofNat_zero beq_true beq_false frameOf ev evL ofV opV loadV noW pushF wrsL setH allBorn allGone HB.born HB.isGone HB.val SV.plain dstOk hp nav fitsT SV.size sizeL SV.isAgg TK.size TK.agg bin binE binN binI arN arI cmpN cmpI keq kn narrow callV storeV setp fillV buildV buildSliceV makeV sliceV appendV copyV List.isEmpty_nil srcV evO asN ite_t ite_f ite_bool ite_int ite_nat maxV v_beq v_ble v_blt cond_true cond_false List.getElem?_cons_zero List.getElem?_cons_succ List.getD_cons_zero List.getD_cons_succ List.getD_nil List.length_cons List.length_nil List.take_succ_cons List.take_zero List.set_cons_zero List.set_cons_succ List.cons_append List.nil_append List.append_assoc List.replicate_succ List.replicate_zero Nat.zero_add Nat.add_zero decide_true decide_false Bool.true_and Bool.and_true Bool.false_and Bool.and_false Bool.true_or Bool.or_true Bool.false_or Bool.or_false beq_self_eq_true Bool.or_self Nat.lt_irrefl Nat.not_lt_zero Nat.le_refl Option.getD_some Option.getD_none BEq.rfl Bool.not_true Bool.not_false Bool.cond_true_left Bool.cond_false_right
set_option linter.unusedVariables false
set_option linter.unusedSimpArgs false
set_option maxRecDepth 100000
set_option maxHeartbeats 4000000

/-- what two boxes hold: instructions and a place; its edges -/
def edgesE (h : HM) (m a b : Nat) : Option Eff := match (h a).val, (h b).val with
  | some (.sl z i [] 5 0 n (some p)), some (.int .i64 x) => match (h i).val with
    | some (.arr n' 5 f) => bif Nat.beq n n' && (h z).born then
        some (0 ≤ x ∧ x.toNat < n ∧ n ≤ 1000000 ∧ (∀ q, q < n → isIns (f q) = true) ∧ ((ls insOf n f).getD x.toNat ⟨0, 0, 0, 0, 0⟩).ok,
          .sl m m [] 1 0 (edgesL ((ls insOf n f).getD x.toNat ⟨0, 0, 0, 0, 0⟩) x).length none, [a, b, i, z],
          [(m, .own 3 (.arr (edgesL ((ls insOf n f).getD x.toNat ⟨0, 0, 0, 0, 0⟩) x).length 1 (i64S (edgesL ((ls insOf n f).getD x.toNat ⟨0, 0, 0, 0, 0⟩) x))) false)]) else none
    | _ => none
  | _, _ => none
theorem prS_ren (ρ : Nat → Nat) (xs : List Ins) : (fun q => (prS xs q).ren ρ) = prS xs := by
  funext q; unfold prS; simp only [insS, SV.ren, renL]
theorem i64S_ren (ρ : Nat → Nat) (xs : List Int) : (fun q => (i64S xs q).ren ρ) = i64S xs := by
  funext q; unfold i64S; simp only [SV.ren]
theorem arr_cl {β : Env} {n k : Nat} {f g : Nat → SV} (h : ∀ q, q < n → (f q).cl β = (g q).cl β) : (SV.arr n k f).cl β = (SV.arr n k g).cl β := by
  have e : (List.range n).flatMap (fun i => fit k (((f i).den β).cells.toList.map sane)) = (List.range n).flatMap (fun i => fit k (((g i).den β).cells.toList.map sane)) := by
    rw [List.flatMap_def, List.flatMap_def]
    exact congrArg List.flatten (List.map_congr_left fun q hq => congrArg (fit k) (h q (List.mem_range.1 hq)))
  simp only [SV.cl, SV.den, e]
theorem edges_call {f : FuncId} {args : List SV} {w0 w : World} {M : Nat → Prop} {β : Env} {h h' : HM} {m a b : Nat} {c : Prop} {v : SV} {rd : List Nat} {wr : List (Nat × HB)}
    (he : edgesE h m a b = some (c, v, rd, wr)) (hc : c) (hm : ∀ i, m ≤ i → h i = .dead) (R : Rep w0 M β h' w) (hrd : ∀ i ∈ rd, h' i = h i) (hwr : ∀ p ∈ wr, h' p.1 = h p.1)
    (vals : List SV) (hvals : vals = renL (rhoL [0, 0, 0, a, b] m) args) (hst : ∀ hh, (∀ i, i < 5 → (hh i).born = true) → StableL hh args)
    (hren : ∀ ρ ρ' : Nat → Nat, ρ 0 = ρ' 0 → ρ 3 = ρ' 3 → ρ 4 = ρ' 4 → renL ρ args = renL ρ' args)
    (H : ∀ (xs : List Ins) (i : Int) (_ : 0 ≤ i) (_ : i.toNat < xs.length) (_ : xs.length ≤ 1000000) (cap : Nat) (x : Ins) (_ : x.ok) (_ : xs.getD i.toNat ⟨0, 0, 0, 0, 0⟩ = x), LitOk Try.prog f args
      [.gone, .gone, .ro (.arr xs.length 5 (prS xs)), .ro (.sl 1 2 [] 5 0 xs.length (some cap)), .ro (.int .i64 i)]
      (.sl 5 5 [] 1 0 (edgesL x i).length none) [.gone, .gone, .gone, .gone, .gone, .own 3 (.arr (edgesL x i).length 1 (i64S (edgesL x i))) false]) :
    Calls Try.prog f (denL β vals).toArray w fun e w' => ∃ β', (∀ i, (h' i).born = true → β i = β' i) ∧ Rep w0 M β' (wrs h' wr) w' ∧ Stable (wrs h' wr) v ∧ e = .returned (v.den β') := by
  unfold edgesE at he
  split at he
  · rename_i z i n p x ha hb
    split at he
    · rename_i n' g hi
      obtain ⟨hbz, he2⟩ := bif_some he
      clear he
      simp only [Bool.and_eq_true] at hbz
      obtain ⟨hn, hz⟩ := hbz
      have hn := Nat.eq_of_beq_eq_true hn
      subst hn
      simp only [Option.some.injEq, Prod.mk.injEq] at he2
      obtain ⟨rfl, rfl, rfl, rfl⟩ := he2
      obtain ⟨h0, h1, h2, h3, h4⟩ := hc
      have ea : h' a = h a := hrd a (by simp)
      have eb : h' b = h b := hrd b (by simp)
      have ei : h' i = h i := hrd i (by simp)
      have ez : h' z = h z := hrd z (by simp)
      have H1 := H (ls insOf n g) x h0 (by rw [ls_length]; exact h1) (by rw [ls_length]; exact h2) p _ h4 rfl
      have hlen : (ls insOf n g).length = n := ls_length ..
      have hfit : FitL (rhoL [0, z, i, a, b] m) h' [.gone, .gone, .ro (.arr (ls insOf n g).length 5 (prS (ls insOf n g))), .ro (.sl 1 2 [] 5 0 (ls insOf n g).length (some p)), .ro (.int .i64 x)] [0, z, i, a, b] := by
        have born : ∀ {j u}, (h j).val = some u → (h j).born = true := fun {j u} hj => by
          cases hh : h j <;> rw [hh] at hj <;> first | rfl | (cases hj; done)
        refine ⟨.gone ?_, .gone (by rw [ez]; exact hz), .ro (u := .arr n 5 g) (by rw [ei]; exact hi) (fun β => ?_) (fun n1 k1 f1 e => ?_), .ro (u := .sl z i [] 5 0 n (some p)) (by rw [ea]; exact ha) (fun β => ?_) (fun n1 k1 f1 e => ?_), .ro (u := .int .i64 x) (by rw [eb]; exact hb) (fun β => rfl) (fun n1 k1 f1 e => ?_), trivial⟩
        · rw [R.nil0]; rfl
        · simp only [SV.ren, prS_ren, hlen]
          refine arr_cl fun q hq => ?_
          rw [isIns_cl (h3 q hq)]
          unfold prS
          rw [isIns_cl (isIns_insS _), insOf_insS]
          congr 1
          simp [ls, hq]
        · simp only [SV.ren, hlen, SV.arr.injEq] at e
          obtain ⟨rfl, rfl, _⟩ := e
          exact ⟨_, rfl⟩
        · simp [SV.ren, rhoL, hlen]
        · simp [SV.ren] at e
        · simp [SV.ren] at e
      subst hvals
      rw [hren (rhoL [0, 0, 0, a, b] m) (rhoL [0, z, i, a, b] m) (by simp [rhoL]) (by simp [rhoL]) (by simp [rhoL])]
      have C := callG (L1 := [.gone, .gone, .gone, .gone, .gone, .own 3 (.arr (edgesL ((ls insOf n g).getD x.toNat ⟨0, 0, 0, 0, 0⟩) x).length 1 (i64S (edgesL ((ls insOf n g).getD x.toNat ⟨0, 0, 0, 0, 0⟩) x))) false]) (h := h) (m := m) [0, z, i, a, b] H1 R rfl (by simp) rfl rfl rfl hfit hm (by simpa [newB, rhoL] using hwr) (by simp)
        (by simp [StableH, HB.stable, Stable, hp, HB.born, i64S_stable, prS_stable])
        (hst _ (by intro i hi; rcases i with _ | _ | _ | _ | _ | i <;> first | rfl | omega))
        (by simp [NewL, HB.stable, Stable, HB.isRo, i64S_stable])
        (by simp [Stable, hG, hp, HB.born])
      refine C.mono fun e w' he => ?_
      simpa [newB, rhoL, HB.ren, SV.ren, i64S_ren] using he
    · cases he
  · cases he

theorem edges_lit (n p : Nat) (x : Int) : LitOk Try.prog 95 [.sl 1 2 [] 5 0 n (some p), .int .i64 x] [.gone, .gone, .gone] (.fn 123 [.ptr 3 [], .ptr 4 []]) [.gone, .gone, .gone, .own 25 (.sl 1 2 [] 5 0 n (some p)) true, .own 3 (.int .i64 x) true] := by
  refine litOkM (fn := Try.f95) 3 6 0 rfl rfl rfl rfl rfl (by simp only [StableL, Stable, hp]; simp [HB.born]) rfl fun w0 M E hro => ?_
  repeat' (first
    | with_reducible (first | apply WF.seq | refine At.code ?_ | apply At.thenNormal | apply At.thenRet | apply At.thenExit | apply At.thenGoto | apply At.inNormal | apply At.inRet | apply At.inGoto | apply At.inHit | apply At.noGotoNormal | apply At.noGotoRet | apply At.noGotoExit | apply WF.skip | apply WF.ret | apply WF.exit | apply WF.goto | apply WF.label | apply WF.block | apply WF.scope)
    | ((with_reducible apply At.inMiss); · rfl)
    | ((with_reducible intro hif); first | (focus (cases hif; done)) | (simp only [Bool.not_eq_true', Bool.not_eq_false', decide_eq_true_eq, decide_eq_false_iff_not, Bool.and_eq_true, Bool.or_eq_true] at hif; try (exfalso; omega)) | (try (exfalso; omega)))
    | ((first | ((with_reducible apply WF.region cEd_ok tab_ok); · rfl) | ((with_reducible apply WF.drawn fol cEd_ok tab_ok); · rfl) | with_reducible apply WF.cond)
       · simp only [push_cast, ↓Int.cast_ofNat_Int, ↓ofV_m1, ↓ofV_min, Nat.reduceAdd, Nat.reduceEqDiff, Nat.reduceLT, Nat.reduceMul, Nat.reduceLeDiff, reduceCtorEq, reduceIte]; rfl
       try kernel_rfl
       try (focus ((first | exact True.intro | (simp only [and_self, implies_true, true_and, and_true, forall_const, false_implies, true_implies, Bool.not_eq_true', imp_self, shaped, shapedL, kndOf]; done) | (simp only [and_self, implies_true, true_and, and_true, forall_const, false_implies, true_implies, Bool.not_eq_true', imp_self, shaped, shapedL, kndOf]; (repeat' (first | assumption | exact True.intro | omega | apply And.intro))) | ((repeat' (first | assumption | exact True.intro | omega | apply And.intro)))); done)))
    | fail)
  apply At.endsRet tab_ok (fn := Try.f95) (rs := [.tmp 4]) Anc.refl hro (Nat.le_of_ble_eq_true rfl) rfl
  · simp only [push_cast, ↓Int.cast_ofNat_Int, ↓ofV_m1, ↓ofV_min, Nat.reduceAdd, Nat.reduceEqDiff, Nat.reduceLT, Nat.reduceMul, Nat.reduceLeDiff, reduceCtorEq, reduceIte, resV, resV1]; rfl
  · (first | trivial | (simp only [and_self]; done))
  · (repeat' (first | exact trivial | exact .same _ | exact .dead _ | exact .gone rfl | exact .loose | assumption | exact .arr (by assumption) | apply And.intro))
  · rfl
  · (first | exact trivial | (repeat' (first | exact trivial | exact rfl | assumption | exact prS_stable _ | exact i64S_stable _ | exact sndsS_stable _ | exact insS_stable _ | exact sndS_stable _ | exact hst _ _ | exact hst1 _ _ | exact hst2 _ _ | apply Stable.ite | apply And.intro | intro _ | (simp only [Stable, StableL, i64S, prS, insS, sndsS, sndS]; done))))
  · (repeat' (first | exact trivial | exact .inl rfl | exact .inr rfl | exact rfl | apply And.intro))
  · exact fun β => rfl
  · (first | exact trivial | (repeat' (first | exact trivial | exact rfl | assumption | exact prS_stable _ | exact i64S_stable _ | exact sndsS_stable _ | exact insS_stable _ | exact sndS_stable _ | exact hst _ _ | exact hst1 _ _ | exact hst2 _ _ | apply Stable.ite | apply And.intro | intro _ | (simp only [Stable, StableL, i64S, prS, insS, sndsS, sndS]; done))))
def sEdges : Spec := fun args h m => match args with
  | [.sl z i [] 5 0 n (some p), .int .i64 x] => bif (h z).born && (h i).born then some (True, .fn 123 [.ptr m [], .ptr (m + 1) []], [z, i], [(m, .own 25 (.sl z i [] 5 0 n (some p)) true), (m + 1, .own 3 (.int .i64 x) true)]) else none
  | _ => none
theorem sEdges_ok : CallOk Try.prog 95 sEdges := by
  refine ⟨named_spec (by kernel_rfl), fun args h m c v rd wr hs hm hc w0 M β h' w R hrd hwr hst => ?_⟩
  unfold sEdges at hs
  split at hs
  · rename_i z i n p x
    obtain ⟨hb, hs2⟩ := bif_some hs
    clear hs
    simp only [Bool.and_eq_true] at hb
    obtain ⟨hz, hi⟩ := hb
    simp only [Option.some.injEq, Prod.mk.injEq] at hs2
    obtain ⟨rfl, rfl, rfl, rfl⟩ := hs2
    have ei : h' i = h i := hrd i (by simp)
    have ez : h' z = h z := hrd z (by simp)
    have C := callG (L1 := [.gone, .gone, .gone, .own 25 (.sl 1 2 [] 5 0 n (some p)) true, .own 3 (.int .i64 x) true]) (h := h) (m := m) [0, z, i] (edges_lit n p x) R rfl (by simp) rfl rfl rfl
      ⟨.gone (by rw [R.nil0]; rfl), .gone (by rw [ez]; exact hz), .gone (by rw [ei]; exact hi), trivial⟩ hm (by simpa [newB, rhoL] using hwr) (by simp)
      (by simp [StableH, HB.stable]) (by simp [StableL, Stable, hp, HB.born]) (by simp [NewL, HB.stable, Stable, HB.isRo, hG, hp, HB.born]) (by simp [Stable, StableL, hG, hp, HB.born])
    have e0 : renL (rhoL [0, z, i] m) [SV.sl 1 2 [] 5 0 n (some p), .int .i64 x] = [.sl z i [] 5 0 n (some p), .int .i64 x] := by simp [renL, SV.ren, rhoL]
    rw [e0] at C
    refine C.mono fun e w' he => ?_
    simpa [newB, rhoL, HB.ren, SV.ren, renL] using he
  · cases hs
def sAps : Spec := fun args h m => match args with
  | [.sl 0 0 [] 0 0 0 (some 0), .fn 123 [.ptr a [], .ptr b []]] => edgesE h m a b
  | _ => none
theorem sAps_ok : CallOk Try.prog 122 sAps := by
  refine ⟨named_spec (by kernel_rfl), fun args h m c v rd wr hs hm hc w0 M β h' w R hrd hwr hst => ?_⟩
  unfold sAps at hs
  split at hs
  · rename_i a b
    refine edges_call hs hc hm R hrd hwr _ (args := [.sl 0 0 [] 0 0 0 (some 0), .fn 123 [.ptr 3 [], .ptr 4 []]]) ?_ ?_ ?_ appSeq_lit
    · simp [renL, SV.ren, rhoL]
    · intro hh hb
      have b0 := hb 0 (by omega)
      have b3 := hb 3 (by omega)
      have b4 := hb 4 (by omega)
      simp [StableL, Stable, b0, b3, b4]
    · intro ρ ρ' e0 e3 e4
      simp only [renL, SV.ren, e0, e3, e4]
  · cases hs
def cAps : FuncId → Option Spec := look2 [(122, sAps)]
theorem cAps_ok : ∀ f S, cAps f = some S → CallOk Try.prog f S := allOk_spec ⟨sAps_ok, trivial⟩
theorem collect_lit (xs : List Ins) (i : Int) (hi : 0 ≤ i) (hn : i.toNat < xs.length) (hl : xs.length ≤ 1000000) (cap : Nat) (x : Ins) (hok : x.ok) (hX : xs.getD i.toNat ⟨0, 0, 0, 0, 0⟩ = x) : LitOk Try.prog 94 [.fn 123 [.ptr 3 [], .ptr 4 []]]
    [.gone, .gone, .ro (.arr xs.length 5 (prS xs)), .ro (.sl 1 2 [] 5 0 xs.length (some cap)), .ro (.int .i64 i)]
    (.sl 5 5 [] 1 0 (edgesL x i).length none) [.gone, .gone, .gone, .gone, .gone, .own 3 (.arr (edgesL x i).length 1 (i64S (edgesL x i))) false] := by
  refine litOkM (fn := Try.f94) 5 5 0 rfl rfl rfl rfl rfl (by simp only [StableL, Stable, hp]; simp [HB.born]) rfl fun w0 M E hro => ?_
  repeat' (first
    | with_reducible (first | apply WF.seq | refine At.code ?_ | apply At.thenNormal | apply At.thenRet | apply At.thenExit | apply At.thenGoto | apply At.inNormal | apply At.inRet | apply At.inGoto | apply At.inHit | apply At.noGotoNormal | apply At.noGotoRet | apply At.noGotoExit | apply WF.skip | apply WF.ret | apply WF.exit | apply WF.goto | apply WF.label | apply WF.block | apply WF.scope)
    | ((with_reducible apply At.inMiss); · rfl)
    | ((with_reducible intro hif); first | (focus (cases hif; done)) | (simp only [Bool.not_eq_true', Bool.not_eq_false', decide_eq_true_eq, decide_eq_false_iff_not, Bool.and_eq_true, Bool.or_eq_true] at hif; try (exfalso; omega)) | (try (exfalso; omega)))
    | ((first | ((with_reducible apply WF.region cAps_ok tab_ok); · rfl) | ((with_reducible apply WF.drawn fol cAps_ok tab_ok); · rfl) | with_reducible apply WF.cond)
       · simp only [push_cast, ↓Int.cast_ofNat_Int, ↓ofV_m1, ↓ofV_min, Nat.reduceAdd, Nat.reduceEqDiff, Nat.reduceLT, Nat.reduceMul, Nat.reduceLeDiff, reduceCtorEq, reduceIte, cAps, sAps, edgesE, ls_prS, ls_prS', HB.val]; rfl
       try kernel_rfl
       try (focus ((first | exact True.intro | (simp only [and_self, implies_true, true_and, and_true, forall_const, false_implies, true_implies, Bool.not_eq_true', imp_self, shaped, shapedL, kndOf, cAps, sAps, edgesE, ls_prS, ls_prS', HB.val]; done) | (simp only [and_self, implies_true, true_and, and_true, forall_const, false_implies, true_implies, Bool.not_eq_true', imp_self, shaped, shapedL, kndOf, cAps, sAps, edgesE, ls_prS, ls_prS', HB.val]; (first | exact ⟨hi, hn, hl, fun q _ => rfl, by rw [hX]; exact hok⟩ | (repeat' (first | assumption | exact True.intro | omega | apply And.intro)))) | ((first | exact ⟨hi, hn, hl, fun q _ => rfl, by rw [hX]; exact hok⟩ | (repeat' (first | assumption | exact True.intro | omega | apply And.intro))))); done)))
    | fail)
  rw [hX]
  apply At.endsRet tab_ok (fn := Try.f94) (rs := [.tmp 2]) Anc.refl hro (Nat.le_of_ble_eq_true rfl) rfl
  · simp only [push_cast, ↓Int.cast_ofNat_Int, ↓ofV_m1, ↓ofV_min, Nat.reduceAdd, Nat.reduceEqDiff, Nat.reduceLT, Nat.reduceMul, Nat.reduceLeDiff, reduceCtorEq, reduceIte, resV, resV1]; rfl
  · (first | trivial | (simp only [and_self]; done))
  · (repeat' (first | exact trivial | exact .same _ | exact .dead _ | exact .gone rfl | exact .loose | assumption | exact .arr (by assumption) | apply And.intro))
  · rfl
  · (first | exact trivial | (repeat' (first | exact trivial | exact rfl | assumption | exact prS_stable _ | exact i64S_stable _ | exact sndsS_stable _ | exact insS_stable _ | exact sndS_stable _ | exact hst _ _ | exact hst1 _ _ | exact hst2 _ _ | apply Stable.ite | apply And.intro | intro _ | (simp only [Stable, StableL, i64S, prS, insS, sndsS, sndS]; done))))
  · (repeat' (first | exact trivial | exact .inl rfl | exact .inr rfl | exact rfl | apply And.intro))
  · exact fun β => rfl
  · (first | exact trivial | (repeat' (first | exact trivial | exact rfl | assumption | exact prS_stable _ | exact i64S_stable _ | exact sndsS_stable _ | exact insS_stable _ | exact sndS_stable _ | exact hst _ _ | exact hst1 _ _ | exact hst2 _ _ | apply Stable.ite | apply And.intro | intro _ | (simp only [Stable, StableL, i64S, prS, insS, sndsS, sndS]; done))))
def sCollect : Spec := fun args h m => match args with
  | [.fn 123 [.ptr a [], .ptr b []]] => edgesE h m a b
  | _ => none
theorem sCollect_ok : CallOk Try.prog 94 sCollect := by
  refine ⟨named_spec (by kernel_rfl), fun args h m c v rd wr hs hm hc w0 M β h' w R hrd hwr hst => ?_⟩
  unfold sCollect at hs
  split at hs
  · rename_i a b
    refine edges_call hs hc hm R hrd hwr _ (args := [.fn 123 [.ptr 3 [], .ptr 4 []]]) ?_ ?_ ?_ collect_lit
    · simp [renL, SV.ren, rhoL]
    · intro hh hb
      have b3 := hb 3 (by omega)
      have b4 := hb 4 (by omega)
      simp [StableL, Stable, b3, b4]
    · intro ρ ρ' e0 e3 e4
      simp only [renL, SV.ren, e3, e4]
  · cases hs
def cNext : FuncId → Option Spec := look2 [(93, sRight), (95, sEdges), (94, sCollect)]
theorem cNext_ok : ∀ f S, cNext f = some S → CallOk Try.prog f S := allOk_spec ⟨sRight_ok, sEdges_ok, sCollect_ok, trivial⟩
def nextE (p : List Ins) (i : Int) : Int := if rightI p ≠ 0 then rightI p else if i < 0 ∨ (p.length : Int) ≤ i then 2 else 0
def nextL (p : List Ins) (i : Int) : List Int := if nextE p i ≠ 0 then [] else edgesL (p.getD i.toNat ⟨0, 0, 0, 0, 0⟩) i
theorem next_lit (xs : List Ins) (p1 : Nat) (x2 : Int) (hx : ∀ x ∈ xs, x.ok) (hl : xs.length ≤ 1000000) : LitOk Try.prog 51 [.sl 1 2 [] 5 0 xs.length (some p1), .int .i64 x2] [.gone, .gone, .ro (.arr xs.length 5 (prS xs))]
    (.tup [.sl 3 3 [] 1 0 (nextL xs x2).length none, .int .i64 (nextE xs x2)]) [.gone, .gone, .gone, .own 3 (.arr (nextL xs x2).length 1 (i64S (nextL xs x2))) false] := by
  refine litOkM (fn := Try.f51) 3 24 0 rfl rfl rfl rfl rfl (by simp only [StableL, Stable, hp]; simp [HB.born]) rfl fun w0 M E hro => ?_
  by_cases h1 : rightI xs = 0
  · by_cases h2 : x2 < 0
    · have e1 : nextE xs x2 = 2 := by simp [nextE, h1, h2]
      have e2 : nextL xs x2 = [] := by simp [nextL, e1]
      rw [e1, e2]
      repeat' (first
        | with_reducible (first | apply WF.seq | refine At.code ?_ | apply At.thenNormal | apply At.thenRet | apply At.thenExit | apply At.thenGoto | apply At.inNormal | apply At.inRet | apply At.inGoto | apply At.inHit | apply At.noGotoNormal | apply At.noGotoRet | apply At.noGotoExit | apply WF.skip | apply WF.ret | apply WF.exit | apply WF.goto | apply WF.label | apply WF.block | apply WF.scope)
        | ((with_reducible apply At.inMiss); · rfl)
        | ((with_reducible intro hif); first | (focus (cases hif; done)) | (simp only [Bool.not_eq_true', Bool.not_eq_false', decide_eq_true_eq, decide_eq_false_iff_not, Bool.and_eq_true, Bool.or_eq_true] at hif; try (exfalso; omega)) | (try (exfalso; omega)))
        | ((first | ((with_reducible apply WF.region cNext_ok tab_ok); · rfl) | ((with_reducible apply WF.drawn fol cNext_ok tab_ok); · rfl) | with_reducible apply WF.cond)
           · simp only [push_cast, ↓Int.cast_ofNat_Int, ↓ofV_m1, ↓ofV_min, Nat.reduceAdd, Nat.reduceEqDiff, Nat.reduceLT, Nat.reduceMul, Nat.reduceLeDiff, reduceCtorEq, reduceIte, cNext, sRight, ls_prS, ls_prS', h1, h2]; rfl
           try kernel_rfl
           try (focus ((first | exact True.intro | (simp only [and_self, implies_true, true_and, and_true, forall_const, false_implies, true_implies, Bool.not_eq_true', imp_self, shaped, shapedL, kndOf, cNext, sRight, ls_prS, ls_prS', h1, h2]; done) | (simp only [and_self, implies_true, true_and, and_true, forall_const, false_implies, true_implies, Bool.not_eq_true', imp_self, shaped, shapedL, kndOf, cNext, sRight, ls_prS, ls_prS', h1, h2]; (first | first | exact ⟨fun q _ => rfl, hx, by omega⟩ | exact ⟨by omega, by omega, by omega, fun q _ => rfl, hxk⟩ | (repeat' (first | assumption | exact True.intro | omega | apply And.intro)))) | ((first | first | exact ⟨fun q _ => rfl, hx, by omega⟩ | exact ⟨by omega, by omega, by omega, fun q _ => rfl, hxk⟩ | (repeat' (first | assumption | exact True.intro | omega | apply And.intro))))); done)))
        | fail)
      refine At.nil 4 3 1 (i64S []) rfl (fun h q => i64S_stable q) ?_
      apply At.endsPick [0, 1, 2, 3] tab_ok (fn := Try.f51) (rs := [.tmp 4, .tmp 5]) Anc.refl hro (Nat.le_of_ble_eq_true rfl) rfl
      · simp only [push_cast, ↓Int.cast_ofNat_Int, ↓ofV_m1, ↓ofV_min, Nat.reduceAdd, Nat.reduceEqDiff, Nat.reduceLT, Nat.reduceMul, Nat.reduceLeDiff, reduceCtorEq, reduceIte, resV, resV1]; rfl
      · (focus ((first | exact True.intro | (simp only [and_self, implies_true, true_and, and_true, forall_const, false_implies, true_implies, Bool.not_eq_true', imp_self, shaped, shapedL, kndOf]; done) | (simp only [and_self, implies_true, true_and, and_true, forall_const, false_implies, true_implies, Bool.not_eq_true', imp_self, shaped, shapedL, kndOf]; (repeat' (first | assumption | exact True.intro | omega | apply And.intro))) | ((repeat' (first | assumption | exact True.intro | omega | apply And.intro)))); done))
      · rfl
      · rfl
      · rfl
      · (repeat' (first | exact trivial | exact .inl rfl | exact .inr (.same _) | exact .inr .loose | exact .inr (.arr (by assumption)) | apply And.intro | exact .inr (.arr fun q hq => absurd hq (Nat.not_lt_zero q))))
      · rfl
      · (first | exact trivial | (repeat' (first | exact trivial | exact rfl | assumption | exact prS_stable _ | exact i64S_stable _ | exact sndsS_stable _ | exact insS_stable _ | exact sndS_stable _ | exact hst _ _ | exact hst1 _ _ | exact hst2 _ _ | apply Stable.ite | apply And.intro | intro _ | (simp only [Stable, StableL, i64S, prS, insS, sndsS, sndS]; done))))
      · (repeat' (first | exact trivial | exact .inl rfl | exact .inr rfl | exact rfl | apply And.intro))
      · exact fun β => rfl
      · (first | exact trivial | (repeat' (first | exact trivial | exact rfl | assumption | exact prS_stable _ | exact i64S_stable _ | exact sndsS_stable _ | exact insS_stable _ | exact sndS_stable _ | exact hst _ _ | exact hst1 _ _ | exact hst2 _ _ | apply Stable.ite | apply And.intro | intro _ | (simp only [Stable, StableL, i64S, prS, insS, sndsS, sndS]; done))))
    · by_cases h3 : (xs.length : Int) ≤ x2
      · have e1 : nextE xs x2 = 2 := by simp [nextE, h1, h2, h3]
        have e2 : nextL xs x2 = [] := by simp [nextL, e1]
        rw [e1, e2]
        repeat' (first
          | with_reducible (first | apply WF.seq | refine At.code ?_ | apply At.thenNormal | apply At.thenRet | apply At.thenExit | apply At.thenGoto | apply At.inNormal | apply At.inRet | apply At.inGoto | apply At.inHit | apply At.noGotoNormal | apply At.noGotoRet | apply At.noGotoExit | apply WF.skip | apply WF.ret | apply WF.exit | apply WF.goto | apply WF.label | apply WF.block | apply WF.scope)
          | ((with_reducible apply At.inMiss); · rfl)
          | ((with_reducible intro hif); first | (focus (cases hif; done)) | (simp only [Bool.not_eq_true', Bool.not_eq_false', decide_eq_true_eq, decide_eq_false_iff_not, Bool.and_eq_true, Bool.or_eq_true] at hif; try (exfalso; omega)) | (try (exfalso; omega)))
          | ((first | ((with_reducible apply WF.region cNext_ok tab_ok); · rfl) | ((with_reducible apply WF.drawn fol cNext_ok tab_ok); · rfl) | with_reducible apply WF.cond)
             · simp only [push_cast, ↓Int.cast_ofNat_Int, ↓ofV_m1, ↓ofV_min, Nat.reduceAdd, Nat.reduceEqDiff, Nat.reduceLT, Nat.reduceMul, Nat.reduceLeDiff, reduceCtorEq, reduceIte, cNext, sRight, ls_prS, ls_prS', h1, h2, h3]; rfl
             try kernel_rfl
             try (focus ((first | exact True.intro | (simp only [and_self, implies_true, true_and, and_true, forall_const, false_implies, true_implies, Bool.not_eq_true', imp_self, shaped, shapedL, kndOf, cNext, sRight, ls_prS, ls_prS', h1, h2, h3]; done) | (simp only [and_self, implies_true, true_and, and_true, forall_const, false_implies, true_implies, Bool.not_eq_true', imp_self, shaped, shapedL, kndOf, cNext, sRight, ls_prS, ls_prS', h1, h2, h3]; (first | first | exact ⟨fun q _ => rfl, hx, by omega⟩ | exact ⟨by omega, by omega, by omega, fun q _ => rfl, hxk⟩ | (repeat' (first | assumption | exact True.intro | omega | apply And.intro)))) | ((first | first | exact ⟨fun q _ => rfl, hx, by omega⟩ | exact ⟨by omega, by omega, by omega, fun q _ => rfl, hxk⟩ | (repeat' (first | assumption | exact True.intro | omega | apply And.intro))))); done)))
          | fail)
        refine At.nil 4 3 1 (i64S []) rfl (fun h q => i64S_stable q) ?_
        apply At.endsPick [0, 1, 2, 3] tab_ok (fn := Try.f51) (rs := [.tmp 4, .tmp 5]) Anc.refl hro (Nat.le_of_ble_eq_true rfl) rfl
        · simp only [push_cast, ↓Int.cast_ofNat_Int, ↓ofV_m1, ↓ofV_min, Nat.reduceAdd, Nat.reduceEqDiff, Nat.reduceLT, Nat.reduceMul, Nat.reduceLeDiff, reduceCtorEq, reduceIte, resV, resV1]; rfl
        · (focus ((first | exact True.intro | (simp only [and_self, implies_true, true_and, and_true, forall_const, false_implies, true_implies, Bool.not_eq_true', imp_self, shaped, shapedL, kndOf]; done) | (simp only [and_self, implies_true, true_and, and_true, forall_const, false_implies, true_implies, Bool.not_eq_true', imp_self, shaped, shapedL, kndOf]; (repeat' (first | assumption | exact True.intro | omega | apply And.intro))) | ((repeat' (first | assumption | exact True.intro | omega | apply And.intro)))); done))
        · rfl
        · rfl
        · rfl
        · (repeat' (first | exact trivial | exact .inl rfl | exact .inr (.same _) | exact .inr .loose | exact .inr (.arr (by assumption)) | apply And.intro | exact .inr (.arr fun q hq => absurd hq (Nat.not_lt_zero q))))
        · rfl
        · (first | exact trivial | (repeat' (first | exact trivial | exact rfl | assumption | exact prS_stable _ | exact i64S_stable _ | exact sndsS_stable _ | exact insS_stable _ | exact sndS_stable _ | exact hst _ _ | exact hst1 _ _ | exact hst2 _ _ | apply Stable.ite | apply And.intro | intro _ | (simp only [Stable, StableL, i64S, prS, insS, sndsS, sndS]; done))))
        · (repeat' (first | exact trivial | exact .inl rfl | exact .inr rfl | exact rfl | apply And.intro))
        · exact fun β => rfl
        · (first | exact trivial | (repeat' (first | exact trivial | exact rfl | assumption | exact prS_stable _ | exact i64S_stable _ | exact sndsS_stable _ | exact insS_stable _ | exact sndS_stable _ | exact hst _ _ | exact hst1 _ _ | exact hst2 _ _ | apply Stable.ite | apply And.intro | intro _ | (simp only [Stable, StableL, i64S, prS, insS, sndsS, sndS]; done))))
      · have e1 : nextE xs x2 = 0 := by simp [nextE, h1, h2, h3]
        have e2 : nextL xs x2 = edgesL (xs.getD x2.toNat ⟨0, 0, 0, 0, 0⟩) x2 := by simp [nextL, e1]
        rw [e1, e2]
        have hxk : (xs.getD x2.toNat ⟨0, 0, 0, 0, 0⟩).ok := by
          have hk : x2.toNat < xs.length := by omega
          simp only [List.getD_eq_getElem?_getD, List.getElem?_eq_getElem hk, Option.getD_some]
          exact hx _ (List.getElem_mem hk)
        repeat' (first
          | with_reducible (first | apply WF.seq | refine At.code ?_ | apply At.thenNormal | apply At.thenRet | apply At.thenExit | apply At.thenGoto | apply At.inNormal | apply At.inRet | apply At.inGoto | apply At.inHit | apply At.noGotoNormal | apply At.noGotoRet | apply At.noGotoExit | apply WF.skip | apply WF.ret | apply WF.exit | apply WF.goto | apply WF.label | apply WF.block | apply WF.scope)
          | ((with_reducible apply At.inMiss); · rfl)
          | ((with_reducible intro hif); first | (focus (cases hif; done)) | (simp only [Bool.not_eq_true', Bool.not_eq_false', decide_eq_true_eq, decide_eq_false_iff_not, Bool.and_eq_true, Bool.or_eq_true] at hif; try (exfalso; omega)) | (try (exfalso; omega)))
          | ((first | ((with_reducible apply WF.region cNext_ok tab_ok); · rfl) | ((with_reducible apply WF.drawn fol cNext_ok tab_ok); · rfl) | with_reducible apply WF.cond)
             · simp only [push_cast, ↓Int.cast_ofNat_Int, ↓ofV_m1, ↓ofV_min, Nat.reduceAdd, Nat.reduceEqDiff, Nat.reduceLT, Nat.reduceMul, Nat.reduceLeDiff, reduceCtorEq, reduceIte, cNext, sRight, sEdges, sCollect, edgesE, ls_prS, ls_prS', HB.val, h1, h2, h3]; rfl
             try kernel_rfl
             try (focus ((first | exact True.intro | (simp only [and_self, implies_true, true_and, and_true, forall_const, false_implies, true_implies, Bool.not_eq_true', imp_self, shaped, shapedL, kndOf, cNext, sRight, sEdges, sCollect, edgesE, ls_prS, ls_prS', HB.val, h1, h2, h3]; done) | (simp only [and_self, implies_true, true_and, and_true, forall_const, false_implies, true_implies, Bool.not_eq_true', imp_self, shaped, shapedL, kndOf, cNext, sRight, sEdges, sCollect, edgesE, ls_prS, ls_prS', HB.val, h1, h2, h3]; (first | first | exact ⟨fun q _ => rfl, hx, by omega⟩ | exact ⟨by omega, by omega, by omega, fun q _ => rfl, hxk⟩ | (repeat' (first | assumption | exact True.intro | omega | apply And.intro)))) | ((first | first | exact ⟨fun q _ => rfl, hx, by omega⟩ | exact ⟨by omega, by omega, by omega, fun q _ => rfl, hxk⟩ | (repeat' (first | assumption | exact True.intro | omega | apply And.intro))))); done)))
          | fail)
        apply At.endsPick [0, 1, 2, 5] tab_ok (fn := Try.f51) (rs := [.tmp 4, .tmp 5]) Anc.refl hro (Nat.le_of_ble_eq_true rfl) rfl
        · simp only [push_cast, ↓Int.cast_ofNat_Int, ↓ofV_m1, ↓ofV_min, Nat.reduceAdd, Nat.reduceEqDiff, Nat.reduceLT, Nat.reduceMul, Nat.reduceLeDiff, reduceCtorEq, reduceIte, resV, resV1]; rfl
        · (focus ((first | exact True.intro | (simp only [and_self, implies_true, true_and, and_true, forall_const, false_implies, true_implies, Bool.not_eq_true', imp_self, shaped, shapedL, kndOf]; done) | (simp only [and_self, implies_true, true_and, and_true, forall_const, false_implies, true_implies, Bool.not_eq_true', imp_self, shaped, shapedL, kndOf]; (repeat' (first | assumption | exact True.intro | omega | apply And.intro))) | ((repeat' (first | assumption | exact True.intro | omega | apply And.intro)))); done))
        · rfl
        · rfl
        · rfl
        · (repeat' (first | exact trivial | exact .inl rfl | exact .inr (.same _) | exact .inr .loose | exact .inr (.arr (by assumption)) | apply And.intro | exact .inr (.arr fun q hq => rfl)))
        · rfl
        · (first | exact trivial | (repeat' (first | exact trivial | exact rfl | assumption | exact prS_stable _ | exact i64S_stable _ | exact sndsS_stable _ | exact insS_stable _ | exact sndS_stable _ | exact hst _ _ | exact hst1 _ _ | exact hst2 _ _ | apply Stable.ite | apply And.intro | intro _ | (simp only [Stable, StableL, i64S, prS, insS, sndsS, sndS]; done))))
        · (repeat' (first | exact trivial | exact .inl rfl | exact .inr rfl | exact rfl | apply And.intro))
        · exact fun β => rfl
        · (first | exact trivial | (repeat' (first | exact trivial | exact rfl | assumption | exact prS_stable _ | exact i64S_stable _ | exact sndsS_stable _ | exact insS_stable _ | exact sndS_stable _ | exact hst _ _ | exact hst1 _ _ | exact hst2 _ _ | apply Stable.ite | apply And.intro | intro _ | (simp only [Stable, StableL, i64S, prS, insS, sndsS, sndS]; done))))
  · have e1 : nextE xs x2 = rightI xs := by simp [nextE, h1]
    have e2 : nextL xs x2 = [] := by simp [nextL, e1, h1]
    rw [e1, e2]
    repeat' (first
      | with_reducible (first | apply WF.seq | refine At.code ?_ | apply At.thenNormal | apply At.thenRet | apply At.thenExit | apply At.thenGoto | apply At.inNormal | apply At.inRet | apply At.inGoto | apply At.inHit | apply At.noGotoNormal | apply At.noGotoRet | apply At.noGotoExit | apply WF.skip | apply WF.ret | apply WF.exit | apply WF.goto | apply WF.label | apply WF.block | apply WF.scope)
      | ((with_reducible apply At.inMiss); · rfl)
      | ((with_reducible intro hif); first | (focus (cases hif; done)) | (simp only [Bool.not_eq_true', Bool.not_eq_false', decide_eq_true_eq, decide_eq_false_iff_not, Bool.and_eq_true, Bool.or_eq_true] at hif; try (exfalso; omega)) | (try (exfalso; omega)))
      | ((first | ((with_reducible apply WF.region cNext_ok tab_ok); · rfl) | ((with_reducible apply WF.drawn fol cNext_ok tab_ok); · rfl) | with_reducible apply WF.cond)
         · simp only [push_cast, ↓Int.cast_ofNat_Int, ↓ofV_m1, ↓ofV_min, Nat.reduceAdd, Nat.reduceEqDiff, Nat.reduceLT, Nat.reduceMul, Nat.reduceLeDiff, reduceCtorEq, reduceIte, cNext, sRight, ls_prS, ls_prS', h1]; rfl
         try kernel_rfl
         try (focus ((first | exact True.intro | (simp only [and_self, implies_true, true_and, and_true, forall_const, false_implies, true_implies, Bool.not_eq_true', imp_self, shaped, shapedL, kndOf, cNext, sRight, ls_prS, ls_prS', h1]; done) | (simp only [and_self, implies_true, true_and, and_true, forall_const, false_implies, true_implies, Bool.not_eq_true', imp_self, shaped, shapedL, kndOf, cNext, sRight, ls_prS, ls_prS', h1]; (first | first | exact ⟨fun q _ => rfl, hx, by omega⟩ | exact ⟨by omega, by omega, by omega, fun q _ => rfl, hxk⟩ | (repeat' (first | assumption | exact True.intro | omega | apply And.intro)))) | ((first | first | exact ⟨fun q _ => rfl, hx, by omega⟩ | exact ⟨by omega, by omega, by omega, fun q _ => rfl, hxk⟩ | (repeat' (first | assumption | exact True.intro | omega | apply And.intro))))); done)))
      | fail)
    refine At.nil 4 3 1 (i64S []) rfl (fun h q => i64S_stable q) ?_
    apply At.endsPick [0, 1, 2, 3] tab_ok (fn := Try.f51) (rs := [.tmp 4, .tmp 5]) Anc.refl hro (Nat.le_of_ble_eq_true rfl) rfl
    · simp only [push_cast, ↓Int.cast_ofNat_Int, ↓ofV_m1, ↓ofV_min, Nat.reduceAdd, Nat.reduceEqDiff, Nat.reduceLT, Nat.reduceMul, Nat.reduceLeDiff, reduceCtorEq, reduceIte, resV, resV1]; rfl
    · (focus ((first | exact True.intro | (simp only [and_self, implies_true, true_and, and_true, forall_const, false_implies, true_implies, Bool.not_eq_true', imp_self, shaped, shapedL, kndOf]; done) | (simp only [and_self, implies_true, true_and, and_true, forall_const, false_implies, true_implies, Bool.not_eq_true', imp_self, shaped, shapedL, kndOf]; (repeat' (first | assumption | exact True.intro | omega | apply And.intro))) | ((repeat' (first | assumption | exact True.intro | omega | apply And.intro)))); done))
    · rfl
    · rfl
    · rfl
    · (repeat' (first | exact trivial | exact .inl rfl | exact .inr (.same _) | exact .inr .loose | exact .inr (.arr (by assumption)) | apply And.intro | exact .inr (.arr fun q hq => absurd hq (Nat.not_lt_zero q))))
    · rfl
    · (first | exact trivial | (repeat' (first | exact trivial | exact rfl | assumption | exact prS_stable _ | exact i64S_stable _ | exact sndsS_stable _ | exact insS_stable _ | exact sndS_stable _ | exact hst _ _ | exact hst1 _ _ | exact hst2 _ _ | apply Stable.ite | apply And.intro | intro _ | (simp only [Stable, StableL, i64S, prS, insS, sndsS, sndS]; done))))
    · (repeat' (first | exact trivial | exact .inl rfl | exact .inr rfl | exact rfl | apply And.intro))
    · exact fun β => rfl
    · (first | exact trivial | (repeat' (first | exact trivial | exact rfl | assumption | exact prS_stable _ | exact i64S_stable _ | exact sndsS_stable _ | exact insS_stable _ | exact sndS_stable _ | exact hst _ _ | exact hst1 _ _ | exact hst2 _ _ | apply Stable.ite | apply And.intro | intro _ | (simp only [Stable, StableL, i64S, prS, insS, sndsS, sndS]; done))))
def sNext : Spec := fun args h m => match args with
  | [v1, v2] => match srcV h 5 (.tup []) v1 with
    | some (c1, n1, f1, r1) => bif isI .i64 v2 then some (c1 ∧ (∀ q, q < n1 → isIns (f1 q) = true) ∧ ((∀ x ∈ (ls insOf n1 f1), x.ok)) ∧ (n1 ≤ 1000000), .tup [.sl m m [] 1 0 (nextL (ls insOf n1 f1) (iOf v2)).length none, .int .i64 (nextE (ls insOf n1 f1) (iOf v2))], r1, [(m, .own 3 (.arr (nextL (ls insOf n1 f1) (iOf v2)).length 1 (i64S (nextL (ls insOf n1 f1) (iOf v2)))) false)]) else none
    | _ => none
  | _ => none
theorem sNext_ok : CallOk Try.prog 51 sNext := by
  refine ⟨named_spec (by kernel_rfl), fun args h m c v rd wr hs hm hc w0 M β h' w R hrd hwr hst => ?_⟩
  unfold sNext at hs
  split at hs
  · rename_i v1 v2
    split at hs
    · rename_i c1 n1 f1 r1 a1
      obtain ⟨hb, hs⟩ := bif_some hs
      simp only [Option.some.injEq, Prod.mk.injEq] at hs
      obtain ⟨rfl, rfl, rfl, rfl⟩ := hs
      have b2 := hb
      obtain ⟨k1, g1, y1, y2⟩ := hc
      obtain ⟨A1, p1, d1, e1, t1⟩ := reads_src R a1 k1 (fun i hi => hrd i hi) (by omega)
      refine callRo (views := [⟨5, (ls insOf n1 f1).length, prS (ls insOf n1 f1), A1, p1⟩]) (next_lit (ls insOf n1 f1) p1 (iOf v2) y1 (by rw [ls_length]; exact y2)) ?_ R hm hwr ?_ ?_ ?_
      · intro x hx
        simp only [List.mem_cons, List.not_mem_nil, or_false] at hx
        subst hx
        · exact viewIns t1 e1 g1
      · intro β1 hv
        simp only [Vd, ls_length, and_true] at hv
        have z1 := hv
        simp only [denL, aggDen, intDen, natDen, boolDen, ls_length, z1, d1, isI_den b2]
      · (first | exact trivial | (repeat' (first | exact trivial | exact rfl | assumption | exact prS_stable _ | exact i64S_stable _ | exact sndsS_stable _ | exact insS_stable _ | exact sndS_stable _ | exact hst _ _ | exact hst1 _ _ | exact hst2 _ _ | apply Stable.ite | apply And.intro | intro _ | (simp only [Stable, StableL, i64S, prS, insS, sndsS, sndS]; done))))
      · (first | exact trivial | (repeat' (first | exact trivial | exact rfl | assumption | exact prS_stable _ | exact i64S_stable _ | exact sndsS_stable _ | exact insS_stable _ | exact sndS_stable _ | exact hst _ _ | exact hst1 _ _ | exact hst2 _ _ | apply Stable.ite | apply And.intro | intro _ | (simp only [Stable, StableL, i64S, prS, insS, sndsS, sndS]; done))))
    · cases hs
  · cases hs
end Go.Proofs.Ytmljmabbopkpiaa.Vm
end

section
/- fermatalaw14.Small: op and One. (printed by gen_one14.py) -/
namespace Go.Proofs.Ytmljmabbopkpiaa
open Go.RowKit
set_option linter.unusedVariables false
set_option linter.unusedSimpArgs false

/-! ### the Op of a small instruction: a Small has the fields of an instruction -/
def tbl14 : List Int := [3, 3, 3, 3, 3, 4, 5, 5, 5, 6, 6, 6, 7, 8, 8, 9, 10, 10, 10, 11, 11, 1, 2]
def op14 (o : Int) : Int := if o % 40 < 17 then 33 + o % 40 else tbl14.getD (o % 40 - 17).toNat 0
def tblV : Array Value := #[.int .u8 3, .int .u8 3, .int .u8 3, .int .u8 3, .int .u8 3, .int .u8 4, .int .u8 5, .int .u8 5, .int .u8 5, .int .u8 6, .int .u8 6, .int .u8 6, .int .u8 7, .int .u8 8, .int .u8 8, .int .u8 9, .int .u8 10, .int .u8 10, .int .u8 10, .int .u8 11, .int .u8 11, .int .u8 1, .int .u8 2]
theorem tblV_at (k : Nat) (h : k < 23) : tblV[k]? = some (.int .u8 (tbl14.getD k 0)) := by
  match k, h with
  | 0, _ => rfl
  | 1, _ => rfl
  | 2, _ => rfl
  | 3, _ => rfl
  | 4, _ => rfl
  | 5, _ => rfl
  | 6, _ => rfl
  | 7, _ => rfl
  | 8, _ => rfl
  | 9, _ => rfl
  | 10, _ => rfl
  | 11, _ => rfl
  | 12, _ => rfl
  | 13, _ => rfl
  | 14, _ => rfl
  | 15, _ => rfl
  | 16, _ => rfl
  | 17, _ => rfl
  | 18, _ => rfl
  | 19, _ => rfl
  | 20, _ => rfl
  | 21, _ => rfl
  | 22, _ => rfl
  | n + 23, h => exact absurd h (by omega)
theorem tblV_get (k : Nat) (h : k < ([.int .u8 3, .int .u8 3, .int .u8 3, .int .u8 3, .int .u8 3, .int .u8 4, .int .u8 5, .int .u8 5, .int .u8 5, .int .u8 6, .int .u8 6, .int .u8 6, .int .u8 7, .int .u8 8, .int .u8 8, .int .u8 9, .int .u8 10, .int .u8 10, .int .u8 10, .int .u8 11, .int .u8 11, .int .u8 1, .int .u8 2] : List Value).length) : ([.int .u8 3, .int .u8 3, .int .u8 3, .int .u8 3, .int .u8 3, .int .u8 4, .int .u8 5, .int .u8 5, .int .u8 5, .int .u8 6, .int .u8 6, .int .u8 6, .int .u8 7, .int .u8 8, .int .u8 8, .int .u8 9, .int .u8 10, .int .u8 10, .int .u8 10, .int .u8 11, .int .u8 11, .int .u8 1, .int .u8 2] : List Value)[k] = .int .u8 (tbl14.getD k 0) := by
  have := tblV_at k h
  unfold tblV at this
  rw [List.getElem?_toArray] at this
  exact Option.some.inj ((List.getElem?_eq_getElem h).symm.trans this)
theorem op14_bd (o : Int) : 1 ≤ op14 o ∧ op14 o ≤ 49 ∧ formC (op14 o) ≠ 0 := by
  unfold op14
  by_cases h : o % 40 < 17
  · rw [if_pos h]
    refine ⟨by omega, by omega, ?_⟩
    unfold formC
    rw [if_pos (by omega)]
    decide
  · rw [if_neg h]
    obtain ⟨k, hk, hk2⟩ : ∃ k : Nat, (o % 40 - 17).toNat = k ∧ k < 23 := ⟨_, rfl, by omega⟩
    rw [hk]
    match k, hk2 with
    | 0, _ => exact (by decide)
    | 1, _ => exact (by decide)
    | 2, _ => exact (by decide)
    | 3, _ => exact (by decide)
    | 4, _ => exact (by decide)
    | 5, _ => exact (by decide)
    | 6, _ => exact (by decide)
    | 7, _ => exact (by decide)
    | 8, _ => exact (by decide)
    | 9, _ => exact (by decide)
    | 10, _ => exact (by decide)
    | 11, _ => exact (by decide)
    | 12, _ => exact (by decide)
    | 13, _ => exact (by decide)
    | 14, _ => exact (by decide)
    | 15, _ => exact (by decide)
    | 16, _ => exact (by decide)
    | 17, _ => exact (by decide)
    | 18, _ => exact (by decide)
    | 19, _ => exact (by decide)
    | 20, _ => exact (by decide)
    | 21, _ => exact (by decide)
    | 22, _ => exact (by decide)
    | n + 23, h => exact absurd h (by omega)
set_option maxRecDepth 100000 in
set_option maxHeartbeats 1000000 in
theorem op14_c (x : Ins) (hx : x.ok) (w : World) : Calls Try.prog 96 #[x.v] w fun e w' => e = .returned (.int .u8 (op14 x.op)) ∧ Below w.heap.size w w' := by
  obtain ⟨o0, o1, -, -, -, -, -, -, -, -⟩ := hx
  obtain ⟨op, a, b, c, n⟩ := x
  dsimp only at o0 o1 ⊢
  unfold Ins.v
  dsimp only
  have m1 : Int.tmod op 40 = op % 40 := Int.tmod_eq_emod_of_nonneg o0
  have hv : op14 op = if op % 40 < 17 then 33 + op % 40 else tbl14.getD (op % 40 - 17).toNat 0 := rfl
  obtain ⟨M, hM⟩ : ∃ M, M = op % 40 := ⟨_, rfl⟩
  have hM0 : 0 ≤ M ∧ M < 40 := by omega
  rw [← hM] at m1 hv
  have hM' : op % 40 = M := hM.symm
  clear hM
  by_cases h : M < 17
  · rw [if_pos h] at hv
    rw [hv]
    have d1 := decide_eq_true h
    have w1 : IntKind.u8.wrap (33 + M) = 33 + M := IntWalk.u8_in _ (by omega)
    clear hv
    go_enter Try.func96, Try.ntmps96
    go_wp2_with fail
    go_ret
    exact ⟨rfl, (Below.refl _ w).alloc (Nat.le_refl _) _⟩
  · rw [if_neg h] at hv
    rw [hv]
    have d1 := decide_eq_false h
    have w1 : IntKind.u8.wrap (M - 17) = M - 17 := IntWalk.u8_in _ (by omega)
    obtain ⟨k, hk⟩ : ∃ k : Nat, M - 17 = k := ⟨(M - 17).toNat, by omega⟩
    have hk23 : k < 23 := by omega
    have hk0 : (0 : Int) ≤ (k : Int) := by omega
    have hk1 : (k : Int) < 23 := by omega
    rw [hk] at w1
    have hz : ((M - 17).toNat) = k := by omega
    rw [hz]
    have hb := tblV_get k
    obtain ⟨V, hV⟩ : ∃ V, V = tbl14.getD k 0 := ⟨_, rfl⟩
    rw [← hV] at hb ⊢
    clear hv hV hz h
    go_enter Try.func96, Try.ntmps96
    go_wp2_with fail
    go_ret
    exact ⟨rfl, ((Below.refl _ w).alloc (Nat.le_refl _) _).alloc (by simp) _⟩

/-! ### one small instruction -/
def fld14 (x : Ins) : Nat → Int | 0 => x.a | 1 => x.b | _ => x.c
def setF14 (i : Ins) (k : Nat) (v : Int) : Ins := match k with | 0 => { i with a := v } | 1 => { i with b := v } | _ => { i with c := v }
def step14 (x : Ins) (M : Int) (st : Nat × Ins) (l : UInt8) : Nat × Ins :=
  if l.toNat = 114 then (st.1 + 1, if st.1 < 3 then setF14 st.2 st.1 (fld14 x st.1 % 8) else st.2)
  else if l.toNat = 110 then (st.1, { st.2 with n := x.n })
  else if l.toNat = 112 then (st.1, { st.2 with n := IntKind.u64.wrap x.n % 16 })
  else (st.1, { st.2 with n := IntKind.u64.wrap x.n % M })
def fold14 (x : Ins) (M : Int) (S : ByteArray) (p : Nat) : Nat × Ins := (S.data.toList.take p).foldl (step14 x M) (0, ⟨op14 x.op, 0, 0, 0, 0⟩)
theorem fold14_succ (x : Ins) (M : Int) (S : ByteArray) (p : Nat) (h : p < S.size) : fold14 x M S (p + 1) = step14 x M (fold14 x M S p) (S[p]'h) := by
  unfold fold14
  rw [List.take_add_one]
  have : S.data.toList[p]? = some (S[p]'h) := by
    rw [Array.getElem?_toList]
    exact Array.getElem?_eq_getElem (show p < S.data.size from h)
  rw [this]
  simp
def itPos (S : ByteArray) (g : Nat) (X : World) : Nat := match X.heap[g]? with | some (.stringIter _ p) => S.size - p | _ => 0
theorem itPos_eq {S : ByteArray} {g p : Nat} {X : World} (h : X.heap[g]? = some (.stringIter S p)) : itPos S g X = S.size - p := by unfold itPos; rw [h]
structure MI (w : World) (B : Nat) (x : Ins) (S : ByteArray) (p : Nat) (out : Ins) (X : World) : Prop where
  it : X.heap[B + 2]? = some (.stringIter S p)
  b8 : Blk X B 28 #[.int .u8 out.op, .int .u8 out.a, .int .u8 out.b, .int .u8 out.c, .int .i64 out.n]
  b2 : Blk X w.heap.size 121 #[.int .u8 x.op, .int .u8 x.a, .int .u8 x.b, .int .u8 x.c, .int .i64 x.n]
  b9 : Blk X (B + 1) 187 #[.pointer (some ⟨B, 1, none⟩), .pointer (some ⟨B, 2, none⟩), .pointer (some ⟨B, 3, none⟩)]
  b4 : Blk X (w.heap.size + 1) 28 #[.int .u8 0, .int .u8 0, .int .u8 0, .int .u8 0, .int .i64 0]
  below : Below w.heap.size w X
section
variable {w X : World} {B : Nat} {x out : Ins} {S : ByteArray} {p : Nat}
theorem MI.next (h : MI w B x S p out X) (hB : w.heap.size + 1 < B) (q : Nat) : MI w B x S q out (X.iterAt (B + 2) S q) :=
  have f : ∀ {g t cs}, g ≠ B + 2 → Blk X g t cs → Blk (X.iterAt (B + 2) S q) g t cs := fun hg hb => (Lib.iterAt_other X (B + 2) _ S q hg).trans hb
  ⟨Lib.iterAt_heap X (B + 2) S p q h.it, f (by omega) h.b8, f (by omega) h.b2, f (by omega) h.b9, f (by omega) h.b4, Lib.below_iterAt h.below (by omega) S q⟩
theorem MI.alloc (h : MI w B x S p out X) (o : Obj) : MI w B x S p out (X.alloc o) :=
  ⟨(Below.heap_alloc X o _ (Array.getElem?_eq_some_iff.1 h.it).1).trans h.it, h.b8.alloc o, h.b2.alloc o, h.b9.alloc o, h.b4.alloc o, h.below.alloc h.below.size o⟩
theorem MI.drew (h : MI w B x S p out X) : MI w B x S p out X.drew := ⟨h.it, h.b8, h.b2, h.b9, h.b4, h.below.drew⟩
theorem MI.drewN (h : MI w B x S p out X) (n : Nat) : MI w B x S p out (X.drewN n) := ⟨h.it, h.b8, h.b2, h.b9, h.b4, below_drewNm h.below n⟩
theorem MI.set (h : MI w B x S p out X) (hB : w.heap.size + 1 < B) (i : Nat) (u : Value) (out' : Ins) (ho : (#[.int .u8 out.op, .int .u8 out.a, .int .u8 out.b, .int .u8 out.c, .int .i64 out.n] : Array Value).setIfInBounds i u = #[.int .u8 out'.op, .int .u8 out'.a, .int .u8 out'.b, .int .u8 out'.c, .int .i64 out'.n]) :
    MI w B x S p out' (X.setCell ⟨B, i, none⟩ u) :=
  ⟨(Below.heap_setCell X ⟨B, i, none⟩ u (B + 2) (by show B + 2 ≠ B; omega)).trans h.it, ho ▸ h.b8.set_ i u, h.b2.far (p := ⟨B, i, none⟩) (by show w.heap.size ≠ B; omega) u, h.b9.far (p := ⟨B, i, none⟩) (by show B + 1 ≠ B; omega) u, h.b4.far (p := ⟨B, i, none⟩) (by show w.heap.size + 1 ≠ B; omega) u, h.below.setCell (p := ⟨B, i, none⟩) (by show w.heap.size ≤ B; omega) u⟩
end
set_option maxRecDepth 100000 in
set_option maxHeartbeats 4000000 in
theorem one14_w (x : Ins) (hx : x.ok) (n : Int) (hn : 1 ≤ n ∧ n ≤ 1000000) (S : ByteArray) (hS : S.size ≤ 100) (hasc : ∀ p (h : p < S.size), (S[p]'h).toNat < 128) (w : World)
    (hform : ∀ w, Calls Try.prog 39 #[.int .u8 (op14 x.op)] w fun e w' => e = .returned (.tuple #[.string S, .bool true]) ∧ Below w.heap.size w w') :
    Calls Try.prog 54 #[x.v, .int .i64 n] w fun e w' => e = .returned (fold14 x n S S.size).2.v ∧ Below w.heap.size w w' := by
  have HOP := Lib.hid (fun W => op14_c x hx W)
  have HF := Lib.hid hform
  clear hform
  obtain ⟨o0, o1, a0, a1, b0, b1, c0, c1, n0, n1⟩ := hx
  have f0 : fold14 x n S 0 = (0, ⟨op14 x.op, 0, 0, 0, 0⟩) := by simp [fold14]
  have hfs := fun p h => fold14_succ x n S p h
  obtain ⟨op, hop⟩ : ∃ op, op = op14 x.op := ⟨_, rfl⟩
  rw [← hop] at HOP HF f0
  clear hop
  obtain ⟨F, hF⟩ : ∃ F, F = fold14 x n S := ⟨_, rfl⟩
  rw [← hF] at f0 hfs ⊢
  clear hF
  obtain ⟨x0, xa, xb, xc, xn⟩ := x
  unfold Ins.v at HOP ⊢
  dsimp only at o0 o1 a0 a1 b0 b1 c0 c1 n0 n1 HOP ⊢
  obtain ⟨U, hU⟩ : ∃ U, U = IntKind.u64.wrap xn := ⟨_, rfl⟩
  have hU0 := u64_bd xn
  rw [← hU] at hU0
  have HFS := Lib.hid hfs
  have HU := Lib.hid hU
  have u1 : IntKind.u64.wrap xn = U := hU.symm
  clear hfs hU
  go_enter Try.func54, Try.ntmps54
  go_upto_region 1 with fail
  have hA0 : AW w [] [] w := ⟨Below.refl _ _, by simp, by simp⟩
  have hA1 := (hA0.put 121 #[.int .u8 x0, .int .u8 xa, .int .u8 xb, .int .u8 xc, .int .i64 xn]).put' (g := w.heap.size + 1) 28 #[.int .u8 0, .int .u8 0, .int .u8 0, .int .u8 0, .int .i64 0] (by simp)
  obtain ⟨W, hW⟩ : ∃ W, W = ((w.alloc (.cells #[.int .u8 x0, .int .u8 xa, .int .u8 xb, .int .u8 xc, .int .i64 xn] 121)).alloc (.cells #[.int .u8 0, .int .u8 0, .int .u8 0, .int .u8 0, .int .i64 0] 28)) := ⟨_, rfl⟩
  rw [← hW] at hA1 ⊢
  clear hW hA0
  obtain ⟨⟨z0, z1, z2, z3, z4⟩, zf⟩ := blk5 (hA1.l _ (.tail _ (.head _)))
  dsimp only at z0 z1 z2 z3 z4
  clear zf
  go_wp2_with fail
  clear z0 z1 z2 z3 z4
  go_at_call 96
  refine (HOP.out W).mono ?_
  rintro e W1 ⟨rfl, hb⟩
  have hA2 := hA1.call hb
  clear hb hA1 HOP
  go_wp2_with fail
  go_at_call 39
  refine (HF.out W1).mono ?_
  rintro e W2 ⟨rfl, hb⟩
  have hA3 := hA2.call hb
  clear hb hA2 HF
  go_upto_region 5 with fail
  have hA4 := (hA3.put 28 #[.int .u8 op, .int .u8 0, .int .u8 0, .int .u8 0, .int .i64 0]).put' (g := W2.heap.size + 1) 187 #[.pointer (some ⟨W2.heap.size, 1, none⟩), .pointer (some ⟨W2.heap.size, 2, none⟩), .pointer (some ⟨W2.heap.size, 3, none⟩)] (by simp)
  have hlt : w.heap.size + 1 < W2.heap.size := (hA3.l _ (.head _)).lt
  obtain ⟨W3, hW⟩ : ∃ W, W = ((W2.alloc (.cells #[.int .u8 op, .int .u8 0, .int .u8 0, .int .u8 0, .int .i64 0] 28)).alloc (.cells #[.pointer (some ⟨W2.heap.size, 1, none⟩), .pointer (some ⟨W2.heap.size, 2, none⟩), .pointer (some ⟨W2.heap.size, 3, none⟩)] 187)) := ⟨_, rfl⟩
  have hz3 : W3.heap.size = W2.heap.size + 2 := by rw [hW]; simp
  rw [← hW] at hA4 ⊢
  clear hW hA3
  obtain ⟨B, hB⟩ : ∃ B, B = W2.heap.size := ⟨_, rfl⟩
  rw [← hB] at hA4 hlt hz3 ⊢
  have hI0 : MI w B ⟨x0, xa, xb, xc, xn⟩ S 0 ⟨op, 0, 0, 0, 0⟩ (W3.iter S 0) := ⟨hz3 ▸ heap_alloc_new W3 _, (hA4.l _ (.tail _ (.head _))).alloc _, (hA4.l _ (.tail _ (.tail _ (.tail _ (.head _))))).alloc _, (hA4.l _ (.head _)).alloc _, (hA4.l _ (.tail _ (.tail _ (.head _)))).alloc _, hA4.b.alloc hA4.b.size _⟩
  clear hB hA4
  go_wp2
  go_loopw [10] (fun k wr => ∃ (p u : Nat) (out : Ins), k = .int .i64 u ∧ p ≤ S.size ∧ u ≤ p ∧ F p = (u, out) ∧ MI w B ⟨x0, xa, xb, xc, xn⟩ S p out wr) (fun _ wr => itPos S (B + 2) wr)
  case atStart => exact ⟨0, 0, _, rfl, by omega, by omega, f0, hI0⟩
  case round =>
    obtain ⟨p, u, out, rfl, hp, hup, hF, hI⟩ := hrel
    clear hI0 f0 hz3
    have hm := itPos_eq hI.it
    by_cases hps : p < S.size
    · have hn := fun ty => Lib.run_next_ascii_at (P := Try.prog) wr (B + 2) S p ty hI.it hps (hasc p hps)
      have hI' := hI.next hlt (p + 1)
      obtain ⟨X, hX⟩ : ∃ X, X = wr.iterAt (B + 2) S (p + 1) := ⟨_, rfl⟩
      rw [← hX] at hn hI'
      clear hX hI
      have hs := HFS.out p hps
      rw [hF] at hs
      obtain ⟨l, hl⟩ : ∃ l, l = S[p]'hps := ⟨_, rfl⟩
      rw [← hl] at hs hn
      obtain ⟨z, hz⟩ : ∃ z : Nat, z = l.toNat := ⟨_, rfl⟩
      rw [← hz] at hn
      unfold step14 at hs
      rw [← hz] at hs
      dsimp only at hs
      have HM := Lib.hid hm
      clear hz hl hF hm hasc
      obtain ⟨⟨y0, y1, y2, y3, y4⟩, yf⟩ := blk5 hI'.b2
      dsimp only at y0 y1 y2 y3 y4
      clear yf
      have t0 : X.cell? ⟨B + 1, 0, none⟩ = some (.pointer (some ⟨B, 1, none⟩)) := hI'.b9.cell 0
      have t1 : X.cell? ⟨B + 1, 1, none⟩ = some (.pointer (some ⟨B, 2, none⟩)) := hI'.b9.cell 1
      have t2 : X.cell? ⟨B + 1, 2, none⟩ = some (.pointer (some ⟨B, 3, none⟩)) := hI'.b9.cell 2
      obtain ⟨⟨k0, k1, k2, k3, k4⟩, kf⟩ := blk5 hI'.b8
      have hlX : B < X.heap.size := hI'.b8.lt
      have hlX1 : B + 1 < X.heap.size := hI'.b9.lt
      have hlw : w.heap.size < X.heap.size := hI'.b2.lt
      by_cases h114 : z = 114
      · rw [if_pos h114] at hs
        subst h114
        by_cases hu3 : u < 3
        · rw [if_pos hu3] at hs
          have hu : u = 0 ∨ u = 1 ∨ u = 2 := by omega
          rcases hu with rfl | rfl | rfl
          · have v1 : Int.tmod xa 8 = xa % 8 := Int.tmod_eq_emod_of_nonneg a0
            have hJ : MI w B ⟨x0, xa, xb, xc, xn⟩ S (p + 1) (setF14 out 0 (xa % 8)) _ := ((hI'.set hlt 1 (.int .u8 (xa % 8)) _ rfl).alloc (.cells #[.int .u8 xa, .int .u8 xb, .int .u8 xc] 5)).drew
            have HJ := Lib.hid hJ
            clear hJ
            go_wp2_with go_region
            all_goals (try go_wp2)
            all_goals exact ⟨⟨p + 1, 1, _, rfl, by omega, by omega, hs, HJ.out⟩, by rw [itPos_eq HJ.out.it, HM.out]; omega⟩
          · have v1 : Int.tmod xb 8 = xb % 8 := Int.tmod_eq_emod_of_nonneg b0
            have hJ : MI w B ⟨x0, xa, xb, xc, xn⟩ S (p + 1) (setF14 out 1 (xb % 8)) _ := ((hI'.set hlt 2 (.int .u8 (xb % 8)) _ rfl).alloc (.cells #[.int .u8 xa, .int .u8 xb, .int .u8 xc] 5)).drew
            have HJ := Lib.hid hJ
            clear hJ
            go_wp2_with go_region
            all_goals (try go_wp2)
            all_goals exact ⟨⟨p + 1, 2, _, rfl, by omega, by omega, hs, HJ.out⟩, by rw [itPos_eq HJ.out.it, HM.out]; omega⟩
          · have v1 : Int.tmod xc 8 = xc % 8 := Int.tmod_eq_emod_of_nonneg c0
            have hJ : MI w B ⟨x0, xa, xb, xc, xn⟩ S (p + 1) (setF14 out 2 (xc % 8)) _ := ((hI'.set hlt 3 (.int .u8 (xc % 8)) _ rfl).alloc (.cells #[.int .u8 xa, .int .u8 xb, .int .u8 xc] 5)).drew
            have HJ := Lib.hid hJ
            clear hJ
            go_wp2_with go_region
            all_goals (try go_wp2)
            all_goals exact ⟨⟨p + 1, 3, _, rfl, by omega, by omega, hs, HJ.out⟩, by rw [itPos_eq HJ.out.it, HM.out]; omega⟩
        · rw [if_neg hu3] at hs
          have d3 : decide ((u : Int) < 3) = false := decide_eq_false (by omega)
          have d4 : ¬ (u : Int) < 3 := by omega
          clear y0 y1 y2 y3 y4 t0 t1 t2 k0 k1 k2 k3 k4 kf
          go_wp2_with fail
          go_roundw
          case rel => exact ⟨p + 1, u + 1, out, by go_num, by omega, by omega, hs, hI'⟩
          case measure => rw [itPos_eq hI'.it, HM.out]; omega
      · rw [if_neg h114] at hs
        have q1 : ((z : Int) == 114) = false := by simp; omega
        have q2 : decide ((z : Int) = 114) = false := decide_eq_false (by omega)
        have q3 : ¬ (z : Int) = 114 := by omega
        by_cases h110 : z = 110
        · rw [if_pos h110] at hs
          subst h110
          clear q1 q2 q3 h114
          go_wp2_with fail
          go_roundw
          case rel => exact ⟨p + 1, u, _, by go_num, by omega, by omega, hs, hI'.set hlt 4 _ _ rfl⟩
          case measure => rw [itPos_eq (hI'.set hlt 4 _ ⟨out.op, out.a, out.b, out.c, xn⟩ rfl).it, HM.out]; omega
        · rw [if_neg h110] at hs
          have r1 : ((z : Int) == 110) = false := by simp; omega
          have r2 : decide ((z : Int) = 110) = false := decide_eq_false (by omega)
          have r3 : ¬ (z : Int) = 110 := by omega
          by_cases h112 : z = 112
          · rw [if_pos h112] at hs
            subst h112
            rw [u1] at hs
            have v1 : Int.tmod U 16 = U % 16 := Int.tmod_eq_emod_of_nonneg hU0.1
            have v2 : IntKind.i64.wrap (U % 16) = U % 16 := by simp [IntKind.wrap, IntKind.bits, IntKind.signed]; omega
            clear q1 q2 q3 r1 r2 r3 h114 h110
            go_wp2_with fail
            go_roundw
            case rel => exact ⟨p + 1, u, _, by go_num, by omega, by omega, hs, hI'.set hlt 4 _ _ rfl⟩
            case measure => rw [itPos_eq (hI'.set hlt 4 _ ⟨out.op, out.a, out.b, out.c, U % 16⟩ rfl).it, HM.out]; omega
          · rw [if_neg h112] at hs
            have s1 : ((z : Int) == 112) = false := by simp; omega
            have s2 : decide ((z : Int) = 112) = false := decide_eq_false (by omega)
            have s3 : ¬ (z : Int) = 112 := by omega
            rw [u1] at hs
            have v1 : Int.tmod U n = U % n := Int.tmod_eq_emod_of_nonneg hU0.1
            have v2 : IntKind.i64.wrap (U % n) = U % n := by
              have := Int.emod_nonneg U (b := n) (by omega)
              have := Int.emod_lt_of_pos U (b := n) (by omega)
              simp [IntKind.wrap, IntKind.bits, IntKind.signed]; omega
            have v3 : IntKind.u64.wrap n = n := by simp [IntKind.wrap, IntKind.bits, IntKind.signed]; omega
            have v4 : (n == 0) = false := by simp; omega
            have v5 : ¬ n = 0 := by omega
            have v6 : n ≠ 0 := by omega
            have hmax : ∀ W : World, (Builtin.max_ #[3, 3] 3 #[.int .i64 n, .int .i64 1]).run Try.prog W = .ok (.int .i64 n) W := fun W => max_i64 _ _ _ _ 0 _ (by split <;> omega) W
            clear h114 h110 h112
            go_wp2_with fail
            go_roundw
            case rel => exact ⟨p + 1, u, _, by go_num, by omega, by omega, hs, hI'.set hlt 4 _ _ rfl⟩
            case measure => rw [itPos_eq (hI'.set hlt 4 _ ⟨out.op, out.a, out.b, out.c, U % n⟩ rfl).it, HM.out]; omega
    · have hpe : p = S.size := by omega
      have hn := fun ty => Lib.run_next_end_at (P := Try.prog) wr (B + 2) S p ty hI.it hps
      have b8 := hI.b8
      have b4 := hI.b4
      have hb := hI.below
      have hv : (F S.size).2 = out := by rw [← hpe, hF]
      have HV := Lib.hid hv
      clear hI hF hm hv
      go_wp2_with (first
        | refine wpList_load_row (P := Try.prog) rfl 28 (.tmp 8) rfl B rfl 28 _ (0, 0) _ b8 Try.underlying28 rfl (by kernel_rfl) ?_
        | refine wpList_store_row (P := Try.prog) rfl 28 (.tmp 4) (.tmp 76) rfl (w.heap.size + 1) #[.int .u8 out.op, .int .u8 out.a, .int .u8 out.b, .int .u8 out.c, .int .i64 out.n] rfl rfl 28 _ b4 (by kernel_rfl) rfl (by kernel_rfl) ?_)
      (try simp only [Exit.inBlock, Exit.then])
      refine bodyPost_ret (v := .agg #[.int .u8 out.op, .int .u8 out.a, .int .u8 out.b, .int .u8 out.c, .int .i64 out.n]) (results_cell_row (P := Try.prog) (p := 4) (ty := 28) rfl _ _ (w.heap.size + 1) 28 _ (0, 0) _ rfl (Blk.row b4 _) Try.underlying28 rfl (by kernel_rfl)) rfl ?_
      exact ⟨by rw [HV.out], below_setRow hb (Nat.le_succ _) _⟩

end Go.Proofs.Ytmljmabbopkpiaa
end

section
/- fermatalaw14.Made: the program that small numbers make, and that it is right. -/
namespace Go.Proofs.Ytmljmabbopkpiaa
open Go.RowKit
set_option linter.unusedVariables false
set_option linter.unusedSimpArgs false

def one14 (x : Ins) (M : Int) : Ins := (fold14 x M (formS (formC (op14 x.op))) (formS (formC (op14 x.op))).size).2
theorem formC_cases (op : Int) : formC op = 0 ∨ formC op = 1 ∨ formC op = 2 ∨ formC op = 3 ∨ formC op = 4 ∨ formC op = 5 ∨ formC op = 6 ∨ formC op = 7 := by
  unfold formC; repeat (first | (split; · simp) | simp)
theorem formS_size (k : Nat) : (formS k).size ≤ 100 := by
  unfold formS; split <;> decide
theorem formS_asc (k : Nat) : ∀ p (h : p < (formS k).size), ((formS k)[p]'h).toNat < 128 := by
  have key : ∀ k, k < 8 → ∀ p (h : p < (formS k).size), ((formS k)[p]'h).toNat < 128 := by decide
  rcases Nat.lt_or_ge k 8 with h | h
  · exact key k h
  · intro p hp
    have : formS k = ⟨#[]⟩ := by
      unfold formS
      split <;> first | omega | rfl
    rw [this] at hp
    exact absurd hp (Nat.not_lt_zero p)
theorem one14_c (x : Ins) (hx : x.ok) (n : Int) (hn : 1 ≤ n ∧ n ≤ 1000000) (w : World) :
    Calls Try.prog 54 #[x.v, .int .i64 n] w fun e w' => e = .returned (one14 x n).v ∧ Below w.heap.size w w' := by
  have hb := op14_bd x.op
  have hf := fun w => form_c (op14 x.op) (by omega) w
  have h0 : (formC (op14 x.op) != 0) = true := by simpa using hb.2.2
  rw [h0] at hf
  exact one14_w x hx n hn _ (formS_size _) (formS_asc _) w hf
/-- by the form of its Op -/
theorem one14_eq (x : Ins) (M : Int) : one14 x M = match formC (op14 x.op) with
    | 1 => ⟨op14 x.op, x.a % 8, x.b % 8, x.c % 8, 0⟩
    | 3 => ⟨op14 x.op, x.a % 8, 0, 0, x.n⟩
    | 4 => ⟨op14 x.op, x.a % 8, x.b % 8, 0, 0⟩
    | 5 => ⟨op14 x.op, x.a % 8, x.b % 8, 0, IntKind.u64.wrap x.n % 16⟩
    | 6 => ⟨op14 x.op, 0, 0, 0, IntKind.u64.wrap x.n % M⟩
    | 7 => ⟨op14 x.op, x.a % 8, 0, 0, IntKind.u64.wrap x.n % M⟩
    | _ => ⟨op14 x.op, 0, 0, 0, 0⟩ := by
  unfold one14
  rcases formC_cases (op14 x.op) with h | h | h | h | h | h | h | h <;> (rw [h]; rfl)
theorem one14_forms (x : Ins) (M : Int) : (formC (op14 x.op) = 1 ∧ one14 x M = ⟨op14 x.op, x.a % 8, x.b % 8, x.c % 8, 0⟩) ∨ (formC (op14 x.op) = 2 ∧ one14 x M = ⟨op14 x.op, 0, 0, 0, 0⟩) ∨
    (formC (op14 x.op) = 3 ∧ one14 x M = ⟨op14 x.op, x.a % 8, 0, 0, x.n⟩) ∨ (formC (op14 x.op) = 4 ∧ one14 x M = ⟨op14 x.op, x.a % 8, x.b % 8, 0, 0⟩) ∨
    (formC (op14 x.op) = 5 ∧ one14 x M = ⟨op14 x.op, x.a % 8, x.b % 8, 0, IntKind.u64.wrap x.n % 16⟩) ∨ (formC (op14 x.op) = 6 ∧ one14 x M = ⟨op14 x.op, 0, 0, 0, IntKind.u64.wrap x.n % M⟩) ∨
    (formC (op14 x.op) = 7 ∧ one14 x M = ⟨op14 x.op, x.a % 8, 0, 0, IntKind.u64.wrap x.n % M⟩) := by
  have he := one14_eq x M
  rcases formC_cases (op14 x.op) with h | h | h | h | h | h | h | h
  · exact absurd h (op14_bd x.op).2.2
  · exact .inl ⟨h, by rw [he, h]; rfl⟩
  · exact .inr (.inl ⟨h, by rw [he, h]; rfl⟩)
  · exact .inr (.inr (.inl ⟨h, by rw [he, h]; rfl⟩))
  · exact .inr (.inr (.inr (.inl ⟨h, by rw [he, h]; rfl⟩)))
  · exact .inr (.inr (.inr (.inr (.inl ⟨h, by rw [he, h]; rfl⟩))))
  · exact .inr (.inr (.inr (.inr (.inr (.inl ⟨h, by rw [he, h]; rfl⟩)))))
  · exact .inr (.inr (.inr (.inr (.inr (.inr ⟨h, by rw [he, h]; rfl⟩)))))
theorem one14_op (x : Ins) (M : Int) : (one14 x M).op = op14 x.op := by
  rcases one14_forms x M with ⟨_, h⟩ | ⟨_, h⟩ | ⟨_, h⟩ | ⟨_, h⟩ | ⟨_, h⟩ | ⟨_, h⟩ | ⟨_, h⟩ <;> rw [h]
theorem ok_mk {op a b c n : Int} (h : (0 ≤ op ∧ op ≤ 255) ∧ (0 ≤ a ∧ a ≤ 255) ∧ (0 ≤ b ∧ b ≤ 255) ∧ (0 ≤ c ∧ c ≤ 255) ∧ (-9223372036854775808 ≤ n ∧ n ≤ 9223372036854775807)) : (⟨op, a, b, c, n⟩ : Ins).ok :=
  ⟨h.1.1, h.1.2, h.2.1.1, h.2.1.2, h.2.2.1.1, h.2.2.1.2, h.2.2.2.1.1, h.2.2.2.1.2, h.2.2.2.2.1, h.2.2.2.2.2⟩
theorem one14_ok (x : Ins) (hx : x.ok) (M : Int) (hM : 1 ≤ M ∧ M ≤ 1000000) : (one14 x M).ok := by
  have hb := op14_bd x.op
  have hu := u64_bd x.n
  have hm := Int.emod_nonneg (IntKind.u64.wrap x.n) (b := M) (by omega)
  have hm2 := Int.emod_lt_of_pos (IntKind.u64.wrap x.n) (b := M) (by omega)
  obtain ⟨-, -, -, -, -, -, -, -, n0, n1⟩ := hx
  rcases one14_forms x M with ⟨_, h⟩ | ⟨_, h⟩ | ⟨_, h⟩ | ⟨_, h⟩ | ⟨_, h⟩ | ⟨_, h⟩ | ⟨_, h⟩ <;> (rw [h]; exact ok_mk (by omega))
theorem one14_one (x : Ins) (M : Int) (hM : 1 ≤ M ∧ M ≤ 256) : oneE (one14 x M) = 0 := by
  have hb := op14_bd x.op
  have hu := u64_bd x.n
  have hm := Int.emod_nonneg (IntKind.u64.wrap x.n) (b := M) (by omega)
  have hm2 := Int.emod_lt_of_pos (IntKind.u64.wrap x.n) (b := M) (by omega)
  unfold oneE
  rw [one14_op, if_neg hb.2.2]
  rcases one14_forms x M with ⟨h1, h⟩ | ⟨h1, h⟩ | ⟨h1, h⟩ | ⟨h1, h⟩ | ⟨h1, h⟩ | ⟨h1, h⟩ | ⟨h1, h⟩ <;> rw [h1, h]
  · exact oneK_pos (show _ ∧ _ ∧ _ ∧ _ by dsimp only; omega)
  · exact oneK_pos (show _ ∧ _ ∧ _ ∧ _ by dsimp only; omega)
  · exact oneK_pos (show _ ∧ _ ∧ _ by dsimp only; omega)
  · exact oneK_pos (show _ ∧ _ ∧ _ ∧ _ by dsimp only; omega)
  · exact oneK_pos (show _ ∧ _ ∧ _ ∧ _ ∧ _ by dsimp only; omega)
  · exact oneK_pos (show _ ∧ _ ∧ _ ∧ _ ∧ _ by dsimp only; omega)
  · exact oneK_pos (show _ ∧ _ ∧ _ ∧ _ ∧ _ by dsimp only; omega)
theorem one14_bad (x : Ins) (M : Int) (hM : 1 ≤ M ∧ M ≤ 256) : badAt M (one14 x M) = 0 := by
  have h1 := one14_one x M hM
  have hb := op14_bd x.op
  have hm2 := Int.emod_lt_of_pos (IntKind.u64.wrap x.n) (b := M) (by omega)
  unfold badAt
  rw [if_neg (by simp [h1])]
  by_cases ht : targB (one14 x M) = true
  · rw [if_neg]
    rintro ⟨-, h2⟩
    have h3 : targV (one14 x M) = (one14 x M).n := by unfold targV; rw [if_pos ht]
    rw [h3] at h2
    unfold targB at ht
    rw [one14_op] at ht
    simp [h1] at ht
    have hc : formC (op14 x.op) = 6 ∨ formC (op14 x.op) = 7 := by
      rcases ht with h | h | h <;> rw [h] <;> decide
    rcases one14_forms x M with ⟨h5, h⟩ | ⟨h5, h⟩ | ⟨h5, h⟩ | ⟨h5, h⟩ | ⟨h5, h⟩ | ⟨h5, h⟩ | ⟨h5, h⟩ <;> first | omega | (rw [h] at h2; dsimp only at h2; omega)
  · rw [if_neg (by simp [ht])]
def made14 (xs : List Ins) : List Ins := (xs.take 40).map (fun x => one14 x ((xs.take 40).length + 1 : Nat)) ++ [haltI]
theorem made14_len (xs : List Ins) : (made14 xs).length = (xs.take 40).length + 1 := by simp [made14]
theorem made14_le (xs : List Ins) : 1 ≤ (made14 xs).length ∧ (made14 xs).length ≤ 41 := by
  rw [made14_len, List.length_take]; omega
theorem made14_ok (xs : List Ins) (hx : ∀ x ∈ xs, x.ok) : ∀ i ∈ made14 xs, i.ok := by
  intro i hi
  unfold made14 at hi
  rw [List.mem_append, List.mem_map] at hi
  rcases hi with ⟨x, h, rfl⟩ | h
  · exact one14_ok x (hx x (List.mem_of_mem_take h)) _ (by rw [List.length_take]; omega)
  · rw [List.mem_singleton] at h
    rw [h]; exact haltI_ok
theorem made14_bad (xs : List Ins) : ∀ i ∈ made14 xs, badAt (made14 xs).length i = 0 := by
  intro i hi
  rw [made14_len]
  unfold made14 at hi
  rw [List.mem_append, List.mem_map] at hi
  rcases hi with ⟨x, h, rfl⟩ | h
  · exact one14_bad x _ (by rw [List.length_take]; omega)
  · rw [List.mem_singleton] at h
    rw [h]
    unfold badAt
    rw [if_neg (by decide), if_neg (fun h => absurd h.1 (by decide))]
theorem made14_right (xs : List Ins) : (checkI (made14 xs)).2 = 0 := by
  have hl := made14_le xs
  unfold checkI
  rw [if_neg (by omega), if_neg (by omega)]
  have hK := checkK_none (p := made14 xs) (fun k hk y hy => made14_bad xs y (List.mem_of_getElem? hy))
  rw [hK]
  have : (made14 xs).getD ((made14 xs).length - 1) ⟨0, 0, 0, 0, 0⟩ = haltI := by
    rw [made14_len]
    simp [made14, List.getD]
  rw [this, if_neg (by decide)]
theorem reads_new5 (X : World) (t : TypeId) (a b c d e : Value) (gg : Nat) (h : gg = X.heap.size) : Reads (X.alloc (.cells #[a, b, c, d, e] t)) (gg + 1) 5 (some ⟨gg, 0, none⟩) 1 [a, b, c, d, e] := by
  subst h
  refine ⟨rfl, fun _ => ⟨_, rfl, Nat.lt_succ_self _, fun j u hu => ?_⟩⟩
  rw [Addr.add_lit, cell_of_row _ _ _ _ _ _ (heap_alloc_new X _), Nat.zero_add]
  simpa using hu
set_option maxRecDepth 100000 in
set_option maxHeartbeats 4000000 in
theorem made14_c (xs : List Ins) (hx : ∀ x ∈ xs, x.ok) (A : Option Addr) (n c : Nat) (w : World) (hA : Reads w w.heap.size 5 A n (insV xs)) (hc : n ≤ c) (hcm : c ≤ 9223372036854775807) :
    Calls Try.prog 19 #[.slice A n c] w fun e w' => ∃ P, e = .returned P ∧ w'.ownsRow w.heap.size 28 5 P (made14 xs).length (insV (made14 xs)) ∧ Below w.heap.size w w' := by
  have hn := hA.ins_len
  obtain ⟨m, hm⟩ : ∃ m, m = min n 40 := ⟨_, rfl⟩
  have hmn : m ≤ n := by omega
  have hm40 : m ≤ 40 := by omega
  have hml : (xs.take 40).length = m := by rw [List.length_take]; omega
  have hmin : ∀ W : World, (Builtin.min_ #[3, 3] 3 #[.int .i64 (n : Int), .int .i64 40]).run Try.prog W = .ok (.int .i64 (m : Int)) W := fun W => min_i64 _ _ _ _ 0 _ (by split <;> omega) W
  have hm0 : (0 : Int) ≤ (m : Int) := by omega
  have hmc : (m : Int) ≤ (c : Int) := by omega
  obtain ⟨iS, hi, hz0, hz1, hz2⟩ := info_parts infoIns
  have HL := Lib.hid hml
  clear hm hml
  go_enter Try.func19, Try.ntmps19
  go_wp2
  go_loopw [3, 13] (fun s k wr => ∃ (j : Nat) (D : Option Addr) (f : Nat), k = .int .i64 j ∧ s = .slice D j f ∧ j ≤ m ∧ wr.ownsRow w.heap.size 28 5 (.slice D j f) j (insV ((xs.take j).map fun x => one14 x (m + 1 : Nat))) ∧ Below w.heap.size w wr) (fun _ k _ => m - (intOf k).toNat)
  case atStart => exact ⟨0, none, 0, rfl, rfl, by omega, World.ownsRow_nil _ _ _ _, Below.refl _ _⟩
  case round =>
    obtain ⟨j, D, f, rfl, rfl, hj, ho, hb⟩ := hrel
    by_cases hlt : j < m
    · obtain ⟨ab, off, x, rfl, hab, hxj, c0, c1, c2, c3, c4⟩ := (hA.below hb).ins_at (show j < n by omega)
      have hxo : x.ok := hx x (List.mem_of_getElem? hxj)
      have hM : 1 ≤ ((m : Int) + 1) ∧ ((m : Int) + 1) ≤ 1000000 := by omega
      have w1 : wrap64 ((m : Int) + 1) = (m : Int) + 1 := by unfold wrap64; omega
      have OC := Lib.hid (fun W => one14_c x hxo ((m : Int) + 1) hM W)
      obtain ⟨y, hy⟩ : ∃ y, y = one14 x ((m : Int) + 1) := ⟨_, rfl⟩
      rw [← hy] at OC
      have hyo : y.ok := hy ▸ one14_ok x hxo _ hM
      have hstep : insV (((xs.take j).map fun x => one14 x (m + 1 : Nat))) ++ y.cells = insV ((xs.take (j + 1)).map fun x => one14 x (m + 1 : Nat)) := by
        rw [List.take_add_one, hxj, hy]
        simp [insV]
      have hab2 : ab < wr.heap.size := by have := hb.size; omega
      have HO := Lib.hid (And.intro ho (And.intro hstep hb))
      obtain ⟨x0, xa, xb, xc, xn⟩ := x
      obtain ⟨y0, ya, yb, yc, yn⟩ := y
      unfold Ins.v at OC
      dsimp only at OC c0 c1 c2 c3 c4
      clear ho hstep hb hA hxj hy hxo hyo
      go_wp2_with fail
      go_at_call 54
      refine (OC.out _).mono ?_
      rintro e W1 ⟨rfl, hb1⟩
      have hB1 : Below wr.heap.size wr W1 := ((Below.refl _ wr).alloc (Nat.le_refl _) _).trans (hb1.mono (by simp))
      have ho1 : W1.ownsRow w.heap.size 28 5 (.slice D j f) j (insV ((xs.take j).map fun x => one14 x (m + 1 : Nat))) := ownsRow_keep HO.out.1 fun k _ hk => hB1.block k hk
      have hb2 : Below w.heap.size w W1 := HO.out.2.2.trans (hB1.mono HO.out.2.2.size)
      have HQ := Lib.hid (And.intro ho1 hb2)
      have hrd : Reads (W1.alloc (.cells #[.int .u8 y0, .int .u8 ya, .int .u8 yb, .int .u8 yc, .int .i64 yn] 28)) (W1.heap.size + 1) 5 (some ⟨W1.heap.size, 0, none⟩) 1 [.int .u8 y0, .int .u8 ya, .int .u8 yb, .int .u8 yc, .int .i64 yn] := reads_new5 _ _ _ _ _ _ _ _ rfl
      have hones : ∀ u ∈ [Value.int .u8 y0, .int .u8 ya, .int .u8 yb, .int .u8 yc, .int .i64 yn], u.oneCell' = true := by
        intro u hu; simp at hu; rcases hu with rfl | rfl | rfl | rfl | rfl <;> rfl
      clear hb1 hB1 ho1 hb2
      go_wp2_with (at_builtin
                   refine wpList_append_any _ rfl (.tmp 17) (.tmp 23) _ rfl w.heap.size 28 iS _ 5 16 Try.underlying25 hi hz0 hz1 hz2 rfl (by omega) (.slice D j f) j _ rfl
                     (own_alloc HQ.out.1 _) (W1.heap.size + 1) (some ⟨W1.heap.size, 0, none⟩) 1 1 _ rfl hrd hones (by unfold maxLen; omega) (by omega) (by have := HQ.out.2.size; simp; omega) ?_
                   intro v1 w1 hown1 hg1 hat1)
      obtain ⟨D1, f1, rfl⟩ := own_slice hown1
      have hf2 := HO.out.2.1
      have hn2 : insV ((xs.take j).map fun x => one14 x (m + 1 : Nat)) ++ [.int .u8 y0, .int .u8 ya, .int .u8 yb, .int .u8 yc, .int .i64 yn] = insV ((xs.take (j + 1)).map fun x => one14 x (m + 1 : Nat)) := hf2
      rw [hn2] at hown1
      go_roundw
      case rel => exact ⟨j + 1, D1, f1, by go_num, rfl, by omega, hown1, (HQ.out.2.alloc HQ.out.2.size _).grown hg1 (Nat.le_trans HQ.out.2.size (by simp)) (fun k hk => own_base HQ.out.1 k hk)⟩
      case measure => simp [intOf]; omega
    · have hjm : j = m := by omega
      subst hjm
      have hfin : insV ((xs.take j).map fun x => one14 x (j + 1 : Nat)) ++ haltI.cells = insV (made14 xs) := by
        have ht : xs.take j = xs.take 40 := by
          have := HL.out
          rw [List.length_take] at this
          rcases Nat.le_total xs.length 40 with h | h
          · rw [List.take_of_length_le (by omega), List.take_of_length_le h]
          · rw [show j = 40 by omega]
        unfold made14
        rw [HL.out, ht]
        simp [insV]
      have hlen : (made14 xs).length = j + 1 := by rw [made14_len, HL.out]
      have HQ := Lib.hid (And.intro ho (And.intro hb (And.intro hfin hlen)))
      have hrd : Reads (wr.alloc (.cells #[.int .u8 1, .int .u8 0, .int .u8 0, .int .u8 0, .int .i64 0] 28)) (wr.heap.size + 1) 5 (some ⟨wr.heap.size, 0, none⟩) 1 [.int .u8 1, .int .u8 0, .int .u8 0, .int .u8 0, .int .i64 0] := reads_new5 _ _ _ _ _ _ _ _ rfl
      have hones : ∀ u ∈ [Value.int .u8 1, .int .u8 0, .int .u8 0, .int .u8 0, .int .i64 0], u.oneCell' = true := by
        intro u hu; simp at hu; rcases hu with rfl | rfl | rfl | rfl | rfl <;> rfl
      clear ho hb hfin hlen hA
      go_wp2_with (at_builtin
                   refine wpList_append_any _ rfl (.tmp 26) (.tmp 28) _ rfl w.heap.size 28 iS _ 5 16 Try.underlying25 hi hz0 hz1 hz2 rfl (by omega) (.slice D j f) j _ rfl
                     (own_alloc HQ.out.1 _) (wr.heap.size + 1) (some ⟨wr.heap.size, 0, none⟩) 1 1 _ rfl hrd hones (by unfold maxLen; omega) (by omega) (by have := HQ.out.2.1.size; simp; omega) ?_
                   intro v1 w1 hown1 hg1 hat1)
      obtain ⟨h1, h2, h3, h4⟩ := HQ.out
      have hn2 : insV ((xs.take j).map fun x => one14 x (j + 1 : Nat)) ++ [.int .u8 1, .int .u8 0, .int .u8 0, .int .u8 0, .int .i64 0] = insV (made14 xs) := h3
      rw [hn2] at hown1
      go_ret
      rw [h4]
      exact ⟨_, rfl, hown1, (h2.alloc h2.size _).grown hg1 (Nat.le_trans h2.size (by simp)) (fun k hk => own_base h1 k hk)⟩
end Go.Proofs.Ytmljmabbopkpiaa
end

section
/- slices.Equal at int64 and at instr.Send. -/
namespace Go.Proofs.Ytmljmabbopkpiaa
open Go.RowKit
set_option linter.unusedVariables false
set_option linter.unusedSimpArgs false

set_option maxRecDepth 100000 in
set_option maxHeartbeats 1000000 in
theorem equal64_same (A B : Option Addr) (n c d : Nat) (xs ys : List Int) (w : World) (hA : Reads w w.heap.size 1 A n (int64s xs)) (hB : Reads w w.heap.size 1 B n (int64s ys)) (hm : n ≤ 9223372036854775807) :
    Calls Try.prog 61 #[.slice A n c, .slice B n d] w fun e w' => e = .returned (.bool (xs == ys)) ∧ Below w.heap.size w w' := by
  go_enter Try.func61, Try.ntmps61
  go_wp2
  go_loopw [5, 13] (fun i k wr => ∃ j : Nat, k = .int .i64 j ∧ j ≤ n ∧ xs.take j = ys.take j ∧ Below w.heap.size w wr) (fun _ k _ => n - (intOf k).toNat)
  case atStart => exact ⟨0, rfl, by omega, rfl, Below.refl _ _⟩
  case round =>
    obtain ⟨j, rfl, hj, ht, hb⟩ := hrel
    have HT := Lib.hid ht
    clear ht
    by_cases hlt : j < n
    · obtain ⟨a1, x, rfl, hl1, hx1, hc1⟩ := (hA.below hb).i64_at hlt
      obtain ⟨a2, y, rfl, hl2, hx2, hc2⟩ := (hB.below hb).i64_at hlt
      have HX1 := Lib.hid hx1
      have HX2 := Lib.hid hx2
      have HB := Lib.hid hb
      clear hb hx1 hx2 hA hB
      go_wp2
      go_quiet (fail)
      go_wp2
      · have hne : x ≠ y := bne_iff_ne.1 (by assumption)
        go_ret
        exact ⟨by rw [beq_eq_false_iff_ne.2 (ne_of_at HX1.out HX2.out hne)]; rfl, below_drewN HB.out _⟩
      · have he : x = y := bne_eq_false_iff_eq.1 (by assumption)
        go_roundw
        case rel => exact ⟨j + 1, by go_num, by omega, take_succ_eq HT.out HX1.out (he ▸ HX2.out), below_drewN HB.out _⟩
        case measure => simp [intOf]; omega
    · have HB := Lib.hid hb
      have hxl := hA.i64_len
      have hyl := hB.i64_len
      have he : xs = ys := take_all_eq HT.out (by omega) (by omega)
      have HE := Lib.hid he
      clear hb he hxl hyl hA hB
      go_wp2
      go_ret
      exact ⟨by rw [HE.out]; simp, HB.out⟩

set_option maxRecDepth 100000 in
set_option maxHeartbeats 1000000 in
theorem equal64_not (A B : Option Addr) (n m c d : Nat) (w : World) (h : ((n : Int) != (m : Int)) = true) :
    Calls Try.prog 61 #[.slice A n c, .slice B m d] w fun e w' => e = .returned (.bool false) ∧ w = w' := by
  go_enter Try.func61, Try.ntmps61
  go_wp2
  go_ret
  exact ⟨rfl, rfl⟩
theorem equal64_c (A B : Option Addr) (n m c d : Nat) (xs ys : List Int) (w : World) (hA : Reads w w.heap.size 1 A n (int64s xs)) (hB : Reads w w.heap.size 1 B m (int64s ys)) (hm : n ≤ 9223372036854775807) :
    Calls Try.prog 61 #[.slice A n c, .slice B m d] w fun e w' => e = .returned (.bool (xs == ys)) ∧ Below w.heap.size w w' := by
  by_cases h : n = m
  · subst h; exact equal64_same A B n c d xs ys w hA hB hm
  · refine (equal64_not A B n m c d w (by rw [bne_iff_ne]; omega)).mono ?_
    rintro e w' ⟨rfl, rfl⟩
    have : xs ≠ ys := by rintro rfl; exact h (hA.i64_len.symm.trans hB.i64_len)
    exact ⟨by rw [beq_eq_false_iff_ne.2 this], Below.refl _ _⟩

set_option maxRecDepth 100000 in
set_option maxHeartbeats 1000000 in
theorem equalS_same (A B : Option Addr) (n c d : Nat) (xs ys : List Snd) (w : World) (hA : Reads w w.heap.size 3 A n (sndsV xs)) (hB : Reads w w.heap.size 3 B n (sndsV ys)) (hm : n ≤ 9223372036854775807) :
    Calls Try.prog 52 #[.slice A n c, .slice B n d] w fun e w' => e = .returned (.bool (decide (xs = ys))) ∧ Below w.heap.size w w' := by
  go_enter Try.func52, Try.ntmps52
  go_wp2
  go_loopw [5, 13] (fun i k wr => ∃ j : Nat, k = .int .i64 j ∧ j ≤ n ∧ xs.take j = ys.take j ∧ Below w.heap.size w wr) (fun _ k _ => n - (intOf k).toNat)
  case atStart => exact ⟨0, rfl, by omega, rfl, Below.refl _ _⟩
  case round =>
    obtain ⟨j, rfl, hj, ht, hb⟩ := hrel
    have HT := Lib.hid ht
    clear ht
    by_cases hlt : j < n
    · obtain ⟨b1, o1, x, rfl, hl1, hx1, hc1, hc2, hc3⟩ := (hA.below hb).snds_at hlt
      obtain ⟨b2, o2, y, rfl, hl2, hx2, hd1, hd2, hd3⟩ := (hB.below hb).snds_at hlt
      have HX1 := Lib.hid hx1
      have HX2 := Lib.hid hx2
      have HB := Lib.hid hb
      clear hb hx1 hx2 hA hB
      have es := eqSend
      go_wp2
      go_quiet (fail)
      go_wp2
      · have hne : x ≠ y := by
          have hd : (!x.port == y.port) = true ∨ (!x.delay == y.delay) = true ∨ (!x.value == y.value) = true := by assumption
          rintro rfl
          simp at hd
        go_ret
        exact ⟨by rw [decide_eq_false (ne_of_at HX1.out HX2.out hne)]; rfl, below_drewN HB.out _⟩
      · have he : x = y := by
          have hd : (!x.port == y.port) = false ∧ (!x.delay == y.delay) = false ∧ (!x.value == y.value) = false := by assumption
          obtain ⟨p, d, v⟩ := x
          obtain ⟨p', d', v'⟩ := y
          simp at hd
          obtain ⟨h1, h2, h3⟩ := hd
          subst h1; subst h2; subst h3; rfl
        go_roundw
        case rel => exact ⟨j + 1, by go_num, by omega, take_succ_eq HT.out HX1.out (he ▸ HX2.out), below_drewN HB.out _⟩
        case measure => simp [intOf]; omega
    · have HB := Lib.hid hb
      have hxl := hA.snds_len
      have hyl := hB.snds_len
      have he : xs = ys := take_all_eq HT.out (by omega) (by omega)
      have HE := Lib.hid he
      clear hb he hxl hyl hA hB
      go_wp2
      go_ret
      exact ⟨by rw [HE.out]; simp, HB.out⟩

set_option maxRecDepth 100000 in
set_option maxHeartbeats 1000000 in
theorem equalS_not (A B : Option Addr) (n m c d : Nat) (w : World) (h : ((n : Int) != (m : Int)) = true) :
    Calls Try.prog 52 #[.slice A n c, .slice B m d] w fun e w' => e = .returned (.bool false) ∧ w = w' := by
  go_enter Try.func52, Try.ntmps52
  go_wp2
  go_ret
  exact ⟨rfl, rfl⟩
theorem equalS_c (A B : Option Addr) (n m c d : Nat) (xs ys : List Snd) (w : World) (hA : Reads w w.heap.size 3 A n (sndsV xs)) (hB : Reads w w.heap.size 3 B m (sndsV ys)) (hm : n ≤ 9223372036854775807) :
    Calls Try.prog 52 #[.slice A n c, .slice B m d] w fun e w' => e = .returned (.bool (decide (xs = ys))) ∧ Below w.heap.size w w' := by
  by_cases h : n = m
  · subst h; exact equalS_same A B n c d xs ys w hA hB hm
  · refine (equalS_not A B n m c d w (by rw [bne_iff_ne]; omega)).mono ?_
    rintro e w' ⟨rfl, rfl⟩
    have : xs ≠ ys := by rintro rfl; exact h (hA.snds_len.symm.trans hB.snds_len)
    exact ⟨by rw [decide_eq_false this], Below.refl _ _⟩
end Go.Proofs.Ytmljmabbopkpiaa
end

section
/- fermatalaw18.awake. (printed by gen_awake.py) -/
namespace Go.Proofs.Ytmljmabbopkpiaa
open Go.RowKit
set_option linter.unusedVariables false
set_option linter.unusedSimpArgs false
attribute [local go_sem ↓] Go.wp_at_zero Go.wp_at_succ wp_load53 wp_load56 wp_load28 wp_store53
attribute [local go_sem] blockOf aggOf Value.oneCell' isRow_alloc rowOf_alloc5 rowOf_alloc13 isRow_drew isRow_drewN rowOf_drew rowOf_drewN

def s0 : St := ⟨0, false, fun j => match j with | 0 => 9 | 1 => 5 | 2 => 2 | _ => 0, [0, 0, 0], 0, []⟩
def s2 : St := ⟨0, false, fun j => match j with | 0 => 9 | 1 => 5 | 2 => 2 | _ => 0, [0, 0], 0, []⟩
def sH : St := ⟨0, true, fun j => match j with | 0 => 9 | 1 => 5 | 2 => 2 | _ => 0, [0, 0, 0], 0, []⟩
def v0 : Envi := ⟨0, 0, 2, 1, 5⟩

set_option maxRecDepth 100000 in
set_option maxHeartbeats 8000000 in
theorem awake18_c (w : World) : Calls Try.prog 23 #[] w fun e w' => e = .returned (.bool true) ∧ Below w.heap.size w w' := by
  have e8 := fun (x0 x1 x2 x3 x4 x5 x6 x7 : Int) (w : World) => eq8 x0 x1 x2 x3 x4 x5 x6 x7 9 5 2 0 0 0 0 0 w
  have hA := AW.start w
  go_enter Try.func23, Try.ntmps23
  go_wp2_with fail
  go_at_call 40
  refine (event_c 9 5 2 w).mono ?_
  rintro e W1 ⟨rfl, hb⟩
  have hA1 := (hA.call hb).array 2 #[.int .i64 0, .int .i64 0, .int .i64 0] 1 3 rfl
  clear hA hb
  go_wp2_with fail
  go_at_call 59
  refine (begin_c 9 5 2 0 0 0 _ 3 3 [0, 0, 0] (by decide) _ (hA1.r _ (.head _))).mono ?_
  rintro e W2 ⟨A1, k1, rfl, ho, hb⟩
  have hA2 := (((hA1.call hb).of_own ho).less (R' := [⟨1, A1, 3, int64s [0, 0, 0]⟩, ⟨3, none, 0, []⟩]) (fun _ h => h) (by simp)).put 53 #[.int .i64 0, .bool false, .int .i64 9, .int .i64 5, .int .i64 2, .int .i64 0, .int .i64 0, .int .i64 0, .int .i64 0, .int .i64 0, .slice A1 3 k1, .int .i64 0, .slice none 0 0]
  have hA3 := hA2.put' (g := W2.heap.size + 1) 56 #[.int .u64 0, .int .i64 0, .int .i64 2, .int .i64 1, .int .i64 5] (by simp)
  clear hA1 hA2 hb ho
  go_upto_region 6 with fail
  obtain ⟨W, hW⟩ : ∃ W, W = ((W2.alloc (.cells #[.int .i64 0, .bool false, .int .i64 9, .int .i64 5, .int .i64 2, .int .i64 0, .int .i64 0, .int .i64 0, .int .i64 0, .int .i64 0, .slice A1 3 k1, .int .i64 0, .slice none 0 0] 53)).alloc (.cells #[.int .u64 0, .int .i64 0, .int .i64 2, .int .i64 1, .int .i64 5] 56)) := ⟨_, rfl⟩
  rw [← hW] at hA3 ⊢
  clear hW
  have pV : IsRow W (W2.heap.size + 1) 5 := (hA3.l _ (.head _)).isRow rfl
  have qV : rowOf W (W2.heap.size + 1) = #[.int .u64 0, .int .i64 0, .int .i64 2, .int .i64 1, .int .i64 5] := (hA3.l _ (.head _)).rowOf_eq
  have pS : IsRow W W2.heap.size 13 := (hA3.l _ (.tail _ (.head _))).isRow rfl
  have qS : rowOf W W2.heap.size = #[.int .i64 0, .bool false, .int .i64 9, .int .i64 5, .int .i64 2, .int .i64 0, .int .i64 0, .int .i64 0, .int .i64 0, .int .i64 0, .slice A1 3 k1, .int .i64 0, .slice none 0 0] := (hA3.l _ (.tail _ (.head _))).rowOf_eq
  go_wp2_with fail
  go_at_call 60
  refine (call60 ⟨33, 3, 0, 1, 0⟩ ⟨by decide, by decide, by decide, by decide, by decide, by decide, by decide, by decide, by decide, by decide⟩ v0 s0 (fun C S => .agg #[.int .i64 1, .bool false, .int .i64 9, .int .i64 5, .int .i64 2, .int .i64 14, .int .i64 0, .int .i64 0, .int .i64 0, .int .i64 0, C, .int .i64 0, S]) [0, 0, 0] [] 0 (by kernel_rfl) (by kernel_rfl) (by kernel_rfl) (by kernel_rfl) 3 0 rfl rfl A1 none 3 0 k1 0 (by decide) hA3 (.head _) (.tail _ (.head _))).mono ?_
  rintro e U1 ⟨B1, x1, D1, y1, rfl, hB1⟩
  clear pV qV pS qS
  go_upto_region 7 with fail
  have hC1 := hB1.put 53 #[.int .i64 1, .bool false, .int .i64 9, .int .i64 5, .int .i64 2, .int .i64 14, .int .i64 0, .int .i64 0, .int .i64 0, .int .i64 0, .slice B1 3 x1, .int .i64 0, .slice D1 0 y1]
  obtain ⟨W11, hW⟩ : ∃ W, W = (U1.alloc (.cells #[.int .i64 1, .bool false, .int .i64 9, .int .i64 5, .int .i64 2, .int .i64 14, .int .i64 0, .int .i64 0, .int .i64 0, .int .i64 0, .slice B1 3 x1, .int .i64 0, .slice D1 0 y1] 53)) := ⟨_, rfl⟩
  rw [← hW] at hC1 ⊢
  clear hW hB1
  clear hA3
  have pV : IsRow W11 (W2.heap.size + 1) 5 := (hC1.l _ (.tail _ (.head _))).isRow rfl
  have qV : rowOf W11 (W2.heap.size + 1) = #[.int .u64 0, .int .i64 0, .int .i64 2, .int .i64 1, .int .i64 5] := (hC1.l _ (.tail _ (.head _))).rowOf_eq
  have pS : IsRow W11 W2.heap.size 13 := (hC1.l _ (.tail _ (.tail _ (.head _)))).isRow rfl
  have qS : rowOf W11 W2.heap.size = #[.int .i64 0, .bool false, .int .i64 9, .int .i64 5, .int .i64 2, .int .i64 0, .int .i64 0, .int .i64 0, .int .i64 0, .int .i64 0, .slice A1 3 k1, .int .i64 0, .slice none 0 0] := (hC1.l _ (.tail _ (.tail _ (.head _)))).rowOf_eq
  go_wp2_with fail
  go_at_call 60
  refine (call60 ⟨6, 0, 2, 0, 0⟩ ⟨by decide, by decide, by decide, by decide, by decide, by decide, by decide, by decide, by decide, by decide⟩ v0 s0 (fun C S => .agg #[.int .i64 1, .bool false, .int .i64 9, .int .i64 5, .int .i64 2, .int .i64 0, .int .i64 0, .int .i64 0, .int .i64 0, .int .i64 0, C, .int .i64 0, S]) [0, 0, 9] [] 0 (by kernel_rfl) (by kernel_rfl) (by kernel_rfl) (by kernel_rfl) 3 0 rfl rfl A1 none 3 0 k1 0 (by decide) hC1 (.tail _ (.tail _ (.head _))) (.tail _ (.tail _ (.tail _ (.head _))))).mono ?_
  rintro e U2 ⟨B2, x2, D2, y2, rfl, hB2⟩
  clear pV qV pS qS
  go_upto_region 8 with fail
  have hC2 := hB2.put 53 #[.int .i64 1, .bool false, .int .i64 9, .int .i64 5, .int .i64 2, .int .i64 0, .int .i64 0, .int .i64 0, .int .i64 0, .int .i64 0, .slice B2 3 x2, .int .i64 0, .slice D2 0 y2]
  obtain ⟨W12, hW⟩ : ∃ W, W = (U2.alloc (.cells #[.int .i64 1, .bool false, .int .i64 9, .int .i64 5, .int .i64 2, .int .i64 0, .int .i64 0, .int .i64 0, .int .i64 0, .int .i64 0, .slice B2 3 x2, .int .i64 0, .slice D2 0 y2] 53)) := ⟨_, rfl⟩
  rw [← hW] at hC2 ⊢
  clear hW hB2
  clear hC1
  have hmV : (⟨(W2.heap.size + 1), 56, #[.int .u64 0, .int .i64 0, .int .i64 2, .int .i64 1, .int .i64 5]⟩ : Bk) ∈ [⟨U2.heap.size, 53, #[.int .i64 1, .bool false, .int .i64 9, .int .i64 5, .int .i64 2, .int .i64 0, .int .i64 0, .int .i64 0, .int .i64 0, .int .i64 0, .slice B2 3 x2, .int .i64 0, .slice D2 0 y2]⟩, ⟨U1.heap.size, 53, #[.int .i64 1, .bool false, .int .i64 9, .int .i64 5, .int .i64 2, .int .i64 14, .int .i64 0, .int .i64 0, .int .i64 0, .int .i64 0, .slice B1 3 x1, .int .i64 0, .slice D1 0 y1]⟩, ⟨(W2.heap.size + 1), 56, #[.int .u64 0, .int .i64 0, .int .i64 2, .int .i64 1, .int .i64 5]⟩, ⟨W2.heap.size, 53, #[.int .i64 0, .bool false, .int .i64 9, .int .i64 5, .int .i64 2, .int .i64 0, .int .i64 0, .int .i64 0, .int .i64 0, .int .i64 0, .slice A1 3 k1, .int .i64 0, .slice none 0 0]⟩] := (.tail _ (.tail _ (.head _)))
  have hz2 : 2 ≤ 1000000 := by decide
  have hVV : ∀ X, Below W12.heap.size W12 X → (X.cell? ⟨(W2.heap.size + 1), 0, none⟩ = some (.int .u64 0) ∧ X.cell? ⟨(W2.heap.size + 1), 1, none⟩ = some (.int .i64 0) ∧ X.cell? ⟨(W2.heap.size + 1), 2, none⟩ = some (.int .i64 2) ∧ X.cell? ⟨(W2.heap.size + 1), 3, none⟩ = some (.int .i64 1) ∧ X.cell? ⟨(W2.heap.size + 1), 4, none⟩ = some (.int .i64 5)) ∧ (W2.heap.size + 1) < X.heap.size := fun X hX => ⟨(blk5 ((hC2.call hX).l _ hmV)).1, ((hC2.call hX).l _ hmV).lt⟩
  have EV1 : ∀ X, Below W12.heap.size W12 X → Calls Try.prog 40 #[.int .i64 9, .int .i64 5, .int .i64 2] X fun e w' => e = .returned (.agg #[.int .i64 5, .int .i64 2, .int .i64 0, .int .i64 0, .int .i64 9]) ∧ Below W12.heap.size W12 w' ∧ ((w'.cell? ⟨(W2.heap.size + 1), 0, none⟩ = some (.int .u64 0) ∧ w'.cell? ⟨(W2.heap.size + 1), 1, none⟩ = some (.int .i64 0) ∧ w'.cell? ⟨(W2.heap.size + 1), 2, none⟩ = some (.int .i64 2) ∧ w'.cell? ⟨(W2.heap.size + 1), 3, none⟩ = some (.int .i64 1) ∧ w'.cell? ⟨(W2.heap.size + 1), 4, none⟩ = some (.int .i64 5)) ∧ (W2.heap.size + 1) < w'.heap.size) ∧ W12.heap.size ≤ w'.heap.size ∧ (∀ g k, IsRow X g k → IsRow w' g k) ∧ (∀ A xs, Reads X X.heap.size 1 A 2 xs → Reads w' w'.heap.size 1 A 2 xs) := fun X hX => (event_c 9 5 2 X).mono fun e w' ⟨he, hb⟩ => by
    have hB := hX.trans (hb.mono hX.size)
    exact ⟨he, hB, hVV _ hB, hB.size, fun g k h => h.below hb, fun A xs h => h.call hb⟩
  have BG1 : ∀ X A, Below W12.heap.size W12 X → Reads X X.heap.size 1 A 2 (int64s [0, 0]) → Calls Try.prog 59 #[.agg #[.int .i64 5, .int .i64 2, .int .i64 0, .int .i64 0, .int .i64 9], .slice A 2 2, .int .i64 0] X fun e w' => ∃ E1 f1, e = .returned (.agg #[.int .i64 0, .bool false, .int .i64 9, .int .i64 5, .int .i64 2, .int .i64 0, .int .i64 0, .int .i64 0, .int .i64 0, .int .i64 0, .slice E1 2 f1, .int .i64 0, .slice none 0 0]) ∧ Below W12.heap.size W12 w' ∧ ((w'.cell? ⟨(W2.heap.size + 1), 0, none⟩ = some (.int .u64 0) ∧ w'.cell? ⟨(W2.heap.size + 1), 1, none⟩ = some (.int .i64 0) ∧ w'.cell? ⟨(W2.heap.size + 1), 2, none⟩ = some (.int .i64 2) ∧ w'.cell? ⟨(W2.heap.size + 1), 3, none⟩ = some (.int .i64 1) ∧ w'.cell? ⟨(W2.heap.size + 1), 4, none⟩ = some (.int .i64 5)) ∧ (W2.heap.size + 1) < w'.heap.size) ∧ W12.heap.size ≤ w'.heap.size ∧ (∀ g k, IsRow X g k → IsRow w' g k) ∧ Reads w' w'.heap.size 1 E1 2 (int64s [0, 0]) := fun X A hX hr => (begin_c 9 5 2 0 0 0 A 2 2 [0, 0] hz2 X hr).mono fun e w' ⟨A1, k1, he, ho, hb⟩ => by
    have hB := hX.trans (hb.mono hX.size)
    exact ⟨A1, k1, he, hB, hVV _ hB, hB.size, fun g k h => h.below hb, Reads.of_own ho⟩
  have CC1 : ∀ A7 k7 X, Below W12.heap.size W12 X → Reads X X.heap.size 1 A7 2 (int64s [0, 0]) → Calls Try.prog 60 #[.agg #[.int .u8 6, .int .u8 0, .int .u8 2, .int .u8 0, .int .i64 0], .agg #[.int .u64 0, .int .i64 0, .int .i64 2, .int .i64 1, .int .i64 5], .agg #[.int .i64 0, .bool false, .int .i64 9, .int .i64 5, .int .i64 2, .int .i64 0, .int .i64 0, .int .i64 0, .int .i64 0, .int .i64 0, .slice A7 2 k7, .int .i64 0, .slice none 0 0]] X fun e w' => ∃ E1 f1 E2 f2, e = .returned (.tuple #[.agg #[.int .i64 0, .bool false, .int .i64 0, .int .i64 0, .int .i64 0, .int .i64 0, .int .i64 0, .int .i64 0, .int .i64 0, .int .i64 0, .slice E1 0 f1, .int .i64 0, .slice E2 0 f2], .int .i64 185]) ∧ Below W12.heap.size W12 w' ∧ ((w'.cell? ⟨(W2.heap.size + 1), 0, none⟩ = some (.int .u64 0) ∧ w'.cell? ⟨(W2.heap.size + 1), 1, none⟩ = some (.int .i64 0) ∧ w'.cell? ⟨(W2.heap.size + 1), 2, none⟩ = some (.int .i64 2) ∧ w'.cell? ⟨(W2.heap.size + 1), 3, none⟩ = some (.int .i64 1) ∧ w'.cell? ⟨(W2.heap.size + 1), 4, none⟩ = some (.int .i64 5)) ∧ (W2.heap.size + 1) < w'.heap.size) ∧ W12.heap.size ≤ w'.heap.size ∧ (∀ g k, IsRow X g k → IsRow w' g k) := fun A7 k7 X hX hr => (one60_c ⟨6, 0, 2, 0, 0⟩ ⟨by decide, by decide, by decide, by decide, by decide, by decide, by decide, by decide, by decide, by decide⟩ v0 s2 A7 none 2 0 k7 0 (by decide) X hr Reads.none_).mono fun e w' ⟨C, S, he, ho, hq, hb⟩ => by
    have hE : topE [⟨6, 0, 2, 0, 0⟩, haltI] v0 s2 = 185 := by kernel_rfl
    have hV : (topS [⟨6, 0, 2, 0, 0⟩, haltI] v0 s2).v = (fun C S => .agg #[.int .i64 0, .bool false, .int .i64 0, .int .i64 0, .int .i64 0, .int .i64 0, .int .i64 0, .int .i64 0, .int .i64 0, .int .i64 0, C, .int .i64 0, S]) := by kernel_rfl
    have hc : (topS [⟨6, 0, 2, 0, 0⟩, haltI] v0 s2).cells = [] := by kernel_rfl
    have hs : (topS [⟨6, 0, 2, 0, 0⟩, haltI] v0 s2).sends = [] := by kernel_rfl
    have hB := hX.trans (hb.mono hX.size)
    rw [hV, hE] at he
    rw [hc] at ho
    rw [hs] at hq
    obtain ⟨E1, f1, rfl⟩ := own_slice ho
    obtain ⟨E2, f2, rfl⟩ := own_slice hq
    exact ⟨E1, f1, E2, f2, he, hB, hVV _ hB, hB.size, fun g k h => h.below hb⟩
  have EV1 := Lib.hid EV1
  have BG1 := Lib.hid BG1
  have CC1 := Lib.hid CC1
  go_cut [9] (fun p W => p = .int .i64 185 ∧ AW w [⟨U2.heap.size, 53, #[.int .i64 1, .bool false, .int .i64 9, .int .i64 5, .int .i64 2, .int .i64 0, .int .i64 0, .int .i64 0, .int .i64 0, .int .i64 0, .slice B2 3 x2, .int .i64 0, .slice D2 0 y2]⟩, ⟨U1.heap.size, 53, #[.int .i64 1, .bool false, .int .i64 9, .int .i64 5, .int .i64 2, .int .i64 14, .int .i64 0, .int .i64 0, .int .i64 0, .int .i64 0, .slice B1 3 x1, .int .i64 0, .slice D1 0 y1]⟩, ⟨(W2.heap.size + 1), 56, #[.int .u64 0, .int .i64 0, .int .i64 2, .int .i64 1, .int .i64 5]⟩, ⟨W2.heap.size, 53, #[.int .i64 0, .bool false, .int .i64 9, .int .i64 5, .int .i64 2, .int .i64 0, .int .i64 0, .int .i64 0, .int .i64 0, .int .i64 0, .slice A1 3 k1, .int .i64 0, .slice none 0 0]⟩] [⟨1, B2, 3, int64s [0, 0, 9]⟩, ⟨3, D2, 0, sndsV []⟩, ⟨1, B1, 3, int64s [0, 0, 0]⟩, ⟨3, D1, 0, sndsV []⟩, ⟨1, A1, 3, int64s [0, 0, 0]⟩, ⟨3, none, 0, []⟩] W)
  case first =>
    have hVV0 := hVV W12 (Below.refl _ _)
    clear hVV
    have irn : ∀ (W : World) (g k : Nat) (t : TypeId) (cs : Array Value), g = W.heap.size → cs.size = k → IsRow (W.alloc (.cells cs t)) g k := fun W g k t cs => isRow_new
    have hV0 : (W12.cell? ⟨(W2.heap.size + 1), 0, none⟩ = some (.int .u64 0) ∧ W12.cell? ⟨(W2.heap.size + 1), 1, none⟩ = some (.int .i64 0) ∧ W12.cell? ⟨(W2.heap.size + 1), 2, none⟩ = some (.int .i64 2) ∧ W12.cell? ⟨(W2.heap.size + 1), 3, none⟩ = some (.int .i64 1) ∧ W12.cell? ⟨(W2.heap.size + 1), 4, none⟩ = some (.int .i64 5)) ∧ (W2.heap.size + 1) < W12.heap.size := hVV0
    have hG3 : (W2.heap.size + 1) < W12.heap.size := (hC2.l _ hmV).lt
    go_region_held3 (fun W => (W.cell? ⟨(W2.heap.size + 1), 0, none⟩ = some (.int .u64 0) ∧ W.cell? ⟨(W2.heap.size + 1), 1, none⟩ = some (.int .i64 0) ∧ W.cell? ⟨(W2.heap.size + 1), 2, none⟩ = some (.int .i64 2) ∧ W.cell? ⟨(W2.heap.size + 1), 3, none⟩ = some (.int .i64 1) ∧ W.cell? ⟨(W2.heap.size + 1), 4, none⟩ = some (.int .i64 5)) ∧ (W2.heap.size + 1) < W.heap.size)
      (repeat' (first | assumption | refine k5D ?_ | refine k5A ?_ _ | refine k5R ?_ ?_ _ | omega | (simp; omega)))
      ((first
      | (go_at_call 40; refine (EV1.out _ ?_).mono ?_; (focus (repeat' (first | assumption | refine Below.drew ?_ | refine below_al ?_ _ | exact Below.refl _ _))); rintro e u1 ⟨rfl, hu1, hVa, hsz1, hro1, hrd1⟩; (first | have pX := hro1 _ 13 (irn _ _ _ _ _ rfl rfl) | have pX := hro1 _ 13 (isRow_alloc (irn _ _ _ _ _ rfl rfl)) | skip); (try simp at pX))
      | (go_at_call 59; refine (BG1.out _ _ ?_ ?_).mono ?_; (focus (repeat' (first | assumption | refine Below.drew ?_ | refine below_al ?_ _ | exact Below.refl _ _))); (focus (repeat' (first | assumption | exact reads_00 rfl | (refine reads_00 ?_; simp; done) | refine Reads.al ?_ _ | refine hrd1 _ _ ?_))); rintro e u2 ⟨A7, k7, rfl, hu2, hVb, hsz2, hro2, hr2⟩; (first | have pY := hro2 _ 13 (irn _ _ _ _ _ rfl rfl) | have pY := hro2 _ 13 (isRow_alloc (irn _ _ _ _ _ rfl rfl)) | have pY := hro2 _ 13 pX | have pY := hro2 _ 13 (isRow_alloc pX) | skip); (try simp at pY))
      | (go_at_call 60; refine (CC1.out _ _ _ ?_ ?_).mono ?_; (focus (repeat' (first | assumption | refine Below.drew ?_ | refine below_al ?_ _ | exact Below.refl _ _))); (focus (repeat' (first | assumption | exact reads_00 rfl | (refine reads_00 ?_; simp; done) | refine Reads.al ?_ _ | refine hrd1 _ _ ?_))); rintro e u3 ⟨A8, k8, A9, k9, rfl, hu3, hVc, hsz3, hro3⟩; (first | have pZ := hro3 _ 13 (irn _ _ _ _ _ rfl rfl) | have pZ := hro3 _ 13 (isRow_alloc (irn _ _ _ _ _ rfl rfl)) | have pZ := hro3 _ 13 pY | have pZ := hro3 _ 13 (isRow_alloc pY) | skip); (try simp at pZ))))
    all_goals (go_wp2_with fail; go_meet)
    all_goals (refine ⟨rfl, hC2.call ?_⟩; (with_reducible (repeat' (first | assumption | refine below_al ?_ _ | refine below_setRow ?_ ?_ _))))
    all_goals (first | omega | (simp; omega))
  case rest =>
  obtain ⟨rfl, hK⟩ := hcut
  go_upto_region 10 with fail
  have hK2 := hK.put 28 #[.int .u8 8, .int .u8 2, .int .u8 0, .int .u8 0, .int .i64 1]
  obtain ⟨W30, hW⟩ : ∃ W, W = (wc.alloc (.cells #[.int .u8 8, .int .u8 2, .int .u8 0, .int .u8 0, .int .i64 1] 28)) := ⟨_, rfl⟩
  rw [← hW] at hK2 ⊢
  clear hW
  have pI : IsRow W30 wc.heap.size 5 := (hK2.l _ (.head _)).isRow rfl
  have qI : rowOf W30 wc.heap.size = #[.int .u8 8, .int .u8 2, .int .u8 0, .int .u8 0, .int .i64 1] := (hK2.l _ (.head _)).rowOf_eq
  have pV : IsRow W30 (W2.heap.size + 1) 5 := (hK2.l _ (.tail _ (.tail _ (.tail _ (.head _))))).isRow rfl
  have qV : rowOf W30 (W2.heap.size + 1) = #[.int .u64 0, .int .i64 0, .int .i64 2, .int .i64 1, .int .i64 5] := (hK2.l _ (.tail _ (.tail _ (.tail _ (.head _))))).rowOf_eq
  have pS : IsRow W30 W2.heap.size 13 := (hK2.l _ (.tail _ (.tail _ (.tail _ (.tail _ (.head _)))))).isRow rfl
  have qS : rowOf W30 W2.heap.size = #[.int .i64 0, .bool false, .int .i64 9, .int .i64 5, .int .i64 2, .int .i64 0, .int .i64 0, .int .i64 0, .int .i64 0, .int .i64 0, .slice A1 3 k1, .int .i64 0, .slice none 0 0] := (hK2.l _ (.tail _ (.tail _ (.tail _ (.tail _ (.head _)))))).rowOf_eq
  go_wp2_with fail
  go_at_call 60
  refine (call60 ⟨8, 2, 0, 0, 1⟩ ⟨by decide, by decide, by decide, by decide, by decide, by decide, by decide, by decide, by decide, by decide⟩ v0 s0 (fun C S => .agg #[.int .i64 1, .bool false, .int .i64 9, .int .i64 5, .int .i64 2, .int .i64 0, .int .i64 0, .int .i64 0, .int .i64 0, .int .i64 0, C, .int .i64 0, S]) [0, 0, 0] [⟨1, 2, 9⟩] 0 (by kernel_rfl) (by kernel_rfl) (by kernel_rfl) (by kernel_rfl) 3 1 rfl rfl A1 none 3 0 k1 0 (by decide) hK2 (.tail _ (.tail _ (.tail _ (.tail _ (.head _))))) (.tail _ (.tail _ (.tail _ (.tail _ (.tail _ (.head _))))))).mono ?_
  rintro e U3 ⟨B3, x3, D3, y3, rfl, hB3⟩
  clear pI qI pV qV pS qS
  go_upto_region 11 with fail
  have hC3 := hB3.put 53 #[.int .i64 1, .bool false, .int .i64 9, .int .i64 5, .int .i64 2, .int .i64 0, .int .i64 0, .int .i64 0, .int .i64 0, .int .i64 0, .slice B3 3 x3, .int .i64 0, .slice D3 1 y3]
  obtain ⟨W13, hW⟩ : ∃ W, W = (U3.alloc (.cells #[.int .i64 1, .bool false, .int .i64 9, .int .i64 5, .int .i64 2, .int .i64 0, .int .i64 0, .int .i64 0, .int .i64 0, .int .i64 0, .slice B3 3 x3, .int .i64 0, .slice D3 1 y3] 53)) := ⟨_, rfl⟩
  rw [← hW] at hC3 ⊢
  clear hW hB3
  have pI : IsRow W13 wc.heap.size 5 := (hC3.l _ (.tail _ (.head _))).isRow rfl
  have qI : rowOf W13 wc.heap.size = #[.int .u8 8, .int .u8 2, .int .u8 0, .int .u8 0, .int .i64 1] := (hC3.l _ (.tail _ (.head _))).rowOf_eq
  have pS : IsRow W13 W2.heap.size 13 := (hC3.l _ (.tail _ (.tail _ (.tail _ (.tail _ (.tail _ (.head _))))))).isRow rfl
  have qS : rowOf W13 W2.heap.size = #[.int .i64 0, .bool false, .int .i64 9, .int .i64 5, .int .i64 2, .int .i64 0, .int .i64 0, .int .i64 0, .int .i64 0, .int .i64 0, .slice A1 3 k1, .int .i64 0, .slice none 0 0] := (hC3.l _ (.tail _ (.tail _ (.tail _ (.tail _ (.tail _ (.head _))))))).rowOf_eq
  go_wp2_with fail
  go_at_call 60
  refine (call60 ⟨8, 2, 0, 0, 1⟩ ⟨by decide, by decide, by decide, by decide, by decide, by decide, by decide, by decide, by decide, by decide⟩ ⟨0, 0, 2, 3, 5⟩ s0 (fun C S => .agg #[.int .i64 0, .bool false, .int .i64 0, .int .i64 0, .int .i64 0, .int .i64 0, .int .i64 0, .int .i64 0, .int .i64 0, .int .i64 0, C, .int .i64 0, S]) [] [] 189 (by kernel_rfl) (by kernel_rfl) (by kernel_rfl) (by kernel_rfl) 0 0 rfl rfl A1 none 3 0 k1 0 (by decide) hC3 (.tail _ (.tail _ (.tail _ (.tail _ (.tail _ (.tail _ (.head _))))))) (.tail _ (.tail _ (.tail _ (.tail _ (.tail _ (.tail _ (.tail _ (.head _))))))))).mono ?_
  rintro e U4 ⟨B4, x4, D4, y4, rfl, hB4⟩
  clear pI qI pS qS
  go_upto_region 12 with fail
  have hC4 := hB4.put 53 #[.int .i64 0, .bool false, .int .i64 0, .int .i64 0, .int .i64 0, .int .i64 0, .int .i64 0, .int .i64 0, .int .i64 0, .int .i64 0, .slice B4 0 x4, .int .i64 0, .slice D4 0 y4]
  obtain ⟨W14, hW⟩ : ∃ W, W = (U4.alloc (.cells #[.int .i64 0, .bool false, .int .i64 0, .int .i64 0, .int .i64 0, .int .i64 0, .int .i64 0, .int .i64 0, .int .i64 0, .int .i64 0, .slice B4 0 x4, .int .i64 0, .slice D4 0 y4] 53)) := ⟨_, rfl⟩
  rw [← hW] at hC4 ⊢
  clear hW hB4
  clear hC3
  have pI : IsRow W14 wc.heap.size 5 := (hC4.l _ (.tail _ (.tail _ (.head _)))).isRow rfl
  have qI : rowOf W14 wc.heap.size = #[.int .u8 8, .int .u8 2, .int .u8 0, .int .u8 0, .int .i64 1] := (hC4.l _ (.tail _ (.tail _ (.head _)))).rowOf_eq
  have pS : IsRow W14 W2.heap.size 13 := (hC4.l _ (.tail _ (.tail _ (.tail _ (.tail _ (.tail _ (.tail _ (.head _)))))))).isRow rfl
  have qS : rowOf W14 W2.heap.size = #[.int .i64 0, .bool false, .int .i64 9, .int .i64 5, .int .i64 2, .int .i64 0, .int .i64 0, .int .i64 0, .int .i64 0, .int .i64 0, .slice A1 3 k1, .int .i64 0, .slice none 0 0] := (hC4.l _ (.tail _ (.tail _ (.tail _ (.tail _ (.tail _ (.tail _ (.head _)))))))).rowOf_eq
  go_wp2_with fail
  go_at_call 60
  refine (call60 ⟨8, 2, 0, 0, 1⟩ ⟨by decide, by decide, by decide, by decide, by decide, by decide, by decide, by decide, by decide, by decide⟩ ⟨0, 0, 1, 1, 5⟩ s0 (fun C S => .agg #[.int .i64 0, .bool false, .int .i64 0, .int .i64 0, .int .i64 0, .int .i64 0, .int .i64 0, .int .i64 0, .int .i64 0, .int .i64 0, C, .int .i64 0, S]) [] [] 188 (by kernel_rfl) (by kernel_rfl) (by kernel_rfl) (by kernel_rfl) 0 0 rfl rfl A1 none 3 0 k1 0 (by decide) hC4 (.tail _ (.tail _ (.tail _ (.tail _ (.tail _ (.tail _ (.tail _ (.tail _ (.head _))))))))) (.tail _ (.tail _ (.tail _ (.tail _ (.tail _ (.tail _ (.tail _ (.tail _ (.tail _ (.head _))))))))))).mono ?_
  rintro e U5 ⟨B5, x5, D5, y5, rfl, hB5⟩
  clear pI qI pS qS
  go_upto_region 13 with fail
  have hC5 := hB5.put 53 #[.int .i64 0, .bool false, .int .i64 0, .int .i64 0, .int .i64 0, .int .i64 0, .int .i64 0, .int .i64 0, .int .i64 0, .int .i64 0, .slice B5 0 x5, .int .i64 0, .slice D5 0 y5]
  obtain ⟨W15, hW⟩ : ∃ W, W = (U5.alloc (.cells #[.int .i64 0, .bool false, .int .i64 0, .int .i64 0, .int .i64 0, .int .i64 0, .int .i64 0, .int .i64 0, .int .i64 0, .int .i64 0, .slice B5 0 x5, .int .i64 0, .slice D5 0 y5] 53)) := ⟨_, rfl⟩
  rw [← hW] at hC5 ⊢
  clear hW hB5
  clear hC4
  have pI : IsRow W15 wc.heap.size 5 := (hC5.l _ (.tail _ (.tail _ (.tail _ (.head _))))).isRow rfl
  have qI : rowOf W15 wc.heap.size = #[.int .u8 8, .int .u8 2, .int .u8 0, .int .u8 0, .int .i64 1] := (hC5.l _ (.tail _ (.tail _ (.tail _ (.head _))))).rowOf_eq
  have pS : IsRow W15 W2.heap.size 13 := (hC5.l _ (.tail _ (.tail _ (.tail _ (.tail _ (.tail _ (.tail _ (.tail _ (.head _))))))))).isRow rfl
  have qS : rowOf W15 W2.heap.size = #[.int .i64 0, .bool false, .int .i64 9, .int .i64 5, .int .i64 2, .int .i64 0, .int .i64 0, .int .i64 0, .int .i64 0, .int .i64 0, .slice A1 3 k1, .int .i64 0, .slice none 0 0] := (hC5.l _ (.tail _ (.tail _ (.tail _ (.tail _ (.tail _ (.tail _ (.tail _ (.head _))))))))).rowOf_eq
  go_wp2_with fail
  go_at_call 60
  refine (call60 ⟨8, 2, 0, 0, 1⟩ ⟨by decide, by decide, by decide, by decide, by decide, by decide, by decide, by decide, by decide, by decide⟩ ⟨0, 0, 2, 1, 281474976710655⟩ s0 (fun C S => .agg #[.int .i64 0, .bool false, .int .i64 0, .int .i64 0, .int .i64 0, .int .i64 0, .int .i64 0, .int .i64 0, .int .i64 0, .int .i64 0, C, .int .i64 0, S]) [] [] 1800 (by kernel_rfl) (by kernel_rfl) (by kernel_rfl) (by kernel_rfl) 0 0 rfl rfl A1 none 3 0 k1 0 (by decide) hC5 (.tail _ (.tail _ (.tail _ (.tail _ (.tail _ (.tail _ (.tail _ (.tail _ (.tail _ (.tail _ (.head _))))))))))) (.tail _ (.tail _ (.tail _ (.tail _ (.tail _ (.tail _ (.tail _ (.tail _ (.tail _ (.tail _ (.tail _ (.head _))))))))))))).mono ?_
  rintro e U6 ⟨B6, x6, D6, y6, rfl, hB6⟩
  clear pI qI pS qS
  go_upto_region 14 with fail
  have hC6 := hB6.put 53 #[.int .i64 0, .bool false, .int .i64 0, .int .i64 0, .int .i64 0, .int .i64 0, .int .i64 0, .int .i64 0, .int .i64 0, .int .i64 0, .slice B6 0 x6, .int .i64 0, .slice D6 0 y6]
  obtain ⟨W16, hW⟩ : ∃ W, W = (U6.alloc (.cells #[.int .i64 0, .bool false, .int .i64 0, .int .i64 0, .int .i64 0, .int .i64 0, .int .i64 0, .int .i64 0, .int .i64 0, .int .i64 0, .slice B6 0 x6, .int .i64 0, .slice D6 0 y6] 53)) := ⟨_, rfl⟩
  rw [← hW] at hC6 ⊢
  clear hW hB6
  clear hC5
  have hP7 := hC6.array 28 #[.int .u8 1, .int .u8 0, .int .u8 0, .int .u8 0, .int .i64 0] 5 1 rfl
  have pV : IsRow W16 (W2.heap.size + 1) 5 := (hC6.l _ (.tail _ (.tail _ (.tail _ (.tail _ (.tail _ (.tail _ (.tail _ (.head _))))))))).isRow rfl
  have qV : rowOf W16 (W2.heap.size + 1) = #[.int .u64 0, .int .i64 0, .int .i64 2, .int .i64 1, .int .i64 5] := (hC6.l _ (.tail _ (.tail _ (.tail _ (.tail _ (.tail _ (.tail _ (.tail _ (.head _))))))))).rowOf_eq
  have pS : IsRow W16 W2.heap.size 13 := (hC6.l _ (.tail _ (.tail _ (.tail _ (.tail _ (.tail _ (.tail _ (.tail _ (.tail _ (.head _)))))))))).isRow rfl
  have qS : rowOf W16 W2.heap.size = #[.int .i64 0, .bool false, .int .i64 9, .int .i64 5, .int .i64 2, .int .i64 0, .int .i64 0, .int .i64 0, .int .i64 0, .int .i64 0, .slice A1 3 k1, .int .i64 0, .slice none 0 0] := (hC6.l _ (.tail _ (.tail _ (.tail _ (.tail _ (.tail _ (.tail _ (.tail _ (.tail _ (.head _)))))))))).rowOf_eq
  go_wp2_with fail
  go_at_call 31
  refine (call31 [haltI] (by intro i hi; simp only [List.mem_cons, List.not_mem_nil, or_false] at hi; rw [hi]; exact haltI_ok) v0 s0 (fun C S => .agg #[.int .i64 0, .bool true, .int .i64 9, .int .i64 5, .int .i64 2, .int .i64 0, .int .i64 0, .int .i64 0, .int .i64 0, .int .i64 0, C, .int .i64 0, S]) [0, 0, 0] [] 0 (by kernel_rfl) (by kernel_rfl) (by kernel_rfl) (by kernel_rfl) 3 0 rfl rfl (some ⟨W16.heap.size, 0, none⟩) A1 none 1 3 0 1 k1 0 (by decide) (by decide) hP7 (.head _) (.tail _ (.tail _ (.tail _ (.tail _ (.tail _ (.tail _ (.tail _ (.tail _ (.tail _ (.tail _ (.tail _ (.tail _ (.tail _ (.head _)))))))))))))) (.tail _ (.tail _ (.tail _ (.tail _ (.tail _ (.tail _ (.tail _ (.tail _ (.tail _ (.tail _ (.tail _ (.tail _ (.tail _ (.tail _ (.head _)))))))))))))))).mono ?_
  rintro e U7 ⟨B7, x7, D7, y7, rfl, hB7⟩
  clear pV qV pS qS hP7 hC6
  go_upto_region 15 with fail
  have hC7 := hB7.put 53 #[.int .i64 0, .bool true, .int .i64 9, .int .i64 5, .int .i64 2, .int .i64 0, .int .i64 0, .int .i64 0, .int .i64 0, .int .i64 0, .slice B7 3 x7, .int .i64 0, .slice D7 0 y7]
  obtain ⟨W17, hW⟩ : ∃ W, W = (U7.alloc (.cells #[.int .i64 0, .bool true, .int .i64 9, .int .i64 5, .int .i64 2, .int .i64 0, .int .i64 0, .int .i64 0, .int .i64 0, .int .i64 0, .slice B7 3 x7, .int .i64 0, .slice D7 0 y7] 53)) := ⟨_, rfl⟩
  rw [← hW] at hC7 ⊢
  clear hW hB7
  have hP8 := hC7.array 28 #[.int .u8 1, .int .u8 0, .int .u8 0, .int .u8 0, .int .i64 0] 5 1 rfl
  have ph : IsRow W17 U7.heap.size 13 := (hC7.l _ (.head _)).isRow rfl
  have qh : rowOf W17 U7.heap.size = #[.int .i64 0, .bool true, .int .i64 9, .int .i64 5, .int .i64 2, .int .i64 0, .int .i64 0, .int .i64 0, .int .i64 0, .int .i64 0, .slice B7 3 x7, .int .i64 0, .slice D7 0 y7] := (hC7.l _ (.head _)).rowOf_eq
  have pV : IsRow W17 (W2.heap.size + 1) 5 := (hC7.l _ (.tail _ (.tail _ (.tail _ (.tail _ (.tail _ (.tail _ (.tail _ (.tail _ (.head _)))))))))).isRow rfl
  have qV : rowOf W17 (W2.heap.size + 1) = #[.int .u64 0, .int .i64 0, .int .i64 2, .int .i64 1, .int .i64 5] := (hC7.l _ (.tail _ (.tail _ (.tail _ (.tail _ (.tail _ (.tail _ (.tail _ (.tail _ (.head _)))))))))).rowOf_eq
  go_wp2_with fail
  go_at_call 31
  refine (call31 [haltI] (by intro i hi; simp only [List.mem_cons, List.not_mem_nil, or_false] at hi; rw [hi]; exact haltI_ok) v0 sH (fun C S => .agg #[.int .i64 0, .bool false, .int .i64 0, .int .i64 0, .int .i64 0, .int .i64 0, .int .i64 0, .int .i64 0, .int .i64 0, .int .i64 0, C, .int .i64 0, S]) [] [] 183 (by kernel_rfl) (by kernel_rfl) (by kernel_rfl) (by kernel_rfl) 0 0 rfl rfl (some ⟨W17.heap.size, 0, none⟩) B7 D7 1 3 0 1 x7 y7 (by decide) (by decide) hP8 (.head _) (.tail _ (.head _)) (.tail _ (.tail _ (.head _)))).mono ?_
  rintro e U8 ⟨B8, x8, D8, y8, rfl, hB8⟩
  clear ph qh pV qV hP8 hC7
  go_upto_region 16 with fail
  have hC8 := hB8.put 53 #[.int .i64 0, .bool false, .int .i64 0, .int .i64 0, .int .i64 0, .int .i64 0, .int .i64 0, .int .i64 0, .int .i64 0, .int .i64 0, .slice B8 0 x8, .int .i64 0, .slice D8 0 y8]
  obtain ⟨W18, hW⟩ : ∃ W, W = (U8.alloc (.cells #[.int .i64 0, .bool false, .int .i64 0, .int .i64 0, .int .i64 0, .int .i64 0, .int .i64 0, .int .i64 0, .int .i64 0, .int .i64 0, .slice B8 0 x8, .int .i64 0, .slice D8 0 y8] 53)) := ⟨_, rfl⟩
  rw [← hW] at hC8 ⊢
  clear hW hB8
  have z1 : W18.cell? ⟨U1.heap.size, 5, none⟩ = some (.int .i64 14) := (hC8.l _ (.tail _ (.tail _ (.tail _ (.tail _ (.tail _ (.tail _ (.tail _ (.tail _ (.head _)))))))))).cell 5
  have l1 : U1.heap.size < W18.heap.size := (hC8.l _ (.tail _ (.tail _ (.tail _ (.tail _ (.tail _ (.tail _ (.tail _ (.tail _ (.head _)))))))))).lt
  have z2 : W18.cell? ⟨U1.heap.size, 0, none⟩ = some (.int .i64 1) := (hC8.l _ (.tail _ (.tail _ (.tail _ (.tail _ (.tail _ (.tail _ (.tail _ (.tail _ (.head _)))))))))).cell 0
  have l2 : U1.heap.size < W18.heap.size := (hC8.l _ (.tail _ (.tail _ (.tail _ (.tail _ (.tail _ (.tail _ (.tail _ (.tail _ (.head _)))))))))).lt
  have z3 : W18.cell? ⟨U2.heap.size, 10, none⟩ = some (.slice B2 3 x2) := (hC8.l _ (.tail _ (.tail _ (.tail _ (.tail _ (.tail _ (.tail _ (.tail _ (.head _))))))))).cell 10
  have l3 : U2.heap.size < W18.heap.size := (hC8.l _ (.tail _ (.tail _ (.tail _ (.tail _ (.tail _ (.tail _ (.tail _ (.head _))))))))).lt
  have hE1 := hC8.array 2 #[.int .i64 0, .int .i64 0, .int .i64 9] 1 3 rfl
  have hEq1 := (equal64_c B2 (some ⟨W18.heap.size, 0, none⟩) 3 3 x2 3 [0, 0, 9] [0, 0, 9] _ (hE1.r _ (.tail _ (.tail _ (.tail _ (.tail _ (.tail _ (.tail _ (.tail _ (.tail _ (.tail _ (.tail _ (.tail _ (.tail _ (.tail _ (.tail _ (.tail _ (.head _))))))))))))))))) (hE1.r _ (.head _)) (by decide)).mono (R' := fun e w' => e = .returned (.bool true) ∧ Below (W18.alloc (.cells #[.int .i64 0, .int .i64 0, .int .i64 9] 2)).heap.size (W18.alloc (.cells #[.int .i64 0, .int .i64 0, .int .i64 9] 2)) w') fun e w' ⟨he, hb⟩ => ⟨he.trans rfl, hb⟩
  have HEq1 := Lib.hid hEq1
  clear hEq1
  go_wp2_with fail
  go_at_call 61
  refine HEq1.out.mono ?_
  rintro e V1 ⟨rfl, hb1⟩
  have hF1 := hE1.call hb1
  clear z1 l1 z2 l2 z3 l3 hE1 HEq1 hb1
  have z4 : V1.cell? ⟨U3.heap.size, 12, none⟩ = some (.slice D3 1 y3) := (hF1.l _ (.tail _ (.tail _ (.tail _ (.tail _ (.tail _ (.head _))))))).cell 12
  have l4 : U3.heap.size < V1.heap.size := (hF1.l _ (.tail _ (.tail _ (.tail _ (.tail _ (.tail _ (.head _))))))).lt
  have hE2 := hF1.array 64 #[.int .i64 1, .int .i64 2, .int .i64 9] 3 1 rfl
  have hEq2 := (equalS_c D3 (some ⟨V1.heap.size, 0, none⟩) 1 1 y3 1 [⟨1, 2, 9⟩] [⟨1, 2, 9⟩] _ (hE2.r _ (.tail _ (.tail _ (.tail _ (.tail _ (.tail _ (.tail _ (.tail _ (.tail _ (.tail _ (.tail _ (.tail _ (.tail _ (.tail _ (.tail _ (.tail _ (.head _))))))))))))))))) (hE2.r _ (.head _)) (by decide)).mono (R' := fun e w' => e = .returned (.bool true) ∧ Below (V1.alloc (.cells #[.int .i64 1, .int .i64 2, .int .i64 9] 64)).heap.size (V1.alloc (.cells #[.int .i64 1, .int .i64 2, .int .i64 9] 64)) w') fun e w' ⟨he, hb⟩ => ⟨he.trans (by simp), hb⟩
  have HEq2 := Lib.hid hEq2
  clear hEq2
  go_wp2_with fail
  go_at_call 52
  refine HEq2.out.mono ?_
  rintro e V2 ⟨rfl, hb2⟩
  have hF2 := hE2.call hb2
  clear z4 l4 hE2 HEq2 hb2
  have z5 : V2.cell? ⟨U7.heap.size, 1, none⟩ = some (.bool true) := (hF2.l _ (.tail _ (.head _))).cell 1
  have l5 : U7.heap.size < V2.heap.size := (hF2.l _ (.tail _ (.head _))).lt
  go_wp2_with fail
  go_ret
  exact ⟨rfl, hF2.b⟩
end Go.Proofs.Ytmljmabbopkpiaa
end

section
/- instr.Same. (printed by gen_same.py) -/
namespace Go.Proofs.Ytmljmabbopkpiaa
open Go.RowKit
set_option linter.unusedVariables false
set_option linter.unusedSimpArgs false

def regsB (r q : Nat → Int) : Bool := r 0 == q 0 && (r 1 == q 1 && (r 2 == q 2 && (r 3 == q 3 && (r 4 == q 4 && (r 5 == q 5 && (r 6 == q 6 && r 7 == q 7))))))
def sameB (a b : St) : Bool := a.at_ == b.at_ && (a.ended == b.ended && (regsB a.regs b.regs && (a.cells == b.cells && (a.draws == b.draws && decide (a.sends = b.sends)))))

set_option maxRecDepth 100000 in
set_option maxHeartbeats 2000000 in
theorem same_c (s t : St) (A B C D : Option Addr) (m n k j c1 c2 c3 c4 : Nat) (w : World) (hA : Reads w w.heap.size 1 A m (int64s s.cells)) (hB : Reads w w.heap.size 3 B n (sndsV s.sends)) (hC : Reads w w.heap.size 1 C k (int64s t.cells)) (hD : Reads w w.heap.size 3 D j (sndsV t.sends)) (hm : m ≤ 1000000) (hn : n ≤ 1000000) :
    Calls Try.prog 30 #[s.v (.slice A m c1) (.slice B n c2), t.v (.slice C k c3) (.slice D j c4)] w fun e w' => e = .returned (.bool (sameB s t)) ∧ Below w.heap.size w w' := by
  have HC := Lib.hid (fun (X : World) (hX : Below w.heap.size w X) => equal64_c A C m k c1 c3 s.cells t.cells X ((hA.below hX).more hX.size) ((hC.below hX).more hX.size) (by omega))
  have HS := Lib.hid (fun (X : World) (hX : Below w.heap.size w X) => equalS_c B D n j c2 c4 s.sends t.sends X ((hB.below hX).more hX.size) ((hD.below hX).more hX.size) (by omega))
  clear hA hB hC hD
  obtain ⟨a0, e0, r, xs, d0, ss⟩ := s
  obtain ⟨a1, e1, q, ys, d1, ts⟩ := t
  have e8 := fun (w : World) => eq8 (r 0) (r 1) (r 2) (r 3) (r 4) (r 5) (r 6) (r 7) (q 0) (q 1) (q 2) (q 3) (q 4) (q 5) (q 6) (q 7) w
  have hR : (r 0 == q 0 && (r 1 == q 1 && (r 2 == q 2 && (r 3 == q 3 && (r 4 == q 4 && (r 5 == q 5 && (r 6 == q 6 && r 7 == q 7))))))) = regsB r q := rfl
  rw [hR] at e8
  obtain ⟨RB, hRB⟩ : ∃ RB, RB = regsB r q := ⟨_, rfl⟩
  rw [← hRB] at e8
  obtain ⟨CB, hCB⟩ : ∃ CB, CB = (xs == ys) := ⟨_, rfl⟩
  obtain ⟨SB, hSB⟩ : ∃ SB, SB = decide (ss = ts) := ⟨_, rfl⟩
  obtain ⟨Q, hQ⟩ : ∃ Q, Q = sameB ⟨a0, e0, r, xs, d0, ss⟩ ⟨a1, e1, q, ys, d1, ts⟩ := ⟨_, rfl⟩
  have hQ' : Q = (a0 == a1 && (e0 == e1 && (RB && (CB && (d0 == d1 && SB))))) := by rw [hQ, hRB, hCB, hSB]; rfl
  unfold St.v
  dsimp only at HC HS ⊢
  rw [← hCB] at HC
  rw [← hSB] at HS
  rw [← hQ]
  clear hR hRB hCB hSB hQ
  by_cases h0 : a0 = a1
  · have g0 := decide_eq_true h0
    have f0 : (a0 == a1) = true := by simp [h0]
    clear h0
    by_cases h1 : e0 = e1
    · have g1 := decide_eq_true h1
      have f1 : (e0 == e1) = true := by simp [h1]
      clear h1
      by_cases h2 : RB = true
      · have g2 := decide_eq_true h2
        by_cases h3 : CB = true
        · have g3 := decide_eq_true h3
          by_cases h4 : d0 = d1
          · have g4 := decide_eq_true h4
            have f4 : (d0 == d1) = true := by simp [h4]
            clear h4
            have hx : Q = SB := by rw [hQ']; simp [f0, f1, h2, h3, f4]
            subst hx
            clear hQ'
            have hst := (((Below.refl _ w).alloc (Nat.le_refl _) (.cells (#[.int .i64 a0, .bool e0, .int .i64 (r 0), .int .i64 (r 1), .int .i64 (r 2), .int .i64 (r 3), .int .i64 (r 4), .int .i64 (r 5), .int .i64 (r 6), .int .i64 (r 7), (.slice A m c1), .int .i64 d0, (.slice B n c2)]) 53)).alloc (by simp) (.cells (#[.int .i64 a1, .bool e1, .int .i64 (q 0), .int .i64 (q 1), .int .i64 (q 2), .int .i64 (q 3), .int .i64 (q 4), .int .i64 (q 5), .int .i64 (q 6), .int .i64 (q 7), (.slice C k c3), .int .i64 d1, (.slice D j c4)]) 53))
            go_enter Try.func30, Try.ntmps30
            go_upto_region 1 with fail
            obtain ⟨W0, hW⟩ : ∃ W0, W0 = ((w.alloc (.cells (#[.int .i64 a0, .bool e0, .int .i64 (r 0), .int .i64 (r 1), .int .i64 (r 2), .int .i64 (r 3), .int .i64 (r 4), .int .i64 (r 5), .int .i64 (r 6), .int .i64 (r 7), (.slice A m c1), .int .i64 d0, (.slice B n c2)]) 53)).alloc (.cells (#[.int .i64 a1, .bool e1, .int .i64 (q 0), .int .i64 (q 1), .int .i64 (q 2), .int .i64 (q 3), .int .i64 (q 4), .int .i64 (q 5), .int .i64 (q 6), .int .i64 (q 7), (.slice C k c3), .int .i64 d1, (.slice D j c4)]) 53)) := ⟨_, rfl⟩
            have hx1 := blk13 (hW ▸ (Blk.new_ rfl).alloc _ : Blk W0 w.heap.size 53 (#[.int .i64 a0, .bool e0, .int .i64 (r 0), .int .i64 (r 1), .int .i64 (r 2), .int .i64 (r 3), .int .i64 (r 4), .int .i64 (r 5), .int .i64 (r 6), .int .i64 (r 7), (.slice A m c1), .int .i64 d0, (.slice B n c2)]))
            have hx2 := blk13 (hW ▸ Blk.new_ (by simp) : Blk W0 (w.heap.size + 1) 53 (#[.int .i64 a1, .bool e1, .int .i64 (q 0), .int .i64 (q 1), .int .i64 (q 2), .int .i64 (q 3), .int .i64 (q 4), .int .i64 (q 5), .int .i64 (q 6), .int .i64 (q 7), (.slice C k c3), .int .i64 d1, (.slice D j c4)]))
            have hl0 : w.heap.size + 1 < W0.heap.size := by rw [hW]; simp
            rw [← hW] at hst ⊢
            clear hW
            obtain ⟨⟨x0, x1, x2, x3, x4, x5, x6, x7, x8, x9, x10, x11, x12⟩, xf⟩ := hx1
            obtain ⟨⟨y0, y1, y2, y3, y4, y5, y6, y7, y8, y9, y10, y11, y12⟩, yf⟩ := hx2
            clear xf yf
            go_wp2_with fail
            go_at_call 61
            refine (HC.out _ hst).mono ?_
            rintro e W1 ⟨rfl, hb⟩
            have hs1 := hst.trans (hb.mono hst.size)
            have x11 : W1.cell? ⟨w.heap.size, 11, none⟩ = _ := (hb.cell (p := ⟨w.heap.size, 11, none⟩) (show w.heap.size < W0.heap.size by omega)).trans x11
            have x12 : W1.cell? ⟨w.heap.size, 12, none⟩ = _ := (hb.cell (p := ⟨w.heap.size, 12, none⟩) (show w.heap.size < W0.heap.size by omega)).trans x12
            have y11 : W1.cell? ⟨w.heap.size + 1, 11, none⟩ = _ := (hb.cell (p := ⟨w.heap.size + 1, 11, none⟩) (show w.heap.size + 1 < W0.heap.size by omega)).trans y11
            have y12 : W1.cell? ⟨w.heap.size + 1, 12, none⟩ = _ := (hb.cell (p := ⟨w.heap.size + 1, 12, none⟩) (show w.heap.size + 1 < W0.heap.size by omega)).trans y12
            clear hb
            go_wp2_with fail
            go_at_call 52
            refine (HS.out _ hs1).mono ?_
            rintro e W2 ⟨rfl, hb⟩
            have hs2 := hs1.trans (hb.mono hs1.size)
            go_wp2_with fail
            go_ret
            exact ⟨rfl, hs2⟩
          · have g4 := decide_eq_false h4
            have f4 : (d0 == d1) = false := by simp [h4]
            have hx : Q = false := by rw [hQ']; simp [f0, f1, h2, h3, f4]
            subst hx
            clear hQ'
            have hst := (((Below.refl _ w).alloc (Nat.le_refl _) (.cells (#[.int .i64 a0, .bool e0, .int .i64 (r 0), .int .i64 (r 1), .int .i64 (r 2), .int .i64 (r 3), .int .i64 (r 4), .int .i64 (r 5), .int .i64 (r 6), .int .i64 (r 7), (.slice A m c1), .int .i64 d0, (.slice B n c2)]) 53)).alloc (by simp) (.cells (#[.int .i64 a1, .bool e1, .int .i64 (q 0), .int .i64 (q 1), .int .i64 (q 2), .int .i64 (q 3), .int .i64 (q 4), .int .i64 (q 5), .int .i64 (q 6), .int .i64 (q 7), (.slice C k c3), .int .i64 d1, (.slice D j c4)]) 53))
            go_enter Try.func30, Try.ntmps30
            go_upto_region 1 with fail
            obtain ⟨W0, hW⟩ : ∃ W0, W0 = ((w.alloc (.cells (#[.int .i64 a0, .bool e0, .int .i64 (r 0), .int .i64 (r 1), .int .i64 (r 2), .int .i64 (r 3), .int .i64 (r 4), .int .i64 (r 5), .int .i64 (r 6), .int .i64 (r 7), (.slice A m c1), .int .i64 d0, (.slice B n c2)]) 53)).alloc (.cells (#[.int .i64 a1, .bool e1, .int .i64 (q 0), .int .i64 (q 1), .int .i64 (q 2), .int .i64 (q 3), .int .i64 (q 4), .int .i64 (q 5), .int .i64 (q 6), .int .i64 (q 7), (.slice C k c3), .int .i64 d1, (.slice D j c4)]) 53)) := ⟨_, rfl⟩
            have hx1 := blk13 (hW ▸ (Blk.new_ rfl).alloc _ : Blk W0 w.heap.size 53 (#[.int .i64 a0, .bool e0, .int .i64 (r 0), .int .i64 (r 1), .int .i64 (r 2), .int .i64 (r 3), .int .i64 (r 4), .int .i64 (r 5), .int .i64 (r 6), .int .i64 (r 7), (.slice A m c1), .int .i64 d0, (.slice B n c2)]))
            have hx2 := blk13 (hW ▸ Blk.new_ (by simp) : Blk W0 (w.heap.size + 1) 53 (#[.int .i64 a1, .bool e1, .int .i64 (q 0), .int .i64 (q 1), .int .i64 (q 2), .int .i64 (q 3), .int .i64 (q 4), .int .i64 (q 5), .int .i64 (q 6), .int .i64 (q 7), (.slice C k c3), .int .i64 d1, (.slice D j c4)]))
            have hl0 : w.heap.size + 1 < W0.heap.size := by rw [hW]; simp
            rw [← hW] at hst ⊢
            clear hW
            obtain ⟨⟨x0, x1, x2, x3, x4, x5, x6, x7, x8, x9, x10, x11, x12⟩, xf⟩ := hx1
            obtain ⟨⟨y0, y1, y2, y3, y4, y5, y6, y7, y8, y9, y10, y11, y12⟩, yf⟩ := hx2
            clear xf yf
            go_wp2_with fail
            go_at_call 61
            refine (HC.out _ hst).mono ?_
            rintro e W1 ⟨rfl, hb⟩
            have hs1 := hst.trans (hb.mono hst.size)
            have x11 : W1.cell? ⟨w.heap.size, 11, none⟩ = _ := (hb.cell (p := ⟨w.heap.size, 11, none⟩) (show w.heap.size < W0.heap.size by omega)).trans x11
            have x12 : W1.cell? ⟨w.heap.size, 12, none⟩ = _ := (hb.cell (p := ⟨w.heap.size, 12, none⟩) (show w.heap.size < W0.heap.size by omega)).trans x12
            have y11 : W1.cell? ⟨w.heap.size + 1, 11, none⟩ = _ := (hb.cell (p := ⟨w.heap.size + 1, 11, none⟩) (show w.heap.size + 1 < W0.heap.size by omega)).trans y11
            have y12 : W1.cell? ⟨w.heap.size + 1, 12, none⟩ = _ := (hb.cell (p := ⟨w.heap.size + 1, 12, none⟩) (show w.heap.size + 1 < W0.heap.size by omega)).trans y12
            clear hb
            go_wp2_with fail
            go_ret
            exact ⟨rfl, hs1⟩
        · have g3 := decide_eq_false h3
          have f3 : CB = false := by simpa using h3
          have hx : Q = false := by rw [hQ']; simp [f0, f1, h2, f3]
          subst hx
          clear hQ'
          have hst := (((Below.refl _ w).alloc (Nat.le_refl _) (.cells (#[.int .i64 a0, .bool e0, .int .i64 (r 0), .int .i64 (r 1), .int .i64 (r 2), .int .i64 (r 3), .int .i64 (r 4), .int .i64 (r 5), .int .i64 (r 6), .int .i64 (r 7), (.slice A m c1), .int .i64 d0, (.slice B n c2)]) 53)).alloc (by simp) (.cells (#[.int .i64 a1, .bool e1, .int .i64 (q 0), .int .i64 (q 1), .int .i64 (q 2), .int .i64 (q 3), .int .i64 (q 4), .int .i64 (q 5), .int .i64 (q 6), .int .i64 (q 7), (.slice C k c3), .int .i64 d1, (.slice D j c4)]) 53))
          go_enter Try.func30, Try.ntmps30
          go_upto_region 1 with fail
          obtain ⟨W0, hW⟩ : ∃ W0, W0 = ((w.alloc (.cells (#[.int .i64 a0, .bool e0, .int .i64 (r 0), .int .i64 (r 1), .int .i64 (r 2), .int .i64 (r 3), .int .i64 (r 4), .int .i64 (r 5), .int .i64 (r 6), .int .i64 (r 7), (.slice A m c1), .int .i64 d0, (.slice B n c2)]) 53)).alloc (.cells (#[.int .i64 a1, .bool e1, .int .i64 (q 0), .int .i64 (q 1), .int .i64 (q 2), .int .i64 (q 3), .int .i64 (q 4), .int .i64 (q 5), .int .i64 (q 6), .int .i64 (q 7), (.slice C k c3), .int .i64 d1, (.slice D j c4)]) 53)) := ⟨_, rfl⟩
          have hx1 := blk13 (hW ▸ (Blk.new_ rfl).alloc _ : Blk W0 w.heap.size 53 (#[.int .i64 a0, .bool e0, .int .i64 (r 0), .int .i64 (r 1), .int .i64 (r 2), .int .i64 (r 3), .int .i64 (r 4), .int .i64 (r 5), .int .i64 (r 6), .int .i64 (r 7), (.slice A m c1), .int .i64 d0, (.slice B n c2)]))
          have hx2 := blk13 (hW ▸ Blk.new_ (by simp) : Blk W0 (w.heap.size + 1) 53 (#[.int .i64 a1, .bool e1, .int .i64 (q 0), .int .i64 (q 1), .int .i64 (q 2), .int .i64 (q 3), .int .i64 (q 4), .int .i64 (q 5), .int .i64 (q 6), .int .i64 (q 7), (.slice C k c3), .int .i64 d1, (.slice D j c4)]))
          have hl0 : w.heap.size + 1 < W0.heap.size := by rw [hW]; simp
          rw [← hW] at hst ⊢
          clear hW
          obtain ⟨⟨x0, x1, x2, x3, x4, x5, x6, x7, x8, x9, x10, x11, x12⟩, xf⟩ := hx1
          obtain ⟨⟨y0, y1, y2, y3, y4, y5, y6, y7, y8, y9, y10, y11, y12⟩, yf⟩ := hx2
          clear xf yf
          go_wp2_with fail
          go_at_call 61
          refine (HC.out _ hst).mono ?_
          rintro e W1 ⟨rfl, hb⟩
          have hs1 := hst.trans (hb.mono hst.size)
          have x11 : W1.cell? ⟨w.heap.size, 11, none⟩ = _ := (hb.cell (p := ⟨w.heap.size, 11, none⟩) (show w.heap.size < W0.heap.size by omega)).trans x11
          have x12 : W1.cell? ⟨w.heap.size, 12, none⟩ = _ := (hb.cell (p := ⟨w.heap.size, 12, none⟩) (show w.heap.size < W0.heap.size by omega)).trans x12
          have y11 : W1.cell? ⟨w.heap.size + 1, 11, none⟩ = _ := (hb.cell (p := ⟨w.heap.size + 1, 11, none⟩) (show w.heap.size + 1 < W0.heap.size by omega)).trans y11
          have y12 : W1.cell? ⟨w.heap.size + 1, 12, none⟩ = _ := (hb.cell (p := ⟨w.heap.size + 1, 12, none⟩) (show w.heap.size + 1 < W0.heap.size by omega)).trans y12
          clear hb
          go_wp2_with fail
          go_ret
          exact ⟨rfl, hs1⟩
      · have g2 := decide_eq_false h2
        have f2 : RB = false := by simpa using h2
        have hx : Q = false := by rw [hQ']; simp [f0, f1, f2]
        subst hx
        clear hQ'
        have hst := (((Below.refl _ w).alloc (Nat.le_refl _) (.cells (#[.int .i64 a0, .bool e0, .int .i64 (r 0), .int .i64 (r 1), .int .i64 (r 2), .int .i64 (r 3), .int .i64 (r 4), .int .i64 (r 5), .int .i64 (r 6), .int .i64 (r 7), (.slice A m c1), .int .i64 d0, (.slice B n c2)]) 53)).alloc (by simp) (.cells (#[.int .i64 a1, .bool e1, .int .i64 (q 0), .int .i64 (q 1), .int .i64 (q 2), .int .i64 (q 3), .int .i64 (q 4), .int .i64 (q 5), .int .i64 (q 6), .int .i64 (q 7), (.slice C k c3), .int .i64 d1, (.slice D j c4)]) 53))
        go_enter Try.func30, Try.ntmps30
        go_upto_region 1 with fail
        obtain ⟨W0, hW⟩ : ∃ W0, W0 = ((w.alloc (.cells (#[.int .i64 a0, .bool e0, .int .i64 (r 0), .int .i64 (r 1), .int .i64 (r 2), .int .i64 (r 3), .int .i64 (r 4), .int .i64 (r 5), .int .i64 (r 6), .int .i64 (r 7), (.slice A m c1), .int .i64 d0, (.slice B n c2)]) 53)).alloc (.cells (#[.int .i64 a1, .bool e1, .int .i64 (q 0), .int .i64 (q 1), .int .i64 (q 2), .int .i64 (q 3), .int .i64 (q 4), .int .i64 (q 5), .int .i64 (q 6), .int .i64 (q 7), (.slice C k c3), .int .i64 d1, (.slice D j c4)]) 53)) := ⟨_, rfl⟩
        have hx1 := blk13 (hW ▸ (Blk.new_ rfl).alloc _ : Blk W0 w.heap.size 53 (#[.int .i64 a0, .bool e0, .int .i64 (r 0), .int .i64 (r 1), .int .i64 (r 2), .int .i64 (r 3), .int .i64 (r 4), .int .i64 (r 5), .int .i64 (r 6), .int .i64 (r 7), (.slice A m c1), .int .i64 d0, (.slice B n c2)]))
        have hx2 := blk13 (hW ▸ Blk.new_ (by simp) : Blk W0 (w.heap.size + 1) 53 (#[.int .i64 a1, .bool e1, .int .i64 (q 0), .int .i64 (q 1), .int .i64 (q 2), .int .i64 (q 3), .int .i64 (q 4), .int .i64 (q 5), .int .i64 (q 6), .int .i64 (q 7), (.slice C k c3), .int .i64 d1, (.slice D j c4)]))
        have hl0 : w.heap.size + 1 < W0.heap.size := by rw [hW]; simp
        rw [← hW] at hst ⊢
        clear hW
        obtain ⟨⟨x0, x1, x2, x3, x4, x5, x6, x7, x8, x9, x10, x11, x12⟩, xf⟩ := hx1
        obtain ⟨⟨y0, y1, y2, y3, y4, y5, y6, y7, y8, y9, y10, y11, y12⟩, yf⟩ := hx2
        clear xf yf
        go_wp2_with fail
        go_ret
        exact ⟨rfl, hst⟩
    · have g1 := decide_eq_false h1
      have f1 : (e0 == e1) = false := by simp [h1]
      have hx : Q = false := by rw [hQ']; simp [f0, f1]
      subst hx
      clear hQ'
      have hst := (((Below.refl _ w).alloc (Nat.le_refl _) (.cells (#[.int .i64 a0, .bool e0, .int .i64 (r 0), .int .i64 (r 1), .int .i64 (r 2), .int .i64 (r 3), .int .i64 (r 4), .int .i64 (r 5), .int .i64 (r 6), .int .i64 (r 7), (.slice A m c1), .int .i64 d0, (.slice B n c2)]) 53)).alloc (by simp) (.cells (#[.int .i64 a1, .bool e1, .int .i64 (q 0), .int .i64 (q 1), .int .i64 (q 2), .int .i64 (q 3), .int .i64 (q 4), .int .i64 (q 5), .int .i64 (q 6), .int .i64 (q 7), (.slice C k c3), .int .i64 d1, (.slice D j c4)]) 53))
      go_enter Try.func30, Try.ntmps30
      go_upto_region 1 with fail
      obtain ⟨W0, hW⟩ : ∃ W0, W0 = ((w.alloc (.cells (#[.int .i64 a0, .bool e0, .int .i64 (r 0), .int .i64 (r 1), .int .i64 (r 2), .int .i64 (r 3), .int .i64 (r 4), .int .i64 (r 5), .int .i64 (r 6), .int .i64 (r 7), (.slice A m c1), .int .i64 d0, (.slice B n c2)]) 53)).alloc (.cells (#[.int .i64 a1, .bool e1, .int .i64 (q 0), .int .i64 (q 1), .int .i64 (q 2), .int .i64 (q 3), .int .i64 (q 4), .int .i64 (q 5), .int .i64 (q 6), .int .i64 (q 7), (.slice C k c3), .int .i64 d1, (.slice D j c4)]) 53)) := ⟨_, rfl⟩
      have hx1 := blk13 (hW ▸ (Blk.new_ rfl).alloc _ : Blk W0 w.heap.size 53 (#[.int .i64 a0, .bool e0, .int .i64 (r 0), .int .i64 (r 1), .int .i64 (r 2), .int .i64 (r 3), .int .i64 (r 4), .int .i64 (r 5), .int .i64 (r 6), .int .i64 (r 7), (.slice A m c1), .int .i64 d0, (.slice B n c2)]))
      have hx2 := blk13 (hW ▸ Blk.new_ (by simp) : Blk W0 (w.heap.size + 1) 53 (#[.int .i64 a1, .bool e1, .int .i64 (q 0), .int .i64 (q 1), .int .i64 (q 2), .int .i64 (q 3), .int .i64 (q 4), .int .i64 (q 5), .int .i64 (q 6), .int .i64 (q 7), (.slice C k c3), .int .i64 d1, (.slice D j c4)]))
      have hl0 : w.heap.size + 1 < W0.heap.size := by rw [hW]; simp
      rw [← hW] at hst ⊢
      clear hW
      obtain ⟨⟨x0, x1, x2, x3, x4, x5, x6, x7, x8, x9, x10, x11, x12⟩, xf⟩ := hx1
      obtain ⟨⟨y0, y1, y2, y3, y4, y5, y6, y7, y8, y9, y10, y11, y12⟩, yf⟩ := hx2
      clear xf yf
      go_wp2_with fail
      go_ret
      exact ⟨rfl, hst⟩
  · have g0 := decide_eq_false h0
    have f0 : (a0 == a1) = false := by simp [h0]
    have hx : Q = false := by rw [hQ']; simp [f0]
    subst hx
    clear hQ'
    have hst := (((Below.refl _ w).alloc (Nat.le_refl _) (.cells (#[.int .i64 a0, .bool e0, .int .i64 (r 0), .int .i64 (r 1), .int .i64 (r 2), .int .i64 (r 3), .int .i64 (r 4), .int .i64 (r 5), .int .i64 (r 6), .int .i64 (r 7), (.slice A m c1), .int .i64 d0, (.slice B n c2)]) 53)).alloc (by simp) (.cells (#[.int .i64 a1, .bool e1, .int .i64 (q 0), .int .i64 (q 1), .int .i64 (q 2), .int .i64 (q 3), .int .i64 (q 4), .int .i64 (q 5), .int .i64 (q 6), .int .i64 (q 7), (.slice C k c3), .int .i64 d1, (.slice D j c4)]) 53))
    go_enter Try.func30, Try.ntmps30
    go_upto_region 1 with fail
    obtain ⟨W0, hW⟩ : ∃ W0, W0 = ((w.alloc (.cells (#[.int .i64 a0, .bool e0, .int .i64 (r 0), .int .i64 (r 1), .int .i64 (r 2), .int .i64 (r 3), .int .i64 (r 4), .int .i64 (r 5), .int .i64 (r 6), .int .i64 (r 7), (.slice A m c1), .int .i64 d0, (.slice B n c2)]) 53)).alloc (.cells (#[.int .i64 a1, .bool e1, .int .i64 (q 0), .int .i64 (q 1), .int .i64 (q 2), .int .i64 (q 3), .int .i64 (q 4), .int .i64 (q 5), .int .i64 (q 6), .int .i64 (q 7), (.slice C k c3), .int .i64 d1, (.slice D j c4)]) 53)) := ⟨_, rfl⟩
    have hx1 := blk13 (hW ▸ (Blk.new_ rfl).alloc _ : Blk W0 w.heap.size 53 (#[.int .i64 a0, .bool e0, .int .i64 (r 0), .int .i64 (r 1), .int .i64 (r 2), .int .i64 (r 3), .int .i64 (r 4), .int .i64 (r 5), .int .i64 (r 6), .int .i64 (r 7), (.slice A m c1), .int .i64 d0, (.slice B n c2)]))
    have hx2 := blk13 (hW ▸ Blk.new_ (by simp) : Blk W0 (w.heap.size + 1) 53 (#[.int .i64 a1, .bool e1, .int .i64 (q 0), .int .i64 (q 1), .int .i64 (q 2), .int .i64 (q 3), .int .i64 (q 4), .int .i64 (q 5), .int .i64 (q 6), .int .i64 (q 7), (.slice C k c3), .int .i64 d1, (.slice D j c4)]))
    have hl0 : w.heap.size + 1 < W0.heap.size := by rw [hW]; simp
    rw [← hW] at hst ⊢
    clear hW
    obtain ⟨⟨x0, x1, x2, x3, x4, x5, x6, x7, x8, x9, x10, x11, x12⟩, xf⟩ := hx1
    obtain ⟨⟨y0, y1, y2, y3, y4, y5, y6, y7, y8, y9, y10, y11, y12⟩, yf⟩ := hx2
    clear xf yf
    go_wp2_with fail
    go_ret
    exact ⟨rfl, hst⟩
end Go.Proofs.Ytmljmabbopkpiaa
end
