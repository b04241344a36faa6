import Derived.Test.YtjliakjbdcplcaaG5
import Derived.Test.YtjliakjbdcplcaaG7
import Derived.Test.YtjliakjbdcplcaaG8
import Derived.Test.YtjliakjbdcplcaaG10
import Derived.Test.YtjliakjbdcplcaaG11
import Derived.IntWalk
import Derived.Laws.ResultCell
import Derived.Laws.OwnMore
import Derived.Lib.OthersKept
import Derived.Deep.RegionHeld3
import Derived.StillTailTactics
import Derived.Deep.QuietTactic
import Derived.Deep.RegionLaw
import Derived.Deep.DrawnRows
import Derived.Laws.EntriesVeiled
import Derived.BigQuiet
import Derived.WalkSpells
import Derived.Handy
import Derived.Deep.DeepCutAuto
section
namespace Go.Proofs.Ytjliakjbdcplcaa.Vm
theorem b79 {P : Prop} (h : P := by exact oneK_pos (show _ ∧ _ ∧ _ ∧ _ by dsimp only; omega)) : P := h
theorem b80 {P : Prop} (h : P := by exact oneK_pos (show _ ∧ _ ∧ _ ∧ _ ∧ _ by dsimp only; omega)) : P := h
theorem b81 {P : Prop} (h : P := by (repeat' (first | exact trivial | exact rfl | assumption | apply Stable.ite | apply And.intro | intro _ | (simp only [Stable, StableL, i64S, prS, insS, sndsS, sndS, stS, evS, macS, HB.stable]; done)))) : P := h
theorem b82 {P : Prop} (h : P := by (repeat' (first | exact trivial | exact .inl rfl | exact .inr (.same _) | exact .inr .loose | exact .inr (.arr (by assumption)) | apply And.intro | (exact .inr (hY _)) | (exact .inr (hY0 _)) | (rw [nilS_f hne]; exact .inr (by simp only [mSnd_len]; exact .same _)) | (exact .inr (by rw [hm1]; exact .same _))))) : P := h
theorem b83 {P : Prop} (h : P := by (simp only [push_cast, ↓JP, Nat.reduceAdd, Nat.reduceEqDiff, Nat.reduceLT, Nat.reduceMul, Nat.reduceLeDiff, reduceCtorEq, reduceIte, ↓JK, JM, JE, cM18, sCl64, inR, inN, Nat.sub_zero, hm2, hm2', hlt2]; rfl)) : P := h
end Go.Proofs.Ytjliakjbdcplcaa.Vm
end
section
namespace Go.Proofs.Ytjliakjbdcplcaa.Vm
open Go.RowKit
attribute [local push_cast] runR opG gtmp gval gus opX tmpsOf tm tmO tmP restr look look2 tab tys zs ets eqB eqBL allB numOf ieq Int.cast_ofNat_Int Int.ofNat_zero beq_true beq_false frameOf ev evL ofV opV loadV noW pushF wrsL setH allBorn allGone HB.born HB.isGone HB.val SV.plain dstOk hp nav fitsT SV.size sizeL SV.isAgg TK.size TK.agg bin binE binN binI arN arI cmpN cmpI keq kn narrow callV storeV setp fillV buildV buildSliceV makeV sliceV appendV copyV List.isEmpty_nil srcV evO asN ite_t ite_f ite_bool ite_int ite_nat maxV v_beq v_ble v_blt cond_true cond_false List.getElem?_cons_zero List.getElem?_cons_succ List.getD_cons_zero List.getD_cons_succ List.getD_nil List.length_cons List.length_nil List.take_succ_cons List.take_zero List.set_cons_zero List.set_cons_succ List.cons_append List.nil_append List.append_assoc List.replicate_succ List.replicate_zero Nat.zero_add Nat.add_zero decide_true decide_false Bool.true_and Bool.and_true Bool.false_and Bool.and_false Bool.true_or Bool.or_true Bool.false_or Bool.or_false beq_self_eq_true Bool.or_self Nat.lt_irrefl Nat.not_lt_zero Nat.le_refl Option.getD_some Option.getD_none BEq.rfl Bool.not_true Bool.not_false Bool.cond_true_left Bool.cond_false_right prS sndsS i64S nav_ins nav_ins0 nav_ins1 nav_ins2 nav_ins3 nav_ins4 nav_snd nav_snd0 nav_snd1 nav_snd2 isIns_insS insOf_insS isSnd_sndS sndOf_sndS isI_int isI_nat iOf
set_option linter.unusedVariables false
set_option linter.unusedSimpArgs false
set_option maxRecDepth 100000
set_option maxHeartbeats 4000000
def cBk : FuncId → Option Spec := look2 [(46, rN), (44, sBgG)]
theorem cBk_ok : ∀ f S, cBk f = some S → CallOk Try.prog f S := allOk_spec ⟨rN_ok, sBgG_ok, trivial⟩
theorem back_lit (P : List Ins) (v : Evi) (s : Sta) (u : Nat) (w : Bool) (hs : s.sends = []) (hP : ∀ x ∈ P, x.ok) (hn : P.length ≤ 1000000) (hc : s.cells.length ≤ 1000000) (hE : openE P v s = 0) : LitOk Try.prog 22 [.ptr 1 []] [.gone, rB 2 3 4 5 u w, .gone, clA 6 P.length, clB v, clC s 7, prO P, cB s]
    (.int .i64 0) [.gone, rB 8 3 4 5 0 false, .gone, clA 6 P.length, clB v, clC s 7, prO P, cB s, eB 9 12 P.length, mB s v Ins0 10 11, cB s, sB s, prO P] := by
  obtain ⟨a0, e0, rg, cs, d, n0⟩ := s
  dsimp only at hs hc
  subst hs
  refine litOkM (fn := Try.f22) 8 26 0 rfl rfl rfl rfl rfl (by simp only [StableL, Stable, hp, i64S, prS, insS, sndsS, sndS, stS, evS, macS, mB, cB, sB, eB, prO, prR, pbB, fbB, rB, rvS, clA, clB, clC, fsS, HB.stable]; simp [HB.born, rB, rvS, clA, clB, clC, prO, cB]) rfl fun w0 M E hro => ?_
  repeat' (first | with_reducible (first | apply J1 | apply J3 | apply J4 | apply J5 | apply J6 | apply J7 | apply J8 | apply J9 | apply J10 | apply J11 | apply J12 | apply J13 | apply J14 | apply J15 | apply J16 | apply J17 | apply J18 | apply J19 | apply J20 | refine J2 ?_) | ((with_reducible apply J21); (· rfl)) | ((with_reducible intro hif); first | (focus (cases hif; done)) | (simp only [JH] at hif; try (exfalso; omega)) | (try (exfalso; omega))) | ((first | ((with_reducible apply J22 cBk_ok tab_ok); (· rfl)) | ((with_reducible apply J23 fol cBk_ok tab_ok); (· rfl)) | with_reducible apply J24); (· (simp only [push_cast, ↓JP, Nat.reduceAdd, Nat.reduceEqDiff, Nat.reduceLT, Nat.reduceMul, Nat.reduceLeDiff, reduceCtorEq, reduceIte, ↓JK, JM, JE, JB, cBk, rB, rvS, clA, clB, clC, fsS, prO, rN, sBgG, clP, prP, nodupN, memN, inR, inN]; rfl)); (try kernel_rfl); (try (focus (first | exact True.intro | ((try simp only [JS, implies_true, forall_const, shaped, shapedL, kndOf, inR, inN]); (first | first | omega | exact ⟨hP, hn, hc, hE⟩ | (repeat' (first | assumption | exact True.intro | omega | apply And.intro))); done))))) | fail)
  apply At.endsPick [0, 1, 2, 3, 4, 5, 6, 7, 8, 9, 10, 11, 12] tab_ok (fn := Try.f22) (rs := [.tmp 2]) Anc.refl hro (Nat.le_of_ble_eq_true rfl) rfl
  · exact Vm.b12
  · exact Vm.b14
  · rfl
  · rfl
  · rfl
  · exact Vm.b31
  · rfl
  · exact Vm.b72
  · exact Vm.b9
  · exact fun β => rfl
  · exact Vm.b72
def sNewG : Spec := fun args h m => match args with
  | [v1, .agg [v2, v3, v4, v5, v6], .agg [.agg [v7, v8, v9], v10, v11], v12, v13] => match srcV h 5 (.tup []) v1, srcV h 1 (.tup []) v12 with
    | some (c1, n1, f1, r1), some (c12, n12, f12, r12) => bif isI .u64 v2 && isI .i64 v3 && isI .i64 v4 && isI .i64 v5 && isI .i64 v6 && isI .i64 v7 && isI .i64 v8 && isI .i64 v9 && isI .i64 v10 && isI .i64 v11 && isI .i64 v13 then some (c1 ∧ c12 ∧ (∀ q, q < n1 → isIns (f1 q) = true) ∧ (∀ q, q < n12 → isI .i64 (f12 q) = true) ∧ ((∀ x ∈ (ls insOf n1 f1), x.ok)) ∧ (n1 ≤ 1000000) ∧ (n12 ≤ 1000000) ∧ (openE (ls insOf n1 f1) ⟨(iOf v2), (iOf v3), (iOf v4), (iOf v5), (iOf v6)⟩ (begS (iOf v11) (iOf v7) (iOf v8) (ls iOf n12 f12) (iOf v13)) = 0), .tup [.ptr m [], .int .i64 0], r1 ++ r12, [(m, rB (m + 1) (m + 6) (m + 7) (m + 8) 0 false), (m + 1, eB (m + 2) (m + 5) (ls insOf n1 f1).length), (m + 2, mB (begS (iOf v11) (iOf v7) (iOf v8) (ls iOf n12 f12) (iOf v13)) ⟨(iOf v2), (iOf v3), (iOf v4), (iOf v5), (iOf v6)⟩ Ins0 (m + 3) (m + 4)), (m + 3, cB (begS (iOf v11) (iOf v7) (iOf v8) (ls iOf n12 f12) (iOf v13))), (m + 4, sB (begS (iOf v11) (iOf v7) (iOf v8) (ls iOf n12 f12) (iOf v13))), (m + 5, prO (ls insOf n1 f1)), (m + 6, clA (m + 9) (ls insOf n1 f1).length), (m + 7, clB ⟨(iOf v2), (iOf v3), (iOf v4), (iOf v5), (iOf v6)⟩), (m + 8, clC (begS (iOf v11) (iOf v7) (iOf v8) (ls iOf n12 f12) (iOf v13)) (m + 10)), (m + 9, prO (ls insOf n1 f1)), (m + 10, cB (begS (iOf v11) (iOf v7) (iOf v8) (ls iOf n12 f12) (iOf v13)))]) else none
    | _, _ => none
  | _ => none
theorem sNewG_ok : CallOk Try.prog 16 sNewG := by
  refine ⟨named_spec (by kernel_rfl), fun args h m c v rd wr hs hm hc w0 M β h' w R hrd hwr hst => ?_⟩
  unfold sNewG at hs
  split at hs
  · rename_i v1 v2 v3 v4 v5 v6 v7 v8 v9 v10 v11 v12 v13
    split at hs
    · rename_i c1 n1 f1 r1 c12 n12 f12 r12 a1 a12
      obtain ⟨hb, hs⟩ := bif_some hs
      simp only [Option.some.injEq, Prod.mk.injEq] at hs
      obtain ⟨rfl, rfl, rfl, rfl⟩ := hs
      simp only [Bool.and_eq_true] at hb
      obtain ⟨⟨⟨⟨⟨⟨⟨⟨⟨⟨b2, b3⟩, b4⟩, b5⟩, b6⟩, b7⟩, b8⟩, b9⟩, b10⟩, b11⟩, b13⟩ := hb
      obtain ⟨k1, k12, g1, g12, y1, y2, y3, y4⟩ := hc
      obtain ⟨A1, p1, d1, e1, t1⟩ := reads_src R a1 k1 (fun i hi => hrd i (List.mem_append_left _ hi)) (by omega)
      obtain ⟨A12, p12, d12, e12, t12⟩ := reads_src R a12 k12 (fun i hi => hrd i (List.mem_append_right _ hi)) (by omega)
      refine callRo (views := [⟨5, (ls insOf n1 f1).length, prS (ls insOf n1 f1), A1, p1⟩, ⟨1, (ls iOf n12 f12).length, i64S (ls iOf n12 f12), A12, p12⟩]) (new_good (ls insOf n1 f1) ⟨(iOf v2), (iOf v3), (iOf v4), (iOf v5), (iOf v6)⟩ (iOf v7) (iOf v8) (iOf v9) (iOf v10) (iOf v11) (iOf v13) (ls iOf n12 f12) p1 p12 y1 (by rw [ls_length]; exact y2) (by rw [ls_length]; exact y3) y4) ?_ R hm hwr ?_ ?_ ?_
      · intro x hx
        simp only [List.mem_cons, List.not_mem_nil, or_false] at hx
        rcases hx with rfl | rfl
        · exact viewIns t1 e1 g1
        · exact viewI64 t12 e12 g12
      · intro β1 hv
        simp only [Vd, ls_length, and_true] at hv
        obtain ⟨z1, z12⟩ := hv
        simp only [denL, aggDen, intDen, natDen, boolDen, ls_length, z1, z12, d1, d12, isI_den b2, isI_den b3, isI_den b4, isI_den b5, isI_den b6, isI_den b7, isI_den b8, isI_den b9, isI_den b10, isI_den b11, isI_den b13]
      · exact Vm.b72
      · exact Vm.b72
    · cases hs
  · cases hs
theorem litNat {f : FuncId} {a : SV} {k : IntKind} {n : Nat} {L0 L1 : List HB} {v : SV} (H : LitOk Try.prog f [a, .int k n] L0 v L1) : LitOk Try.prog f [a, .nat k n] L0 v L1 := fun w0 M β w R => H w0 M β w R
def runP (h : HM) (r : Nat) : Option (Nat × Bool × (Sta × Evi × Ins × List Ins) × (Nat × Nat × Nat × Nat × Nat) × (Nat × Nat × Nat) × Prop) := match h r with
  | .own t (.agg [.ptr e [], .fn fi [.ptr a [], .ptr b [], .ptr c []], .nat .i64 u, .bool w]) true => match engP h e with
    | some (s, v, x, P, (g, c1, k, i), ok) => bif Nat.beq t 125 && Nat.beq fi 44 && nodupN [0, r, e, g, c1, k, i, a, b, c] && ((h a).born && (h b).born && (h c).born) then some (u, w, (s, v, x, P), (e, g, c1, k, i), (a, b, c), ok) else none
    | none => none
  | _ => none
theorem runP_val {h : HM} {r u : Nat} {w : Bool} {s : Sta} {v : Evi} {x : Ins} {P : List Ins} {e g c1 k i a b c : Nat} {ok : Prop} (hp : runP h r = some (u, w, (s, v, x, P), (e, g, c1, k, i), (a, b, c), ok)) :
    h r = rB e a b c u w ∧ engP h e = some (s, v, x, P, (g, c1, k, i), ok) ∧ nodupN [0, r, e, g, c1, k, i, a, b, c] = true ∧ (h a).born = true ∧ (h b).born = true ∧ (h c).born = true := by
  unfold runP at hp
  split at hp
  · rename_i t e fi a b c u w hr
    split at hp
    · rename_i s v x P g c1 k i ok he
      obtain ⟨hb, hs⟩ := bif_some hp
      simp only [Option.some.injEq, Prod.mk.injEq] at hs
      obtain ⟨rfl, rfl, ⟨rfl, rfl, rfl, rfl⟩, ⟨rfl, rfl, rfl, rfl, rfl⟩, ⟨rfl, rfl, rfl⟩, rfl⟩ := hs
      simp only [Bool.and_eq_true] at hb
      obtain ⟨⟨⟨b1, b2⟩, hnd⟩, ⟨b4, b5⟩, b6⟩ := hb
      have b1 := Nat.eq_of_beq_eq_true b1
      have b2 := Nat.eq_of_beq_eq_true b2
      subst b1 b2
      exact ⟨hr, he, hnd, b4, b5, b6⟩
    · cases hp
  · cases hp
def goU (u : Nat) (w : Bool) (r : RR) : Nat := bif w then u else u + r.tr.length
def goW (w : Bool) (r : RR) : Bool := bif w then true else (decide (r.bad ≠ 0) && decide (r.bad ≠ 190))
def goV (r : RR) : SV := .tup [.bool (decide (r.bad = 0)), .int .i64 (if r.bad = 190 then 0 else r.bad)]
theorem go_lit (P : List Ins) (s : Sta) (v : Evi) (x0 : Ins) (u : Nat) (w : Bool) (f : Int) (hP : PG P) (V : VOk v) (hG : SG P s) (hu : u ≤ 4611686018427387904) (hf0 : 0 ≤ f) (hf1 : f ≤ 4096) (r : RR) (hr : runA P v f.toNat s x0 [] 0 = r) : LitOk Try.prog 17 [.ptr 1 [], .int .i64 f] [.gone, rB 2 7 8 9 u w, eB 3 6 P.length, mB s v x0 4 5, cB s, sB s, prO P, .gone, .gone, .gone]
    (goV r) [.gone, rB 2 7 8 9 (goU u w r) (goW w r), eB 3 6 P.length, mB r.s v r.x 4 10, cB r.s, .gone, prO P, .gone, .gone, .gone, sB r.s] := by
  cases w
  · exact goF_lit P s v x0 u f hP V hG hu hf0 hf1 r hr
  · exact goT_lit P s v x0 u f hP V hG hu hf0 hf1 r hr
def rGoQ (r : Nat) (f : Int) (h : HM) (m : Nat) : Option (Prop × SV × List Nat × List (Nat × HB)) := match runP h r with
  | some (u, w, (s, v, x, P), (e, g, c1, k, i), (a, b, c), ok) => some (ok ∧ PG P ∧ VOk v ∧ SG P s ∧ u ≤ 4611686018427387904 ∧ 0 ≤ f ∧ f ≤ 4096, goV (runA P v f.toNat s x [] 0), [r, e, g, c1, k, i, a, b, c], [(r, rB e a b c (goU u w (runA P v f.toNat s x [] 0)) (goW w (runA P v f.toNat s x [] 0))), (e, eB g i P.length), (g, mB (runA P v f.toNat s x [] 0).s v (runA P v f.toNat s x [] 0).x c1 m), (c1, cB (runA P v f.toNat s x [] 0).s), (k, .gone), (i, prO P), (m, sB (runA P v f.toNat s x [] 0).s)])
  | none => none
def rGo : Spec := fun args h m => match args with
  | [.ptr r [], .int .i64 f] => rGoQ r f h m
  | [.ptr r [], .nat .i64 n] => rGoQ r n h m
  | _ => none
theorem rGo_ok : CallOk Try.prog 17 rGo := by
  refine ⟨named_spec (by kernel_rfl), fun args h m c v rd wr hs hm hc w0 M β h' w R hrd hwr hst => ?_⟩
  unfold rGo at hs
  split at hs
  · rename_i r f
    unfold rGoQ at hs
    split at hs
    · rename_i u w s v x P e g c1 k i a b c ok hrp
      simp only [Option.some.injEq, Prod.mk.injEq] at hs
      obtain ⟨rfl, rfl, rfl, rfl⟩ := hs
      obtain ⟨hr, hep, hnd, ba, bb, bc⟩ := runP_val hrp
      obtain ⟨ok1, ok2, rfl, hmp, hpp, he, _⟩ := engP_val hep
      obtain ⟨⟨hok, hok2⟩, hP, hV, hG, hu, hf0, hf1⟩ := hc
      have er := hrd r (by simp)
      have ee := hrd e (by simp)
      have eg := hrd g (by simp)
      have ec := hrd c1 (by simp)
      have ek := hrd k (by simp)
      have ei := hrd i (by simp)
      exact bun_ok (h := h) (m := m) [0, r, e, g, c1, k, i, a, b, c] (go_lit P s v x u w f hP hV hG hu hf0 hf1 _ rfl) R rfl (by simp) rfl rfl hnd
        ⟨Fit.gone (by rw [R.nil0]; rfl), bun_run hr er rfl rfl rfl rfl, bun_engO he ee rfl rfl, bun_mac hmp hok eg rfl rfl, bun_cel hmp hok ec, bun_snd hmp hok ek, bun_prO hpp hok2 ei, Fit.gone (by rw [hrd a (by simp)]; exact ba), Fit.gone (by rw [hrd b (by simp)]; exact bb), Fit.gone (by rw [hrd c (by simp)]; exact bc), trivial⟩ hm
        (fun p hp => by
          simp only [newB, List.drop, List.length_cons, List.length_nil, List.mem_cons, List.not_mem_nil, or_false] at hp
          subst hp
          exact hwr _ (.tail _ (.tail _ (.tail _ (.tail _ (.tail _ (.tail _ (.head _)))))))) (by simp) rfl
        ⟨trivial, rB_st rfl rfl rfl rfl, eB_st rfl rfl, mB_st rfl rfl, cB_st, sB_st, prO_st, trivial, trivial, trivial, trivial⟩ ⟨rfl, trivial, trivial⟩
        ⟨trivial, rB_st rfl rfl rfl rfl, eB_st rfl rfl, mB_st rfl rfl, cB_st, trivial, prO_st, trivial, trivial, trivial, sB_st, trivial⟩ (⟨trivial, trivial, trivial⟩) rfl rfl (by show [(r, (rB 2 7 8 9 _ _).ren _), (e, (eB 3 6 _).ren _), (g, (mB _ v _ 4 10).ren _), (c1, (cB _).ren _), (k, HB.gone.ren _), (i, (prO P).ren _), (m, (sB _).ren _)] = _; rw [rB_ren, eB_ren, mB_ren, cB_ren, sB_ren, prO_ren]; simp [rhoL, HB.ren])
    · cases hs
  · rename_i r f
    unfold rGoQ at hs
    split at hs
    · rename_i u w s v x P e g c1 k i a b c ok hrp
      simp only [Option.some.injEq, Prod.mk.injEq] at hs
      obtain ⟨rfl, rfl, rfl, rfl⟩ := hs
      obtain ⟨hr, hep, hnd, ba, bb, bc⟩ := runP_val hrp
      obtain ⟨ok1, ok2, rfl, hmp, hpp, he, _⟩ := engP_val hep
      obtain ⟨⟨hok, hok2⟩, hP, hV, hG, hu, hf0, hf1⟩ := hc
      have er := hrd r (by simp)
      have ee := hrd e (by simp)
      have eg := hrd g (by simp)
      have ec := hrd c1 (by simp)
      have ek := hrd k (by simp)
      have ei := hrd i (by simp)
      exact bun_ok (h := h) (m := m) [0, r, e, g, c1, k, i, a, b, c] (litNat (go_lit P s v x u w (f : Int) hP hV hG hu hf0 hf1 _ rfl)) R rfl (by simp) rfl rfl hnd
        ⟨Fit.gone (by rw [R.nil0]; rfl), bun_run hr er rfl rfl rfl rfl, bun_engO he ee rfl rfl, bun_mac hmp hok eg rfl rfl, bun_cel hmp hok ec, bun_snd hmp hok ek, bun_prO hpp hok2 ei, Fit.gone (by rw [hrd a (by simp)]; exact ba), Fit.gone (by rw [hrd b (by simp)]; exact bb), Fit.gone (by rw [hrd c (by simp)]; exact bc), trivial⟩ hm
        (fun p hp => by
          simp only [newB, List.drop, List.length_cons, List.length_nil, List.mem_cons, List.not_mem_nil, or_false] at hp
          subst hp
          exact hwr _ (.tail _ (.tail _ (.tail _ (.tail _ (.tail _ (.tail _ (.head _)))))))) (by simp) rfl
        ⟨trivial, rB_st rfl rfl rfl rfl, eB_st rfl rfl, mB_st rfl rfl, cB_st, sB_st, prO_st, trivial, trivial, trivial, trivial⟩ ⟨rfl, trivial, trivial⟩
        ⟨trivial, rB_st rfl rfl rfl rfl, eB_st rfl rfl, mB_st rfl rfl, cB_st, trivial, prO_st, trivial, trivial, trivial, sB_st, trivial⟩ (⟨trivial, trivial, trivial⟩) rfl rfl (by show [(r, (rB 2 7 8 9 _ _).ren _), (e, (eB 3 6 _).ren _), (g, (mB _ v _ 4 10).ren _), (c1, (cB _).ren _), (k, HB.gone.ren _), (i, (prO P).ren _), (m, (sB _).ren _)] = _; rw [rB_ren, eB_ren, mB_ren, cB_ren, sB_ren, prO_ren]; simp [rhoL, HB.ren])
    · cases hs
  · cases hs
def rStateQ (r : Nat) (f : Int) (h : HM) (m : Nat) : Option (Prop × SV × List Nat × List (Nat × HB)) := match runP h r with
  | some (u, w, (s, v, x, P), (e, g, c1, k, i), (a, b, c), ok) => some (ok ∧ s.cells.length ≤ 1000000 ∧ s.sends.length ≤ 1000000, stS s m (m + 1), [r, e, g, c1, k, i, a, b, c], [(r, rB e a b c u w), (e, eB g i P.length), (g, mB s v x c1 k), (c1, cB s), (k, sB s), (i, prO P), (m, cB s), (m + 1, sB s)])
  | none => none
def rState : Spec := fun args h m => match args with
  | [.ptr r []] => rStateQ r 0 h m
  | _ => none
theorem rState_ok : CallOk Try.prog 18 rState := by
  refine ⟨named_spec (by kernel_rfl), fun args h m c v rd wr hs hm hc w0 M β h' w R hrd hwr hst => ?_⟩
  unfold rState at hs
  split at hs
  · rename_i r
    unfold rStateQ at hs
    split at hs
    · rename_i u w s v x P e g c1 k i a b c ok hrp
      simp only [Option.some.injEq, Prod.mk.injEq] at hs
      obtain ⟨rfl, rfl, rfl, rfl⟩ := hs
      obtain ⟨hr, hep, hnd, ba, bb, bc⟩ := runP_val hrp
      obtain ⟨ok1, ok2, rfl, hmp, hpp, he, _⟩ := engP_val hep
      obtain ⟨⟨hok, hok2⟩, hc1, hs1⟩ := hc
      have er := hrd r (by simp)
      have ee := hrd e (by simp)
      have eg := hrd g (by simp)
      have ec := hrd c1 (by simp)
      have ek := hrd k (by simp)
      have ei := hrd i (by simp)
      exact bun_ok (h := h) (m := m) [0, r, e, g, c1, k, i, a, b, c] (rstate_lit P s v x u w hc1 hs1) R rfl (by simp) rfl rfl hnd
        ⟨Fit.gone (by rw [R.nil0]; rfl), bun_run hr er rfl rfl rfl rfl, bun_engO he ee rfl rfl, bun_mac hmp hok eg rfl rfl, bun_cel hmp hok ec, bun_snd hmp hok ek, bun_prO hpp hok2 ei, Fit.gone (by rw [hrd a (by simp)]; exact ba), Fit.gone (by rw [hrd b (by simp)]; exact bb), Fit.gone (by rw [hrd c (by simp)]; exact bc), trivial⟩ hm
        (fun p hp => by
          simp only [newB, List.drop, List.length_cons, List.length_nil, List.mem_cons, List.not_mem_nil, or_false] at hp
          rcases hp with rfl | rfl
          · exact hwr (m, cB s) (by simp)
          · exact hwr (m + 1, sB s) (by simp)) (by simp) rfl
        ⟨trivial, rB_st rfl rfl rfl rfl, eB_st rfl rfl, mB_st rfl rfl, cB_st, sB_st, prO_st, trivial, trivial, trivial, trivial⟩ ⟨rfl, trivial⟩
        ⟨trivial, rB_st rfl rfl rfl rfl, eB_st rfl rfl, mB_st rfl rfl, cB_st, sB_st, prO_st, trivial, trivial, trivial, cB_st, sB_st, trivial⟩ (by simp [stS, Stable, StableL]; exact ⟨rfl, rfl⟩) rfl rfl (by show [(r, (rB 2 7 8 9 _ _).ren _), (e, (eB 3 6 _).ren _), (g, (mB _ v _ 4 5).ren _), (c1, (cB _).ren _), (k, (sB _).ren _), (i, (prO P).ren _), (m, (cB _).ren _), (m + 1, (sB _).ren _)] = _; rw [rB_ren, eB_ren, mB_ren, cB_ren, sB_ren, prO_ren]; rfl)
    · cases hs
  · cases hs
end Go.Proofs.Ytjliakjbdcplcaa.Vm
end

section
namespace Go.Proofs.Ytjliakjbdcplcaa.Vm
open Go.RowKit
set_option linter.unusedVariables false
set_option linter.unusedSimpArgs false
set_option maxRecDepth 100000
def rUsedQ (r : Nat) (f : Int) (h : HM) (m : Nat) : Option (Prop × SV × List Nat × List (Nat × HB)) := match h r with
  | .own t (.agg [.ptr e [], .fn fi [.ptr a [], .ptr b [], .ptr c []], .nat .i64 u, .bool w]) true => bif Nat.beq t 125 && Nat.beq fi 44 && nodupN [0, r, e, a, b, c] && ((h e).born && (h a).born && (h b).born && (h c).born) then some (True, .nat .i64 u, [r, e, a, b, c], [(r, rB e a b c u w)]) else none
  | _ => none
def rUsed : Spec := fun args h m => match args with
  | [.ptr r []] => rUsedQ r 0 h m
  | _ => none
theorem rUsed_ok : CallOk Try.prog 19 rUsed := by
  refine ⟨named_spec (by kernel_rfl), fun args h m c v rd wr hs hm hc w0 M β h' w R hrd hwr hst => ?_⟩
  unfold rUsed at hs
  split at hs
  · rename_i r
    unfold rUsedQ at hs
    split at hs
    · rename_i t e fi a b c u w hr
      obtain ⟨hb, hs⟩ := bif_some hs
      simp only [Option.some.injEq, Prod.mk.injEq] at hs
      obtain ⟨rfl, rfl, rfl, rfl⟩ := hs
      simp only [Bool.and_eq_true] at hb
      obtain ⟨⟨⟨b1, b2⟩, hnd⟩, ⟨⟨b3, b4⟩, b5⟩, b6⟩ := hb
      have b1 := Nat.eq_of_beq_eq_true b1
      have b2 := Nat.eq_of_beq_eq_true b2
      subst b1 b2
      exact bun_ok (h := h) (m := m) [0, r, e, a, b, c] (used_lit u w) R rfl (by simp) rfl rfl hnd
        ⟨Fit.gone (by rw [R.nil0]; rfl), bun_run hr (hrd r (by simp)) rfl rfl rfl rfl, Fit.gone (by rw [hrd e (by simp)]; exact b3), Fit.gone (by rw [hrd a (by simp)]; exact b4), Fit.gone (by rw [hrd b (by simp)]; exact b5), Fit.gone (by rw [hrd c (by simp)]; exact b6), trivial⟩ hm
        (fun p hp => by cases hp) (by simp) rfl
        ⟨trivial, rB_st rfl rfl rfl rfl, trivial, trivial, trivial, trivial, trivial⟩ ⟨rfl, trivial⟩
        ⟨trivial, rB_st rfl rfl rfl rfl, trivial, trivial, trivial, trivial, trivial⟩ (by simp [Stable, StableL]) rfl rfl rfl
    · cases hs
  · cases hs
theorem bun_clA {ρ : Nat → Nat} {h h' : HM} {a i x n : Nat} (ha : h a = clA i n) (ea : h' a = h a) (hx : ρ x = i) : Bun1 ρ (h' a) (clA x n) := by
  show Less (h' a) (.own 35 ((SV.sl x x [] 5 0 n none).ren ρ) true)
  rw [ea, ha]
  simp only [SV.ren, hx]
  exact .same _
theorem bun_clB {ρ : Nat → Nat} {h h' : HM} {b : Nat} {v : Evi} (hb : h b = clB v) (eb : h' b = h b) : Bun1 ρ (h' b) (clB v) := by
  show Less (h' b) (.own 30 ((evS v).ren ρ) true)
  rw [eb, hb]
  exact .same _
theorem bun_clJO {ρ : Nat → Nat} {h h' : HM} {j : Nat} {s : Sta} {cf : Nat → SV} (hj : h j = .own 2 (.arr s.cells.length 1 cf) false) (hr : ∀ q, q < s.cells.length → isI .i64 (cf q) = true) (hq : s.cells = ls iOf s.cells.length cf) (ej : h' j = h j) : Bun1 ρ (h' j) (cB s) := by
  show Less (h' j) (.own 2 (.arr s.cells.length 1 (i64S s.cells)) false)
  rw [ej, hj]
  refine .val (fun β => arrCl fun q hlt => ?_) (fun n k f e => by injection e with e1 e2 e3; subst e1 e2; exact ⟨_, rfl⟩) (fun n k f e => by injection e with e1 e2 e3; subst e1 e2; exact ⟨_, rfl⟩)
  rw [isI_cl (hr q hlt)]
  unfold i64S
  rw [hq, ls_getD hlt]; rfl
def rBack : Spec := fun args h m => match args with
  | [.ptr r []] => match h r with
    | .own t (.agg [.ptr e [], .fn fi [.ptr a [], .ptr b [], .ptr c []], .nat .i64 u, .bool w]) true => match clP h a b c with
      | some (P, v, s, i, j, ok) => bif Nat.beq t 125 && Nat.beq fi 44 && nodupN [0, r, e, a, b, c, i, j] && (h e).born then
          some (ok ∧ (∀ x ∈ P, x.ok) ∧ P.length ≤ 1000000 ∧ s.cells.length ≤ 1000000 ∧ openE P v s = 0, .int .i64 0, [r, e, a, b, c, i, j],
            [(r, rB m a b c 0 false), (a, clA i P.length), (b, clB v), (c, clC s j), (i, prO P), (j, cB s), (m, eB (m + 1) (m + 4) P.length), (m + 1, mB s v Ins0 (m + 2) (m + 3)), (m + 2, cB s), (m + 3, sB s), (m + 4, prO P)]) else none
      | none => none
    | _ => none
  | _ => none
theorem rBack_ok : CallOk Try.prog 22 rBack := by
  refine ⟨named_spec (by kernel_rfl), fun args h m c v rd wr hs hm hc w0 M β h' w R hrd hwr hst => ?_⟩
  unfold rBack at hs
  split at hs
  · rename_i r
    split at hs
    · rename_i t e fi a b c u w hr
      split at hs
      · rename_i P v s i j ok hcp
        obtain ⟨hb, hs⟩ := bif_some hs
        simp only [Option.some.injEq, Prod.mk.injEq] at hs
        obtain ⟨rfl, rfl, rfl, rfl⟩ := hs
        simp only [Bool.and_eq_true] at hb
        obtain ⟨⟨⟨b1, b2⟩, hnd⟩, be⟩ := hb
        have b1 := Nat.eq_of_beq_eq_true b1
        have b2 := Nat.eq_of_beq_eq_true b2
        subst b1 b2
        obtain ⟨hs0, ok2, rg, cf, rfl, hpp, ha, hbb, hcc, hj, hq, hql⟩ := clP_val hcp
        obtain ⟨⟨hok2, hrg, hcf⟩, hP, hn, hcl, hE⟩ := hc
        have hwrm : ∀ p ∈ [(m, eB (m + 1) (m + 4) P.length), (m + 1, mB s v Ins0 (m + 2) (m + 3)), (m + 2, cB s), (m + 3, sB s), (m + 4, prO P)], h' p.1 = h p.1 := fun p hp => hwr p (.tail _ (.tail _ (.tail _ (.tail _ (.tail _ (.tail _ hp))))))
        exact bun_ok (h := h) (m := m) [0, r, e, a, b, c, i, j] (back_lit P v s u w hs0 hP hn hcl hE) R rfl (by simp) rfl rfl hnd
          ⟨Fit.gone (by rw [R.nil0]; rfl), bun_run hr (hrd r (by simp)) rfl rfl rfl rfl, Fit.gone (by rw [hrd e (by simp)]; exact be), bun_clA ha (hrd a (by simp)) rfl, bun_clB hbb (hrd b (by simp)), (bun_clC hcc hrg hq (hrd c (by simp)) rfl rfl).2, bun_prO hpp hok2 (hrd i (by simp)), bun_clJO hj hcf hql (hrd j (by simp)), trivial⟩ hm
          (fun p hp => by
            simp only [newB, List.drop, List.length_cons, List.length_nil, List.mem_cons, List.not_mem_nil, or_false] at hp
            rcases hp with rfl | rfl | rfl | rfl | rfl
            · exact hwrm (m, eB (m + 1) (m + 4) P.length) (by simp)
            · exact hwrm (m + 1, mB s v Ins0 (m + 2) (m + 3)) (by simp)
            · exact hwrm (m + 2, cB s) (by simp)
            · exact hwrm (m + 3, sB s) (by simp)
            · exact hwrm (m + 4, prO P) (by simp)) (by simp) rfl
          ⟨trivial, rB_st rfl rfl rfl rfl, trivial, clA_st rfl, clB_st, clC_st rfl rfl, prO_st, cB_st, trivial⟩ ⟨rfl, trivial⟩
          ⟨trivial, rB_st rfl rfl rfl rfl, trivial, clA_st rfl, clB_st, clC_st rfl rfl, prO_st, cB_st, eB_st rfl rfl, mB_st rfl rfl, cB_st, sB_st, prO_st, trivial⟩ trivial rfl rfl (by
            show [(r, (rB 8 3 4 5 0 false).ren _), (a, (clA 6 _).ren _), (b, (clB v).ren _), (c, (clC s 7).ren _), (i, (prO P).ren _), (j, (cB s).ren _), (m, (eB 9 12 _).ren _), (m + 1, (mB s v Ins0 10 11).ren _), (m + 2, (cB s).ren _), (m + 3, (sB s).ren _), (m + 4, (prO P).ren _)] = _
            rw [rB_ren, eB_ren, mB_ren, cB_ren, sB_ren, prO_ren]
            simp [rhoL, clA, clB, clC, HB.ren, SV.ren, renL, fsS, evS])
      · cases hs
    · cases hs
  · cases hs
end Go.Proofs.Ytjliakjbdcplcaa.Vm
end

section
namespace Go.Proofs.Ytjliakjbdcplcaa.Vm
open Go.RowKit
attribute [local push_cast] runR opG gtmp gval gus opX tmpsOf tm tmO tmP restr look look2 tab tys zs ets eqB eqBL allB numOf ieq Int.cast_ofNat_Int Int.ofNat_zero beq_true beq_false frameOf ev evL ofV opV loadV noW pushF wrsL setH allBorn allGone HB.born HB.isGone HB.val SV.plain dstOk hp nav fitsT SV.size sizeL SV.isAgg TK.size TK.agg bin binE binN binI arN arI cmpN cmpI keq kn narrow callV storeV setp fillV buildV buildSliceV makeV sliceV appendV copyV List.isEmpty_nil srcV evO asN ite_t ite_f ite_bool ite_int ite_nat maxV v_beq v_ble v_blt cond_true cond_false List.getElem?_cons_zero List.getElem?_cons_succ List.getD_cons_zero List.getD_cons_succ List.getD_nil List.length_cons List.length_nil List.take_succ_cons List.take_zero List.set_cons_zero List.set_cons_succ List.cons_append List.nil_append List.append_assoc List.replicate_succ List.replicate_zero Nat.zero_add Nat.add_zero decide_true decide_false Bool.true_and Bool.and_true Bool.false_and Bool.and_false Bool.true_or Bool.or_true Bool.false_or Bool.or_false beq_self_eq_true Bool.or_self Nat.lt_irrefl Nat.not_lt_zero Nat.le_refl Option.getD_some Option.getD_none BEq.rfl Bool.not_true Bool.not_false Bool.cond_true_left Bool.cond_false_right
set_option linter.unusedVariables false
set_option linter.unusedSimpArgs false
set_option maxRecDepth 100000
set_option maxHeartbeats 4000000
theorem eqI64_lit (xs ys : List Int) (p1 p2 : Nat) (hx : xs.length ≤ 281474976710656) : LitOk Try.prog 20 [.sl 1 2 [] 1 0 xs.length (some p1), .sl 3 4 [] 1 0 ys.length (some p2)] [.gone, .gone, .ro (.arr xs.length 1 (i64S xs)), .gone, .ro (.arr ys.length 1 (i64S ys))] (.bool (eqL xs ys)) [.gone] := by
  refine litOkM (fn := Try.f20) 5 26 0 rfl rfl rfl rfl rfl (by simp only [StableL, Stable, hp]; simp [HB.born]) rfl fun w0 M E hro => ?_
  repeat' (first | with_reducible (first | apply J1 | apply J3 | apply J4 | apply J5 | apply J6 | apply J7 | apply J8 | apply J9 | apply J10 | apply J11 | apply J12 | apply J13 | apply J14 | apply J15 | apply J16 | apply J17 | apply J18 | apply J19 | apply J20 | refine J2 ?_) | ((with_reducible apply J21); (· rfl)) | ((with_reducible intro hif); first | (focus (cases hif; done)) | (simp only [JH] at hif; try (exfalso; omega)) | (try (exfalso; omega))) | ((first | ((with_reducible apply J22 c1_ok tab_ok); (· rfl)) | ((with_reducible apply J23 fol c1_ok tab_ok); (· rfl)) | with_reducible apply J24); (· exact Vm.b17); (try kernel_rfl); (try exact Vm.b16)) | fail)
  · have hne : xs ≠ ys := fun e => hif (by rw [e])
    apply At.endsRet tab_ok (fn := Try.f20) (rs := [.tmp 4]) Anc.refl hro (Nat.le_of_ble_eq_true rfl) rfl
    · exact Vm.b5
    · exact Vm.b6
    · exact Vm.b7
    · rfl
    · exact Vm.b8
    · exact Vm.b9
    · rw [eqL_false hne]; exact fun β => rfl
    · exact Vm.b8
  · refine WF.loopAt (fun j => j ≤ xs.length ∧ ∀ q, q < j → xs.getD q 0 = ys.getD q 0) (fun j => [(0, .sl 1 2 [] 1 0 xs.length (some p1)), (1, .sl 3 4 [] 1 0 ys.length (some p2)), (12, .nat .i64 xs.length), (13, .nat .i64 j)]) (fun j => [.gone, .gone, .ro (.arr xs.length 1 (i64S xs)), .gone, .ro (.arr ys.length 1 (i64S ys))]) (fun j => xs.length - j) 0 ⟨Nat.zero_le _, fun q hq => absurd hq (Nat.not_lt_zero q)⟩ ?_ ?_ rfl ?_ ?_ rfl ?_
    · exact Vm.b10
    · exact Vm.b7
    · exact Vm.b8
    · exact Vm.b8
    have hlen := hif
    rintro j ⟨hj, heq⟩
    repeat' (first | with_reducible (first | apply J1 | apply J3 | apply J4 | apply J5 | apply J6 | apply J7 | apply J8 | apply J9 | apply J10 | apply J11 | apply J12 | apply J13 | apply J14 | apply J15 | apply J16 | apply J17 | apply J18 | apply J19 | apply J20 | refine J2 ?_) | ((with_reducible apply J21); (· rfl)) | ((with_reducible intro hif); first | (focus (cases hif; done)) | (simp only [JH] at hif; try (exfalso; omega)) | (try (exfalso; omega))) | ((first | ((with_reducible apply J22 c1_ok tab_ok); (· rfl)) | ((with_reducible apply J23 fol c1_ok tab_ok); (· rfl)) | with_reducible apply J24); (· (simp only [push_cast, ↓JP, Nat.reduceAdd, Nat.reduceEqDiff, Nat.reduceLT, Nat.reduceMul, Nat.reduceLeDiff, reduceCtorEq, reduceIte, i64S, i64S, inN]; rfl)); (try kernel_rfl); (try exact Vm.b18)) | fail)
    · have hne : xs ≠ ys := by rintro rfl; simp at hif
      apply At.endsRet tab_ok (fn := Try.f20) (rs := [.tmp 4]) Anc.refl hro (Nat.le_of_ble_eq_true rfl) rfl
      · exact Vm.b5
      · exact Vm.b6
      · exact Vm.b7
      · rfl
      · exact Vm.b8
      · exact Vm.b9
      · rw [eqL_false hne]; exact fun β => rfl
      · exact Vm.b8
    · have hq : xs.getD j 0 = ys.getD j 0 := hif
      refine At.next (j + 1) ?_ ?_ ?_ rfl ?_ ?_ rfl
      · exact Vm.b11
      · exact Vm.b10
      · exact Vm.b7
      · exact Vm.b8
      · exact Vm.b8
    · have hjn : j = xs.length := by omega
      subst hjn
      have he : xs = ys := ext_getD 0 hlen heq
      apply At.endsRet tab_ok (fn := Try.f20) (rs := [.tmp 4]) Anc.refl hro (Nat.le_of_ble_eq_true rfl) rfl
      · exact Vm.b5
      · exact Vm.b6
      · exact Vm.b7
      · rfl
      · exact Vm.b8
      · exact Vm.b9
      · rw [eqL_true he]; exact fun β => rfl
      · exact Vm.b8
def sEqI64 : Spec := fun args h m => match args with
  | [v1, v2] => match srcV h 1 (.tup []) v1, srcV h 1 (.tup []) v2 with
    | some (c1, n1, f1, r1), some (c2, n2, f2, r2) => some (c1 ∧ c2 ∧ (∀ q, q < n1 → isI .i64 (f1 q) = true) ∧ (∀ q, q < n2 → isI .i64 (f2 q) = true) ∧ ((ls iOf n1 f1).length ≤ 281474976710656), .bool (eqL (ls iOf n1 f1) (ls iOf n2 f2)), r1 ++ r2, [])
    | _, _ => none
  | _ => none
theorem sEqI64_ok : CallOk Try.prog 20 sEqI64 := by
  refine ⟨named_spec (by kernel_rfl), fun args h m c v rd wr hs hm hc w0 M β h' w R hrd hwr hst => ?_⟩
  unfold sEqI64 at hs
  split at hs
  · rename_i v1 v2
    split at hs
    · rename_i c1 n1 f1 r1 c2 n2 f2 r2 a1 a2
      simp only [Option.some.injEq, Prod.mk.injEq] at hs
      obtain ⟨rfl, rfl, rfl, rfl⟩ := hs
      obtain ⟨k1, k2, g1, g2, y1⟩ := hc
      obtain ⟨A1, p1, d1, e1, t1⟩ := reads_src R a1 k1 (fun i hi => hrd i (List.mem_append_left _ hi)) (by omega)
      obtain ⟨A2, p2, d2, e2, t2⟩ := reads_src R a2 k2 (fun i hi => hrd i (List.mem_append_right _ hi)) (by omega)
      refine callRo (views := [⟨1, (ls iOf n1 f1).length, i64S (ls iOf n1 f1), A1, p1⟩, ⟨1, (ls iOf n2 f2).length, i64S (ls iOf n2 f2), A2, p2⟩]) (eqI64_lit (ls iOf n1 f1) (ls iOf n2 f2) p1 p2 y1) ?_ R hm hwr ?_ ?_ ?_
      · intro x hx
        simp only [List.mem_cons, List.not_mem_nil, or_false] at hx
        rcases hx with rfl | rfl
        · exact viewI64 t1 e1 g1
        · exact viewI64 t2 e2 g2
      · intro β1 hv
        simp only [Vd, ls_length, and_true] at hv
        obtain ⟨z1, z2⟩ := hv
        simp only [denL, aggDen, intDen, natDen, boolDen, ls_length, z1, z2, d1, d2]
      · exact Vm.b8
      · exact Vm.b8
    · cases hs
  · cases hs
end Go.Proofs.Ytjliakjbdcplcaa.Vm
end

section
namespace Go.Proofs.Ytjliakjbdcplcaa
open Go.RowKit
set_option linter.unusedVariables false
set_option linter.unusedSimpArgs false

theorem u64_bd4 (z : Int) : 0 ≤ IntKind.u64.wrap z ∧ IntKind.u64.wrap z < 18446744073709551616 := by
  have e : IntKind.u64.wrap z = z % 18446744073709551616 := by simp [IntKind.wrap, IntKind.bits, IntKind.signed]
  rw [e]; omega
def tbl14 : List Int := [3, 3, 3, 3, 3, 4, 5, 5, 5, 6, 6, 6, 7, 8, 8, 9, 10, 10, 10, 11, 11, 1, 2]
def op14 (o : Int) : Int := if o % 40 < 17 then 33 + o % 40 else tbl14.getD (o % 40 - 17).toNat 0
def tblV : Array Value := #[.int .u8 3, .int .u8 3, .int .u8 3, .int .u8 3, .int .u8 3, .int .u8 4, .int .u8 5, .int .u8 5, .int .u8 5, .int .u8 6, .int .u8 6, .int .u8 6, .int .u8 7, .int .u8 8, .int .u8 8, .int .u8 9, .int .u8 10, .int .u8 10, .int .u8 10, .int .u8 11, .int .u8 11, .int .u8 1, .int .u8 2]
theorem tblV_at (k : Nat) (h : k < 23) : tblV[k]? = some (.int .u8 (tbl14.getD k 0)) := by
  match k, h with
  | 0, _ => rfl
  | 1, _ => rfl
  | 2, _ => rfl
  | 3, _ => rfl
  | 4, _ => rfl
  | 5, _ => rfl
  | 6, _ => rfl
  | 7, _ => rfl
  | 8, _ => rfl
  | 9, _ => rfl
  | 10, _ => rfl
  | 11, _ => rfl
  | 12, _ => rfl
  | 13, _ => rfl
  | 14, _ => rfl
  | 15, _ => rfl
  | 16, _ => rfl
  | 17, _ => rfl
  | 18, _ => rfl
  | 19, _ => rfl
  | 20, _ => rfl
  | 21, _ => rfl
  | 22, _ => rfl
  | n + 23, h => exact absurd h (by omega)
theorem tblV_get (k : Nat) (h : k < ([.int .u8 3, .int .u8 3, .int .u8 3, .int .u8 3, .int .u8 3, .int .u8 4, .int .u8 5, .int .u8 5, .int .u8 5, .int .u8 6, .int .u8 6, .int .u8 6, .int .u8 7, .int .u8 8, .int .u8 8, .int .u8 9, .int .u8 10, .int .u8 10, .int .u8 10, .int .u8 11, .int .u8 11, .int .u8 1, .int .u8 2] : List Value).length) : ([.int .u8 3, .int .u8 3, .int .u8 3, .int .u8 3, .int .u8 3, .int .u8 4, .int .u8 5, .int .u8 5, .int .u8 5, .int .u8 6, .int .u8 6, .int .u8 6, .int .u8 7, .int .u8 8, .int .u8 8, .int .u8 9, .int .u8 10, .int .u8 10, .int .u8 10, .int .u8 11, .int .u8 11, .int .u8 1, .int .u8 2] : List Value)[k] = .int .u8 (tbl14.getD k 0) := by
  have := tblV_at k h
  unfold tblV at this
  rw [List.getElem?_toArray] at this
  exact Option.some.inj ((List.getElem?_eq_getElem h).symm.trans this)
theorem op14_bd (o : Int) : 1 ≤ op14 o ∧ op14 o ≤ 49 ∧ formC (op14 o) ≠ 0 := by
  unfold op14
  by_cases h : o % 40 < 17
  · rw [if_pos h]
    refine ⟨by omega, by omega, ?_⟩
    unfold formC
    rw [if_pos (by omega)]
    decide
  · rw [if_neg h]
    obtain ⟨k, hk, hk2⟩ : ∃ k : Nat, (o % 40 - 17).toNat = k ∧ k < 23 := ⟨_, rfl, by omega⟩
    rw [hk]
    match k, hk2 with
    | 0, _ => exact (by decide)
    | 1, _ => exact (by decide)
    | 2, _ => exact (by decide)
    | 3, _ => exact (by decide)
    | 4, _ => exact (by decide)
    | 5, _ => exact (by decide)
    | 6, _ => exact (by decide)
    | 7, _ => exact (by decide)
    | 8, _ => exact (by decide)
    | 9, _ => exact (by decide)
    | 10, _ => exact (by decide)
    | 11, _ => exact (by decide)
    | 12, _ => exact (by decide)
    | 13, _ => exact (by decide)
    | 14, _ => exact (by decide)
    | 15, _ => exact (by decide)
    | 16, _ => exact (by decide)
    | 17, _ => exact (by decide)
    | 18, _ => exact (by decide)
    | 19, _ => exact (by decide)
    | 20, _ => exact (by decide)
    | 21, _ => exact (by decide)
    | 22, _ => exact (by decide)
    | n + 23, h => exact absurd h (by omega)
set_option maxRecDepth 100000 in
set_option maxHeartbeats 1000000 in
theorem op14_c (x : Ins) (hx : x.ok) (w : World) : Calls Try.prog 102 #[x.v] w fun e w' => e = .returned (.int .u8 (op14 x.op)) ∧ Below w.heap.size w w' := by
  obtain ⟨o0, o1, -, -, -, -, -, -, -, -⟩ := hx
  obtain ⟨op, a, b, c, n⟩ := x
  dsimp only at o0 o1 ⊢
  unfold Ins.v
  dsimp only
  have m1 : Int.tmod op 40 = op % 40 := Int.tmod_eq_emod_of_nonneg o0
  have hv : op14 op = if op % 40 < 17 then 33 + op % 40 else tbl14.getD (op % 40 - 17).toNat 0 := rfl
  obtain ⟨M, hM⟩ : ∃ M, M = op % 40 := ⟨_, rfl⟩
  have hM0 : 0 ≤ M ∧ M < 40 := by omega
  rw [← hM] at m1 hv
  have hM' : op % 40 = M := hM.symm
  clear hM
  by_cases h : M < 17
  · rw [if_pos h] at hv
    rw [hv]
    have d1 := decide_eq_true h
    have w1 : IntKind.u8.wrap (33 + M) = 33 + M := IntWalk.u8_in _ (by omega)
    clear hv
    go_enter Try.func102, Try.ntmps102
    go_wp2_with fail
    go_ret
    exact ⟨rfl, (Below.refl _ w).alloc (Nat.le_refl _) _⟩
  · rw [if_neg h] at hv
    rw [hv]
    have d1 := decide_eq_false h
    have w1 : IntKind.u8.wrap (M - 17) = M - 17 := IntWalk.u8_in _ (by omega)
    obtain ⟨k, hk⟩ : ∃ k : Nat, M - 17 = k := ⟨(M - 17).toNat, by omega⟩
    have hk23 : k < 23 := by omega
    have hk0 : (0 : Int) ≤ (k : Int) := by omega
    have hk1 : (k : Int) < 23 := by omega
    rw [hk] at w1
    have hz : ((M - 17).toNat) = k := by omega
    rw [hz]
    have hb := tblV_get k
    obtain ⟨V, hV⟩ : ∃ V, V = tbl14.getD k 0 := ⟨_, rfl⟩
    rw [← hV] at hb ⊢
    clear hv hV hz h
    go_enter Try.func102, Try.ntmps102
    go_wp2_with fail
    go_ret
    exact ⟨rfl, ((Below.refl _ w).alloc (Nat.le_refl _) _).alloc (by simp) _⟩

def fld14 (x : Ins) : Nat → Int | 0 => x.a | 1 => x.b | _ => x.c
def setF14 (i : Ins) (k : Nat) (v : Int) : Ins := match k with | 0 => { i with a := v } | 1 => { i with b := v } | _ => { i with c := v }
def step14 (x : Ins) (M : Int) (st : Nat × Ins) (l : UInt8) : Nat × Ins :=
  if l.toNat = 114 then (st.1 + 1, if st.1 < 3 then setF14 st.2 st.1 (fld14 x st.1 % 8) else st.2)
  else if l.toNat = 110 then (st.1, { st.2 with n := x.n })
  else if l.toNat = 112 then (st.1, { st.2 with n := IntKind.u64.wrap x.n % 16 })
  else (st.1, { st.2 with n := IntKind.u64.wrap x.n % M })
def fold14 (x : Ins) (M : Int) (S : ByteArray) (p : Nat) : Nat × Ins := (S.data.toList.take p).foldl (step14 x M) (0, ⟨op14 x.op, 0, 0, 0, 0⟩)
theorem fold14_succ (x : Ins) (M : Int) (S : ByteArray) (p : Nat) (h : p < S.size) : fold14 x M S (p + 1) = step14 x M (fold14 x M S p) (S[p]'h) := by
  unfold fold14
  rw [List.take_add_one]
  have : S.data.toList[p]? = some (S[p]'h) := by
    rw [Array.getElem?_toList]
    exact Array.getElem?_eq_getElem (show p < S.data.size from h)
  rw [this]
  simp
def itPos (S : ByteArray) (g : Nat) (X : World) : Nat := match X.heap[g]? with | some (.stringIter _ p) => S.size - p | _ => 0
theorem itPos_eq {S : ByteArray} {g p : Nat} {X : World} (h : X.heap[g]? = some (.stringIter S p)) : itPos S g X = S.size - p := by unfold itPos; rw [h]
structure MI (w : World) (B : Nat) (x : Ins) (S : ByteArray) (p : Nat) (out : Ins) (X : World) : Prop where
  it : X.heap[B + 2]? = some (.stringIter S p)
  b8 : Blk X B 73 #[.int .u8 out.op, .int .u8 out.a, .int .u8 out.b, .int .u8 out.c, .int .i64 out.n]
  b2 : Blk X w.heap.size 155 #[.int .u8 x.op, .int .u8 x.a, .int .u8 x.b, .int .u8 x.c, .int .i64 x.n]
  b9 : Blk X (B + 1) 193 #[.pointer (some ⟨B, 1, none⟩), .pointer (some ⟨B, 2, none⟩), .pointer (some ⟨B, 3, none⟩)]
  b4 : Blk X (w.heap.size + 1) 73 #[.int .u8 0, .int .u8 0, .int .u8 0, .int .u8 0, .int .i64 0]
  below : Below w.heap.size w X
section
variable {w X : World} {B : Nat} {x out : Ins} {S : ByteArray} {p : Nat}
theorem MI.next (h : MI w B x S p out X) (hB : w.heap.size + 1 < B) (q : Nat) : MI w B x S q out (X.iterAt (B + 2) S q) :=
  have f : ∀ {g t cs}, g ≠ B + 2 → Blk X g t cs → Blk (X.iterAt (B + 2) S q) g t cs := fun hg hb => (Lib.iterAt_other X (B + 2) _ S q hg).trans hb
  ⟨Lib.iterAt_heap X (B + 2) S p q h.it, f (by omega) h.b8, f (by omega) h.b2, f (by omega) h.b9, f (by omega) h.b4, Lib.below_iterAt h.below (by omega) S q⟩
theorem MI.alloc (h : MI w B x S p out X) (o : Obj) : MI w B x S p out (X.alloc o) :=
  ⟨(Below.heap_alloc X o _ (Array.getElem?_eq_some_iff.1 h.it).1).trans h.it, h.b8.alloc o, h.b2.alloc o, h.b9.alloc o, h.b4.alloc o, h.below.alloc h.below.size o⟩
theorem MI.drew (h : MI w B x S p out X) : MI w B x S p out X.drew := ⟨h.it, h.b8, h.b2, h.b9, h.b4, h.below.drew⟩
theorem MI.set (h : MI w B x S p out X) (hB : w.heap.size + 1 < B) (i : Nat) (u : Value) (out' : Ins) (ho : (#[.int .u8 out.op, .int .u8 out.a, .int .u8 out.b, .int .u8 out.c, .int .i64 out.n] : Array Value).setIfInBounds i u = #[.int .u8 out'.op, .int .u8 out'.a, .int .u8 out'.b, .int .u8 out'.c, .int .i64 out'.n]) :
    MI w B x S p out' (X.setCell ⟨B, i, none⟩ u) :=
  ⟨(Below.heap_setCell X ⟨B, i, none⟩ u (B + 2) (by show B + 2 ≠ B; omega)).trans h.it, ho ▸ h.b8.set_ i u, h.b2.far (p := ⟨B, i, none⟩) (by show w.heap.size ≠ B; omega) u, h.b9.far (p := ⟨B, i, none⟩) (by show B + 1 ≠ B; omega) u, h.b4.far (p := ⟨B, i, none⟩) (by show w.heap.size + 1 ≠ B; omega) u, h.below.setCell (p := ⟨B, i, none⟩) (by show w.heap.size ≤ B; omega) u⟩
end
set_option maxRecDepth 100000 in
set_option maxHeartbeats 4000000 in
theorem one14_w (x : Ins) (hx : x.ok) (n : Int) (hn : 1 ≤ n ∧ n ≤ 1000000) (S : ByteArray) (hS : S.size ≤ 100) (hasc : ∀ p (h : p < S.size), (S[p]'h).toNat < 128) (w : World)
    (hform : ∀ w, Calls Try.prog 103 #[.int .u8 (op14 x.op)] w fun e w' => e = .returned (.tuple #[.string S, .bool true]) ∧ Below w.heap.size w w') :
    Calls Try.prog 71 #[x.v, .int .i64 n] w fun e w' => e = .returned (fold14 x n S S.size).2.v ∧ Below w.heap.size w w' := by
  have HOP := Lib.hid (fun W => op14_c x hx W)
  have HF := Lib.hid hform
  clear hform
  obtain ⟨o0, o1, a0, a1, b0, b1, c0, c1, n0, n1⟩ := hx
  have f0 : fold14 x n S 0 = (0, ⟨op14 x.op, 0, 0, 0, 0⟩) := by simp [fold14]
  have hfs := fun p h => fold14_succ x n S p h
  obtain ⟨op, hop⟩ : ∃ op, op = op14 x.op := ⟨_, rfl⟩
  rw [← hop] at HOP HF f0
  clear hop
  obtain ⟨F, hF⟩ : ∃ F, F = fold14 x n S := ⟨_, rfl⟩
  rw [← hF] at f0 hfs ⊢
  clear hF
  obtain ⟨x0, xa, xb, xc, xn⟩ := x
  unfold Ins.v at HOP ⊢
  dsimp only at o0 o1 a0 a1 b0 b1 c0 c1 n0 n1 HOP ⊢
  obtain ⟨U, hU⟩ : ∃ U, U = IntKind.u64.wrap xn := ⟨_, rfl⟩
  have hU0 := u64_bd4 xn
  rw [← hU] at hU0
  have HFS := Lib.hid hfs
  have HU := Lib.hid hU
  have u1 : IntKind.u64.wrap xn = U := hU.symm
  clear hfs hU
  go_enter Try.func71, Try.ntmps71
  go_upto_region 1 with fail
  have hA0 : AW w [] [] w := ⟨Below.refl _ _, by simp, by simp⟩
  have hA1 := (hA0.put 155 #[.int .u8 x0, .int .u8 xa, .int .u8 xb, .int .u8 xc, .int .i64 xn]).put' (g := w.heap.size + 1) 73 #[.int .u8 0, .int .u8 0, .int .u8 0, .int .u8 0, .int .i64 0] (by simp)
  obtain ⟨W, hW⟩ : ∃ W, W = ((w.alloc (.cells #[.int .u8 x0, .int .u8 xa, .int .u8 xb, .int .u8 xc, .int .i64 xn] 155)).alloc (.cells #[.int .u8 0, .int .u8 0, .int .u8 0, .int .u8 0, .int .i64 0] 73)) := ⟨_, rfl⟩
  rw [← hW] at hA1 ⊢
  clear hW hA0
  obtain ⟨⟨z0, z1, z2, z3, z4⟩, zf⟩ := blk5 (hA1.l _ (.tail _ (.head _)))
  dsimp only at z0 z1 z2 z3 z4
  clear zf
  go_wp2_with fail
  clear z0 z1 z2 z3 z4
  go_at_call 102
  refine (HOP.out W).mono ?_
  rintro e W1 ⟨rfl, hb⟩
  have hA2 := hA1.call hb
  clear hb hA1 HOP
  go_wp2_with fail
  go_at_call 103
  refine (HF.out W1).mono ?_
  rintro e W2 ⟨rfl, hb⟩
  have hA3 := hA2.call hb
  clear hb hA2 HF
  go_upto_region 5 with fail
  have hA4 := (hA3.put 73 #[.int .u8 op, .int .u8 0, .int .u8 0, .int .u8 0, .int .i64 0]).put' (g := W2.heap.size + 1) 193 #[.pointer (some ⟨W2.heap.size, 1, none⟩), .pointer (some ⟨W2.heap.size, 2, none⟩), .pointer (some ⟨W2.heap.size, 3, none⟩)] (by simp)
  have hlt : w.heap.size + 1 < W2.heap.size := (hA3.l _ (.head _)).lt
  obtain ⟨W3, hW⟩ : ∃ W, W = ((W2.alloc (.cells #[.int .u8 op, .int .u8 0, .int .u8 0, .int .u8 0, .int .i64 0] 73)).alloc (.cells #[.pointer (some ⟨W2.heap.size, 1, none⟩), .pointer (some ⟨W2.heap.size, 2, none⟩), .pointer (some ⟨W2.heap.size, 3, none⟩)] 193)) := ⟨_, rfl⟩
  have hz3 : W3.heap.size = W2.heap.size + 2 := by rw [hW]; simp
  rw [← hW] at hA4 ⊢
  clear hW hA3
  obtain ⟨B, hB⟩ : ∃ B, B = W2.heap.size := ⟨_, rfl⟩
  rw [← hB] at hA4 hlt hz3 ⊢
  have hI0 : MI w B ⟨x0, xa, xb, xc, xn⟩ S 0 ⟨op, 0, 0, 0, 0⟩ (W3.iter S 0) := ⟨hz3 ▸ heap_alloc_new W3 _, (hA4.l _ (.tail _ (.head _))).alloc _, (hA4.l _ (.tail _ (.tail _ (.tail _ (.head _))))).alloc _, (hA4.l _ (.head _)).alloc _, (hA4.l _ (.tail _ (.tail _ (.head _)))).alloc _, hA4.b.alloc hA4.b.size _⟩
  clear hB hA4
  go_wp2
  go_loopw [10] (fun k wr => ∃ (p u : Nat) (out : Ins), k = .int .i64 u ∧ p ≤ S.size ∧ u ≤ p ∧ F p = (u, out) ∧ MI w B ⟨x0, xa, xb, xc, xn⟩ S p out wr) (fun _ wr => itPos S (B + 2) wr)
  case atStart => exact ⟨0, 0, _, rfl, by omega, by omega, f0, hI0⟩
  case round =>
    obtain ⟨p, u, out, rfl, hp, hup, hF, hI⟩ := hrel
    clear hI0 f0 hz3
    have hm := itPos_eq hI.it
    by_cases hps : p < S.size
    · have hn := fun ty => Lib.run_next_ascii_at (P := Try.prog) wr (B + 2) S p ty hI.it hps (hasc p hps)
      have hI' := hI.next hlt (p + 1)
      obtain ⟨X, hX⟩ : ∃ X, X = wr.iterAt (B + 2) S (p + 1) := ⟨_, rfl⟩
      rw [← hX] at hn hI'
      clear hX hI
      have hs := HFS.out p hps
      rw [hF] at hs
      obtain ⟨l, hl⟩ : ∃ l, l = S[p]'hps := ⟨_, rfl⟩
      rw [← hl] at hs hn
      obtain ⟨z, hz⟩ : ∃ z : Nat, z = l.toNat := ⟨_, rfl⟩
      rw [← hz] at hn
      unfold step14 at hs
      rw [← hz] at hs
      dsimp only at hs
      have HM := Lib.hid hm
      clear hz hl hF hm hasc
      obtain ⟨⟨y0, y1, y2, y3, y4⟩, yf⟩ := blk5 hI'.b2
      dsimp only at y0 y1 y2 y3 y4
      clear yf
      have t0 : X.cell? ⟨B + 1, 0, none⟩ = some (.pointer (some ⟨B, 1, none⟩)) := hI'.b9.cell 0
      have t1 : X.cell? ⟨B + 1, 1, none⟩ = some (.pointer (some ⟨B, 2, none⟩)) := hI'.b9.cell 1
      have t2 : X.cell? ⟨B + 1, 2, none⟩ = some (.pointer (some ⟨B, 3, none⟩)) := hI'.b9.cell 2
      obtain ⟨⟨k0, k1, k2, k3, k4⟩, kf⟩ := blk5 hI'.b8
      have hlX : B < X.heap.size := hI'.b8.lt
      have hlX1 : B + 1 < X.heap.size := hI'.b9.lt
      have hlw : w.heap.size < X.heap.size := hI'.b2.lt
      by_cases h114 : z = 114
      · rw [if_pos h114] at hs
        subst h114
        by_cases hu3 : u < 3
        · rw [if_pos hu3] at hs
          have hu : u = 0 ∨ u = 1 ∨ u = 2 := by omega
          rcases hu with rfl | rfl | rfl
          · have v1 : Int.tmod xa 8 = xa % 8 := Int.tmod_eq_emod_of_nonneg a0
            have hJ : MI w B ⟨x0, xa, xb, xc, xn⟩ S (p + 1) (setF14 out 0 (xa % 8)) _ := ((hI'.set hlt 1 (.int .u8 (xa % 8)) _ rfl).alloc (.cells #[.int .u8 xa, .int .u8 xb, .int .u8 xc] 5)).drew
            have HJ := Lib.hid hJ
            clear hJ
            go_wp2_with go_region
            all_goals (try go_wp2)
            all_goals exact ⟨⟨p + 1, 1, _, rfl, by omega, by omega, hs, HJ.out⟩, by rw [itPos_eq HJ.out.it, HM.out]; omega⟩
          · have v1 : Int.tmod xb 8 = xb % 8 := Int.tmod_eq_emod_of_nonneg b0
            have hJ : MI w B ⟨x0, xa, xb, xc, xn⟩ S (p + 1) (setF14 out 1 (xb % 8)) _ := ((hI'.set hlt 2 (.int .u8 (xb % 8)) _ rfl).alloc (.cells #[.int .u8 xa, .int .u8 xb, .int .u8 xc] 5)).drew
            have HJ := Lib.hid hJ
            clear hJ
            go_wp2_with go_region
            all_goals (try go_wp2)
            all_goals exact ⟨⟨p + 1, 2, _, rfl, by omega, by omega, hs, HJ.out⟩, by rw [itPos_eq HJ.out.it, HM.out]; omega⟩
          · have v1 : Int.tmod xc 8 = xc % 8 := Int.tmod_eq_emod_of_nonneg c0
            have hJ : MI w B ⟨x0, xa, xb, xc, xn⟩ S (p + 1) (setF14 out 2 (xc % 8)) _ := ((hI'.set hlt 3 (.int .u8 (xc % 8)) _ rfl).alloc (.cells #[.int .u8 xa, .int .u8 xb, .int .u8 xc] 5)).drew
            have HJ := Lib.hid hJ
            clear hJ
            go_wp2_with go_region
            all_goals (try go_wp2)
            all_goals exact ⟨⟨p + 1, 3, _, rfl, by omega, by omega, hs, HJ.out⟩, by rw [itPos_eq HJ.out.it, HM.out]; omega⟩
        · rw [if_neg hu3] at hs
          have d3 : decide ((u : Int) < 3) = false := decide_eq_false (by omega)
          have d4 : ¬ (u : Int) < 3 := by omega
          clear y0 y1 y2 y3 y4 t0 t1 t2 k0 k1 k2 k3 k4 kf
          go_wp2_with fail
          go_roundw
          case rel => exact ⟨p + 1, u + 1, out, by go_num, by omega, by omega, hs, hI'⟩
          case measure => rw [itPos_eq hI'.it, HM.out]; omega
      · rw [if_neg h114] at hs
        have q1 : ((z : Int) == 114) = false := by simp; omega
        have q2 : decide ((z : Int) = 114) = false := decide_eq_false (by omega)
        have q3 : ¬ (z : Int) = 114 := by omega
        by_cases h110 : z = 110
        · rw [if_pos h110] at hs
          subst h110
          clear q1 q2 q3 h114
          go_wp2_with fail
          go_roundw
          case rel => exact ⟨p + 1, u, _, by go_num, by omega, by omega, hs, hI'.set hlt 4 _ _ rfl⟩
          case measure => rw [itPos_eq (hI'.set hlt 4 _ ⟨out.op, out.a, out.b, out.c, xn⟩ rfl).it, HM.out]; omega
        · rw [if_neg h110] at hs
          have r1 : ((z : Int) == 110) = false := by simp; omega
          have r2 : decide ((z : Int) = 110) = false := decide_eq_false (by omega)
          have r3 : ¬ (z : Int) = 110 := by omega
          by_cases h112 : z = 112
          · rw [if_pos h112] at hs
            subst h112
            rw [u1] at hs
            have v1 : Int.tmod U 16 = U % 16 := Int.tmod_eq_emod_of_nonneg hU0.1
            have v2 : IntKind.i64.wrap (U % 16) = U % 16 := by simp [IntKind.wrap, IntKind.bits, IntKind.signed]; omega
            clear q1 q2 q3 r1 r2 r3 h114 h110
            go_wp2_with fail
            go_roundw
            case rel => exact ⟨p + 1, u, _, by go_num, by omega, by omega, hs, hI'.set hlt 4 _ _ rfl⟩
            case measure => rw [itPos_eq (hI'.set hlt 4 _ ⟨out.op, out.a, out.b, out.c, U % 16⟩ rfl).it, HM.out]; omega
          · rw [if_neg h112] at hs
            have s1 : ((z : Int) == 112) = false := by simp; omega
            have s2 : decide ((z : Int) = 112) = false := decide_eq_false (by omega)
            have s3 : ¬ (z : Int) = 112 := by omega
            rw [u1] at hs
            have v1 : Int.tmod U n = U % n := Int.tmod_eq_emod_of_nonneg hU0.1
            have v2 : IntKind.i64.wrap (U % n) = U % n := by
              have := Int.emod_nonneg U (b := n) (by omega)
              have := Int.emod_lt_of_pos U (b := n) (by omega)
              simp [IntKind.wrap, IntKind.bits, IntKind.signed]; omega
            have v3 : IntKind.u64.wrap n = n := by simp [IntKind.wrap, IntKind.bits, IntKind.signed]; omega
            have v4 : (n == 0) = false := by simp; omega
            have v5 : ¬ n = 0 := by omega
            have v6 : n ≠ 0 := by omega
            have hmax : ∀ W : World, (Builtin.max_ #[3, 3] 3 #[.int .i64 n, .int .i64 1]).run Try.prog W = .ok (.int .i64 n) W := fun W => max_i64 _ _ _ _ 0 _ (by split <;> omega) W
            clear h114 h110 h112
            go_wp2_with fail
            go_roundw
            case rel => exact ⟨p + 1, u, _, by go_num, by omega, by omega, hs, hI'.set hlt 4 _ _ rfl⟩
            case measure => rw [itPos_eq (hI'.set hlt 4 _ ⟨out.op, out.a, out.b, out.c, U % n⟩ rfl).it, HM.out]; omega
    · have hpe : p = S.size := by omega
      have hn := fun ty => Lib.run_next_end_at (P := Try.prog) wr (B + 2) S p ty hI.it hps
      have b8 := hI.b8
      have b4 := hI.b4
      have hb := hI.below
      have hv : (F S.size).2 = out := by rw [← hpe, hF]
      have HV := Lib.hid hv
      clear hI hF hm hv
      go_wp2_with (first
        | refine wpList_load_row (P := Try.prog) rfl 73 (.tmp 8) rfl B rfl 73 _ (0, 0) _ b8 Try.underlying73 rfl (by kernel_rfl) ?_
        | refine wpList_store_row (P := Try.prog) rfl 73 (.tmp 4) (.tmp 76) rfl (w.heap.size + 1) #[.int .u8 out.op, .int .u8 out.a, .int .u8 out.b, .int .u8 out.c, .int .i64 out.n] rfl rfl 73 _ b4 (by kernel_rfl) rfl (by kernel_rfl) ?_)
      (try simp only [Exit.inBlock, Exit.then])
      refine bodyPost_ret (v := .agg #[.int .u8 out.op, .int .u8 out.a, .int .u8 out.b, .int .u8 out.c, .int .i64 out.n]) (results_cell_row (P := Try.prog) (p := 4) (ty := 73) rfl _ _ (w.heap.size + 1) 73 _ (0, 0) _ rfl (Blk.row b4 _) Try.underlying73 rfl (by kernel_rfl)) rfl ?_
      exact ⟨by rw [HV.out], below_setRow hb (Nat.le_succ _) _⟩

end Go.Proofs.Ytjliakjbdcplcaa
end

section
namespace Go.Proofs.Ytjliakjbdcplcaa
open Go.RowKit
set_option linter.unusedVariables false
set_option linter.unusedSimpArgs false

def one14 (x : Ins) (M : Int) : Ins := (fold14 x M (formS (formC (op14 x.op))) (formS (formC (op14 x.op))).size).2
theorem formC_cases (op : Int) : formC op = 0 ∨ formC op = 1 ∨ formC op = 2 ∨ formC op = 3 ∨ formC op = 4 ∨ formC op = 5 ∨ formC op = 6 ∨ formC op = 7 := by
  unfold formC; repeat (first | (split; · simp) | simp)
theorem formS_size (k : Nat) : (formS k).size ≤ 100 := by
  unfold formS; split <;> decide
theorem formS_asc (k : Nat) : ∀ p (h : p < (formS k).size), ((formS k)[p]'h).toNat < 128 := by
  have key : ∀ k, k < 8 → ∀ p (h : p < (formS k).size), ((formS k)[p]'h).toNat < 128 := by decide
  rcases Nat.lt_or_ge k 8 with h | h
  · exact key k h
  · intro p hp
    have : formS k = ⟨#[]⟩ := by
      unfold formS
      split <;> first | omega | rfl
    rw [this] at hp
    exact absurd hp (Nat.not_lt_zero p)
theorem one14_c (x : Ins) (hx : x.ok) (n : Int) (hn : 1 ≤ n ∧ n ≤ 1000000) (w : World) :
    Calls Try.prog 71 #[x.v, .int .i64 n] w fun e w' => e = .returned (one14 x n).v ∧ Below w.heap.size w w' := by
  have hb := op14_bd x.op
  have hf := fun w => form_c (op14 x.op) (by omega) w
  have h0 : (formC (op14 x.op) != 0) = true := by simpa using hb.2.2
  rw [h0] at hf
  exact one14_w x hx n hn _ (formS_size _) (formS_asc _) w hf
theorem one14_eq (x : Ins) (M : Int) : one14 x M = match formC (op14 x.op) with
    | 1 => ⟨op14 x.op, x.a % 8, x.b % 8, x.c % 8, 0⟩
    | 3 => ⟨op14 x.op, x.a % 8, 0, 0, x.n⟩
    | 4 => ⟨op14 x.op, x.a % 8, x.b % 8, 0, 0⟩
    | 5 => ⟨op14 x.op, x.a % 8, x.b % 8, 0, IntKind.u64.wrap x.n % 16⟩
    | 6 => ⟨op14 x.op, 0, 0, 0, IntKind.u64.wrap x.n % M⟩
    | 7 => ⟨op14 x.op, x.a % 8, 0, 0, IntKind.u64.wrap x.n % M⟩
    | _ => ⟨op14 x.op, 0, 0, 0, 0⟩ := by
  unfold one14
  rcases formC_cases (op14 x.op) with h | h | h | h | h | h | h | h <;> (rw [h]; rfl)
theorem one14_forms (x : Ins) (M : Int) : (formC (op14 x.op) = 1 ∧ one14 x M = ⟨op14 x.op, x.a % 8, x.b % 8, x.c % 8, 0⟩) ∨ (formC (op14 x.op) = 2 ∧ one14 x M = ⟨op14 x.op, 0, 0, 0, 0⟩) ∨
    (formC (op14 x.op) = 3 ∧ one14 x M = ⟨op14 x.op, x.a % 8, 0, 0, x.n⟩) ∨ (formC (op14 x.op) = 4 ∧ one14 x M = ⟨op14 x.op, x.a % 8, x.b % 8, 0, 0⟩) ∨
    (formC (op14 x.op) = 5 ∧ one14 x M = ⟨op14 x.op, x.a % 8, x.b % 8, 0, IntKind.u64.wrap x.n % 16⟩) ∨ (formC (op14 x.op) = 6 ∧ one14 x M = ⟨op14 x.op, 0, 0, 0, IntKind.u64.wrap x.n % M⟩) ∨
    (formC (op14 x.op) = 7 ∧ one14 x M = ⟨op14 x.op, x.a % 8, 0, 0, IntKind.u64.wrap x.n % M⟩) := by
  have he := one14_eq x M
  rcases formC_cases (op14 x.op) with h | h | h | h | h | h | h | h
  · exact absurd h (op14_bd x.op).2.2
  · exact .inl ⟨h, by rw [he, h]; rfl⟩
  · exact .inr (.inl ⟨h, by rw [he, h]; rfl⟩)
  · exact .inr (.inr (.inl ⟨h, by rw [he, h]; rfl⟩))
  · exact .inr (.inr (.inr (.inl ⟨h, by rw [he, h]; rfl⟩)))
  · exact .inr (.inr (.inr (.inr (.inl ⟨h, by rw [he, h]; rfl⟩))))
  · exact .inr (.inr (.inr (.inr (.inr (.inl ⟨h, by rw [he, h]; rfl⟩)))))
  · exact .inr (.inr (.inr (.inr (.inr (.inr ⟨h, by rw [he, h]; rfl⟩)))))
theorem one14_op (x : Ins) (M : Int) : (one14 x M).op = op14 x.op := by
  rcases one14_forms x M with ⟨_, h⟩ | ⟨_, h⟩ | ⟨_, h⟩ | ⟨_, h⟩ | ⟨_, h⟩ | ⟨_, h⟩ | ⟨_, h⟩ <;> rw [h]
theorem ok_mk {op a b c n : Int} (h : (0 ≤ op ∧ op ≤ 255) ∧ (0 ≤ a ∧ a ≤ 255) ∧ (0 ≤ b ∧ b ≤ 255) ∧ (0 ≤ c ∧ c ≤ 255) ∧ (-9223372036854775808 ≤ n ∧ n ≤ 9223372036854775807)) : (⟨op, a, b, c, n⟩ : Ins).ok :=
  ⟨h.1.1, h.1.2, h.2.1.1, h.2.1.2, h.2.2.1.1, h.2.2.1.2, h.2.2.2.1.1, h.2.2.2.1.2, h.2.2.2.2.1, h.2.2.2.2.2⟩
theorem one14_ok (x : Ins) (hx : x.ok) (M : Int) (hM : 1 ≤ M ∧ M ≤ 1000000) : (one14 x M).ok := by
  have hb := op14_bd x.op
  have hu := u64_bd4 x.n
  have hm := Int.emod_nonneg (IntKind.u64.wrap x.n) (b := M) (by omega)
  have hm2 := Int.emod_lt_of_pos (IntKind.u64.wrap x.n) (b := M) (by omega)
  obtain ⟨-, -, -, -, -, -, -, -, n0, n1⟩ := hx
  rcases one14_forms x M with ⟨_, h⟩ | ⟨_, h⟩ | ⟨_, h⟩ | ⟨_, h⟩ | ⟨_, h⟩ | ⟨_, h⟩ | ⟨_, h⟩ <;> (rw [h]; exact ok_mk (by omega))
theorem one14_one (x : Ins) (M : Int) (hM : 1 ≤ M ∧ M ≤ 256) : oneE (one14 x M) = 0 := by
  have hb := op14_bd x.op
  have hu := u64_bd4 x.n
  have hm := Int.emod_nonneg (IntKind.u64.wrap x.n) (b := M) (by omega)
  have hm2 := Int.emod_lt_of_pos (IntKind.u64.wrap x.n) (b := M) (by omega)
  unfold oneE
  rw [one14_op, if_neg hb.2.2]
  rcases one14_forms x M with ⟨h1, h⟩ | ⟨h1, h⟩ | ⟨h1, h⟩ | ⟨h1, h⟩ | ⟨h1, h⟩ | ⟨h1, h⟩ | ⟨h1, h⟩ <;> rw [h1, h]
  · exact Vm.b79
  · exact Vm.b79
  · exact oneK_pos (show _ ∧ _ ∧ _ by dsimp only; omega)
  · exact Vm.b79
  · exact Vm.b80
  · exact Vm.b80
  · exact Vm.b80
theorem one14_bad (x : Ins) (M : Int) (hM : 1 ≤ M ∧ M ≤ 256) : badAt M (one14 x M) = 0 := by
  have h1 := one14_one x M hM
  have hb := op14_bd x.op
  have hm2 := Int.emod_lt_of_pos (IntKind.u64.wrap x.n) (b := M) (by omega)
  unfold badAt
  rw [if_neg (by simp [h1])]
  by_cases ht : targB (one14 x M) = true
  · rw [if_neg]
    rintro ⟨-, h2⟩
    have h3 : targV (one14 x M) = (one14 x M).n := by unfold targV; rw [if_pos ht]
    rw [h3] at h2
    unfold targB at ht
    rw [one14_op] at ht
    simp [h1] at ht
    have hc : formC (op14 x.op) = 6 ∨ formC (op14 x.op) = 7 := by
      rcases ht with h | h | h <;> rw [h] <;> decide
    rcases one14_forms x M with ⟨h5, h⟩ | ⟨h5, h⟩ | ⟨h5, h⟩ | ⟨h5, h⟩ | ⟨h5, h⟩ | ⟨h5, h⟩ | ⟨h5, h⟩ <;> first | omega | (rw [h] at h2; dsimp only at h2; omega)
  · rw [if_neg (by simp [ht])]
def made14 (xs : List Ins) : List Ins := (xs.take 40).map (fun x => one14 x ((xs.take 40).length + 1 : Nat)) ++ [haltI]
theorem made14_len (xs : List Ins) : (made14 xs).length = (xs.take 40).length + 1 := by simp [made14]
theorem made14_le (xs : List Ins) : 1 ≤ (made14 xs).length ∧ (made14 xs).length ≤ 41 := by
  rw [made14_len, List.length_take]; omega
theorem made14_ok (xs : List Ins) (hx : ∀ x ∈ xs, x.ok) : ∀ i ∈ made14 xs, i.ok := by
  intro i hi
  unfold made14 at hi
  rw [List.mem_append, List.mem_map] at hi
  rcases hi with ⟨x, h, rfl⟩ | h
  · exact one14_ok x (hx x (List.mem_of_mem_take h)) _ (by rw [List.length_take]; omega)
  · rw [List.mem_singleton] at h
    rw [h]; exact haltI_ok
theorem made14_bad (xs : List Ins) : ∀ i ∈ made14 xs, badAt (made14 xs).length i = 0 := by
  intro i hi
  rw [made14_len]
  unfold made14 at hi
  rw [List.mem_append, List.mem_map] at hi
  rcases hi with ⟨x, h, rfl⟩ | h
  · exact one14_bad x _ (by rw [List.length_take]; omega)
  · rw [List.mem_singleton] at h
    rw [h]
    unfold badAt
    rw [if_neg (by decide), if_neg (fun h => absurd h.1 (by decide))]
theorem made14_right (xs : List Ins) : (checkI (made14 xs)).2 = 0 := by
  have hl := made14_le xs
  unfold checkI
  rw [if_neg (by omega), if_neg (by omega)]
  have hK := checkK_none (p := made14 xs) (fun k hk y hy => made14_bad xs y (List.mem_of_getElem? hy))
  rw [hK]
  have : (made14 xs).getD ((made14 xs).length - 1) ⟨0, 0, 0, 0, 0⟩ = haltI := by
    rw [made14_len]
    simp [made14, List.getD]
  rw [this, if_neg (by decide)]
theorem reads_new5 (X : World) (t : TypeId) (a b c d e : Value) (gg : Nat) (h : gg = X.heap.size) : Reads (X.alloc (.cells #[a, b, c, d, e] t)) (gg + 1) 5 (some ⟨gg, 0, none⟩) 1 [a, b, c, d, e] := by
  subst h
  refine ⟨rfl, fun _ => ⟨_, rfl, Nat.lt_succ_self _, fun j u hu => ?_⟩⟩
  rw [Addr.add_lit, cell_of_row _ _ _ _ _ _ (heap_alloc_new X _), Nat.zero_add]
  simpa using hu
set_option maxRecDepth 100000 in
set_option maxHeartbeats 4000000 in
theorem made14_c (xs : List Ins) (hx : ∀ x ∈ xs, x.ok) (A : Option Addr) (n c : Nat) (w : World) (hA : Reads w w.heap.size 5 A n (insV xs)) (hc : n ≤ c) (hcm : c ≤ 9223372036854775807) :
    Calls Try.prog 42 #[.slice A n c] w fun e w' => ∃ P, e = .returned P ∧ w'.ownsRow w.heap.size 73 5 P (made14 xs).length (insV (made14 xs)) ∧ Below w.heap.size w w' := by
  have hn := hA.ins_len
  obtain ⟨m, hm⟩ : ∃ m, m = min n 40 := ⟨_, rfl⟩
  have hmn : m ≤ n := by omega
  have hm40 : m ≤ 40 := by omega
  have hml : (xs.take 40).length = m := by rw [List.length_take]; omega
  have hmin : ∀ W : World, (Builtin.min_ #[3, 3] 3 #[.int .i64 (n : Int), .int .i64 40]).run Try.prog W = .ok (.int .i64 (m : Int)) W := fun W => min_i64 _ _ _ _ 0 _ (by split <;> omega) W
  have hm0 : (0 : Int) ≤ (m : Int) := by omega
  have hmc : (m : Int) ≤ (c : Int) := by omega
  obtain ⟨iS, hi, hz0, hz1, hz2⟩ := info_parts infoIns
  have HL := Lib.hid hml
  clear hm hml
  go_enter Try.func42, Try.ntmps42
  go_wp2
  go_loopw [3, 13] (fun s k wr => ∃ (j : Nat) (D : Option Addr) (f : Nat), k = .int .i64 j ∧ s = .slice D j f ∧ j ≤ m ∧ wr.ownsRow w.heap.size 73 5 (.slice D j f) j (insV ((xs.take j).map fun x => one14 x (m + 1 : Nat))) ∧ Below w.heap.size w wr) (fun _ k _ => m - (intOf k).toNat)
  case atStart => exact ⟨0, none, 0, rfl, rfl, by omega, World.ownsRow_nil _ _ _ _, Below.refl _ _⟩
  case round =>
    obtain ⟨j, D, f, rfl, rfl, hj, ho, hb⟩ := hrel
    by_cases hlt : j < m
    · obtain ⟨ab, off, x, rfl, hab, hxj, c0, c1, c2, c3, c4⟩ := (hA.below hb).ins_at (show j < n by omega)
      have hxo : x.ok := hx x (List.mem_of_getElem? hxj)
      have hM : 1 ≤ ((m : Int) + 1) ∧ ((m : Int) + 1) ≤ 1000000 := by omega
      have w1 : wrap64 ((m : Int) + 1) = (m : Int) + 1 := by unfold wrap64; omega
      have OC := Lib.hid (fun W => one14_c x hxo ((m : Int) + 1) hM W)
      obtain ⟨y, hy⟩ : ∃ y, y = one14 x ((m : Int) + 1) := ⟨_, rfl⟩
      rw [← hy] at OC
      have hyo : y.ok := hy ▸ one14_ok x hxo _ hM
      have hstep : insV (((xs.take j).map fun x => one14 x (m + 1 : Nat))) ++ y.cells = insV ((xs.take (j + 1)).map fun x => one14 x (m + 1 : Nat)) := by
        rw [List.take_add_one, hxj, hy]
        simp [insV]
      have hab2 : ab < wr.heap.size := by have := hb.size; omega
      have HO := Lib.hid (And.intro ho (And.intro hstep hb))
      obtain ⟨x0, xa, xb, xc, xn⟩ := x
      obtain ⟨y0, ya, yb, yc, yn⟩ := y
      unfold Ins.v at OC
      dsimp only at OC c0 c1 c2 c3 c4
      clear ho hstep hb hA hxj hy hxo hyo
      go_wp2_with fail
      go_at_call 71
      refine (OC.out _).mono ?_
      rintro e W1 ⟨rfl, hb1⟩
      have hB1 : Below wr.heap.size wr W1 := ((Below.refl _ wr).alloc (Nat.le_refl _) _).trans (hb1.mono (by simp))
      have ho1 : W1.ownsRow w.heap.size 73 5 (.slice D j f) j (insV ((xs.take j).map fun x => one14 x (m + 1 : Nat))) := ownsRow_keep HO.out.1 fun k _ hk => hB1.block k hk
      have hb2 : Below w.heap.size w W1 := HO.out.2.2.trans (hB1.mono HO.out.2.2.size)
      have HQ := Lib.hid (And.intro ho1 hb2)
      have hrd : Reads (W1.alloc (.cells #[.int .u8 y0, .int .u8 ya, .int .u8 yb, .int .u8 yc, .int .i64 yn] 73)) (W1.heap.size + 1) 5 (some ⟨W1.heap.size, 0, none⟩) 1 [.int .u8 y0, .int .u8 ya, .int .u8 yb, .int .u8 yc, .int .i64 yn] := reads_new5 _ _ _ _ _ _ _ _ rfl
      have hones : ∀ u ∈ [Value.int .u8 y0, .int .u8 ya, .int .u8 yb, .int .u8 yc, .int .i64 yn], u.oneCell' = true := by
        intro u hu; simp at hu; rcases hu with rfl | rfl | rfl | rfl | rfl <;> rfl
      clear hb1 hB1 ho1 hb2
      go_wp2_with (at_builtin
                   refine wpList_append_any _ rfl (.tmp 17) (.tmp 23) _ rfl w.heap.size 73 iS _ 5 16 Try.underlying35 hi hz0 hz1 hz2 rfl (by omega) (.slice D j f) j _ rfl
                     (own_alloc HQ.out.1 _) (W1.heap.size + 1) (some ⟨W1.heap.size, 0, none⟩) 1 1 _ rfl hrd hones (by unfold maxLen; omega) (by omega) (by have := HQ.out.2.size; simp; omega) ?_
                   intro v1 w1 hown1 hg1 hat1)
      obtain ⟨D1, f1, rfl⟩ := own_slice hown1
      have hf2 := HO.out.2.1
      have hn2 : insV ((xs.take j).map fun x => one14 x (m + 1 : Nat)) ++ [.int .u8 y0, .int .u8 ya, .int .u8 yb, .int .u8 yc, .int .i64 yn] = insV ((xs.take (j + 1)).map fun x => one14 x (m + 1 : Nat)) := hf2
      rw [hn2] at hown1
      go_roundw
      case rel => exact ⟨j + 1, D1, f1, by go_num, rfl, by omega, hown1, (HQ.out.2.alloc HQ.out.2.size _).grown hg1 (Nat.le_trans HQ.out.2.size (by simp)) (fun k hk => own_base HQ.out.1 k hk)⟩
      case measure => simp [intOf]; omega
    · have hjm : j = m := by omega
      subst hjm
      have hfin : insV ((xs.take j).map fun x => one14 x (j + 1 : Nat)) ++ haltI.cells = insV (made14 xs) := by
        have ht : xs.take j = xs.take 40 := by
          have := HL.out
          rw [List.length_take] at this
          rcases Nat.le_total xs.length 40 with h | h
          · rw [List.take_of_length_le (by omega), List.take_of_length_le h]
          · rw [show j = 40 by omega]
        unfold made14
        rw [HL.out, ht]
        simp [insV]
      have hlen : (made14 xs).length = j + 1 := by rw [made14_len, HL.out]
      have HQ := Lib.hid (And.intro ho (And.intro hb (And.intro hfin hlen)))
      have hrd : Reads (wr.alloc (.cells #[.int .u8 1, .int .u8 0, .int .u8 0, .int .u8 0, .int .i64 0] 73)) (wr.heap.size + 1) 5 (some ⟨wr.heap.size, 0, none⟩) 1 [.int .u8 1, .int .u8 0, .int .u8 0, .int .u8 0, .int .i64 0] := reads_new5 _ _ _ _ _ _ _ _ rfl
      have hones : ∀ u ∈ [Value.int .u8 1, .int .u8 0, .int .u8 0, .int .u8 0, .int .i64 0], u.oneCell' = true := by
        intro u hu; simp at hu; rcases hu with rfl | rfl | rfl | rfl | rfl <;> rfl
      clear ho hb hfin hlen hA
      go_wp2_with (at_builtin
                   refine wpList_append_any _ rfl (.tmp 26) (.tmp 28) _ rfl w.heap.size 73 iS _ 5 16 Try.underlying35 hi hz0 hz1 hz2 rfl (by omega) (.slice D j f) j _ rfl
                     (own_alloc HQ.out.1 _) (wr.heap.size + 1) (some ⟨wr.heap.size, 0, none⟩) 1 1 _ rfl hrd hones (by unfold maxLen; omega) (by omega) (by have := HQ.out.2.1.size; simp; omega) ?_
                   intro v1 w1 hown1 hg1 hat1)
      obtain ⟨h1, h2, h3, h4⟩ := HQ.out
      have hn2 : insV ((xs.take j).map fun x => one14 x (j + 1 : Nat)) ++ [.int .u8 1, .int .u8 0, .int .u8 0, .int .u8 0, .int .i64 0] = insV (made14 xs) := h3
      rw [hn2] at hown1
      go_ret
      rw [h4]
      exact ⟨_, rfl, hown1, (h2.alloc h2.size _).grown hg1 (Nat.le_trans h2.size (by simp)) (fun k hk => own_base h1 k hk)⟩
end Go.Proofs.Ytjliakjbdcplcaa
end

section
namespace Go.Proofs.Ytjliakjbdcplcaa.Vm
open Go.RowKit
set_option linter.unusedVariables false
set_option linter.unusedSimpArgs false
set_option maxRecDepth 100000
def sMd14 : Spec := fun args h m => match args with
  | [.sl z i pa k s n' (some cp)] => match srcV h 5 (.tup []) (.sl z i pa k s n' (some cp)) with
    | some (c, n, f, rd) =>
        some (c ∧ n = n' ∧ (∀ q, q < n → isIns (f q) = true) ∧ (∀ x ∈ ls insOf n f, x.ok) ∧ max n cp ≤ 9223372036854775807, .sl m m [] 5 0 (made14 (ls insOf n f)).length none, rd, [(m, .own 73 (.arr (made14 (ls insOf n f)).length 5 (prS (made14 (ls insOf n f)))) false)])
    | _ => none
  | _ => none
theorem sMd14_ok : CallOk Try.prog 42 sMd14 := by
  refine ⟨named_spec (by kernel_rfl), fun args h m c v rd wr hs hm hc w0 M β h' w R hrd hwr hst => ?_⟩
  unfold sMd14 at hs
  split at hs
  · rename_i z i pa k' s n' cp
    split at hs
    · rename_i c' n f rd' ha
      simp only [Option.some.injEq, Prod.mk.injEq] at hs
      obtain ⟨rfl, rfl, rfl, rfl⟩ := hs
      obtain ⟨hc1, hn, hi, hok, hcp⟩ := hc
      obtain ⟨A, cap, hden, hnc, hr⟩ := reads_src R ha hc1 hrd (by omega)
      rw [elems_ins hi] at hr
      have hcap : cap ≤ 9223372036854775807 := by
        simp only [SV.den, Option.getD_some] at hden
        injection hden with _ _ h3
        omega
      simp only [denL, hden]
      refine (made14_c (ls insOf n f) hok A n cap w hr hnc hcap).mono fun e w' he => ?_
      obtain ⟨p, rfl, ho, hb⟩ := he
      have hmd : h' m = .dead := (hwr _ (.head _)).trans (hm m (Nat.le_refl _))
      obtain ⟨e', R', hv⟩ := (R.below hb).made (f := prS (made14 (ls insOf n f))) hmd ho R.size (elems_prS _) prS_stable (fun g i a' hg hmi hai e => by
        have := R.lt i a' hmi hai
        obtain ⟨_, ⟨rfl, _⟩ | ⟨g', cap', cur, rfl, hg', _⟩⟩ := ho
        · cases hg
        · simp [Value.ownBlock] at hg
          omega)
      exact ⟨_, agree_setE hmd, R', stable_new, by rw [hv]⟩
    · cases hs
  · cases hs
end Go.Proofs.Ytjliakjbdcplcaa.Vm
end

section
namespace Go.Proofs.Ytjliakjbdcplcaa.Vm
open Go.RowKit
attribute [local push_cast] runR opG gtmp gval gus opX tmpsOf tm tmO tmP restr look look2 tab tys zs ets eqB eqBL allB numOf ieq Int.cast_ofNat_Int Int.ofNat_zero beq_true beq_false frameOf ev evL ofV opV loadV noW pushF wrsL setH allBorn allGone HB.born HB.isGone HB.val SV.plain dstOk hp nav fitsT SV.size sizeL SV.isAgg TK.size TK.agg bin binE binN binI arN arI cmpN cmpI keq kn narrow callV storeV setp fillV buildV buildSliceV makeV sliceV appendV copyV List.isEmpty_nil srcV evO asN ite_t ite_f ite_bool ite_int ite_nat maxV v_beq v_ble v_blt cond_true cond_false List.getElem?_cons_zero List.getElem?_cons_succ List.getD_cons_zero List.getD_cons_succ List.getD_nil List.length_cons List.length_nil List.take_succ_cons List.take_zero List.set_cons_zero List.set_cons_succ List.cons_append List.nil_append List.append_assoc List.replicate_succ List.replicate_zero Nat.zero_add Nat.add_zero decide_true decide_false Bool.true_and Bool.and_true Bool.false_and Bool.and_false Bool.true_or Bool.or_true Bool.false_or Bool.or_false beq_self_eq_true Bool.or_self Nat.lt_irrefl Nat.not_lt_zero Nat.le_refl Option.getD_some Option.getD_none BEq.rfl Bool.not_true Bool.not_false Bool.cond_true_left Bool.cond_false_right prS sndsS i64S nav_ins nav_ins0 nav_ins1 nav_ins2 nav_ins3 nav_ins4 nav_snd nav_snd0 nav_snd1 nav_snd2 isIns_insS insOf_insS isSnd_sndS sndOf_sndS isI_int isI_nat iOf
set_option linter.unusedVariables false
set_option linter.unusedSimpArgs false
set_option maxRecDepth 100000
set_option maxHeartbeats 4000000
def cM18 : FuncId → Option Spec := look2 [(50, sCl64)]
theorem cM18_ok : ∀ f S, cM18 f = some S → CallOk Try.prog f S := allOk_spec ⟨sCl64_ok, trivial⟩
theorem env_lit (a b c d e : Int) (hb : 0 ≤ b ∧ b ≤ 65535) (hc : 0 ≤ c ∧ c ≤ 255) (hd : 0 ≤ d ∧ d ≤ 255) (he : 0 ≤ e ∧ e ≤ 4294967295) : LitOk Try.prog 41 [.int .u64 a, .int .u16 b, .int .u8 c, .int .u8 d, .int .u32 e] [.gone] (.agg [.int .u64 a, .int .i64 b, .int .i64 (c.tmod 17), .int .i64 (1 + d), .int .i64 e]) [.gone] := by
  refine litOkM (fn := Try.f41) 1 23 0 rfl rfl rfl rfl rfl (by simp only [StableL, Stable, hp, i64S, prS, insS, sndsS, sndS, stS, evS, macS, HB.stable]; simp [HB.born]) rfl fun w0 M E hro => ?_
  repeat' (first | with_reducible (first | apply J1 | apply J3 | apply J4 | apply J5 | apply J6 | apply J7 | apply J8 | apply J9 | apply J10 | apply J11 | apply J12 | apply J13 | apply J14 | apply J15 | apply J16 | apply J17 | apply J18 | apply J19 | apply J20 | refine J2 ?_) | ((with_reducible apply J21); (· rfl)) | ((with_reducible intro hif); first | (focus (cases hif; done)) | (simp only [JH] at hif; try (exfalso; omega)) | (try (exfalso; omega))) | ((first | ((with_reducible apply J22 cM18_ok tab_ok); (· rfl)) | ((with_reducible apply J23 fol cM18_ok tab_ok); (· rfl)) | with_reducible apply J24); (· exact Vm.b34); (try kernel_rfl); (try exact Vm.b21)) | fail)
  apply At.endsRet tab_ok (fn := Try.f41) (rs := [.cell 10 30]) Anc.refl hro (Nat.le_of_ble_eq_true rfl) rfl
  · exact Vm.b12
  · exact Vm.b6
  · exact Vm.b7
  · rfl
  · exact Vm.b81
  · exact Vm.b9
  · exact fun β => rfl
  · exact Vm.b81
def sEnv18 : Spec := fun args h m => match args with
  | [v1, v2, v3, v4, v5] => bif isI .u64 v1 && isI .u16 v2 && isI .u8 v3 && isI .u8 v4 && isI .u32 v5 then some ((0 ≤ (iOf v2) ∧ (iOf v2) ≤ 65535) ∧ (0 ≤ (iOf v3) ∧ (iOf v3) ≤ 255) ∧ (0 ≤ (iOf v4) ∧ (iOf v4) ≤ 255) ∧ (0 ≤ (iOf v5) ∧ (iOf v5) ≤ 4294967295), .agg [.int .u64 (iOf v1), .int .i64 (iOf v2), .int .i64 ((iOf v3).tmod 17), .int .i64 (1 + (iOf v4)), .int .i64 (iOf v5)], [], []) else none
  | _ => none
theorem sEnv18_ok : CallOk Try.prog 41 sEnv18 := by
  refine ⟨named_spec (by kernel_rfl), fun args h m c v rd wr hs hm hc w0 M β h' w R hrd hwr hst => ?_⟩
  unfold sEnv18 at hs
  split at hs
  · rename_i v1 v2 v3 v4 v5
    obtain ⟨hb, hs⟩ := bif_some hs
    simp only [Option.some.injEq, Prod.mk.injEq] at hs
    obtain ⟨rfl, rfl, rfl, rfl⟩ := hs
    simp only [Bool.and_eq_true] at hb
    obtain ⟨⟨⟨⟨b1, b2⟩, b3⟩, b4⟩, b5⟩ := hb
    obtain ⟨y1, y2, y3, y4⟩ := hc
    refine callRo (views := []) (env_lit (iOf v1) (iOf v2) (iOf v3) (iOf v4) (iOf v5) y1 y2 y3 y4) ?_ R hm hwr ?_ ?_ ?_
    · intro x hx; cases hx
    · intro β1 hv
      simp only [denL, aggDen, intDen, natDen, boolDen, ls_length, isI_den b1, isI_den b2, isI_den b3, isI_den b4, isI_den b5]
    · exact Vm.b81
    · exact Vm.b81
  · cases hs
def nilS (D : List Snd) (b : Nat) : SV := SV.ite D.isEmpty (.sl 0 0 [] 0 0 0 (some 0)) (.sl b b [] 3 0 D.length none)
theorem nilS_t {D : List Snd} {b : Nat} (h : D.isEmpty = true) : nilS D b = .sl 0 0 [] 0 0 0 (some 0) := by unfold nilS; rw [h]; rfl
theorem nilS_f {D : List Snd} {b : Nat} (h : D.isEmpty = false) : nilS D b = .sl b b [] 3 0 D.length none := by unfold nilS; rw [h]; rfl
def mSnd (n : Nat) : List Snd := (List.range n).map fun i : Nat => ⟨(i : Int), (i : Int), 1⟩
theorem mSnd_len (n : Nat) : (mSnd n).length = n := by simp [mSnd]
theorem mSnd_succ (n : Nat) : mSnd (n + 1) = mSnd n ++ [⟨n, n, 1⟩] := by simp [mSnd, List.range_succ]
theorem ls_take (cs : List Int) (k : Nat) (hk : k ≤ cs.length) : ls iOf k (i64S cs) = cs.take k := by
  apply List.ext_getElem
  · rw [ls_length, List.length_take, Nat.min_eq_left hk]
  · intro i h1 h2
    rw [ls_length] at h1
    have := ls_getD (g := iOf) (f := i64S cs) (d := 0) h1
    rw [List.getD_eq_getElem?_getD, List.getElem?_eq_getElem (by rw [ls_length]; exact h1)] at this
    simp only [Option.getD_some] at this
    rw [this]
    show cs.getD i 0 = _
    rw [List.getD_eq_getElem?_getD, List.getElem?_eq_getElem (by omega), List.getElem_take]
    rfl
theorem made18_lit (a d s : Int) (rg : Nat → Int) (cs : List Int) (P : List Ins) (hP : P.length ≤ 1000000) (p p2 : Nat) (hcp : cs.length ≤ p) (ha : 0 ≤ a ∧ a ≤ 255) (hd : 0 ≤ d ∧ d ≤ 4294967295) (hs : 0 ≤ s ∧ s ≤ 255) : LitOk Try.prog 40 [.agg [.int .u8 a, .arr 8 1 (fun q => .int .i64 (rg q)), .sl 1 2 [] 1 0 cs.length (some p), .int .u32 d, .int .u8 s], .sl 3 4 [] 5 0 P.length (some p2)] [.gone, .gone, .ro (.arr cs.length 1 (i64S cs)), .gone, .ro (.arr P.length 5 (prS P))]
    (.agg [.int .i64 (a.tmod ((max P.length 1 : Nat) : Int)), .bool false, .arr 8 1 (fun q => .int .i64 (rg q)), .sl 5 5 [] 1 0 (cs.take 12).length none, .int .i64 d, nilS (mSnd (s.tmod 21).toNat) 6]) [.gone, .gone, .gone, .gone, .gone, .own 2 (.arr (cs.take 12).length 1 (i64S (cs.take 12))) false, .own 64 (.arr (mSnd (s.tmod 21).toNat).length 3 (sndsS (mSnd (s.tmod 21).toNat))) false] := by
  have hk0 := Int.tmod_nonneg 21 hs.1
  have hk1 := Int.tmod_lt_of_pos s (show (0 : Int) < 21 by decide)
  have hm1 : (cs.take 12).length = min cs.length 12 := by rw [List.length_take, Nat.min_comm]
  have hm2 := ls_take cs (min cs.length 12) (Nat.min_le_left _ _)
  have hm3 : cs.take (min cs.length 12) = cs.take 12 := by
    rcases Nat.le_total cs.length 12 with h | h
    · rw [Nat.min_eq_left h, List.take_of_length_le (Nat.le_refl _), List.take_of_length_le h]
    · rw [Nat.min_eq_right h]
  rw [hm3] at hm2
  have hm2' : ls iOf (min cs.length 12) (fun q => .int .i64 (cs.getD q 0)) = cs.take 12 := hm2
  refine litOkM (fn := Try.f40) 5 45 0 rfl rfl rfl rfl rfl (by simp only [StableL, Stable, hp, i64S, prS, insS, sndsS, sndS, stS, evS, macS, HB.stable]; simp [HB.born]) rfl fun w0 M E hro => ?_
  repeat' (first | with_reducible (first | apply J1 | apply J3 | apply J4 | apply J5 | apply J6 | apply J7 | apply J8 | apply J9 | apply J10 | apply J11 | apply J12 | apply J13 | apply J14 | apply J15 | apply J16 | apply J17 | apply J18 | apply J19 | apply J20 | refine J2 ?_) | ((with_reducible apply J21); (· rfl)) | ((with_reducible intro hif); first | (focus (cases hif; done)) | (simp only [JH] at hif; try (exfalso; omega)) | (try (exfalso; omega))) | ((first | ((with_reducible apply J22 cM18_ok tab_ok); (· rfl)) | ((with_reducible apply J23 fol cM18_ok tab_ok); (· rfl)) | with_reducible apply J24); (· (simp only [push_cast, ↓JP, Nat.reduceAdd, Nat.reduceEqDiff, Nat.reduceLT, Nat.reduceMul, Nat.reduceLeDiff, reduceCtorEq, reduceIte, ↓JK, JM, JE, cM18, sCl64, inR, inN, Nat.sub_zero, hm2, hm2']; rfl)); (try kernel_rfl); (try exact Vm.b21)) | fail)
  refine WF.empty 64 3 (sndsS []) (fun _ q => sndsS_stable q) ?_
  refine WF.loopAt (fun (j : Nat) => j ≤ (s.tmod 21).toNat) (fun (j : Nat) => [(2, .ptr 5 []), (4, .ptr 6 []), (5, .ptr 9 []), (31, .int .i64 (s.tmod 21)), (32, .nat .i64 j)]) (fun (j : Nat) => [.gone, .gone, .ro (.arr cs.length 1 (i64S cs)), .gone, .ro (.arr P.length 5 (prS P)), .gone, .own 58 (.agg [.nat .i64 0, .bool false, .arr 8 1 (fun x => .nat .i64 0), .sl 0 0 [] 0 0 0 (some 0), .nat .i64 0, .sl 0 0 [] 0 0 0 (some 0)]) true, .gone, .own 2 (.arr (min cs.length 12) 1 (i64S (cs.take 12))) false, .own 58 (.agg [.int .i64 (a.tmod ((max P.length 1 : Nat) : Int)), .bool false, .arr 8 1 (fun q => .int .i64 (rg q)), .sl 8 8 [] 1 0 (min cs.length 12) none, .int .i64 d, nilS (mSnd j) 10]) true, .own 64 (.arr (mSnd j).length 3 (sndsS (mSnd j))) false]) (fun (j : Nat) => (s.tmod 21).toNat - j) 0 (Nat.zero_le _) ?_ ?_ rfl ?_ ?_ rfl ?_
  · exact Vm.b10
  · exact Vm.b7
  · exact Vm.b81
  · exact Vm.b81
  intro j hj
  by_cases hlt : j < (s.tmod 21).toNat
  · have hlt2 : (j : Int) < s.tmod 21 := by omega
    have hne : (mSnd (j + 1)).isEmpty = false := by rw [mSnd_succ]; cases mSnd j <;> rfl
    have hY : ∀ σ, Less (.own 64 (.arr ((mSnd j).length + 1) 3 fun q => SV.ite (decide (q < (mSnd j).length)) (sndS ((mSnd j).getD q ⟨0, 0, 0⟩)) ([SV.agg [.nat .i64 j, .nat .i64 j, .nat .i64 1]].getD (q - (mSnd j).length) (.agg [.nat .i64 0, .nat .i64 0, .nat .i64 0]))) false) ((HB.own 64 (.arr (mSnd (j + 1)).length 3 (sndsS (mSnd (j + 1)))) false).ren σ) := fun σ => by
      rw [mSnd_succ]
      refine less_snd (mSnd j) ⟨j, j, 1⟩ rfl fun q hq β => ?_
      rw [ite_eq]
      by_cases h : q < (mSnd j).length
      · simp only [h, decide_true, cond_true, List.getD_eq_getElem?_getD, List.getElem?_append_left h]
        rw [isSnd_cl (isSnd_sndS _), sndOf_sndS]
      · obtain rfl : q = (mSnd j).length := by omega
        simp only [Nat.lt_irrefl, decide_false, cond_false, Nat.sub_self, List.getD_eq_getElem?_getD, List.getElem?_append_right (Nat.le_refl _), List.getElem?_cons_zero, Option.getD_some]
        rfl
    by_cases h0 : j = 0
    · subst h0
      rw [show nilS (mSnd 0) 10 = .sl 0 0 [] 0 0 0 (some 0) from rfl]
      have hY0 : ∀ σ, Less (.own 64 (.arr (0 + 1) 3 fun q => [SV.agg [.nat .i64 (0 : Nat), .nat .i64 (0 : Nat), .nat .i64 1]].getD q (.agg [.nat .i64 0, .nat .i64 0, .nat .i64 0])) false) ((HB.own 64 (.arr (mSnd (0 + 1)).length 3 (sndsS (mSnd (0 + 1)))) false).ren σ) := fun σ => by
        rw [mSnd_succ]
        refine less_snd (mSnd 0) ⟨0, 0, 1⟩ rfl fun q hq β => ?_
        obtain rfl : q = 0 := by simp [mSnd] at hq; omega
        rfl
      repeat' (first | with_reducible (first | apply J1 | apply J3 | apply J4 | apply J5 | apply J6 | apply J7 | apply J8 | apply J9 | apply J10 | apply J11 | apply J12 | apply J13 | apply J14 | apply J15 | apply J16 | apply J17 | apply J18 | apply J19 | apply J20 | refine J2 ?_) | ((with_reducible apply J21); (· rfl)) | ((with_reducible intro hif); first | (focus (cases hif; done)) | (simp only [JH] at hif; try (exfalso; omega)) | (try (exfalso; omega))) | ((first | ((with_reducible apply J22 cM18_ok tab_ok); (· rfl)) | ((with_reducible apply J23 fol cM18_ok tab_ok); (· rfl)) | with_reducible apply J24); (· exact Vm.b83); (try kernel_rfl); (try exact Vm.b21)) | fail)
      refine At.nextPick [0, 1, 2, 3, 4, 5, 6, 7, 8, 9, 12] 1 ?_ rfl rfl rfl ?_ rfl ?_ ?_ ?_ rfl
      · exact ⟨hlt, by omega⟩
      · exact Vm.b82
      · exact Vm.b81
      · exact Vm.b51
      · exact Vm.b81
    · have hnj : (mSnd j).isEmpty = false := by
        obtain ⟨k, rfl⟩ : ∃ k, j = k + 1 := ⟨j - 1, by omega⟩
        rw [mSnd_succ]; cases mSnd k <;> rfl
      rw [nilS_f hnj]
      have hln : (mSnd j).length ≤ 21 := by rw [mSnd_len]; omega
      repeat' (first | with_reducible (first | apply J1 | apply J3 | apply J4 | apply J5 | apply J6 | apply J7 | apply J8 | apply J9 | apply J10 | apply J11 | apply J12 | apply J13 | apply J14 | apply J15 | apply J16 | apply J17 | apply J18 | apply J19 | apply J20 | refine J2 ?_) | ((with_reducible apply J21); (· rfl)) | ((with_reducible intro hif); first | (focus (cases hif; done)) | (simp only [JH] at hif; try (exfalso; omega)) | (try (exfalso; omega))) | ((first | ((with_reducible apply J22 cM18_ok tab_ok); (· rfl)) | ((with_reducible apply J23 fol cM18_ok tab_ok); (· rfl)) | with_reducible apply J24); (· exact Vm.b83); (try kernel_rfl); (try exact Vm.b21)) | fail)
      refine At.nextPick [0, 1, 2, 3, 4, 5, 6, 7, 8, 9, 12] (j + 1) ?_ rfl rfl rfl ?_ rfl ?_ ?_ ?_ rfl
      · exact ⟨hlt, by omega⟩
      · exact Vm.b82
      · exact Vm.b81
      · exact Vm.b51
      · exact Vm.b81
  · obtain rfl : j = (s.tmod 21).toNat := by omega
    have hlt2 : ¬ ((s.tmod 21).toNat : Int) < s.tmod 21 := by omega
    cases hnj : (mSnd (s.tmod 21).toNat).isEmpty
    · rw [nilS_f hnj, nilS_f hnj]
      repeat' (first | with_reducible (first | apply J1 | apply J3 | apply J4 | apply J5 | apply J6 | apply J7 | apply J8 | apply J9 | apply J10 | apply J11 | apply J12 | apply J13 | apply J14 | apply J15 | apply J16 | apply J17 | apply J18 | apply J19 | apply J20 | refine J2 ?_) | ((with_reducible apply J21); (· rfl)) | ((with_reducible intro hif); first | (focus (cases hif; done)) | (simp only [JH] at hif; try (exfalso; omega)) | (try (exfalso; omega))) | ((first | ((with_reducible apply J22 cM18_ok tab_ok); (· rfl)) | ((with_reducible apply J23 fol cM18_ok tab_ok); (· rfl)) | with_reducible apply J24); (· exact Vm.b83); (try kernel_rfl); (try exact Vm.b21)) | fail)
      apply At.endsPick [0, 1, 2, 3, 4, 8, 10] tab_ok (fn := Try.f40) (rs := [.cell 4 58]) Anc.refl hro (Nat.le_of_ble_eq_true rfl) rfl
      · exact Vm.b12
      · exact Vm.b14
      · rfl
      · rfl
      · rfl
      · exact Vm.b82
      · rfl
      · exact Vm.b81
      · exact Vm.b9
      · exact fun β => by rw [hm1]; rfl
      · exact Vm.b81
    · rw [nilS_t hnj, nilS_t hnj]
      repeat' (first | with_reducible (first | apply J1 | apply J3 | apply J4 | apply J5 | apply J6 | apply J7 | apply J8 | apply J9 | apply J10 | apply J11 | apply J12 | apply J13 | apply J14 | apply J15 | apply J16 | apply J17 | apply J18 | apply J19 | apply J20 | refine J2 ?_) | ((with_reducible apply J21); (· rfl)) | ((with_reducible intro hif); first | (focus (cases hif; done)) | (simp only [JH] at hif; try (exfalso; omega)) | (try (exfalso; omega))) | ((first | ((with_reducible apply J22 cM18_ok tab_ok); (· rfl)) | ((with_reducible apply J23 fol cM18_ok tab_ok); (· rfl)) | with_reducible apply J24); (· exact Vm.b83); (try kernel_rfl); (try exact Vm.b21)) | fail)
      apply At.endsPick [0, 1, 2, 3, 4, 8, 10] tab_ok (fn := Try.f40) (rs := [.cell 4 58]) Anc.refl hro (Nat.le_of_ble_eq_true rfl) rfl
      · exact Vm.b12
      · exact Vm.b14
      · rfl
      · rfl
      · rfl
      · exact Vm.b82
      · rfl
      · exact Vm.b81
      · exact Vm.b9
      · exact fun β => by rw [hm1]; rfl
      · exact Vm.b81
theorem made18N (a d s : Int) (rg : Nat → Int) (cs : List Int) (P : List Ins) (hP : P.length ≤ 1000000) (p p2 : Nat) (hcp : cs.length ≤ p) (ha : 0 ≤ a ∧ a ≤ 255) (hd : 0 ≤ d ∧ d ≤ 4294967295) (hs : 0 ≤ s ∧ s ≤ 255) (hm : (mSnd (s.tmod 21).toNat).isEmpty = true) : LitOk Try.prog 40 [.agg [.int .u8 a, .arr 8 1 (fun q => .int .i64 (rg q)), .sl 1 2 [] 1 0 cs.length (some p), .int .u32 d, .int .u8 s], .sl 3 4 [] 5 0 P.length (some p2)] [.gone, .gone, .ro (.arr cs.length 1 (i64S cs)), .gone, .ro (.arr P.length 5 (prS P))]
    (.agg [.int .i64 (a.tmod ((max P.length 1 : Nat) : Int)), .bool false, .arr 8 1 (fun q => .int .i64 (rg q)), .sl 5 5 [] 1 0 (cs.take 12).length none, .int .i64 d, .sl 0 0 [] 0 0 0 (some 0)]) [.gone, .gone, .gone, .gone, .gone, .own 2 (.arr (cs.take 12).length 1 (i64S (cs.take 12))) false] := by
  have H := made18_lit a d s rg cs P hP p p2 hcp ha hd hs
  rw [nilS_t hm] at H
  intro w0 M β w R
  refine (H w0 M β w R).mono fun e w' ⟨β', h1, h2, h3, h4⟩ => ⟨β', h1, h2.less (fun i => ?_) rfl (fun i => ?_), ?_, h4⟩
  · rcases i with _ | _ | _ | _ | _ | _ | i
    · exact .same _
    · exact .same _
    · exact .same _
    · exact .same _
    · exact .same _
    · exact .same _
    · exact .dead _
  · rcases i with _ | _ | _ | _ | _ | _ | i
    · trivial
    · trivial
    · trivial
    · trivial
    · trivial
    · exact fun q => i64S_stable q
    · trivial
  · simp [Stable, StableL, hp, HB.born]
theorem made18S (a d s : Int) (rg : Nat → Int) (cs : List Int) (P : List Ins) (hP : P.length ≤ 1000000) (p p2 : Nat) (hcp : cs.length ≤ p) (ha : 0 ≤ a ∧ a ≤ 255) (hd : 0 ≤ d ∧ d ≤ 4294967295) (hs : 0 ≤ s ∧ s ≤ 255) (hm : (mSnd (s.tmod 21).toNat).isEmpty = false) : LitOk Try.prog 40 [.agg [.int .u8 a, .arr 8 1 (fun q => .int .i64 (rg q)), .sl 1 2 [] 1 0 cs.length (some p), .int .u32 d, .int .u8 s], .sl 3 4 [] 5 0 P.length (some p2)] [.gone, .gone, .ro (.arr cs.length 1 (i64S cs)), .gone, .ro (.arr P.length 5 (prS P))]
    (.agg [.int .i64 (a.tmod ((max P.length 1 : Nat) : Int)), .bool false, .arr 8 1 (fun q => .int .i64 (rg q)), .sl 5 5 [] 1 0 (cs.take 12).length none, .int .i64 d, .sl 6 6 [] 3 0 (mSnd (s.tmod 21).toNat).length none]) [.gone, .gone, .gone, .gone, .gone, .own 2 (.arr (cs.take 12).length 1 (i64S (cs.take 12))) false, .own 64 (.arr (mSnd (s.tmod 21).toNat).length 3 (sndsS (mSnd (s.tmod 21).toNat))) false] := by
  have H := made18_lit a d s rg cs P hP p p2 hcp ha hd hs
  rwa [nilS_f hm] at H
def sMd18N : Spec := fun args h m => match args with
  | [.agg [v1, .arr 8 1 v2, v3, v4, v5], v6] => match srcV h 1 (.tup []) v3, srcV h 5 (.tup []) v6 with
    | some (c3, n3, f3, r3), some (c6, n6, f6, r6) => bif isI .u8 v1 && isI .u32 v4 && isI .u8 v5 then some (c3 ∧ c6 ∧ (∀ q, q < n3 → isI .i64 (f3 q) = true) ∧ (∀ q, q < n6 → isIns (f6 q) = true) ∧ (∀ q, q < 8 → isI .i64 (v2 q) = true) ∧ (0 ≤ (iOf v1) ∧ (iOf v1) ≤ 255) ∧ (0 ≤ (iOf v4) ∧ (iOf v4) ≤ 4294967295) ∧ (0 ≤ (iOf v5) ∧ (iOf v5) ≤ 255) ∧ (n6 ≤ 1000000) ∧ ((mSnd ((iOf v5).tmod 21).toNat).isEmpty = true), .agg [.int .i64 ((iOf v1).tmod ((max (ls insOf n6 f6).length 1 : Nat) : Int)), .bool false, .arr 8 1 (fun q => .int .i64 (iOf (v2 q))), .sl m m [] 1 0 ((ls iOf n3 f3).take 12).length none, .int .i64 (iOf v4), .sl 0 0 [] 0 0 0 (some 0)], r3 ++ r6, [(m, .own 2 (.arr ((ls iOf n3 f3).take 12).length 1 (i64S ((ls iOf n3 f3).take 12))) false)]) else none
    | _, _ => none
  | _ => none
theorem sMd18N_ok : CallOk Try.prog 40 sMd18N := by
  refine ⟨named_spec (by kernel_rfl), fun args h m c v rd wr hs hm hc w0 M β h' w R hrd hwr hst => ?_⟩
  unfold sMd18N at hs
  split at hs
  · rename_i v1 v2 v3 v4 v5 v6
    split at hs
    · rename_i c3 n3 f3 r3 c6 n6 f6 r6 a3 a6
      obtain ⟨hb, hs⟩ := bif_some hs
      simp only [Option.some.injEq, Prod.mk.injEq] at hs
      obtain ⟨rfl, rfl, rfl, rfl⟩ := hs
      simp only [Bool.and_eq_true] at hb
      obtain ⟨⟨b1, b4⟩, b5⟩ := hb
      obtain ⟨k3, k6, g3, g6, g2, y1, y2, y3, y4, y5⟩ := hc
      obtain ⟨A3, p3, d3, e3, t3⟩ := reads_src R a3 k3 (fun i hi => hrd i (List.mem_append_left _ hi)) (by omega)
      obtain ⟨A6, p6, d6, e6, t6⟩ := reads_src R a6 k6 (fun i hi => hrd i (List.mem_append_right _ hi)) (by omega)
      refine callRo (views := [⟨1, (ls iOf n3 f3).length, i64S (ls iOf n3 f3), A3, p3⟩, ⟨5, (ls insOf n6 f6).length, prS (ls insOf n6 f6), A6, p6⟩]) (made18N (iOf v1) (iOf v4) (iOf v5) (fun q => iOf (v2 q)) (ls iOf n3 f3) (ls insOf n6 f6) (by rw [ls_length]; exact y4) p3 p6 (by rw [ls_length]; exact e3) y1 y2 y3 y5) ?_ R hm hwr ?_ ?_ ?_
      · intro x hx
        simp only [List.mem_cons, List.not_mem_nil, or_false] at hx
        rcases hx with rfl | rfl
        · exact viewI64 t3 e3 g3
        · exact viewIns t6 e6 g6
      · intro β1 hv
        simp only [Vd, ls_length, and_true] at hv
        obtain ⟨z3, z6⟩ := hv
        simp only [denL, aggDen, intDen, natDen, boolDen, ls_length, z3, z6, d3, d6, isI_den b1, isI_den b4, isI_den b5, ← r8Den (β := β) (β1 := β1) g2]
      · exact Vm.b81
      · exact Vm.b81
    · cases hs
  · cases hs
def sMd18S : Spec := fun args h m => match args with
  | [.agg [v1, .arr 8 1 v2, v3, v4, v5], v6] => match srcV h 1 (.tup []) v3, srcV h 5 (.tup []) v6 with
    | some (c3, n3, f3, r3), some (c6, n6, f6, r6) => bif isI .u8 v1 && isI .u32 v4 && isI .u8 v5 then some (c3 ∧ c6 ∧ (∀ q, q < n3 → isI .i64 (f3 q) = true) ∧ (∀ q, q < n6 → isIns (f6 q) = true) ∧ (∀ q, q < 8 → isI .i64 (v2 q) = true) ∧ (0 ≤ (iOf v1) ∧ (iOf v1) ≤ 255) ∧ (0 ≤ (iOf v4) ∧ (iOf v4) ≤ 4294967295) ∧ (0 ≤ (iOf v5) ∧ (iOf v5) ≤ 255) ∧ (n6 ≤ 1000000) ∧ ((mSnd ((iOf v5).tmod 21).toNat).isEmpty = false), .agg [.int .i64 ((iOf v1).tmod ((max (ls insOf n6 f6).length 1 : Nat) : Int)), .bool false, .arr 8 1 (fun q => .int .i64 (iOf (v2 q))), .sl m m [] 1 0 ((ls iOf n3 f3).take 12).length none, .int .i64 (iOf v4), .sl (m + 1) (m + 1) [] 3 0 (mSnd ((iOf v5).tmod 21).toNat).length none], r3 ++ r6, [(m, .own 2 (.arr ((ls iOf n3 f3).take 12).length 1 (i64S ((ls iOf n3 f3).take 12))) false), (m + 1, .own 64 (.arr (mSnd ((iOf v5).tmod 21).toNat).length 3 (sndsS (mSnd ((iOf v5).tmod 21).toNat))) false)]) else none
    | _, _ => none
  | _ => none
theorem sMd18S_ok : CallOk Try.prog 40 sMd18S := by
  refine ⟨named_spec (by kernel_rfl), fun args h m c v rd wr hs hm hc w0 M β h' w R hrd hwr hst => ?_⟩
  unfold sMd18S at hs
  split at hs
  · rename_i v1 v2 v3 v4 v5 v6
    split at hs
    · rename_i c3 n3 f3 r3 c6 n6 f6 r6 a3 a6
      obtain ⟨hb, hs⟩ := bif_some hs
      simp only [Option.some.injEq, Prod.mk.injEq] at hs
      obtain ⟨rfl, rfl, rfl, rfl⟩ := hs
      simp only [Bool.and_eq_true] at hb
      obtain ⟨⟨b1, b4⟩, b5⟩ := hb
      obtain ⟨k3, k6, g3, g6, g2, y1, y2, y3, y4, y5⟩ := hc
      obtain ⟨A3, p3, d3, e3, t3⟩ := reads_src R a3 k3 (fun i hi => hrd i (List.mem_append_left _ hi)) (by omega)
      obtain ⟨A6, p6, d6, e6, t6⟩ := reads_src R a6 k6 (fun i hi => hrd i (List.mem_append_right _ hi)) (by omega)
      refine callRo (views := [⟨1, (ls iOf n3 f3).length, i64S (ls iOf n3 f3), A3, p3⟩, ⟨5, (ls insOf n6 f6).length, prS (ls insOf n6 f6), A6, p6⟩]) (made18S (iOf v1) (iOf v4) (iOf v5) (fun q => iOf (v2 q)) (ls iOf n3 f3) (ls insOf n6 f6) (by rw [ls_length]; exact y4) p3 p6 (by rw [ls_length]; exact e3) y1 y2 y3 y5) ?_ R hm hwr ?_ ?_ ?_
      · intro x hx
        simp only [List.mem_cons, List.not_mem_nil, or_false] at hx
        rcases hx with rfl | rfl
        · exact viewI64 t3 e3 g3
        · exact viewIns t6 e6 g6
      · intro β1 hv
        simp only [Vd, ls_length, and_true] at hv
        obtain ⟨z3, z6⟩ := hv
        simp only [denL, aggDen, intDen, natDen, boolDen, ls_length, z3, z6, d3, d6, isI_den b1, isI_den b4, isI_den b5, ← r8Den (β := β) (β1 := β1) g2]
      · exact Vm.b81
      · exact Vm.b81
    · cases hs
  · cases hs
end Go.Proofs.Ytjliakjbdcplcaa.Vm
end
