import Derived.Test.YtjliakjbdcplcaaGreatN4
import Derived.Test.YtjliakjbdcplcaaGreatN5
import Derived.Test.YtjliakjbdcplcaaGreatN6
import Derived.Test.YtjliakjbdcplcaaGreatN7
import Derived.Test.YtjliakjbdcplcaaGreatProg
import Derived.WalkSpells
section
namespace Go.Proofs.YtjliakjbdcplcaaGreat.Vm
theorem b26 {P : Prop} (h : P := by (focus (first | exact True.intro | ((try simp only [JS, implies_true, forall_const, shaped, shapedL, kndOf]); (repeat' (first | assumption | exact True.intro | omega | apply And.intro)); done)))) : P := h
theorem b27 {P : Prop} (h : P := by (repeat' (first | exact trivial | exact .inl rfl | exact .inr (.same _) | exact .inr .loose | exact .inr (.arr (by assumption)) | apply And.intro | (exact .inr (.same _)) | (refine .inr (less_mac _ _ _ ?_ ?_ ?_ ?_ ?_ ?_ ?_ ?_) <;> first | rfl | (intro q _ β; rfl) | omega | simp) | (refine .inr (less_set _ _ _ ?_ ?_) <;> first | rfl | (intro q _ β; rfl) | omega | simp)))) : P := h
theorem b28 {P : Prop} (h : P := by (repeat' (first | exact trivial | exact rfl | assumption | apply Stable.ite | apply And.intro | intro _ | (simp only [Stable, StableL, i64S, prS, insS, sndsS, sndS, evtsS, evtS]; done)))) : P := h
theorem b29 {P : Prop} (h : P := by refine ⟨⟨hjl, fun q hq' => ?_⟩, by omega⟩; by_cases e : q = j; (rw [e]; exact hn); exact hq q (by omega)) : P := h
theorem b30 {P : Prop} (h : P := by (simp only [push_cast, ↓JP, Nat.reduceAdd, Nat.reduceEqDiff, Nat.reduceLT, Nat.reduceMul, Nat.reduceLeDiff, reduceCtorEq, reduceIte, ↓JK, cM1, sApply, sDraw, JE, Bool.cond_decide]; rfl)) : P := h
theorem b31 {P : Prop} (h : P := by (simp only [push_cast, ↓JP, Nat.reduceAdd, Nat.reduceEqDiff, Nat.reduceLT, Nat.reduceMul, Nat.reduceLeDiff, reduceCtorEq, reduceIte, ↓JK, cM1, sApply, sDraw, JE, Bool.cond_decide, decide_eq_true_eq]; rfl)) : P := h
theorem b32 {P : Prop} (h : P := by (simp only [push_cast, ↓JP, Nat.reduceAdd, Nat.reduceEqDiff, Nat.reduceLT, Nat.reduceMul, Nat.reduceLeDiff, reduceCtorEq, reduceIte, ↓JK, cM1, sApply, sDraw, JE, Bool.cond_decide, h1, h2]; rfl)) : P := h
theorem b33 {P : Prop} (h : P := by (simp only [push_cast, ↓JP, Nat.reduceAdd, Nat.reduceEqDiff, Nat.reduceLT, Nat.reduceMul, Nat.reduceLeDiff, reduceCtorEq, reduceIte, ↓JK, cM1, sApply, sDraw, JE, Bool.cond_decide, hw]; rfl)) : P := h
theorem b34 {P : Prop} (h : P := by (simp only [push_cast, ↓JP, Nat.reduceAdd, Nat.reduceEqDiff, Nat.reduceLT, Nat.reduceMul, Nat.reduceLeDiff, reduceCtorEq, reduceIte, ↓JK, cM1, sApply, sDraw, JE, Bool.cond_decide, q0, q1]; rfl)) : P := h
theorem b35 {P : Prop} (h : P := by (first | exact True.intro | ((try simp only [JS, implies_true, forall_const, shaped, shapedL, kndOf]); (first | first | omega | exact ⟨R, S⟩ | (repeat' (first | assumption | exact True.intro | omega | apply And.intro))); done))) : P := h
theorem b36 {P : Prop} (h : P := by (simp only [push_cast, ↓JP, Nat.reduceAdd, Nat.reduceEqDiff, Nat.reduceLT, Nat.reduceMul, Nat.reduceLeDiff, reduceCtorEq, reduceIte, ↓JK, cM2, sApply, sDraw, JE, Bool.cond_decide, cellF, hcb]; rfl)) : P := h
theorem b37 {P : Prop} (h : P := by (simp only [push_cast, ↓JP, Nat.reduceAdd, Nat.reduceEqDiff, Nat.reduceLT, Nat.reduceMul, Nat.reduceLeDiff, reduceCtorEq, reduceIte, ↓JK, inR, inN]; rfl)) : P := h
theorem b38 {P : Prop} (h : P := by (simp only [push_cast, ↓JP, Nat.reduceAdd, Nat.reduceEqDiff, Nat.reduceLT, Nat.reduceMul, Nat.reduceLeDiff, reduceCtorEq, reduceIte, ↓JK, cIs, sIs, inR, inN, h]; rfl)) : P := h
theorem b39 {P : Prop} (h : P := by (simp only [push_cast, ↓JP, Nat.reduceAdd, Nat.reduceEqDiff, Nat.reduceLT, Nat.reduceMul, Nat.reduceLeDiff, reduceCtorEq, reduceIte, ↓JK, cRt1, sRt1, inR, inN, hjl, i64S, iOf, hn]; rfl)) : P := h
end Go.Proofs.YtjliakjbdcplcaaGreat.Vm
end
section
namespace Go.Proofs.YtjliakjbdcplcaaGreat.Vm
open Go.RowKit
attribute [local push_cast] runR opG gtmp gval gus opX tmpsOf tm tmO tmP restr look look2 tab tys zs ets eqB eqBL allB numOf ieq Int.cast_ofNat_Int Int.ofNat_zero beq_true beq_false frameOf ev evL ofV opV loadV noW pushF wrsL setH allBorn allGone HB.born HB.isGone HB.val SV.plain dstOk hp nav fitsT SV.size sizeL SV.isAgg TK.size TK.agg bin binE binN binI arN arI cmpN cmpI keq kn narrow callV storeV setp fillV buildV buildSliceV makeV sliceV appendV appendFV slice3V copyV List.isEmpty_nil srcV evO asN ite_t ite_f ite_bool ite_int ite_nat maxV v_beq v_ble v_blt cond_true cond_false List.getElem?_cons_zero List.getElem?_cons_succ List.getD_cons_zero List.getD_cons_succ List.getD_nil List.length_cons List.length_nil List.take_succ_cons List.take_zero List.set_cons_zero List.set_cons_succ List.cons_append List.nil_append List.append_assoc List.replicate_succ List.replicate_zero Nat.zero_add Nat.add_zero decide_true decide_false Bool.true_and Bool.and_true Bool.false_and Bool.and_false Bool.true_or Bool.or_true Bool.false_or Bool.or_false beq_self_eq_true Bool.or_self Nat.lt_irrefl Nat.not_lt_zero Nat.le_refl Option.getD_some Option.getD_none BEq.rfl Bool.not_true Bool.not_false Bool.cond_true_left Bool.cond_false_right prS sndsS i64S nav_ins nav_ins0 nav_ins1 nav_ins2 nav_ins3 nav_ins4 nav_snd nav_snd0 nav_snd1 nav_snd2 isIns_insS insOf_insS isSnd_sndS sndOf_sndS isI_int isI_nat iOf JM rS mS macP aF bF cF putF jumpIfF inR inN
set_option linter.unusedVariables false
set_option linter.unusedSimpArgs false
set_option maxRecDepth 100000
set_option maxHeartbeats 4000000
def sApply : Spec := fun args h m => match args with
  | [v1, v2, v3] => bif isI .u8 v1 && isI .i64 v2 && isI .i64 v3 then some (True, .tup [.int .i64 (applyV (iOf v1) (iOf v2) (iOf v3)), .int .i64 (wrongE (iOf v1) (iOf v3))], [], []) else none
  | _ => none
theorem sApply_ok : CallOk Tryz.prog 180 sApply := by
  refine ⟨named_spec (by kernel_rfl), fun args h m c v rd wr hs hm hc w0 M β h' w R hrd hwr hst => ?_⟩
  unfold sApply at hs
  split at hs
  · rename_i v1 v2 v3
    obtain ⟨hb, hs⟩ := bif_some hs
    simp only [Option.some.injEq, Prod.mk.injEq] at hs
    obtain ⟨rfl, rfl, rfl, rfl⟩ := hs
    simp only [Bool.and_eq_true] at hb
    obtain ⟨⟨b1, b2⟩, b3⟩ := hb
    simp only [denL, aggDen, intDen, natDen, boolDen, isI_den b1, isI_den b2, isI_den b3]
    exact (apply_c (iOf v1) (iOf v2) (iOf v3) w).mono fun e w' he => post_read R (by (repeat' (first | exact trivial | exact rfl | assumption | apply Stable.ite | apply And.intro | intro _ | (simp only [Stable, StableL, i64S, prS, insS, sndsS, sndS, stS, evS, macS]; done)))) rfl he.1 he.2
  · cases hs
def sDraw : Spec := fun args h m => match args with
  | [v1, v2, v3, v4] => bif isI .u64 v1 && isI .i64 v2 && isI .i64 v3 && isI .i64 v4 then some ((0 ≤ (iOf v2)) ∧ ((iOf v2) ≤ 65536) ∧ (0 ≤ (iOf v3)) ∧ ((iOf v3) ≤ 281474976710656) ∧ (1 ≤ (iOf v4)), .tup [.int .i64 (drawI (iOf v1) (iOf v2) (iOf v3) (iOf v4)), .int .i64 0], [], []) else none
  | _ => none
theorem sDraw_ok : CallOk Tryz.prog 178 sDraw := by
  refine ⟨named_spec (by kernel_rfl), fun args h m c v rd wr hs hm hc w0 M β h' w R hrd hwr hst => ?_⟩
  unfold sDraw at hs
  split at hs
  · rename_i v1 v2 v3 v4
    obtain ⟨hb, hs⟩ := bif_some hs
    simp only [Option.some.injEq, Prod.mk.injEq] at hs
    obtain ⟨rfl, rfl, rfl, rfl⟩ := hs
    simp only [Bool.and_eq_true] at hb
    obtain ⟨⟨⟨b1, b2⟩, b3⟩, b4⟩ := hb
    obtain ⟨y1, y2, y3, y4, y5⟩ := hc
    simp only [denL, aggDen, intDen, natDen, boolDen, isI_den b1, isI_den b2, isI_den b3, isI_den b4]
    exact (draw_ok (iOf v1) (iOf v2) (iOf v3) (iOf v4) w y1 y2 y3 y4 y5).mono fun e w' he => post_read R (by (repeat' (first | exact trivial | exact rfl | assumption | apply Stable.ite | apply And.intro | intro _ | (simp only [Stable, StableL, i64S, prS, insS, sndsS, sndS, stS, evS, macS]; done)))) rfl he.1 he.2
  · cases hs
theorem less_mac {σ : Nat → Nat} {c k c' k' : Nat} (s' : Sta) (v : Evi) (x : Ins) (hc : σ c = c') (hk : σ k = k') {a d : Int} {e : Bool} {n1 n2 : Nat} {rg : Nat → SV} (h1 : a = s'.at_) (h2 : e = s'.ended) (h3 : ∀ q, q < 8 → ∀ β, (rg q).cl β = [.int .i64 (s'.regs q)]) (h4 : n1 = s'.cells.length) (h5 : d = s'.draws) (h6 : n2 = s'.sends.length) :
    Less (.own 186 (.agg [.agg [.int .i64 a, .bool e, .arr 8 1 rg, .sl c' c' [] 1 0 n1 none, .int .i64 d, .sl k' k' [] 3 0 n2 none], .agg [.int .u64 v.seed, .int .i64 v.process, .int .i64 v.ports, .int .i64 v.look, .int .i64 v.now], insS x]) true) ((mB s' v x c k).ren σ) := by
  subst h1 h2 h4 h5 h6 hc hk
  rw [mB_ren]
  refine .val (fun β => ?_) (fun n k f e => by cases e) (fun n k f e => by cases e)
  have h8 : (SV.arr 8 1 rg).cl β = (SV.arr 8 1 fun q => .int .i64 (s'.regs q)).cl β := arrCl fun q hq => by rw [h3 q hq β]; rfl
  simp only [macS, stS, evS, cl_agg, clL_cons, clL_nil, h8]
theorem less_set {t : Nat} {σ : Nat → Nat} (l : List Int) (r : Nat) (a : Int) {n : Nat} (hn : n = l.length) {g : Nat → SV} (hg : ∀ q, q < l.length → ∀ β, (g q).cl β = [.int .i64 (if q = r then a else l.getD q 0)]) : Less (.own t (.arr n 1 g) false) ((HB.own t (.arr (l.set r a).length 1 (i64S (l.set r a))) false).ren σ) := by
  subst hn
  have e : (l.set r a).length = l.length := by simp
  rw [e]
  refine .val (fun β => arrCl fun q hq => ?_) (fun n1 k1 f1 e => by injection e with e1 e2 e3; subst e1 e2; exact ⟨_, rfl⟩) (fun n1 k1 f1 e => by injection e with e1 e2 e3; subst e1 e2; exact ⟨_, rfl⟩)
  rw [hg q hq β]
  show _ = [Value.int .i64 ((l.set r a).getD q 0)]
  congr 2
  rw [List.getD_eq_getElem?_getD, List.getD_eq_getElem?_getD, List.getElem?_set]
  by_cases h : q = r
  · subst h; simp [hq]
  · rw [if_neg h, if_neg (fun e => h e.symm)]
theorem less_snd {t : Nat} {σ : Nat → Nat} (l : List Snd) (y : Snd) {n : Nat} (hn : n = l.length + 1) {g : Nat → SV} (hg : ∀ q, q < l.length + 1 → ∀ β, (g q).cl β = ((l ++ [y]).getD q ⟨0, 0, 0⟩).cells) : Less (.own t (.arr n 3 g) false) ((HB.own t (.arr (l ++ [y]).length 3 (sndsS (l ++ [y]))) false).ren σ) := by
  subst hn
  have e : (l ++ [y]).length = l.length + 1 := by simp
  have e2 : (fun q => (sndsS (l ++ [y]) q).ren σ) = sndsS (l ++ [y]) := by
    funext q; unfold sndsS; simp only [sndS, SV.ren, renL]
  simp only [HB.ren, SV.ren, e2, e]
  refine .val (fun β => arrCl fun q hq => ?_) (fun n1 k1 f1 e => by injection e with e1 e2 e3; subst e1 e2; exact ⟨_, rfl⟩) (fun n1 k1 f1 e => by injection e with e1 e2 e3; subst e1 e2; exact ⟨_, rfl⟩)
  rw [hg q hq β]
  unfold sndsS
  rw [isSnd_cl (isSnd_sndS _), sndOf_sndS]
set_option linter.defProp false in
def JE := And.intro @sta_eta (And.intro @evi_eta (And.intro @ls_i64S (And.intro @ls_i64S' (And.intro @ls_i64S2 (And.intro @ls_sndsS (And.intro @ls_sndsS' (And.intro @ls_sndsS2 (And.intro @ls_prS (And.intro @ls_prS' @ls_prS2)))))))))
def kF (k : Int) (mv : Bool) : MF := fun ar s v x => match ar with
  | [] => some (x.op = k ∧ RI x ∧ VOk v ∧ SOk s, fun _ => .int .i64 (doE s v x), doS s v x, x, mv)
  | _ => none
def cM1 : FuncId → Option Spec := look2 [(177, rS aF), (175, rS bF), (181, rS cF), (174, mS putF), (179, mS jumpIfF), (180, sApply), (178, sDraw)]
theorem cM1_ok : ∀ f S, cM1 f = some S → CallOk Tryz.prog f S := allOk_spec ⟨a_ok, b_ok, c_ok, put_ok, jumpIf_ok, sApply_ok, sDraw_ok, trivial⟩
theorem m_fail : CallOk Tryz.prog 163 (mS (kF 2 false)) := mS_ok (by kernel_rfl) fun ar s v x cond val s' x' mv hF hc => by
  unfold kF at hF
  split at hF
  · cases hF
    obtain ⟨ho, R, V, S⟩ := hc
    obtain ⟨o0, o1, a0, a1, b0, b1, c0, c1, n0, n1⟩ := R.ok
    have ha := R.a
    have hb := R.b
    have hcc := R.c
    have s0 := S.a0
    have s1 := S.a1
    have d0 := S.d0
    have d1 := S.d1
    have sc := S.c1
    have sn := S.n1
    have v0 := V.p0
    have v1 := V.p1
    have v2 := V.t0
    have v3 := V.t1
    have v4 := V.o0
    have v5 := V.l0
    have hE : doE s v x = 184 := by simp [doE, ho]
    have hS : doS s v x = s := doS_bad (by rw [hE]; decide)
    rw [hE, hS]
    refine ⟨fun _ => rfl, fun _ => trivial, fun _ _ => rfl, fun _ _ _ => trivial, ?_⟩
    refine litOkM (fn := Tryz.f163) 4 3 0 rfl rfl rfl rfl rfl (by simp only [StableL, Stable, hp, i64S, prS, insS, sndsS, sndS, stS, evS, macS]; simp [HB.born, mB, cB, sB]) rfl fun w0 M E hro => ?_
    repeat' (first | refine Ctl.h ?_ | ((with_reducible intro hif); first | (focus (cases hif; done)) | (simp only [JH] at hif; try (exfalso; omega)) | (try (exfalso; omega))) | ((first | ((with_reducible apply J22 cM1_ok tab_ok); (· rfl)) | ((with_reducible apply J23 fol cM1_ok tab_ok); (· rfl)) | with_reducible apply J24); (· exact Vm.b30); (try kernel_rfl); (try exact Vm.b12)) | fail)
    apply At.endsPick [0, 1, 2, 3] tab_ok (fn := Tryz.f163) (rs := [.tmp 2]) Anc.refl hro (Nat.le_of_ble_eq_true rfl) rfl
    · exact Vm.b11
    · exact Vm.b26
    · rfl
    · rfl
    · rfl
    · exact Vm.b27
    · rfl
    · exact Vm.b17
    · exact Vm.b10
    · exact fun β => rfl
    · exact Vm.b17
  · cases hF
theorem m_halt : CallOk Tryz.prog 162 (mS (kF 1 false)) := mS_ok (by kernel_rfl) fun ar s v x cond val s' x' mv hF hc => by
  unfold kF at hF
  split at hF
  · cases hF
    obtain ⟨ho, R, V, S⟩ := hc
    obtain ⟨o0, o1, a0, a1, b0, b1, c0, c1, n0, n1⟩ := R.ok
    have ha := R.a
    have hb := R.b
    have hcc := R.c
    have s0 := S.a0
    have s1 := S.a1
    have d0 := S.d0
    have d1 := S.d1
    have sc := S.c1
    have sn := S.n1
    have v0 := V.p0
    have v1 := V.p1
    have v2 := V.t0
    have v3 := V.t1
    have v4 := V.o0
    have v5 := V.l0
    have hE : doE s v x = 0 := by simp [doE, ho]
    have hS : doS s v x = { s with ended := true } := by simp [doS, hE, ho]
    rw [hE, hS]
    refine ⟨fun _ => rfl, fun _ => trivial, fun _ _ => rfl, fun _ _ _ => trivial, ?_⟩
    refine litOkM (fn := Tryz.f162) 4 7 0 rfl rfl rfl rfl rfl (by simp only [StableL, Stable, hp, i64S, prS, insS, sndsS, sndS, stS, evS, macS]; simp [HB.born, mB, cB, sB]) rfl fun w0 M E hro => ?_
    repeat' (first | refine Ctl.h ?_ | ((with_reducible intro hif); first | (focus (cases hif; done)) | (simp only [JH] at hif; try (exfalso; omega)) | (try (exfalso; omega))) | ((first | ((with_reducible apply J22 cM1_ok tab_ok); (· rfl)) | ((with_reducible apply J23 fol cM1_ok tab_ok); (· rfl)) | with_reducible apply J24); (· exact Vm.b30); (try kernel_rfl); (try exact Vm.b12)) | fail)
    apply At.endsPick [0, 1, 2, 3] tab_ok (fn := Tryz.f162) (rs := [.tmp 2]) Anc.refl hro (Nat.le_of_ble_eq_true rfl) rfl
    · exact Vm.b11
    · exact Vm.b26
    · rfl
    · rfl
    · rfl
    · exact Vm.b27
    · rfl
    · exact Vm.b17
    · exact Vm.b10
    · exact fun β => rfl
    · exact Vm.b17
  · cases hF
theorem m_set : CallOk Tryz.prog 164 (mS (kF 3 false)) := mS_ok (by kernel_rfl) fun ar s v x cond val s' x' mv hF hc => by
  unfold kF at hF
  split at hF
  · cases hF
    obtain ⟨ho, R, V, S⟩ := hc
    obtain ⟨o0, o1, a0, a1, b0, b1, c0, c1, n0, n1⟩ := R.ok
    have ha := R.a
    have hb := R.b
    have hcc := R.c
    have s0 := S.a0
    have s1 := S.a1
    have d0 := S.d0
    have d1 := S.d1
    have sc := S.c1
    have sn := S.n1
    have v0 := V.p0
    have v1 := V.p1
    have v2 := V.t0
    have v3 := V.t1
    have v4 := V.o0
    have v5 := V.l0
    have hE : doE s v x = 0 := by simp [doE, ho]
    have hS : doS s v x = s.put x.a.toNat x.n := by simp [doS, hE, ho]
    rw [hE, hS]
    refine ⟨fun _ => rfl, fun _ => trivial, fun _ _ => rfl, fun _ _ _ => trivial, ?_⟩
    refine litOkM (fn := Tryz.f164) 4 10 0 rfl rfl rfl rfl rfl (by simp only [StableL, Stable, hp, i64S, prS, insS, sndsS, sndS, stS, evS, macS]; simp [HB.born, mB, cB, sB]) rfl fun w0 M E hro => ?_
    repeat' (first | refine Ctl.h ?_ | ((with_reducible intro hif); first | (focus (cases hif; done)) | (simp only [JH] at hif; try (exfalso; omega)) | (try (exfalso; omega))) | ((first | ((with_reducible apply J22 cM1_ok tab_ok); (· rfl)) | ((with_reducible apply J23 fol cM1_ok tab_ok); (· rfl)) | with_reducible apply J24); (· exact Vm.b30); (try kernel_rfl); (try exact Vm.b12)) | fail)
    apply At.endsPick [0, 1, 2, 3] tab_ok (fn := Tryz.f164) (rs := [.tmp 2]) Anc.refl hro (Nat.le_of_ble_eq_true rfl) rfl
    · exact Vm.b11
    · exact Vm.b26
    · rfl
    · rfl
    · rfl
    · exact Vm.b27
    · rfl
    · exact Vm.b17
    · exact Vm.b10
    · exact fun β => rfl
    · exact Vm.b17
  · cases hF
theorem m_move : CallOk Tryz.prog 165 (mS (kF 4 false)) := mS_ok (by kernel_rfl) fun ar s v x cond val s' x' mv hF hc => by
  unfold kF at hF
  split at hF
  · cases hF
    obtain ⟨ho, R, V, S⟩ := hc
    obtain ⟨o0, o1, a0, a1, b0, b1, c0, c1, n0, n1⟩ := R.ok
    have ha := R.a
    have hb := R.b
    have hcc := R.c
    have s0 := S.a0
    have s1 := S.a1
    have d0 := S.d0
    have d1 := S.d1
    have sc := S.c1
    have sn := S.n1
    have v0 := V.p0
    have v1 := V.p1
    have v2 := V.t0
    have v3 := V.t1
    have v4 := V.o0
    have v5 := V.l0
    have hE : doE s v x = 0 := by simp [doE, ho]
    have hS : doS s v x = s.put x.a.toNat (s.regs x.b.toNat) := by simp [doS, hE, ho]
    rw [hE, hS]
    refine ⟨fun _ => rfl, fun _ => trivial, fun _ _ => rfl, fun _ _ _ => trivial, ?_⟩
    refine litOkM (fn := Tryz.f165) 4 7 0 rfl rfl rfl rfl rfl (by simp only [StableL, Stable, hp, i64S, prS, insS, sndsS, sndS, stS, evS, macS]; simp [HB.born, mB, cB, sB]) rfl fun w0 M E hro => ?_
    repeat' (first | refine Ctl.h ?_ | ((with_reducible intro hif); first | (focus (cases hif; done)) | (simp only [JH] at hif; try (exfalso; omega)) | (try (exfalso; omega))) | ((first | ((with_reducible apply J22 cM1_ok tab_ok); (· rfl)) | ((with_reducible apply J23 fol cM1_ok tab_ok); (· rfl)) | with_reducible apply J24); (· exact Vm.b30); (try kernel_rfl); (try exact Vm.b12)) | fail)
    apply At.endsPick [0, 1, 2, 3] tab_ok (fn := Tryz.f165) (rs := [.tmp 2]) Anc.refl hro (Nat.le_of_ble_eq_true rfl) rfl
    · exact Vm.b11
    · exact Vm.b26
    · rfl
    · rfl
    · rfl
    · exact Vm.b27
    · rfl
    · exact Vm.b17
    · exact Vm.b10
    · exact fun β => rfl
    · exact Vm.b17
  · cases hF
theorem m_jump : CallOk Tryz.prog 170 (mS (kF 9 false)) := mS_ok (by kernel_rfl) fun ar s v x cond val s' x' mv hF hc => by
  unfold kF at hF
  split at hF
  · cases hF
    obtain ⟨ho, R, V, S⟩ := hc
    obtain ⟨o0, o1, a0, a1, b0, b1, c0, c1, n0, n1⟩ := R.ok
    have ha := R.a
    have hb := R.b
    have hcc := R.c
    have s0 := S.a0
    have s1 := S.a1
    have d0 := S.d0
    have d1 := S.d1
    have sc := S.c1
    have sn := S.n1
    have v0 := V.p0
    have v1 := V.p1
    have v2 := V.t0
    have v3 := V.t1
    have v4 := V.o0
    have v5 := V.l0
    have hj := R.jmp (.inl ho)
    have hE : doE s v x = 0 := by simp [doE, ho]
    have hS : doS s v x = { s with at_ := x.n } := by simp [doS, hE, ho]
    rw [hE, hS]
    refine ⟨fun _ => rfl, fun _ => trivial, fun _ _ => rfl, fun _ _ _ => trivial, ?_⟩
    refine litOkM (fn := Tryz.f170) 4 5 0 rfl rfl rfl rfl rfl (by simp only [StableL, Stable, hp, i64S, prS, insS, sndsS, sndS, stS, evS, macS]; simp [HB.born, mB, cB, sB]) rfl fun w0 M E hro => ?_
    repeat' (first | refine Ctl.h ?_ | ((with_reducible intro hif); first | (focus (cases hif; done)) | (simp only [JH] at hif; try (exfalso; omega)) | (try (exfalso; omega))) | ((first | ((with_reducible apply J22 cM1_ok tab_ok); (· rfl)) | ((with_reducible apply J23 fol cM1_ok tab_ok); (· rfl)) | with_reducible apply J24); (· exact Vm.b30); (try kernel_rfl); (try exact Vm.b12)) | fail)
    apply At.endsPick [0, 1, 2, 3] tab_ok (fn := Tryz.f170) (rs := [.tmp 2]) Anc.refl hro (Nat.le_of_ble_eq_true rfl) rfl
    · exact Vm.b11
    · exact Vm.b26
    · rfl
    · rfl
    · rfl
    · exact Vm.b27
    · rfl
    · exact Vm.b17
    · exact Vm.b10
    · exact fun β => rfl
    · exact Vm.b17
  · cases hF
theorem m_jumpZero : CallOk Tryz.prog 171 (mS (kF 10 false)) := mS_ok (by kernel_rfl) fun ar s v x cond val s' x' mv hF hc => by
  unfold kF at hF
  split at hF
  · cases hF
    obtain ⟨ho, R, V, S⟩ := hc
    obtain ⟨o0, o1, a0, a1, b0, b1, c0, c1, n0, n1⟩ := R.ok
    have ha := R.a
    have hb := R.b
    have hcc := R.c
    have s0 := S.a0
    have s1 := S.a1
    have d0 := S.d0
    have d1 := S.d1
    have sc := S.c1
    have sn := S.n1
    have v0 := V.p0
    have v1 := V.p1
    have v2 := V.t0
    have v3 := V.t1
    have v4 := V.o0
    have v5 := V.l0
    have hj := R.jmp (.inr (.inl ho))
    have hE : doE s v x = 0 := by simp [doE, ho]
    have hS : doS s v x = { s with at_ := if s.regs x.a.toNat = 0 then x.n else s.at_ + 1 } := by simp [doS, hE, ho]
    rw [hE, hS]
    refine ⟨fun _ => rfl, fun _ => trivial, fun _ _ => rfl, fun _ _ _ => trivial, ?_⟩
    refine litOkM (fn := Tryz.f171) 4 8 0 rfl rfl rfl rfl rfl (by simp only [StableL, Stable, hp, i64S, prS, insS, sndsS, sndS, stS, evS, macS]; simp [HB.born, mB, cB, sB]) rfl fun w0 M E hro => ?_
    repeat' (first | refine Ctl.h ?_ | ((with_reducible intro hif); first | (focus (cases hif; done)) | (simp only [JH] at hif; try (exfalso; omega)) | (try (exfalso; omega))) | ((first | ((with_reducible apply J22 cM1_ok tab_ok); (· rfl)) | ((with_reducible apply J23 fol cM1_ok tab_ok); (· rfl)) | with_reducible apply J24); (· exact Vm.b31); (try kernel_rfl); (try exact Vm.b12)) | fail)
    apply At.endsPick [0, 1, 2, 3] tab_ok (fn := Tryz.f171) (rs := [.tmp 2]) Anc.refl hro (Nat.le_of_ble_eq_true rfl) rfl
    · exact Vm.b11
    · exact Vm.b26
    · rfl
    · rfl
    · rfl
    · exact Vm.b27
    · rfl
    · exact Vm.b17
    · exact Vm.b10
    · exact fun β => rfl
    · exact Vm.b17
  · cases hF
theorem m_jumpNeg : CallOk Tryz.prog 172 (mS (kF 11 false)) := mS_ok (by kernel_rfl) fun ar s v x cond val s' x' mv hF hc => by
  unfold kF at hF
  split at hF
  · cases hF
    obtain ⟨ho, R, V, S⟩ := hc
    obtain ⟨o0, o1, a0, a1, b0, b1, c0, c1, n0, n1⟩ := R.ok
    have ha := R.a
    have hb := R.b
    have hcc := R.c
    have s0 := S.a0
    have s1 := S.a1
    have d0 := S.d0
    have d1 := S.d1
    have sc := S.c1
    have sn := S.n1
    have v0 := V.p0
    have v1 := V.p1
    have v2 := V.t0
    have v3 := V.t1
    have v4 := V.o0
    have v5 := V.l0
    have hj := R.jmp (.inr (.inr ho))
    have hE : doE s v x = 0 := by simp [doE, ho]
    have hS : doS s v x = { s with at_ := if s.regs x.a.toNat < 0 then x.n else s.at_ + 1 } := by simp [doS, hE, ho]
    rw [hE, hS]
    refine ⟨fun _ => rfl, fun _ => trivial, fun _ _ => rfl, fun _ _ _ => trivial, ?_⟩
    refine litOkM (fn := Tryz.f172) 4 8 0 rfl rfl rfl rfl rfl (by simp only [StableL, Stable, hp, i64S, prS, insS, sndsS, sndS, stS, evS, macS]; simp [HB.born, mB, cB, sB]) rfl fun w0 M E hro => ?_
    repeat' (first | refine Ctl.h ?_ | ((with_reducible intro hif); first | (focus (cases hif; done)) | (simp only [JH] at hif; try (exfalso; omega)) | (try (exfalso; omega))) | ((first | ((with_reducible apply J22 cM1_ok tab_ok); (· rfl)) | ((with_reducible apply J23 fol cM1_ok tab_ok); (· rfl)) | with_reducible apply J24); (· exact Vm.b31); (try kernel_rfl); (try exact Vm.b12)) | fail)
    apply At.endsPick [0, 1, 2, 3] tab_ok (fn := Tryz.f172) (rs := [.tmp 2]) Anc.refl hro (Nat.le_of_ble_eq_true rfl) rfl
    · exact Vm.b11
    · exact Vm.b26
    · rfl
    · rfl
    · rfl
    · exact Vm.b27
    · rfl
    · exact Vm.b17
    · exact Vm.b10
    · exact fun β => rfl
    · exact Vm.b17
  · cases hF
def cellB (s : Sta) (x : Ins) : Bool := decide (0 ≤ s.regs x.b.toNat ∧ s.regs x.b.toNat < s.cells.length)
def cellF : MF := fun ar s v x => match ar with
  | [] => some (RI x ∧ SOk s, fun c => bif cellB s x then .tup [.ptr c [.i (s.regs x.b.toNat).toNat 1], .int .i64 0] else .tup [.nilp, .int .i64 185], s, x, false)
  | _ => none
theorem cell_ok : CallOk Tryz.prog 176 (mS cellF) := mS_ok (by kernel_rfl) fun ar s v x cond val s' x' mv hF hc => by
  unfold cellF at hF
  split at hF
  · cases hF
    obtain ⟨R, S⟩ := hc
    obtain ⟨o0, o1, a0, a1, b0, b1, c0, c1, n0, n1⟩ := R.ok
    have hb := R.b
    have sc := S.c1
    have hsl : (s.cells.length : Int) ≤ 1024 := by omega
    refine ⟨fun _ => rfl, fun _ => trivial, fun ρ h0 => ?_, fun h z1 z2 => ?_, ?_⟩
    · cases cellB s x <;> simp [SV.ren, renL]
    · cases cellB s x <;> simp [Stable, StableL, z1, z2]
    by_cases h1 : s.regs x.b.toNat < 0
    · have hcb : cellB s x = false := by unfold cellB; simp; omega
      rw [hcb]
      refine litOkM (fn := Tryz.f176) 4 26 0 rfl rfl rfl rfl rfl (by simp only [StableL, Stable, hp, i64S, prS, insS, sndsS, sndS, stS, evS, macS]; simp [HB.born, mB, cB, sB]) rfl fun w0 M E hro => ?_
      repeat' (first | refine Ctl.h ?_ | ((with_reducible intro hif); first | (focus (cases hif; done)) | (simp only [JH] at hif; try (exfalso; omega)) | (try (exfalso; omega))) | ((first | ((with_reducible apply J22 cM1_ok tab_ok); (· rfl)) | ((with_reducible apply J23 fol cM1_ok tab_ok); (· rfl)) | with_reducible apply J24); (· (simp only [push_cast, ↓JP, Nat.reduceAdd, Nat.reduceEqDiff, Nat.reduceLT, Nat.reduceMul, Nat.reduceLeDiff, reduceCtorEq, reduceIte, ↓JK, cM1, sApply, sDraw, JE, Bool.cond_decide, h1]; rfl)); (try kernel_rfl); (try exact Vm.b12)) | fail)
      apply At.endsPick [0, 1, 2, 3] tab_ok (fn := Tryz.f176) (rs := [.tmp 2, .tmp 3]) Anc.refl hro (Nat.le_of_ble_eq_true rfl) rfl
      · exact Vm.b11
      · exact Vm.b26
      · rfl
      · rfl
      · rfl
      · exact Vm.b27
      · rfl
      · exact Vm.b17
      · exact Vm.b10
      · exact fun β => rfl
      · exact Vm.b17
    by_cases h2 : (s.cells.length : Int) ≤ s.regs x.b.toNat
    · have hcb : cellB s x = false := by unfold cellB; simp; omega
      rw [hcb]
      refine litOkM (fn := Tryz.f176) 4 26 0 rfl rfl rfl rfl rfl (by simp only [StableL, Stable, hp, i64S, prS, insS, sndsS, sndS, stS, evS, macS]; simp [HB.born, mB, cB, sB]) rfl fun w0 M E hro => ?_
      repeat' (first | refine Ctl.h ?_ | ((with_reducible intro hif); first | (focus (cases hif; done)) | (simp only [JH] at hif; try (exfalso; omega)) | (try (exfalso; omega))) | ((first | ((with_reducible apply J22 cM1_ok tab_ok); (· rfl)) | ((with_reducible apply J23 fol cM1_ok tab_ok); (· rfl)) | with_reducible apply J24); (· exact Vm.b32); (try kernel_rfl); (try exact Vm.b12)) | fail)
      apply At.endsPick [0, 1, 2, 3] tab_ok (fn := Tryz.f176) (rs := [.tmp 2, .tmp 3]) Anc.refl hro (Nat.le_of_ble_eq_true rfl) rfl
      · exact Vm.b11
      · exact Vm.b26
      · rfl
      · rfl
      · rfl
      · exact Vm.b27
      · rfl
      · exact Vm.b17
      · exact Vm.b10
      · exact fun β => rfl
      · exact Vm.b17
    · have hcb : cellB s x = true := by unfold cellB; simp; omega
      rw [hcb]
      have hr : (s.regs x.b.toNat).toNat < s.cells.length := by omega
      refine litOkM (fn := Tryz.f176) 4 26 0 rfl rfl rfl rfl rfl (by simp only [StableL, Stable, hp, i64S, prS, insS, sndsS, sndS, stS, evS, macS]; simp [HB.born, mB, cB, sB]) rfl fun w0 M E hro => ?_
      repeat' (first | refine Ctl.h ?_ | ((with_reducible intro hif); first | (focus (cases hif; done)) | (simp only [JH] at hif; try (exfalso; omega)) | (try (exfalso; omega))) | ((first | ((with_reducible apply J22 cM1_ok tab_ok); (· rfl)) | ((with_reducible apply J23 fol cM1_ok tab_ok); (· rfl)) | with_reducible apply J24); (· exact Vm.b32); (try kernel_rfl); (try exact Vm.b12)) | fail)
      apply At.endsPick [0, 1, 2, 3] tab_ok (fn := Tryz.f176) (rs := [.tmp 2, .tmp 3]) Anc.refl hro (Nat.le_of_ble_eq_true rfl) rfl
      · exact Vm.b11
      · exact Vm.b26
      · rfl
      · rfl
      · rfl
      · exact Vm.b27
      · rfl
      · exact Vm.b17
      · exact Vm.b10
      · exact fun β => rfl
      · exact Vm.b17
  · cases hF
def wF : MF := fun ar s v x => match ar with
  | [] => some (32 < x.op ∧ RI x ∧ VOk v ∧ SOk s, fun _ => .int .i64 (doE s v x), doS s v x, x, false)
  | _ => none
theorem m_word : CallOk Tryz.prog 173 (mS wF) := mS_ok (by kernel_rfl) fun ar s v x cond val s' x' mv hF hc => by
  unfold wF at hF
  split at hF
  · cases hF
    obtain ⟨ho, R, V, S⟩ := hc
    obtain ⟨o0, o1, a0, a1, b0, b1, c0, c1, n0, n1⟩ := R.ok
    have ha := R.a
    have hb := R.b
    have hcc := R.c
    have s0 := S.a0
    have s1 := S.a1
    have d0 := S.d0
    have d1 := S.d1
    have sc := S.c1
    have sn := S.n1
    have v0 := V.p0
    have v1 := V.p1
    have v2 := V.t0
    have v3 := V.t1
    have v4 := V.o0
    have v5 := V.l0
    have hop : x.op - 32 ≤ 255 := by omega
    have hE : doE s v x = wrongE (x.op - 32) (s.regs x.c.toNat) := by
      have h32 : ¬ x.op < 32 := by omega
      simp [doE, show ¬ x.op = 2 by omega, show ¬ x.op = 5 by omega, show ¬ x.op = 6 by omega, show ¬ x.op = 7 by omega, show ¬ x.op = 8 by omega, h32]
    by_cases hw : wrongE (x.op - 32) (s.regs x.c.toNat) = 0
    · have hS : doS s v x = s.put x.a.toNat (applyV (x.op - 32) (s.regs x.b.toNat) (s.regs x.c.toNat)) := by
        unfold doS
        rw [hE, hw]
        simp [show ¬ x.op = 1 by omega, show ¬ x.op = 3 by omega, show ¬ x.op = 4 by omega, show ¬ x.op = 5 by omega, show ¬ x.op = 6 by omega, show ¬ x.op = 7 by omega, show ¬ x.op = 8 by omega, show ¬ x.op = 9 by omega, show ¬ x.op = 10 by omega, show ¬ x.op = 11 by omega]
      rw [hE, hw, hS]
      refine ⟨fun _ => rfl, fun _ => trivial, fun _ _ => rfl, fun _ _ _ => trivial, ?_⟩
      refine litOkM (fn := Tryz.f173) 4 25 0 rfl rfl rfl rfl rfl (by simp only [StableL, Stable, hp, i64S, prS, insS, sndsS, sndS, stS, evS, macS]; simp [HB.born, mB, cB, sB]) rfl fun w0 M E hro => ?_
      repeat' (first | refine Ctl.h ?_ | ((with_reducible intro hif); first | (focus (cases hif; done)) | (simp only [JH] at hif; try (exfalso; omega)) | (try (exfalso; omega))) | ((first | ((with_reducible apply J22 cM1_ok tab_ok); (· rfl)) | ((with_reducible apply J23 fol cM1_ok tab_ok); (· rfl)) | with_reducible apply J24); (· exact Vm.b33); (try kernel_rfl); (try exact Vm.b12)) | fail)
      apply At.endsPick [0, 1, 2, 3] tab_ok (fn := Tryz.f173) (rs := [.tmp 2]) Anc.refl hro (Nat.le_of_ble_eq_true rfl) rfl
      · exact Vm.b11
      · exact Vm.b26
      · rfl
      · rfl
      · rfl
      · exact Vm.b27
      · rfl
      · exact Vm.b17
      · exact Vm.b10
      · exact fun β => rfl
      · exact Vm.b17
    · have hS : doS s v x = s := doS_bad (by rw [hE]; exact hw)
      rw [hE, hS]
      refine ⟨fun _ => rfl, fun _ => trivial, fun _ _ => rfl, fun _ _ _ => trivial, ?_⟩
      refine litOkM (fn := Tryz.f173) 4 25 0 rfl rfl rfl rfl rfl (by simp only [StableL, Stable, hp, i64S, prS, insS, sndsS, sndS, stS, evS, macS]; simp [HB.born, mB, cB, sB]) rfl fun w0 M E hro => ?_
      repeat' (first | refine Ctl.h ?_ | ((with_reducible intro hif); first | (focus (cases hif; done)) | (simp only [JH] at hif; try (exfalso; omega)) | (try (exfalso; omega))) | ((first | ((with_reducible apply J22 cM1_ok tab_ok); (· rfl)) | ((with_reducible apply J23 fol cM1_ok tab_ok); (· rfl)) | with_reducible apply J24); (· exact Vm.b33); (try kernel_rfl); (try exact Vm.b12)) | fail)
      apply At.endsPick [0, 1, 2, 3] tab_ok (fn := Tryz.f173) (rs := [.tmp 2]) Anc.refl hro (Nat.le_of_ble_eq_true rfl) rfl
      · exact Vm.b11
      · exact Vm.b26
      · rfl
      · rfl
      · rfl
      · exact Vm.b27
      · rfl
      · exact Vm.b17
      · exact Vm.b10
      · exact fun β => rfl
      · exact Vm.b17
  · cases hF
-- ----------------------------------------
theorem m_draw : CallOk Tryz.prog 168 (mS (kF 7 false)) := mS_ok (by kernel_rfl) fun ar s v x cond val s' x' mv hF hc => by
  unfold kF at hF
  split at hF
  · cases hF
    obtain ⟨ho, R, V, S⟩ := hc
    obtain ⟨o0, o1, a0, a1, b0, b1, c0, c1, n0, n1⟩ := R.ok
    have ha := R.a
    have hb := R.b
    have hcc := R.c
    have s0 := S.a0
    have s1 := S.a1
    have d0 := S.d0
    have d1 := S.d1
    have sc := S.c1
    have sn := S.n1
    have v0 := V.p0
    have v1 := V.p1
    have v2 := V.t0
    have v3 := V.t1
    have v4 := V.o0
    have v5 := V.l0
    by_cases q0 : s.regs x.b.toNat < 1
    · have hE : doE s v x = 186 := by simp [doE, sendE, ho, q0]
      have hS : doS s v x = s := doS_bad (by rw [hE]; decide)
      rw [hE, hS]
      refine ⟨fun _ => rfl, fun _ => trivial, fun _ _ => rfl, fun _ _ _ => trivial, ?_⟩
      refine litOkM (fn := Tryz.f168) 4 49 0 rfl rfl rfl rfl rfl (by simp only [StableL, Stable, hp, i64S, prS, insS, sndsS, sndS, stS, evS, macS]; simp [HB.born, mB, cB, sB]) rfl fun w0 M E hro => ?_
      repeat' (first | refine Ctl.h ?_ | ((with_reducible intro hif); first | (focus (cases hif; done)) | (simp only [JH] at hif; try (exfalso; omega)) | (try (exfalso; omega))) | ((first | ((with_reducible apply J22 cM1_ok tab_ok); (· rfl)) | ((with_reducible apply J23 fol cM1_ok tab_ok); (· rfl)) | with_reducible apply J24); (· (simp only [push_cast, ↓JP, Nat.reduceAdd, Nat.reduceEqDiff, Nat.reduceLT, Nat.reduceMul, Nat.reduceLeDiff, reduceCtorEq, reduceIte, ↓JK, cM1, sApply, sDraw, JE, Bool.cond_decide, q0]; rfl)); (try kernel_rfl); (try exact Vm.b12)) | fail)
      apply At.endsPick [0, 1, 2, 3] tab_ok (fn := Tryz.f168) (rs := [.tmp 2]) Anc.refl hro (Nat.le_of_ble_eq_true rfl) rfl
      · exact Vm.b11
      · exact Vm.b26
      · rfl
      · rfl
      · rfl
      · exact Vm.b27
      · rfl
      · exact Vm.b17
      · exact Vm.b10
      · exact fun β => rfl
      · exact Vm.b17
    by_cases q1 : s.draws = 1099511627776
    · have hE : doE s v x = 187 := by simp [doE, sendE, ho, q0, q1]
      have hS : doS s v x = s := doS_bad (by rw [hE]; decide)
      rw [hE, hS]
      refine ⟨fun _ => rfl, fun _ => trivial, fun _ _ => rfl, fun _ _ _ => trivial, ?_⟩
      refine litOkM (fn := Tryz.f168) 4 49 0 rfl rfl rfl rfl rfl (by simp only [StableL, Stable, hp, i64S, prS, insS, sndsS, sndS, stS, evS, macS]; simp [HB.born, mB, cB, sB]) rfl fun w0 M E hro => ?_
      repeat' (first | refine Ctl.h ?_ | ((with_reducible intro hif); first | (focus (cases hif; done)) | (simp only [JH] at hif; try (exfalso; omega)) | (try (exfalso; omega))) | ((first | ((with_reducible apply J22 cM1_ok tab_ok); (· rfl)) | ((with_reducible apply J23 fol cM1_ok tab_ok); (· rfl)) | with_reducible apply J24); (· exact Vm.b34); (try kernel_rfl); (try exact Vm.b12)) | fail)
      apply At.endsPick [0, 1, 2, 3] tab_ok (fn := Tryz.f168) (rs := [.tmp 2]) Anc.refl hro (Nat.le_of_ble_eq_true rfl) rfl
      · exact Vm.b11
      · exact Vm.b26
      · rfl
      · rfl
      · rfl
      · exact Vm.b27
      · rfl
      · exact Vm.b17
      · exact Vm.b10
      · exact fun β => rfl
      · exact Vm.b17
    have hE : doE s v x = 0 := by simp [doE, sendE, ho, q0, q1]
    have hS : doS s v x = { s.put x.a.toNat (drawI v.seed v.process s.draws (s.regs x.b.toNat)) with draws := s.draws + 1 } := by simp [doS, hE, ho]
    rw [hE, hS]
    refine ⟨fun _ => rfl, fun _ => trivial, fun _ _ => rfl, fun _ _ _ => trivial, ?_⟩
    refine litOkM (fn := Tryz.f168) 4 49 0 rfl rfl rfl rfl rfl (by simp only [StableL, Stable, hp, i64S, prS, insS, sndsS, sndS, stS, evS, macS]; simp [HB.born, mB, cB, sB]) rfl fun w0 M E hro => ?_
    repeat' (first | refine Ctl.h ?_ | ((with_reducible intro hif); first | (focus (cases hif; done)) | (simp only [JH] at hif; try (exfalso; omega)) | (try (exfalso; omega))) | ((first | ((with_reducible apply J22 cM1_ok tab_ok); (· rfl)) | ((with_reducible apply J23 fol cM1_ok tab_ok); (· rfl)) | with_reducible apply J24); (· exact Vm.b34); (try kernel_rfl); (try exact Vm.b12)) | fail)
    apply At.endsPick [0, 1, 2, 3] tab_ok (fn := Tryz.f168) (rs := [.tmp 2]) Anc.refl hro (Nat.le_of_ble_eq_true rfl) rfl
    · exact Vm.b11
    · exact Vm.b26
    · rfl
    · rfl
    · rfl
    · exact Vm.b27
    · rfl
    · exact Vm.b17
    · exact Vm.b10
    · exact fun β => rfl
    · exact Vm.b17
  · cases hF
def cM2 : FuncId → Option Spec := look2 [(177, rS aF), (175, rS bF), (174, mS putF), (176, mS cellF)]
theorem cM2_ok : ∀ f S, cM2 f = some S → CallOk Tryz.prog f S := allOk_spec ⟨a_ok, b_ok, put_ok, cell_ok, trivial⟩
theorem m_load : CallOk Tryz.prog 166 (mS (kF 5 false)) := mS_ok (by kernel_rfl) fun ar s v x cond val s' x' mv hF hc => by
  unfold kF at hF
  split at hF
  · cases hF
    obtain ⟨ho, R, V, S⟩ := hc
    obtain ⟨o0, o1, a0, a1, b0, b1, c0, c1, n0, n1⟩ := R.ok
    have ha := R.a
    have hb := R.b
    have hcc := R.c
    have s0 := S.a0
    have s1 := S.a1
    have d0 := S.d0
    have d1 := S.d1
    have sc := S.c1
    have sn := S.n1
    have v0 := V.p0
    have v1 := V.p1
    have v2 := V.t0
    have v3 := V.t1
    have v4 := V.o0
    have v5 := V.l0
    by_cases h1 : s.regs x.b.toNat < 0 ∨ (s.cells.length : Int) ≤ s.regs x.b.toNat
    · have hcb : cellB s x = false := by unfold cellB; simp; omega
      have hE : doE s v x = 185 := by simp [doE, ho, h1]
      have hS : doS s v x = s := doS_bad (by rw [hE]; decide)
      rw [hE, hS]
      refine ⟨fun _ => rfl, fun _ => trivial, fun _ _ => rfl, fun _ _ _ => trivial, ?_⟩
      refine litOkM (fn := Tryz.f166) 4 18 0 rfl rfl rfl rfl rfl (by simp only [StableL, Stable, hp, i64S, prS, insS, sndsS, sndS, stS, evS, macS]; simp [HB.born, mB, cB, sB]) rfl fun w0 M E hro => ?_
      repeat' (first | refine Ctl.h ?_ | ((with_reducible intro hif); first | (focus (cases hif; done)) | (simp only [JH] at hif; try (exfalso; omega)) | (try (exfalso; omega))) | ((first | ((with_reducible apply J22 cM2_ok tab_ok); (· rfl)) | ((with_reducible apply J23 fol cM2_ok tab_ok); (· rfl)) | with_reducible apply J24); (· exact Vm.b36); (try kernel_rfl); (try exact Vm.b35)) | fail)
      apply At.endsPick [0, 1, 2, 3] tab_ok (fn := Tryz.f166) (rs := [.tmp 2]) Anc.refl hro (Nat.le_of_ble_eq_true rfl) rfl
      · exact Vm.b11
      · exact Vm.b26
      · rfl
      · rfl
      · rfl
      · exact Vm.b27
      · rfl
      · exact Vm.b17
      · exact Vm.b10
      · exact fun β => rfl
      · exact Vm.b17
    · have hcb : cellB s x = true := by unfold cellB; simp; omega
      have hr : (s.regs x.b.toNat).toNat < s.cells.length := by omega
      have hE : doE s v x = 0 := by simp [doE, ho, h1]
      have hS : doS s v x = s.put x.a.toNat (s.cells.getD (s.regs x.b.toNat).toNat 0) := by simp [doS, hE, ho]
      rw [hE, hS]
      refine ⟨fun _ => rfl, fun _ => trivial, fun _ _ => rfl, fun _ _ _ => trivial, ?_⟩
      refine litOkM (fn := Tryz.f166) 4 18 0 rfl rfl rfl rfl rfl (by simp only [StableL, Stable, hp, i64S, prS, insS, sndsS, sndS, stS, evS, macS]; simp [HB.born, mB, cB, sB]) rfl fun w0 M E hro => ?_
      repeat' (first | refine Ctl.h ?_ | ((with_reducible intro hif); first | (focus (cases hif; done)) | (simp only [JH] at hif; try (exfalso; omega)) | (try (exfalso; omega))) | ((first | ((with_reducible apply J22 cM2_ok tab_ok); (· rfl)) | ((with_reducible apply J23 fol cM2_ok tab_ok); (· rfl)) | with_reducible apply J24); (· exact Vm.b36); (try kernel_rfl); (try exact Vm.b35)) | fail)
      apply At.endsPick [0, 1, 2, 3] tab_ok (fn := Tryz.f166) (rs := [.tmp 2]) Anc.refl hro (Nat.le_of_ble_eq_true rfl) rfl
      · exact Vm.b11
      · exact Vm.b26
      · rfl
      · rfl
      · rfl
      · exact Vm.b27
      · rfl
      · exact Vm.b17
      · exact Vm.b10
      · exact fun β => rfl
      · exact Vm.b17
  · cases hF
theorem m_store : CallOk Tryz.prog 167 (mS (kF 6 false)) := mS_ok (by kernel_rfl) fun ar s v x cond val s' x' mv hF hc => by
  unfold kF at hF
  split at hF
  · cases hF
    obtain ⟨ho, R, V, S⟩ := hc
    obtain ⟨o0, o1, a0, a1, b0, b1, c0, c1, n0, n1⟩ := R.ok
    have ha := R.a
    have hb := R.b
    have hcc := R.c
    have s0 := S.a0
    have s1 := S.a1
    have d0 := S.d0
    have d1 := S.d1
    have sc := S.c1
    have sn := S.n1
    have v0 := V.p0
    have v1 := V.p1
    have v2 := V.t0
    have v3 := V.t1
    have v4 := V.o0
    have v5 := V.l0
    by_cases h1 : s.regs x.b.toNat < 0 ∨ (s.cells.length : Int) ≤ s.regs x.b.toNat
    · have hcb : cellB s x = false := by unfold cellB; simp; omega
      have hE : doE s v x = 185 := by simp [doE, ho, h1]
      have hS : doS s v x = s := doS_bad (by rw [hE]; decide)
      rw [hE, hS]
      refine ⟨fun _ => rfl, fun _ => trivial, fun _ _ => rfl, fun _ _ _ => trivial, ?_⟩
      refine litOkM (fn := Tryz.f167) 4 26 0 rfl rfl rfl rfl rfl (by simp only [StableL, Stable, hp, i64S, prS, insS, sndsS, sndS, stS, evS, macS]; simp [HB.born, mB, cB, sB]) rfl fun w0 M E hro => ?_
      repeat' (first | refine Ctl.h ?_ | ((with_reducible intro hif); first | (focus (cases hif; done)) | (simp only [JH] at hif; try (exfalso; omega)) | (try (exfalso; omega))) | ((first | ((with_reducible apply J22 cM2_ok tab_ok); (· rfl)) | ((with_reducible apply J23 fol cM2_ok tab_ok); (· rfl)) | with_reducible apply J24); (· exact Vm.b36); (try kernel_rfl); (try exact Vm.b35)) | fail)
      apply At.endsPick [0, 1, 2, 3] tab_ok (fn := Tryz.f167) (rs := [.tmp 2]) Anc.refl hro (Nat.le_of_ble_eq_true rfl) rfl
      · exact Vm.b11
      · exact Vm.b26
      · rfl
      · rfl
      · rfl
      · exact Vm.b27
      · rfl
      · exact Vm.b17
      · exact Vm.b10
      · exact fun β => rfl
      · exact Vm.b17
    · have hcb : cellB s x = true := by unfold cellB; simp; omega
      have hr : (s.regs x.b.toNat).toNat < s.cells.length := by omega
      have hE : doE s v x = 0 := by simp [doE, ho, h1]
      have hS : doS s v x = { s with cells := s.cells.set (s.regs x.b.toNat).toNat (s.regs x.a.toNat), at_ := s.at_ + 1 } := by simp [doS, hE, ho]
      rw [hE, hS]
      refine ⟨fun _ => rfl, fun _ => trivial, fun _ _ => rfl, fun _ _ _ => trivial, ?_⟩
      refine litOkM (fn := Tryz.f167) 4 26 0 rfl rfl rfl rfl rfl (by simp only [StableL, Stable, hp, i64S, prS, insS, sndsS, sndS, stS, evS, macS]; simp [HB.born, mB, cB, sB]) rfl fun w0 M E hro => ?_
      repeat' (first | refine Ctl.h ?_ | ((with_reducible intro hif); first | (focus (cases hif; done)) | (simp only [JH] at hif; try (exfalso; omega)) | (try (exfalso; omega))) | ((first | ((with_reducible apply J22 cM2_ok tab_ok); (· rfl)) | ((with_reducible apply J23 fol cM2_ok tab_ok); (· rfl)) | with_reducible apply J24); (· exact Vm.b36); (try kernel_rfl); (try exact Vm.b35)) | fail)
      apply At.endsPick [0, 1, 2, 3] tab_ok (fn := Tryz.f167) (rs := [.tmp 2]) Anc.refl hro (Nat.le_of_ble_eq_true rfl) rfl
      · exact Vm.b11
      · exact Vm.b26
      · rfl
      · rfl
      · rfl
      · exact Vm.b27
      · rfl
      · exact Vm.b17
      · exact Vm.b10
      · exact fun β => rfl
      · exact Vm.b17
  · cases hF
end Go.Proofs.YtjliakjbdcplcaaGreat.Vm
end

section
namespace Go.Proofs.YtjliakjbdcplcaaGreat.Vm
open Go.RowKit
attribute [local push_cast] runR opG gtmp gval gus opX tmpsOf tm tmO tmP restr look look2 tab tys zs ets eqB eqBL allB numOf ieq Int.cast_ofNat_Int Int.ofNat_zero beq_true beq_false frameOf ev evL ofV opV loadV noW pushF wrsL setH allBorn allGone HB.born HB.isGone HB.val SV.plain dstOk hp nav fitsT SV.size sizeL SV.isAgg TK.size TK.agg bin binE binN binI arN arI cmpN cmpI keq kn narrow callV storeV setp fillV buildV buildSliceV makeV sliceV appendV appendFV slice3V copyV List.isEmpty_nil srcV evO asN ite_t ite_f ite_bool ite_int ite_nat maxV v_beq v_ble v_blt cond_true cond_false List.getElem?_cons_zero List.getElem?_cons_succ List.getD_cons_zero List.getD_cons_succ List.getD_nil List.length_cons List.length_nil List.take_succ_cons List.take_zero List.set_cons_zero List.set_cons_succ List.cons_append List.nil_append List.append_assoc List.replicate_succ List.replicate_zero Nat.zero_add Nat.add_zero decide_true decide_false Bool.true_and Bool.and_true Bool.false_and Bool.and_false Bool.true_or Bool.or_true Bool.false_or Bool.or_false beq_self_eq_true Bool.or_self Nat.lt_irrefl Nat.not_lt_zero Nat.le_refl Option.getD_some Option.getD_none BEq.rfl Bool.not_true Bool.not_false Bool.cond_true_left Bool.cond_false_right prS sndsS i64S nav_ins nav_ins0 nav_ins1 nav_ins2 nav_ins3 nav_ins4 nav_snd nav_snd0 nav_snd1 nav_snd2 isIns_insS insOf_insS isSnd_sndS sndOf_sndS isI_int isI_nat iOf
set_option linter.unusedVariables false
set_option linter.unusedSimpArgs false
set_option maxRecDepth 100000
set_option maxHeartbeats 4000000
theorem fnDen {β : Env} (f : FuncId) : (SV.fn f []).den β = .func (.func f) #[] #[] := rfl
def findI {α : Type} (p : α → Bool) (l : List α) : Int := if l.any p = true then (l.findIdx p : Int) else -1
theorem find_at {α : Type} {p : α → Bool} {l : List α} {d : α} {j : Nat} (hj : j < l.length) (hq : ∀ q, q < j → p (l.getD q d) = false) (h : p (l.getD j d) = true) : findI p l = j := by
  have e : l.getD j d = l[j] := by simp [List.getD_eq_getElem?_getD, List.getElem?_eq_getElem hj]
  rw [e] at h
  have ha : l.any p = true := List.any_eq_true.2 ⟨_, List.getElem_mem hj, h⟩
  unfold findI
  rw [if_pos ha]
  congr 1
  rw [List.findIdx_eq hj]
  refine ⟨h, fun q hqj => ?_⟩
  have := hq q hqj
  have e2 : l.getD q d = l[q] := by simp [List.getD_eq_getElem?_getD, List.getElem?_eq_getElem (show q < l.length by omega)]
  rw [e2] at this
  simpa using this
theorem any_no {α : Type} {p : α → Bool} {l : List α} {d : α} (hq : ∀ q, q < l.length → p (l.getD q d) = false) : l.any p = false := by
  rw [List.any_eq_false]
  intro x hx
  obtain ⟨j, hj, rfl⟩ := List.getElem_of_mem hx
  have := hq j hj
  rw [List.getD_eq_getElem?_getD, List.getElem?_eq_getElem hj] at this
  simpa using this
theorem find_no {α : Type} {p : α → Bool} {l : List α} {d : α} (hq : ∀ q, q < l.length → p (l.getD q d) = false) : findI p l = -1 := by
  unfold findI; rw [any_no hq]; rfl
theorem find_any {α : Type} (p : α → Bool) (l : List α) : decide (0 ≤ findI p l) = l.any p := by
  unfold findI
  cases h : l.any p
  · rfl
  · simp
theorem is_lit (x : Int) : LitOk Tryz.prog 110 [.int .i64 x] [.gone] (.bool (isB x)) [.gone] := by
  refine litOkM (fn := Tryz.f110) 1 9 0 rfl rfl rfl rfl rfl (by simp only [StableL, Stable, hp, i64S, prS, insS, sndsS, sndS, evtsS, evtS]; simp [HB.born]) rfl fun w0 M E hro => ?_
  repeat' (first | refine Ctl.h ?_ | ((with_reducible intro hif); first | (focus (cases hif; done)) | (simp only [JH] at hif; try (exfalso; omega)) | (try (exfalso; omega))) | ((first | ((with_reducible apply J22 c1_ok tab_ok); (· rfl)) | ((with_reducible apply J23 fol c1_ok tab_ok); (· rfl)) | with_reducible apply J24); (· exact Vm.b37); (try kernel_rfl); (try exact Vm.b14)) | fail)
  apply At.endsRet tab_ok (fn := Tryz.f110) (rs := [.tmp 2]) Anc.refl hro (Nat.le_of_ble_eq_true rfl) rfl
  · exact Vm.b11
  · exact Vm.b9
  · exact Vm.b6
  · rfl
  · exact Vm.b28
  · exact Vm.b10
  · intro β; simp [resS, SV.den, isB]
  · exact Vm.b28
def sIs : Spec := fun args h m => match args with
  | [v1] => bif isI .i64 v1 then some (True, .bool (isB (iOf v1)), [], []) else none
  | _ => none
theorem sIs_ok : CallOk Tryz.prog 110 sIs := by
  refine ⟨named_spec (by kernel_rfl), fun args h m c v rd wr hs hm hc w0 M β h' w R hrd hwr hst => ?_⟩
  unfold sIs at hs
  split at hs
  · rename_i v1
    obtain ⟨hb, hs⟩ := bif_some hs
    simp only [Option.some.injEq, Prod.mk.injEq] at hs
    obtain ⟨rfl, rfl, rfl, rfl⟩ := hs
    have b1 := hb
    refine callRo (views := []) (is_lit (iOf v1)) ?_ R hm hwr ?_ ?_ ?_
    · intro x hx; cases hx
    · intro β1 hv
      simp only [denL, aggDen, intDen, natDen, boolDen, ls_length, isI_den b1]
    · exact Vm.b28
    · exact Vm.b28
  · cases hs
def cIs : FuncId → Option Spec := look2 [(110, sIs)]
theorem cIs_ok : ∀ f S, cIs f = some S → CallOk Tryz.prog f S := allOk_spec ⟨sIs_ok, trivial⟩
theorem right1_lit (x : Int) : LitOk Tryz.prog 112 [.int .i64 x] [.gone] (.bool (noPort x)) [.gone] := by
  by_cases h : x = 0
  · refine litOkM (fn := Tryz.f112) 1 10 0 rfl rfl rfl rfl rfl (by simp only [StableL, Stable, hp, i64S, prS, insS, sndsS, sndS, evtsS, evtS]; simp [HB.born]) rfl fun w0 M E hro => ?_
    repeat' (first | refine Ctl.h ?_ | ((with_reducible intro hif); first | (focus (cases hif; done)) | (simp only [JH] at hif; try (exfalso; omega)) | (try (exfalso; omega))) | ((first | ((with_reducible apply J22 cIs_ok tab_ok); (· rfl)) | ((with_reducible apply J23 fol cIs_ok tab_ok); (· rfl)) | with_reducible apply J24); (· exact Vm.b38); (try kernel_rfl); (try exact Vm.b14)) | fail)
    apply At.endsRet tab_ok (fn := Tryz.f112) (rs := [.tmp 2]) Anc.refl hro (Nat.le_of_ble_eq_true rfl) rfl
    · exact Vm.b11
    · exact Vm.b9
    · exact Vm.b6
    · rfl
    · exact Vm.b28
    · exact Vm.b10
    · intro β; simp [resS, SV.den, noPort, h]
    · exact Vm.b28
  · refine litOkM (fn := Tryz.f112) 1 10 0 rfl rfl rfl rfl rfl (by simp only [StableL, Stable, hp, i64S, prS, insS, sndsS, sndS, evtsS, evtS]; simp [HB.born]) rfl fun w0 M E hro => ?_
    repeat' (first | refine Ctl.h ?_ | ((with_reducible intro hif); first | (focus (cases hif; done)) | (simp only [JH] at hif; try (exfalso; omega)) | (try (exfalso; omega))) | ((first | ((with_reducible apply J22 cIs_ok tab_ok); (· rfl)) | ((with_reducible apply J23 fol cIs_ok tab_ok); (· rfl)) | with_reducible apply J24); (· exact Vm.b38); (try kernel_rfl); (try exact Vm.b14)) | fail)
    apply At.endsRet tab_ok (fn := Tryz.f112) (rs := [.tmp 2]) Anc.refl hro (Nat.le_of_ble_eq_true rfl) rfl
    · exact Vm.b11
    · exact Vm.b9
    · exact Vm.b6
    · rfl
    · exact Vm.b28
    · exact Vm.b10
    · intro β; simp [resS, SV.den, noPort, h, iOf]
    · exact Vm.b28
def sRt1 : Spec := fun args h m => match args with
  | [v1] => bif isI .i64 v1 then some (True, .bool (noPort (iOf v1)), [], []) else none
  | _ => none
theorem sRt1_ok : CallOk Tryz.prog 112 sRt1 := by
  refine ⟨named_spec (by kernel_rfl), fun args h m c v rd wr hs hm hc w0 M β h' w R hrd hwr hst => ?_⟩
  unfold sRt1 at hs
  split at hs
  · rename_i v1
    obtain ⟨hb, hs⟩ := bif_some hs
    simp only [Option.some.injEq, Prod.mk.injEq] at hs
    obtain ⟨rfl, rfl, rfl, rfl⟩ := hs
    have b1 := hb
    refine callRo (views := []) (right1_lit (iOf v1)) ?_ R hm hwr ?_ ?_ ?_
    · intro x hx; cases hx
    · intro β1 hv
      simp only [denL, aggDen, intDen, natDen, boolDen, ls_length, isI_den b1]
    · exact Vm.b28
    · exact Vm.b28
  · cases hs
def cRt1 : FuncId → Option Spec := look2 [(112, sRt1)]
theorem cRt1_ok : ∀ f S, cRt1 f = some S → CallOk Tryz.prog f S := allOk_spec ⟨sRt1_ok, trivial⟩
theorem idxP_lit (l : List Int) (p : Nat) (hl : l.length ≤ 281474976710656) : LitOk Tryz.prog 137 [.sl 1 2 [] 1 0 l.length (some p), .fn 112 []] [.gone, .gone, .ro (.arr l.length 1 (i64S l))] (.int .i64 (findI noPort l)) [.gone] := by
  refine litOkM (fn := Tryz.f137) 3 19 0 rfl rfl rfl rfl rfl (by simp only [StableL, Stable, hp, i64S, prS, insS, sndsS, sndS, evtsS, evtS]; simp [HB.born]) rfl fun w0 M E hro => ?_
  repeat' (first | refine Ctl.h ?_ | ((with_reducible intro hif); first | (focus (cases hif; done)) | (simp only [JH] at hif; try (exfalso; omega)) | (try (exfalso; omega))) | ((first | ((with_reducible apply J22 cRt1_ok tab_ok); (· rfl)) | ((with_reducible apply J23 fol cRt1_ok tab_ok); (· rfl)) | with_reducible apply J24); (· exact Vm.b37); (try kernel_rfl); (try exact Vm.b14)) | fail)
  refine WF.loopAt (fun j => j ≤ l.length ∧ ∀ q, q < j → noPort (l.getD q 0) = false) (fun j => [(0, .sl 1 2 [] 1 0 l.length (some p)), (1, .fn 112 []), (7, .nat .i64 l.length), (8, .nat .i64 j)]) (fun j => [.gone, .gone, .ro (.arr l.length 1 (i64S l))]) (fun j => l.length - j) 0 ⟨Nat.zero_le _, fun q hq => absurd hq (Nat.not_lt_zero q)⟩ ?_ ?_ rfl ?_ ?_ rfl ?_
  · exact Vm.b5
  · exact Vm.b6
  · exact Vm.b28
  · exact Vm.b28
  rintro j ⟨hj, hq⟩
  by_cases hjl : j < l.length
  · cases hn : noPort (l.getD j 0)
    · repeat' (first | refine Ctl.h ?_ | ((with_reducible intro hif); first | (focus (cases hif; done)) | (simp only [JH] at hif; try (exfalso; omega)) | (try (exfalso; omega))) | ((first | ((with_reducible apply J22 cRt1_ok tab_ok); (· rfl)) | ((with_reducible apply J23 fol cRt1_ok tab_ok); (· rfl)) | with_reducible apply J24); (· exact Vm.b39); (try kernel_rfl); (try exact Vm.b14)) | fail)
      refine At.next (j + 1) ?_ ?_ ?_ rfl ?_ ?_ rfl
      · exact Vm.b29
      · exact Vm.b5
      · exact Vm.b6
      · exact Vm.b28
      · exact Vm.b28
    · have hf := find_at hjl hq hn
      repeat' (first | refine Ctl.h ?_ | ((with_reducible intro hif); first | (focus (cases hif; done)) | (simp only [JH] at hif; try (exfalso; omega)) | (try (exfalso; omega))) | ((first | ((with_reducible apply J22 cRt1_ok tab_ok); (· rfl)) | ((with_reducible apply J23 fol cRt1_ok tab_ok); (· rfl)) | with_reducible apply J24); (· exact Vm.b39); (try kernel_rfl); (try exact Vm.b14)) | fail)
      apply At.endsRet tab_ok (fn := Tryz.f137) (rs := [.tmp 4]) Anc.refl hro (Nat.le_of_ble_eq_true rfl) rfl
      · exact Vm.b11
      · exact Vm.b9
      · exact Vm.b6
      · rfl
      · exact Vm.b28
      · exact Vm.b10
      · rw [hf]; exact fun β => rfl
      · exact Vm.b28
  · obtain rfl : j = l.length := by omega
    have hf := find_no hq
    repeat' (first | refine Ctl.h ?_ | ((with_reducible intro hif); first | (focus (cases hif; done)) | (simp only [JH] at hif; try (exfalso; omega)) | (try (exfalso; omega))) | ((first | ((with_reducible apply J22 cRt1_ok tab_ok); (· rfl)) | ((with_reducible apply J23 fol cRt1_ok tab_ok); (· rfl)) | with_reducible apply J24); (· (simp only [push_cast, ↓JP, Nat.reduceAdd, Nat.reduceEqDiff, Nat.reduceLT, Nat.reduceMul, Nat.reduceLeDiff, reduceCtorEq, reduceIte, ↓JK, cRt1, sRt1, inR, inN]; rfl)); (try kernel_rfl); (try exact Vm.b14)) | fail)
    apply At.endsRet tab_ok (fn := Tryz.f137) (rs := [.tmp 4]) Anc.refl hro (Nat.le_of_ble_eq_true rfl) rfl
    · exact Vm.b11
    · exact Vm.b9
    · exact Vm.b6
    · rfl
    · exact Vm.b28
    · exact Vm.b10
    · rw [hf]; exact fun β => rfl
    · exact Vm.b28
def sIdxP : Spec := fun args h m => match args with
  | [v1, .fn v2 []] => match srcV h 1 (.tup []) v1 with
    | some (c1, n1, f1, r1) => bif Nat.beq v2 112 then some (c1 ∧ (∀ q, q < n1 → isI .i64 (f1 q) = true) ∧ ((ls iOf n1 f1).length ≤ 281474976710656), .int .i64 (findI noPort (ls iOf n1 f1)), r1, []) else none
    | _ => none
  | _ => none
theorem sIdxP_ok : CallOk Tryz.prog 137 sIdxP := by
  refine ⟨named_spec (by kernel_rfl), fun args h m c v rd wr hs hm hc w0 M β h' w R hrd hwr hst => ?_⟩
  unfold sIdxP at hs
  split at hs
  · rename_i v1 v2
    split at hs
    · rename_i c1 n1 f1 r1 a1
      obtain ⟨hb, hs⟩ := bif_some hs
      simp only [Option.some.injEq, Prod.mk.injEq] at hs
      obtain ⟨rfl, rfl, rfl, rfl⟩ := hs
      have b2 := hb
      have w2 := Nat.eq_of_beq_eq_true b2
      subst w2
      obtain ⟨k1, g1, y1⟩ := hc
      obtain ⟨A1, p1, d1, e1, t1⟩ := reads_src R a1 k1 (fun i hi => hrd i hi) (by omega)
      refine callRo (views := [⟨1, (ls iOf n1 f1).length, i64S (ls iOf n1 f1), A1, p1⟩]) (idxP_lit (ls iOf n1 f1) p1 y1) ?_ R hm hwr ?_ ?_ ?_
      · intro x hx
        simp only [List.mem_cons, List.not_mem_nil, or_false] at hx
        subst hx
        · exact viewI64 t1 e1 g1
      · intro β1 hv
        simp only [Vd, ls_length, and_true] at hv
        have z1 := hv
        simp only [denL, aggDen, intDen, natDen, boolDen, ls_length, fnDen, z1, d1]
      · exact Vm.b28
      · exact Vm.b28
    · cases hs
  · cases hs
def cIdxP : FuncId → Option Spec := look2 [(137, sIdxP)]
theorem cIdxP_ok : ∀ f S, cIdxP f = some S → CallOk Tryz.prog f S := allOk_spec ⟨sIdxP_ok, trivial⟩
theorem conP_lit (l : List Int) (p : Nat) (hl : l.length ≤ 281474976710656) : LitOk Tryz.prog 111 [.sl 1 2 [] 1 0 l.length (some p), .fn 112 []] [.gone, .gone, .ro (.arr l.length 1 (i64S l))] (.bool (l.any noPort)) [.gone] := by
  have e := find_any noPort l
  refine litOkM (fn := Tryz.f111) 3 9 0 rfl rfl rfl rfl rfl (by simp only [StableL, Stable, hp, i64S, prS, insS, sndsS, sndS, evtsS, evtS]; simp [HB.born]) rfl fun w0 M E hro => ?_
  repeat' (first | refine Ctl.h ?_ | ((with_reducible intro hif); first | (focus (cases hif; done)) | (simp only [JH] at hif; try (exfalso; omega)) | (try (exfalso; omega))) | ((first | ((with_reducible apply J22 cIdxP_ok tab_ok); (· rfl)) | ((with_reducible apply J23 fol cIdxP_ok tab_ok); (· rfl)) | with_reducible apply J24); (· (simp only [push_cast, ↓JP, Nat.reduceAdd, Nat.reduceEqDiff, Nat.reduceLT, Nat.reduceMul, Nat.reduceLeDiff, reduceCtorEq, reduceIte, ↓JK, cIdxP, sIdxP, JE, inR, inN]; rfl)); (try kernel_rfl); (try exact Vm.b14)) | fail)
  apply At.endsRet tab_ok (fn := Tryz.f111) (rs := [.tmp 4]) Anc.refl hro (Nat.le_of_ble_eq_true rfl) rfl
  · exact Vm.b11
  · exact Vm.b9
  · exact Vm.b6
  · rfl
  · exact Vm.b28
  · exact Vm.b10
  · rw [← e]; exact fun β => rfl
  · exact Vm.b28
def sConP : Spec := fun args h m => match args with
  | [v1, .fn v2 []] => match srcV h 1 (.tup []) v1 with
    | some (c1, n1, f1, r1) => bif Nat.beq v2 112 then some (c1 ∧ (∀ q, q < n1 → isI .i64 (f1 q) = true) ∧ ((ls iOf n1 f1).length ≤ 281474976710656), .bool ((ls iOf n1 f1).any noPort), r1, []) else none
    | _ => none
  | _ => none
theorem sConP_ok : CallOk Tryz.prog 111 sConP := by
  refine ⟨named_spec (by kernel_rfl), fun args h m c v rd wr hs hm hc w0 M β h' w R hrd hwr hst => ?_⟩
  unfold sConP at hs
  split at hs
  · rename_i v1 v2
    split at hs
    · rename_i c1 n1 f1 r1 a1
      obtain ⟨hb, hs⟩ := bif_some hs
      simp only [Option.some.injEq, Prod.mk.injEq] at hs
      obtain ⟨rfl, rfl, rfl, rfl⟩ := hs
      have b2 := hb
      have w2 := Nat.eq_of_beq_eq_true b2
      subst w2
      obtain ⟨k1, g1, y1⟩ := hc
      obtain ⟨A1, p1, d1, e1, t1⟩ := reads_src R a1 k1 (fun i hi => hrd i hi) (by omega)
      refine callRo (views := [⟨1, (ls iOf n1 f1).length, i64S (ls iOf n1 f1), A1, p1⟩]) (conP_lit (ls iOf n1 f1) p1 y1) ?_ R hm hwr ?_ ?_ ?_
      · intro x hx
        simp only [List.mem_cons, List.not_mem_nil, or_false] at hx
        subst hx
        · exact viewI64 t1 e1 g1
      · intro β1 hv
        simp only [Vd, ls_length, and_true] at hv
        have z1 := hv
        simp only [denL, aggDen, intDen, natDen, boolDen, ls_length, fnDen, z1, d1]
      · exact Vm.b28
      · exact Vm.b28
    · cases hs
  · cases hs
end Go.Proofs.YtjliakjbdcplcaaGreat.Vm
end

section
namespace Go.Proofs.YtjliakjbdcplcaaGreat
open Go.RowKit
set_option linter.unusedVariables false
set_option linter.unusedSimpArgs false

theorem info64 : (Tryz.prog.info? 2).map (fun i => (i.zero, i.size, i.bytes)) = some (some (.int .i64 0), 1, 8) := by kernel_rfl
theorem infoSend : (Tryz.prog.info? 125).map (fun i => (i.zero, i.size, i.bytes)) = some (some (.agg #[.int .i64 0, .int .i64 0, .int .i64 0]), 3, 24) := by kernel_rfl


set_option maxRecDepth 100000 in
set_option maxHeartbeats 1000000 in
theorem clone64_some (ad : Addr) (n c : Nat) (xs : List Value) (w : World) (h : Reads w w.heap.size 1 (some ad) n xs) (h1 : ∀ u ∈ xs, u.oneCell' = true) (hn : n * 8 ≤ 140737488355328) (hm : n ≤ maxLen) :
    Calls Tryz.prog 35 #[.slice (some ad) n c] w fun e w' => ∃ v, e = .returned v ∧ w'.ownsRow w.heap.size 2 1 v (0 + n) ([] ++ xs) ∧ Below w.heap.size w w' := by
  obtain ⟨i0, hi, hz0, hz1, hz2⟩ := info_parts info64
  have hr := (h.alloc (Nat.le_refl _) (.cells #[] 2))
  have H1 := Lib.hid h1
  have HN := Lib.hid hn
  have HM := Lib.hid hm
  have HR := Lib.hid hr
  clear h h1 hn hm hr
  have kn := fun (w : World) (a : Option Addr) (n c : Nat) => eql_nil (P := Tryz.prog) w 30 2 a n c Tryz.underlying30
  go_enter Tryz.func35, Tryz.ntmps35
  go_wp2_with (at_builtin
               refine wpList_append_any _ rfl (.tmp 5) (.tmp 6) _ rfl w.heap.size 2 i0 _ 1 8 Tryz.underlying30 hi hz0 hz1 hz2 rfl (by omega) (.slice (some ⟨w.heap.size, 0, none⟩) 0 0) 0 [] rfl
                 (World.ownsRow_made w #[] 0 (Nat.le_refl _) (Nat.zero_le _) rfl) w.heap.size (some ad) n c xs rfl HR.out H1.out (by have := HM.out; omega) (by have := HN.out; omega) (by simp) ?_
               intro v1 w1 hown1 hg1 hat1)
  go_ret
  refine ⟨v1, rfl, hown1, ((Below.refl _ w).alloc (Nat.le_refl _) _).grown hg1 (by simp) (fun k hk => ?_)⟩
  rcases hat1 with e | e <;> simp [Value.ownBlock] at hk <;> omega
theorem clone64_nil (n c : Nat) (w : World) :
    Calls Tryz.prog 35 #[.slice none n c] w fun e w' => e = .returned (.slice none 0 0) ∧ w = w' := by
  have kn := fun (w : World) (a : Option Addr) (n c : Nat) => eql_nil (P := Tryz.prog) w 30 2 a n c Tryz.underlying30
  go_enter Tryz.func35, Tryz.ntmps35
  go_wp2
  go_ret
  exact ⟨rfl, rfl⟩
theorem clone64_c (A : Option Addr) (n c : Nat) (xs : List Value) (w : World) (h : Reads w w.heap.size 1 A n xs) (h1 : ∀ u ∈ xs, u.oneCell' = true) (hn : n * 8 ≤ 140737488355328) :
    Calls Tryz.prog 35 #[.slice A n c] w fun e w' => ∃ v, e = .returned v ∧ w'.ownsRow w.heap.size 2 1 v n xs ∧ Below w.heap.size w w' := by
  cases A with
  | none =>
    have hn0 : n = 0 := by
      rcases Nat.eq_zero_or_pos n with h0 | h0
      · exact h0
      · obtain ⟨ad, e, _⟩ := h.2 h0
        cases e
    subst hn0
    have hx : xs = [] := List.eq_nil_of_length_eq_zero (by simpa using h.1)
    subst hx
    refine (clone64_nil 0 c w).mono ?_
    rintro e w' ⟨rfl, rfl⟩
    exact ⟨_, rfl, World.ownsRow_nil _ _ _ _, Below.refl _ _⟩
  | some ad =>
    have hm : n ≤ maxLen := by unfold maxLen; omega
    refine (clone64_some ad n c xs w h h1 hn hm).mono ?_
    rintro e w' ⟨v, rfl, ho, hb⟩
    exact ⟨v, rfl, by simpa using ho, hb⟩

set_option maxRecDepth 100000 in
set_option maxHeartbeats 1000000 in
theorem cloneIns_some (ad : Addr) (n c : Nat) (xs : List Value) (w : World) (h : Reads w w.heap.size 5 (some ad) n xs) (h1 : ∀ u ∈ xs, u.oneCell' = true) (hn : n * 16 ≤ 140737488355328) (hm : n ≤ maxLen) :
    Calls Tryz.prog 34 #[.slice (some ad) n c] w fun e w' => ∃ v, e = .returned v ∧ w'.ownsRow w.heap.size 38 5 v (0 + n) ([] ++ xs) ∧ Below w.heap.size w w' := by
  obtain ⟨i0, hi, hz0, hz1, hz2⟩ := info_parts infoIns
  have hr := (h.alloc (Nat.le_refl _) (.cells #[] 38))
  have H1 := Lib.hid h1
  have HN := Lib.hid hn
  have HM := Lib.hid hm
  have HR := Lib.hid hr
  clear h h1 hn hm hr
  have kn := fun (w : World) (a : Option Addr) (n c : Nat) => eql_nil (P := Tryz.prog) w 22 38 a n c Tryz.underlying22
  go_enter Tryz.func34, Tryz.ntmps34
  go_wp2_with (at_builtin
               refine wpList_append_any _ rfl (.tmp 5) (.tmp 6) _ rfl w.heap.size 38 i0 _ 5 16 Tryz.underlying22 hi hz0 hz1 hz2 rfl (by omega) (.slice (some ⟨w.heap.size, 0, none⟩) 0 0) 0 [] rfl
                 (World.ownsRow_made w #[] 0 (Nat.le_refl _) (Nat.zero_le _) rfl) w.heap.size (some ad) n c xs rfl HR.out H1.out (by have := HM.out; omega) (by have := HN.out; omega) (by simp) ?_
               intro v1 w1 hown1 hg1 hat1)
  go_ret
  refine ⟨v1, rfl, hown1, ((Below.refl _ w).alloc (Nat.le_refl _) _).grown hg1 (by simp) (fun k hk => ?_)⟩
  rcases hat1 with e | e <;> simp [Value.ownBlock] at hk <;> omega
theorem cloneIns_nil (n c : Nat) (w : World) :
    Calls Tryz.prog 34 #[.slice none n c] w fun e w' => e = .returned (.slice none 0 0) ∧ w = w' := by
  have kn := fun (w : World) (a : Option Addr) (n c : Nat) => eql_nil (P := Tryz.prog) w 22 38 a n c Tryz.underlying22
  go_enter Tryz.func34, Tryz.ntmps34
  go_wp2
  go_ret
  exact ⟨rfl, rfl⟩
theorem cloneIns_c (A : Option Addr) (n c : Nat) (xs : List Value) (w : World) (h : Reads w w.heap.size 5 A n xs) (h1 : ∀ u ∈ xs, u.oneCell' = true) (hn : n * 16 ≤ 140737488355328) :
    Calls Tryz.prog 34 #[.slice A n c] w fun e w' => ∃ v, e = .returned v ∧ w'.ownsRow w.heap.size 38 5 v n xs ∧ Below w.heap.size w w' := by
  cases A with
  | none =>
    have hn0 : n = 0 := by
      rcases Nat.eq_zero_or_pos n with h0 | h0
      · exact h0
      · obtain ⟨ad, e, _⟩ := h.2 h0
        cases e
    subst hn0
    have hx : xs = [] := List.eq_nil_of_length_eq_zero (by simpa using h.1)
    subst hx
    refine (cloneIns_nil 0 c w).mono ?_
    rintro e w' ⟨rfl, rfl⟩
    exact ⟨_, rfl, World.ownsRow_nil _ _ _ _, Below.refl _ _⟩
  | some ad =>
    have hm : n ≤ maxLen := by unfold maxLen; omega
    refine (cloneIns_some ad n c xs w h h1 hn hm).mono ?_
    rintro e w' ⟨v, rfl, ho, hb⟩
    exact ⟨v, rfl, by simpa using ho, hb⟩

set_option maxRecDepth 100000 in
set_option maxHeartbeats 1000000 in
theorem cloneSend_some (ad : Addr) (n c : Nat) (xs : List Value) (w : World) (h : Reads w w.heap.size 3 (some ad) n xs) (h1 : ∀ u ∈ xs, u.oneCell' = true) (hn : n * 24 ≤ 140737488355328) (hm : n ≤ maxLen) :
    Calls Tryz.prog 123 #[.slice (some ad) n c] w fun e w' => ∃ v, e = .returned v ∧ w'.ownsRow w.heap.size 125 3 v (0 + n) ([] ++ xs) ∧ Below w.heap.size w w' := by
  obtain ⟨i0, hi, hz0, hz1, hz2⟩ := info_parts infoSend
  have hr := (h.alloc (Nat.le_refl _) (.cells #[] 125))
  have H1 := Lib.hid h1
  have HN := Lib.hid hn
  have HM := Lib.hid hm
  have HR := Lib.hid hr
  clear h h1 hn hm hr
  have kn := fun (w : World) (a : Option Addr) (n c : Nat) => eql_nil (P := Tryz.prog) w 40 125 a n c Tryz.underlying40
  go_enter Tryz.func123, Tryz.ntmps123
  go_wp2_with (at_builtin
               refine wpList_append_any _ rfl (.tmp 5) (.tmp 6) _ rfl w.heap.size 125 i0 _ 3 24 Tryz.underlying40 hi hz0 hz1 hz2 rfl (by omega) (.slice (some ⟨w.heap.size, 0, none⟩) 0 0) 0 [] rfl
                 (World.ownsRow_made w #[] 0 (Nat.le_refl _) (Nat.zero_le _) rfl) w.heap.size (some ad) n c xs rfl HR.out H1.out (by have := HM.out; omega) (by have := HN.out; omega) (by simp) ?_
               intro v1 w1 hown1 hg1 hat1)
  go_ret
  refine ⟨v1, rfl, hown1, ((Below.refl _ w).alloc (Nat.le_refl _) _).grown hg1 (by simp) (fun k hk => ?_)⟩
  rcases hat1 with e | e <;> simp [Value.ownBlock] at hk <;> omega
theorem cloneSend_nil (n c : Nat) (w : World) :
    Calls Tryz.prog 123 #[.slice none n c] w fun e w' => e = .returned (.slice none 0 0) ∧ w = w' := by
  have kn := fun (w : World) (a : Option Addr) (n c : Nat) => eql_nil (P := Tryz.prog) w 40 125 a n c Tryz.underlying40
  go_enter Tryz.func123, Tryz.ntmps123
  go_wp2
  go_ret
  exact ⟨rfl, rfl⟩
theorem cloneSend_c (A : Option Addr) (n c : Nat) (xs : List Value) (w : World) (h : Reads w w.heap.size 3 A n xs) (h1 : ∀ u ∈ xs, u.oneCell' = true) (hn : n * 24 ≤ 140737488355328) :
    Calls Tryz.prog 123 #[.slice A n c] w fun e w' => ∃ v, e = .returned v ∧ w'.ownsRow w.heap.size 125 3 v n xs ∧ Below w.heap.size w w' := by
  cases A with
  | none =>
    have hn0 : n = 0 := by
      rcases Nat.eq_zero_or_pos n with h0 | h0
      · exact h0
      · obtain ⟨ad, e, _⟩ := h.2 h0
        cases e
    subst hn0
    have hx : xs = [] := List.eq_nil_of_length_eq_zero (by simpa using h.1)
    subst hx
    refine (cloneSend_nil 0 c w).mono ?_
    rintro e w' ⟨rfl, rfl⟩
    exact ⟨_, rfl, World.ownsRow_nil _ _ _ _, Below.refl _ _⟩
  | some ad =>
    have hm : n ≤ maxLen := by unfold maxLen; omega
    refine (cloneSend_some ad n c xs w h h1 hn hm).mono ?_
    rintro e w' ⟨v, rfl, ho, hb⟩
    exact ⟨v, rfl, by simpa using ho, hb⟩

end Go.Proofs.YtjliakjbdcplcaaGreat
end

section
namespace Go.Proofs.YtjliakjbdcplcaaGreat.Vm
open Go.RowKit
set_option linter.unusedVariables false
set_option linter.unusedSimpArgs false
set_option maxRecDepth 100000
def sClI : Spec := fun args h m => match args with
  | [v] => match srcV h 5 (.tup []) v with
    | some (c, n, f, rd) => some (c ∧ (∀ q, q < n → isIns (f q) = true) ∧ n ≤ 1000000, .sl m m [] 5 0 n none, rd, [(m, .own 38 (.arr n 5 (prS (ls insOf n f))) false)])
    | _ => none
  | _ => none
theorem sClI_ok : CallOk Tryz.prog 34 sClI := by
  refine ⟨named_spec (by kernel_rfl), fun args h m c v rd wr hs hm hc w0 M β h' w R hrd hwr hst => ?_⟩
  unfold sClI at hs
  split at hs
  · rename_i v0
    split at hs
    · rename_i c' n f rd' ha
      simp only [Option.some.injEq, Prod.mk.injEq] at hs
      obtain ⟨rfl, rfl, rfl, rfl⟩ := hs
      obtain ⟨hc1, hi, hn⟩ := hc
      obtain ⟨A, cap, hden, hnc, hr⟩ := reads_src R ha hc1 hrd (by omega)
      simp only [denL, hden]
      refine (cloneIns_c A n cap _ w hr (fun u hu => elems_sane u hu) (by omega)).mono fun e w' he => ?_
      obtain ⟨p, rfl, ho, hb⟩ := he
      have hmd : h' m = .dead := (hwr _ (.head _)).trans (hm m (Nat.le_refl _))
      obtain ⟨e', R', hv⟩ := (R.below hb).made (f := prS (ls insOf n f)) hmd ho R.size (by
          rw [elems_ins hi]
          have := elems_prS (β := β) (ls insOf n f)
          rwa [ls_length] at this) prS_stable (fun g i a' hg hmi hai e => by
        have := R.lt i a' hmi hai
        obtain ⟨_, ⟨rfl, _⟩ | ⟨g', cap', cur, rfl, hg', _⟩⟩ := ho
        · cases hg
        · simp [Value.ownBlock] at hg
          omega)
      exact ⟨_, agree_setE hmd, R', stable_new, by rw [hv]⟩
    · cases hs
  · cases hs
end Go.Proofs.YtjliakjbdcplcaaGreat.Vm
end
