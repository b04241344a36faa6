import Derived.Test.YtjliakjbdcplcaaW6
import Derived.Test.YtjliakjbdcplcaaW7
import Derived.Test.YtjliakjbdcplcaaW8
import Derived.Test.YtjliakjbdcplcaaW12
import Derived.Test.YtjliakjbdcplcaaW14
import Derived.Test.YtjliakjbdcplcaaW15
section
namespace Go.Proofs.Ytjliakjbdcplcaa.Vm
theorem b120 {P : Prop} (h : P := by (first | exact True.intro | ((try simp only [JS, implies_true, forall_const, shaped, shapedL, kndOf, ls_prS, ls_prS', ls_i64S', ls_i64S, ls_evtsS', ls_evtsS, ls_length, prc_eta, iOf]); (repeat' (first | exact True.intro | assumption | omega | apply And.intro | rfl | decide | intro _)); done) | ((try simp only [JS, implies_true, forall_const, shaped, shapedL, kndOf, inR, inN]); (repeat' (first | assumption | exact True.intro | omega | apply And.intro)); done))) : P := h
theorem b121 {P : Prop} (h : P := by (simp only [push_cast, ↓JP, Nat.reduceAdd, Nat.reduceEqDiff, Nat.reduceLT, Nat.reduceMul, Nat.reduceLeDiff, reduceCtorEq, reduceIte, ↓JK, JE, prc_eta, cEq28, sPSame, sSev, isEvt_evtS, ls_evtsS, ls_evtsS', ls_evtsS2, evtsS, inR, inN, q1, q2]; rfl)) : P := h
end Go.Proofs.Ytjliakjbdcplcaa.Vm
end
section
open Go.Proofs.Ytjliakjbdcplcaa.Vm Go.RowKit
attribute [local push_cast] runR opG gtmp gval gus opX tmpsOf tm tmO tmP restr look look2 tab tys zs ets eqB eqBL allB numOf ieq Int.cast_ofNat_Int Int.ofNat_zero beq_true beq_false frameOf ev evL ofV opV loadV noW pushF wrsL setH allBorn allGone HB.born HB.isGone HB.val SV.plain dstOk hp nav fitsT SV.size sizeL SV.isAgg TK.size TK.agg bin binE binN binI arN arI cmpN cmpI keq kn narrow callV storeV setp fillV buildV buildSliceV makeV sliceV appendV appendFV slice3V copyV List.isEmpty_nil srcV evO asN ite_t ite_f ite_bool ite_int ite_nat maxV v_beq v_ble v_blt cond_true cond_false List.getElem?_cons_zero List.getElem?_cons_succ List.getD_cons_zero List.getD_cons_succ List.getD_nil List.length_cons List.length_nil List.take_succ_cons List.take_zero List.set_cons_zero List.set_cons_succ List.cons_append List.nil_append List.append_assoc List.replicate_succ List.replicate_zero Nat.zero_add Nat.add_zero decide_true decide_false Bool.true_and Bool.and_true Bool.false_and Bool.and_false Bool.true_or Bool.or_true Bool.false_or Bool.or_false beq_self_eq_true Bool.or_self Nat.lt_irrefl Nat.not_lt_zero Nat.le_refl Option.getD_some Option.getD_none BEq.rfl Bool.not_true Bool.not_false Bool.cond_true_left Bool.cond_false_right prS sndsS i64S nav_ins nav_ins0 nav_ins1 nav_ins2 nav_ins3 nav_ins4 nav_snd nav_snd0 nav_snd1 nav_snd2 isIns_insS insOf_insS isSnd_sndS sndOf_sndS isI_int isI_nat iOf
section
namespace Go.Proofs.Ytjliakjbdcplcaa.Vm
open Go.RowKit
set_option linter.unusedVariables false
set_option linter.unusedSimpArgs false
set_option maxRecDepth 100000
set_option maxHeartbeats 4000000
def pcR (id dr sq : Int) (n1 n2 n3 i c q : Nat) : SV := .agg [.int .i64 id, .sl i i [] 5 0 n1 none, .sl c c [] 1 0 n2 none, .int .i64 dr, .int .i64 sq, .sl q q [] 1 0 n3 none]
structure PcI where
  id : Int
  dr : Int
  sq : Int
  n1 : Nat
  n2 : Nat
  n3 : Nat
  i : Nat
  c : Nat
  q : Nat
def PcI.v (y : PcI) : SV := pcR y.id y.dr y.sq y.n1 y.n2 y.n3 y.i y.c y.q
def PcI.at_ (y : PcI) (i c q : Nat) : SV := pcR y.id y.dr y.sq y.n1 y.n2 y.n3 i c q
end Go.Proofs.Ytjliakjbdcplcaa.Vm
end

section
namespace Go.Proofs.Ytjliakjbdcplcaa.Vm
open Go.RowKit
set_option linter.unusedVariables false
set_option linter.unusedSimpArgs false
theorem mPorts_no {l : List Int} (h : ∀ x ∈ l, 0 ≤ x) : (mPorts l).any noPort = false := by
  rw [List.any_eq_false]
  intro x hx
  obtain ⟨y, hy, rfl⟩ := List.mem_map.1 hx
  have a := Int.tmod_nonneg 17 (h y hy)
  have b := Int.tmod_lt_of_pos y (show (0 : Int) < 17 by decide)
  unfold noPort isB
  by_cases h0 : y.tmod 17 = 0
  · simp [h0]
  · have e : decide (1 ≤ y.tmod 17 ∧ y.tmod 17 ≤ 16) = true := decide_eq_true (by omega)
    rw [e]; simp
theorem made28_proc (xs : List Ins) {id ahead fuel sq d seed : Int} {cs ps : List Int} (hid : 0 ≤ id) (hah : 0 ≤ ahead) (hf : 0 ≤ fuel) (hsq : 0 ≤ sq ∧ sq ≤ 65535) (hd : 0 ≤ d ∧ d ≤ 4294967295) (hps : ∀ q, 0 ≤ ps.getD q 0 ∧ ps.getD q 0 ≤ 255) :
    procE ⟨seed, 1 + ahead.tmod 5, fuel.tmod 300⟩ ⟨1 + id.tmod 16, made14 xs, cs.take 12, d, sq, mPorts (ps.take 16)⟩ = 0 := by
  have y0 := Int.tmod_nonneg 16 hid
  have y1 := Int.tmod_lt_of_pos id (show (0 : Int) < 16 by decide)
  have y2 := Int.tmod_nonneg 5 hah
  have y3 := Int.tmod_lt_of_pos ahead (show (0 : Int) < 5 by decide)
  have y4 := Int.tmod_nonneg 300 hf
  have y5 := Int.tmod_lt_of_pos fuel (show (0 : Int) < 300 by decide)
  have hr : (⟨seed, 1 + ahead.tmod 5, fuel.tmod 300⟩ : Rul).rightB = true := decide_eq_true (by dsimp only; omega)
  have hp : (⟨1 + id.tmod 16, made14 xs, cs.take 12, d, sq, mPorts (ps.take 16)⟩ : Prc).rightB = true := by
    refine rightB_iff.2 ⟨made14_right xs, by dsimp only; omega, by rw [List.length_take]; omega, hd.1, by dsimp only; omega, hsq.1, by dsimp only; omega, by simp [mPorts]; omega, mPorts_no fun x hx => ?_⟩
    obtain ⟨i, hi, rfl⟩ := List.mem_iff_getElem.1 (List.mem_of_mem_take hx)
    have := (hps i).1
    rwa [List.getD_eq_getElem?_getD, List.getElem?_eq_getElem hi] at this
  unfold procE
  rw [if_neg (by rw [hr]; exact Bool.noConfusion), if_neg (by rw [hp]; exact Bool.noConfusion)]
end Go.Proofs.Ytjliakjbdcplcaa.Vm
end

section
namespace Go.Proofs.Ytjliakjbdcplcaa.Vm
open Go.RowKit
set_option linter.unusedVariables false
set_option linter.unusedSimpArgs false
theorem badAt_congr {p : Prc} {l m : List Evt} {q : Nat} (h : m.getD q ⟨0, 0, 0, 0, 0⟩ = l.getD q ⟨0, 0, 0, 0, 0⟩) (h' : 0 < q → m.getD (q - 1) ⟨0, 0, 0, 0, 0⟩ = l.getD (q - 1) ⟨0, 0, 0, 0, 0⟩) : badAt p m q = badAt p l q := by
  unfold badAt
  rw [h]
  by_cases h0 : 0 < q
  · rw [h' h0]
  · simp [h0]
theorem badAt_takes' {p : Prc} {l : List Evt} {q : Nat} (h : takesB p (l.getD q ⟨0, 0, 0, 0, 0⟩) = false) : badAt p l q = 282 := by
  unfold badAt; rw [if_pos h]
theorem kcE_self (e : Evt) : (kcE e e).1 = 0 := by simp [kcE, kcmp, icmp]
theorem set_getD {α : Type} {l : List α} {k q : Nat} {x d : α} (h : q ≠ k) : (l.set k x).getD q d = l.getD q d := by
  rw [List.getD_eq_getElem?_getD, List.getD_eq_getElem?_getD, List.getElem?_set_ne (fun e => h e.symm)]
theorem set_getD_self {α : Type} {l : List α} {k : Nat} {x d : α} (h : k < l.length) : (l.set k x).getD k d = x := by
  rw [List.getD_eq_getElem?_getD, List.getElem?_set_self h]; rfl
theorem bad_set {p : Prc} {l : List Evt} {k : Nat} {x : Evt} (hk : k < l.length) (hB : ∀ q, q < l.length → badAt p l q = 0) (hx : takesB p x = false) : (∀ q, q < k → badAt p (l.set k x) q = 0) ∧ badAt p (l.set k x) k = 282 := by
  refine ⟨fun q hq => ?_, badAt_takes' (by rw [set_getD_self hk]; exact hx)⟩
  rw [badAt_congr (l := l) (set_getD (by omega)) (fun h => set_getD (by omega))]
  exact hB q (by omega)
theorem bad_twice {p : Prc} {l : List Evt} {k : Nat} (hk : k < l.length) (hB : ∀ q, q < l.length → badAt p l q = 0) : (∀ q, q < k + 1 → badAt p (l.take (k + 1) ++ l.drop k) q = 0) ∧ badAt p (l.take (k + 1) ++ l.drop k) (k + 1) = 283 := by
  have ht : (l.take (k + 1)).length = k + 1 := by rw [List.length_take]; omega
  have g : ∀ q, q < k + 1 → (l.take (k + 1) ++ l.drop k).getD q ⟨0, 0, 0, 0, 0⟩ = l.getD q ⟨0, 0, 0, 0, 0⟩ := fun q hq => by
    rw [getD_app_lt (by omega), List.getD_eq_getElem?_getD, List.getD_eq_getElem?_getD, List.getElem?_take_of_lt hq]
  have g2 : (l.take (k + 1) ++ l.drop k).getD (k + 1) ⟨0, 0, 0, 0, 0⟩ = l.getD k ⟨0, 0, 0, 0, 0⟩ := by
    rw [List.getD_eq_getElem?_getD, List.getElem?_append_right (by omega), ht, Nat.sub_self, List.getElem?_drop, Nat.add_zero, List.getD_eq_getElem?_getD]
  refine ⟨fun q hq => ?_, ?_⟩
  · rw [badAt_congr (l := l) (g q hq) (fun h => g (q - 1) (by omega))]
    exact hB q (by omega)
  · unfold badAt
    rw [g2, show k + 1 - 1 = k from rfl, g k (by omega), kcE_self]
    have := badAt_takes (hB k hk)
    rw [if_neg (by rw [this]; exact Bool.noConfusion), if_pos ⟨by omega, Int.le_refl 0⟩]
theorem bad_cons {p : Prc} {l : List Evt} {id : Int} (hid : p.id = id) (hB : ∀ q, q < l.length → badAt p l q = 0) (ht : ∀ q, q < l.length → 1 ≤ (l.getD q ⟨0, 0, 0, 0, 0⟩).time) : ∀ q, q < (⟨0, 0, 0, id, 0⟩ :: l : List Evt).length → badAt p (⟨0, 0, 0, id, 0⟩ :: l) q = 0 := by
  intro q hq
  match q, hq with
  | 0, _ =>
    unfold badAt
    have : takesB p ⟨0, 0, 0, id, 0⟩ = true := by unfold takesB keyB; simp [hid]
    rw [show (⟨0, 0, 0, id, 0⟩ :: l : List Evt).getD 0 ⟨0, 0, 0, 0, 0⟩ = ⟨0, 0, 0, id, 0⟩ from rfl, if_neg (by rw [this]; exact Bool.noConfusion), if_neg (fun h => absurd h.1 (Nat.lt_irrefl 0))]
  | 1, hq =>
    have h1 : 0 < l.length := by simpa using hq
    have t := badAt_takes (hB 0 h1)
    have t1 := ht 0 h1
    unfold badAt
    rw [show (⟨0, 0, 0, id, 0⟩ :: l : List Evt).getD 1 ⟨0, 0, 0, 0, 0⟩ = l.getD 0 ⟨0, 0, 0, 0, 0⟩ from rfl, if_neg (by rw [t]; exact Bool.noConfusion), if_neg]
    rintro ⟨_, h⟩
    have e : (kcE ((⟨0, 0, 0, id, 0⟩ :: l : List Evt).getD (1 - 1) ⟨0, 0, 0, 0, 0⟩) (l.getD 0 ⟨0, 0, 0, 0, 0⟩)).1 = -1 := kcmp_lt (.inl (by show (0 : Int) < _; omega))
    omega
  | q + 2, hq =>
    have h1 : q + 1 < l.length := by simp at hq; omega
    have := hB (q + 1) h1
    have c : (0 < q + 2) ↔ (0 < q + 1) := by omega
    unfold badAt at this ⊢
    rw [show (⟨0, 0, 0, id, 0⟩ :: l : List Evt).getD (q + 2) ⟨0, 0, 0, 0, 0⟩ = l.getD (q + 1) ⟨0, 0, 0, 0, 0⟩ from rfl, show (⟨0, 0, 0, id, 0⟩ :: l : List Evt).getD (q + 2 - 1) ⟨0, 0, 0, 0, 0⟩ = l.getD (q + 1 - 1) ⟨0, 0, 0, 0, 0⟩ from rfl]
    simp only [c]
    exact this
theorem mEv_time {p : Prc} {l : List ESm} (hl : l.length ≤ 200) (hok : ∀ e ∈ l, e.ok) : ∀ q, q < (mEv p.id l).2.length → 1 ≤ ((mEv p.id l).2.getD q ⟨0, 0, 0, 0, 0⟩).time := by
  have h := mi_all (id := p.id) hl hok l.length (Nat.le_refl _)
  rw [List.take_length] at h
  exact fun q hq => (h.b q (by rw [h.n] at hq; exact hq)).1.2.2.1
theorem procE_rules {r : Rul} {p : Prc} (h : r.rightB = false) : procE r p = 280 := by unfold procE; rw [if_pos h]
theorem procE_proc {r : Rul} {p : Prc} (hr : r.rightB = true) (h : p.rightB = false) : procE r p = 281 := by
  unfold procE; rw [if_neg (by rw [hr]; exact Bool.noConfusion), if_pos h]
theorem rightB_not {p : Prc} (h : ¬ ((checkI p.P).2 = 0 ∧ (1 ≤ p.id ∧ p.id ≤ 16) ∧ p.cells.length ≤ 1024 ∧ 0 ≤ p.draws ∧ p.draws ≤ 1099511627776 ∧ 0 ≤ p.seq ∧ p.seq ≤ 4294967296 ∧ p.ports.length ≤ 16 ∧ p.ports.any noPort = false)) : p.rightB = false := by
  cases e : p.rightB
  · rfl
  · exact absurd (rightB_iff.1 e) h
theorem port17 (l : List Int) : (l ++ [17]).any noPort = true := by simp [noPort, isB]
theorem takes_to {p : Prc} {e : Evt} (h : e.to_ ≠ p.id) : takesB p e = false := by unfold takesB; simp [h]
theorem takes_seq {p : Prc} {e : Evt} (h : e.seq < 0) : takesB p e = false := by
  unfold takesB keyB
  have : decide (0 ≤ e.time ∧ e.time ≤ 281474976710656 ∧ 0 ≤ e.source ∧ e.source ≤ 16 ∧ 0 ≤ e.seq ∧ e.seq ≤ 4294967295) = false := decide_eq_false (by omega)
  rw [this]; rfl
end Go.Proofs.Ytjliakjbdcplcaa.Vm
end

section
namespace Go.Proofs.Ytjliakjbdcplcaa.Vm
open Go.RowKit
attribute [local push_cast] runR opG gtmp gval gus opX tmpsOf tm tmO tmP restr look look2 tab tys zs ets eqB eqBL allB numOf ieq Int.cast_ofNat_Int Int.ofNat_zero beq_true beq_false frameOf ev evL ofV opV loadV noW pushF wrsL setH allBorn allGone HB.born HB.isGone HB.val SV.plain dstOk hp nav fitsT SV.size sizeL SV.isAgg TK.size TK.agg bin binE binN binI arN arI cmpN cmpI keq kn narrow callV storeV setp fillV buildV buildSliceV makeV sliceV appendV appendFV slice3V copyV List.isEmpty_nil srcV evO asN ite_t ite_f ite_bool ite_int ite_nat maxV v_beq v_ble v_blt cond_true cond_false List.getElem?_cons_zero List.getElem?_cons_succ List.getD_cons_zero List.getD_cons_succ List.getD_nil List.length_cons List.length_nil List.take_succ_cons List.take_zero List.set_cons_zero List.set_cons_succ List.cons_append List.nil_append List.append_assoc List.replicate_succ List.replicate_zero Nat.zero_add Nat.add_zero decide_true decide_false Bool.true_and Bool.and_true Bool.false_and Bool.and_false Bool.true_or Bool.or_true Bool.false_or Bool.or_false beq_self_eq_true Bool.or_self Nat.lt_irrefl Nat.not_lt_zero Nat.le_refl Option.getD_some Option.getD_none BEq.rfl Bool.not_true Bool.not_false Bool.cond_true_left Bool.cond_false_right
set_option linter.unusedVariables false
set_option linter.unusedSimpArgs false
set_option maxRecDepth 100000
set_option maxHeartbeats 4000000
theorem smEvt_lit (xs ys : List Evt) (p1 p2 : Nat) (hx : xs.length ≤ 281474976710656) : LitOk Try.prog 88 [.sl 1 2 [] 5 0 xs.length (some p1), .sl 3 4 [] 5 0 ys.length (some p2)] [.gone, .gone, .ro (.arr xs.length 5 (evtsS xs)), .gone, .ro (.arr ys.length 5 (evtsS ys))] (.bool (eqL xs ys)) [.gone] := by
  refine litOkM (fn := Try.f88) 5 26 0 rfl rfl rfl rfl rfl (by simp only [StableL, Stable, hp]; simp [HB.born]) rfl fun w0 M E hro => ?_
  repeat' (first | refine Ctl.h ?_ | ((with_reducible intro hif); first | (focus (cases hif; done)) | (simp only [JH] at hif; try (exfalso; omega)) | (try (exfalso; omega))) | ((first | ((with_reducible apply J22 c1_ok tab_ok); (· rfl)) | ((with_reducible apply J23 fol c1_ok tab_ok); (· rfl)) | with_reducible apply J24); (· exact Vm.b14); (try kernel_rfl); (try exact Vm.b13)) | fail)
  · have hne : xs ≠ ys := fun e => hif (by rw [e])
    apply At.endsRet tab_ok (fn := Try.f88) (rs := [.tmp 4]) Anc.refl hro (Nat.le_of_ble_eq_true rfl) rfl
    · exact Vm.b6
    · exact Vm.b7
    · exact Vm.b8
    · rfl
    · exact Vm.b26
    · exact Vm.b10
    · rw [eqL_false hne]; exact fun β => rfl
    · exact Vm.b26
  · refine WF.loopAt (fun j => j ≤ xs.length ∧ ∀ q, q < j → xs.getD q ⟨0, 0, 0, 0, 0⟩ = ys.getD q ⟨0, 0, 0, 0, 0⟩) (fun j => [(0, .sl 1 2 [] 5 0 xs.length (some p1)), (1, .sl 3 4 [] 5 0 ys.length (some p2)), (12, .nat .i64 xs.length), (13, .nat .i64 j)]) (fun j => [.gone, .gone, .ro (.arr xs.length 5 (evtsS xs)), .gone, .ro (.arr ys.length 5 (evtsS ys))]) (fun j => xs.length - j) 0 ⟨Nat.zero_le _, fun q hq => absurd hq (Nat.not_lt_zero q)⟩ ?_ ?_ rfl ?_ ?_ rfl ?_
    · exact Vm.b11
    · exact Vm.b8
    · exact Vm.b26
    · exact Vm.b26
    have hlen := hif
    rintro j ⟨hj, heq⟩
    repeat' (first | refine Ctl.h ?_ | ((with_reducible intro hif); first | (focus (cases hif; done)) | (simp only [JH] at hif; try (exfalso; omega)) | (try (exfalso; omega))) | ((first | ((with_reducible apply J22 c1_ok tab_ok); (· rfl)) | ((with_reducible apply J23 fol c1_ok tab_ok); (· rfl)) | with_reducible apply J24); (· exact Vm.b78); (try kernel_rfl); (try exact Vm.b15)) | fail)
    · have hne : xs ≠ ys := by rintro rfl; simp at hif
      apply At.endsRet tab_ok (fn := Try.f88) (rs := [.tmp 4]) Anc.refl hro (Nat.le_of_ble_eq_true rfl) rfl
      · exact Vm.b6
      · exact Vm.b7
      · exact Vm.b8
      · rfl
      · exact Vm.b26
      · exact Vm.b10
      · rw [eqL_false hne]; exact fun β => rfl
      · exact Vm.b26
    · have hq : xs.getD j ⟨0, 0, 0, 0, 0⟩ = ys.getD j ⟨0, 0, 0, 0, 0⟩ := evt_ext (of_decide_eq_true hif.1.1) (of_decide_eq_true hif.1.2.1) (of_decide_eq_true hif.1.2.2) (of_decide_eq_true hif.2.1) (of_decide_eq_true hif.2.2)
      refine At.next (j + 1) ?_ ?_ ?_ rfl ?_ ?_ rfl
      · exact Vm.b12
      · exact Vm.b11
      · exact Vm.b8
      · exact Vm.b26
      · exact Vm.b26
    · have hjn : j = xs.length := by omega
      subst hjn
      have he : xs = ys := ext_getD ⟨0, 0, 0, 0, 0⟩ hlen heq
      apply At.endsRet tab_ok (fn := Try.f88) (rs := [.tmp 4]) Anc.refl hro (Nat.le_of_ble_eq_true rfl) rfl
      · exact Vm.b6
      · exact Vm.b7
      · exact Vm.b8
      · rfl
      · exact Vm.b26
      · exact Vm.b10
      · rw [eqL_true he]; exact fun β => rfl
      · exact Vm.b26
def sSmEvt : Spec := fun args h m => match args with
  | [v1, v2] => match srcV h 5 (.tup []) v1, srcV h 5 (.tup []) v2 with
    | some (c1, n1, f1, r1), some (c2, n2, f2, r2) => some (c1 ∧ c2 ∧ (∀ q, q < n1 → isEvt (f1 q) = true) ∧ (∀ q, q < n2 → isEvt (f2 q) = true) ∧ ((ls evtOf n1 f1).length ≤ 281474976710656), .bool (eqL (ls evtOf n1 f1) (ls evtOf n2 f2)), r1 ++ r2, [])
    | _, _ => none
  | _ => none
theorem sSmEvt_ok : CallOk Try.prog 88 sSmEvt := by
  refine ⟨named_spec (by kernel_rfl), fun args h m c v rd wr hs hm hc w0 M β h' w R hrd hwr hst => ?_⟩
  unfold sSmEvt at hs
  split at hs
  · rename_i v1 v2
    split at hs
    · rename_i c1 n1 f1 r1 c2 n2 f2 r2 a1 a2
      simp only [Option.some.injEq, Prod.mk.injEq] at hs
      obtain ⟨rfl, rfl, rfl, rfl⟩ := hs
      obtain ⟨k1, k2, g1, g2, y1⟩ := hc
      obtain ⟨A1, p1, d1, e1, t1⟩ := reads_src R a1 k1 (fun i hi => hrd i (List.mem_append_left _ hi)) (by omega)
      obtain ⟨A2, p2, d2, e2, t2⟩ := reads_src R a2 k2 (fun i hi => hrd i (List.mem_append_right _ hi)) (by omega)
      refine callRo (views := [⟨5, (ls evtOf n1 f1).length, evtsS (ls evtOf n1 f1), A1, p1⟩, ⟨5, (ls evtOf n2 f2).length, evtsS (ls evtOf n2 f2), A2, p2⟩]) (smEvt_lit (ls evtOf n1 f1) (ls evtOf n2 f2) p1 p2 y1) ?_ R hm hwr ?_ ?_ ?_
      · intro x hx
        simp only [List.mem_cons, List.not_mem_nil, or_false] at hx
        rcases hx with rfl | rfl
        · exact viewEvt t1 e1 g1
        · exact viewEvt t2 e2 g2
      · intro β1 hv
        simp only [Vd, ls_length, and_true] at hv
        obtain ⟨z1, z2⟩ := hv
        simp only [denL, aggDen, intDen, natDen, boolDen, ls_length, z1, z2, d1, d2]
      · exact Vm.b26
      · exact Vm.b26
    · cases hs
  · cases hs
end Go.Proofs.Ytjliakjbdcplcaa.Vm
end

section
namespace Go.Proofs.Ytjliakjbdcplcaa.Vm
open Go.RowKit
set_option linter.unusedVariables false
set_option linter.unusedSimpArgs false
set_option maxRecDepth 100000
set_option maxHeartbeats 4000000
def sAllC : Spec := fun args h m => match args with
  | [.agg [v1, v2, v3], .agg [v4, v5, v6, v7, v8, v9], v10] => match srcV h 5 (.tup []) v5, srcV h 1 (.tup []) v6, srcV h 1 (.tup []) v9, srcV h 5 (.tup []) v10 with
    | some (c5, n5, f5, r5), some (c6, n6, f6, r6), some (c9, n9, f9, r9), some (c10, n10, f10, r10) => bif isI .u64 v1 && isI .i64 v2 && isI .i64 v3 && isI .i64 v4 && isI .i64 v7 && isI .i64 v8 then some (c5 ∧ c6 ∧ c9 ∧ c10 ∧ (∀ q, q < n5 → isIns (f5 q) = true) ∧ (∀ q, q < n6 → isI .i64 (f6 q) = true) ∧ (∀ q, q < n9 → isI .i64 (f9 q) = true) ∧ (∀ q, q < n10 → isEvt (f10 q) = true) ∧ ((∀ x ∈ (ls insOf n5 f5), x.ok)) ∧ (n5 ≤ 1000000) ∧ (n6 ≤ 1000000) ∧ (n9 ≤ 1000000) ∧ (n10 ≤ 200) ∧ (procE ⟨(iOf v1), (iOf v2), (iOf v3)⟩ ⟨(iOf v4), (ls insOf n5 f5), (ls iOf n6 f6), (iOf v7), (iOf v8), (ls iOf n9 f9)⟩ ≠ 0), .tup [dn0, .int .i64 (-1), .int .i64 (procE ⟨(iOf v1), (iOf v2), (iOf v3)⟩ ⟨(iOf v4), (ls insOf n5 f5), (ls iOf n6 f6), (iOf v7), (iOf v8), (ls iOf n9 f9)⟩)], r5 ++ r6 ++ r9 ++ r10, []) else none
    | _, _, _, _ => none
  | _ => none
theorem sAllC_ok : CallOk Try.prog 32 sAllC := by
  refine ⟨named_spec (by kernel_rfl), fun args h m c v rd wr hs hm hc w0 M β h' w R hrd hwr hst => ?_⟩
  unfold sAllC at hs
  split at hs
  · rename_i v1 v2 v3 v4 v5 v6 v7 v8 v9 v10
    split at hs
    · rename_i c5 n5 f5 r5 c6 n6 f6 r6 c9 n9 f9 r9 c10 n10 f10 r10 a5 a6 a9 a10
      obtain ⟨hb, hs⟩ := bif_some hs
      simp only [Option.some.injEq, Prod.mk.injEq] at hs
      obtain ⟨rfl, rfl, rfl, rfl⟩ := hs
      simp only [Bool.and_eq_true] at hb
      obtain ⟨⟨⟨⟨⟨b1, b2⟩, b3⟩, b4⟩, b7⟩, b8⟩ := hb
      obtain ⟨k5, k6, k9, k10, g5, g6, g9, g10, y1, y2, y3, y4, y5, y6⟩ := hc
      obtain ⟨A5, p5, d5, e5, t5⟩ := reads_src R a5 k5 (fun i hi => hrd i (List.mem_append_left _ (List.mem_append_left _ (List.mem_append_left _ hi)))) (by omega)
      obtain ⟨A6, p6, d6, e6, t6⟩ := reads_src R a6 k6 (fun i hi => hrd i (List.mem_append_left _ (List.mem_append_left _ (List.mem_append_right _ hi)))) (by omega)
      obtain ⟨A9, p9, d9, e9, t9⟩ := reads_src R a9 k9 (fun i hi => hrd i (List.mem_append_left _ (List.mem_append_right _ hi))) (by omega)
      obtain ⟨A10, p10, d10, e10, t10⟩ := reads_src R a10 k10 (fun i hi => hrd i (List.mem_append_right _ hi)) (by omega)
      refine callRo (views := [⟨5, (ls insOf n5 f5).length, prS (ls insOf n5 f5), A5, p5⟩, ⟨1, (ls iOf n6 f6).length, i64S (ls iOf n6 f6), A6, p6⟩, ⟨1, (ls iOf n9 f9).length, i64S (ls iOf n9 f9), A9, p9⟩, ⟨5, (ls evtOf n10 f10).length, evtsS (ls evtOf n10 f10), A10, p10⟩]) (all_chk ⟨(iOf v1), (iOf v2), (iOf v3)⟩ ⟨(iOf v4), (ls insOf n5 f5), (ls iOf n6 f6), (iOf v7), (iOf v8), (ls iOf n9 f9)⟩ (ls evtOf n10 f10) p5 p6 p9 p10 y1 (by rw [ls_length]; exact y2) (by rw [ls_length]; exact y3) (by rw [ls_length]; exact y4) (by rw [ls_length]; exact y5) y6) ?_ R hm hwr ?_ ?_ ?_
      · intro x hx
        simp only [List.mem_cons, List.not_mem_nil, or_false] at hx
        rcases hx with rfl | rfl | rfl | rfl
        · exact viewIns t5 e5 g5
        · exact viewI64 t6 e6 g6
        · exact viewI64 t9 e9 g9
        · exact viewEvt t10 e10 g10
      · intro β1 hv
        simp only [Vd, ls_length, and_true] at hv
        obtain ⟨z5, z6, z9, z10⟩ := hv
        simp only [denL, aggDen, intDen, natDen, boolDen, ls_length, z5, z6, z9, z10, d5, d6, d9, d10, isI_den b1, isI_den b2, isI_den b3, isI_den b4, isI_den b7, isI_den b8]
      · exact Vm.b102
      · exact Vm.b102
    · cases hs
  · cases hs
def sAllB (i : Nat) : Spec := fun args h m => match args with
  | [.agg [v1, v2, v3], .agg [v4, v5, v6, v7, v8, v9], v10] => match srcV h 5 (.tup []) v5, srcV h 1 (.tup []) v6, srcV h 1 (.tup []) v9, srcV h 5 (.tup []) v10 with
    | some (c5, n5, f5, r5), some (c6, n6, f6, r6), some (c9, n9, f9, r9), some (c10, n10, f10, r10) => bif isI .u64 v1 && isI .i64 v2 && isI .i64 v3 && isI .i64 v4 && isI .i64 v7 && isI .i64 v8 then some (c5 ∧ c6 ∧ c9 ∧ c10 ∧ (∀ q, q < n5 → isIns (f5 q) = true) ∧ (∀ q, q < n6 → isI .i64 (f6 q) = true) ∧ (∀ q, q < n9 → isI .i64 (f9 q) = true) ∧ (∀ q, q < n10 → isEvt (f10 q) = true) ∧ ((∀ x ∈ (ls insOf n5 f5), x.ok)) ∧ (n5 ≤ 1000000) ∧ (n6 ≤ 1000000) ∧ (n9 ≤ 1000000) ∧ (n10 ≤ 200) ∧ (i < (ls evtOf n10 f10).length) ∧ (procE ⟨(iOf v1), (iOf v2), (iOf v3)⟩ ⟨(iOf v4), (ls insOf n5 f5), (ls iOf n6 f6), (iOf v7), (iOf v8), (ls iOf n9 f9)⟩ = 0) ∧ ((∀ q, q < i → badAt ⟨(iOf v4), (ls insOf n5 f5), (ls iOf n6 f6), (iOf v7), (iOf v8), (ls iOf n9 f9)⟩ (ls evtOf n10 f10) q = 0)) ∧ (badAt ⟨(iOf v4), (ls insOf n5 f5), (ls iOf n6 f6), (iOf v7), (iOf v8), (ls iOf n9 f9)⟩ (ls evtOf n10 f10) i ≠ 0), .tup [dn0, .nat .i64 i, .int .i64 (badAt ⟨(iOf v4), (ls insOf n5 f5), (ls iOf n6 f6), (iOf v7), (iOf v8), (ls iOf n9 f9)⟩ (ls evtOf n10 f10) i)], r5 ++ r6 ++ r9 ++ r10, []) else none
    | _, _, _, _ => none
  | _ => none
theorem sAllB_ok (i : Nat) : CallOk Try.prog 32 (sAllB i) := by
  refine ⟨named_spec (by kernel_rfl), fun args h m c v rd wr hs hm hc w0 M β h' w R hrd hwr hst => ?_⟩
  unfold sAllB at hs
  split at hs
  · rename_i v1 v2 v3 v4 v5 v6 v7 v8 v9 v10
    split at hs
    · rename_i c5 n5 f5 r5 c6 n6 f6 r6 c9 n9 f9 r9 c10 n10 f10 r10 a5 a6 a9 a10
      obtain ⟨hb, hs⟩ := bif_some hs
      simp only [Option.some.injEq, Prod.mk.injEq] at hs
      obtain ⟨rfl, rfl, rfl, rfl⟩ := hs
      simp only [Bool.and_eq_true] at hb
      obtain ⟨⟨⟨⟨⟨b1, b2⟩, b3⟩, b4⟩, b7⟩, b8⟩ := hb
      obtain ⟨k5, k6, k9, k10, g5, g6, g9, g10, y1, y2, y3, y4, y5, y6, y7, y8, y9⟩ := hc
      obtain ⟨A5, p5, d5, e5, t5⟩ := reads_src R a5 k5 (fun i hi => hrd i (List.mem_append_left _ (List.mem_append_left _ (List.mem_append_left _ hi)))) (by omega)
      obtain ⟨A6, p6, d6, e6, t6⟩ := reads_src R a6 k6 (fun i hi => hrd i (List.mem_append_left _ (List.mem_append_left _ (List.mem_append_right _ hi)))) (by omega)
      obtain ⟨A9, p9, d9, e9, t9⟩ := reads_src R a9 k9 (fun i hi => hrd i (List.mem_append_left _ (List.mem_append_right _ hi))) (by omega)
      obtain ⟨A10, p10, d10, e10, t10⟩ := reads_src R a10 k10 (fun i hi => hrd i (List.mem_append_right _ hi)) (by omega)
      refine callRo (views := [⟨5, (ls insOf n5 f5).length, prS (ls insOf n5 f5), A5, p5⟩, ⟨1, (ls iOf n6 f6).length, i64S (ls iOf n6 f6), A6, p6⟩, ⟨1, (ls iOf n9 f9).length, i64S (ls iOf n9 f9), A9, p9⟩, ⟨5, (ls evtOf n10 f10).length, evtsS (ls evtOf n10 f10), A10, p10⟩]) (all_bad ⟨(iOf v1), (iOf v2), (iOf v3)⟩ ⟨(iOf v4), (ls insOf n5 f5), (ls iOf n6 f6), (iOf v7), (iOf v8), (ls iOf n9 f9)⟩ (ls evtOf n10 f10) p5 p6 p9 p10 y1 (by rw [ls_length]; exact y2) (by rw [ls_length]; exact y3) (by rw [ls_length]; exact y4) (by rw [ls_length]; exact y5) i y6 y7 y8 y9) ?_ R hm hwr ?_ ?_ ?_
      · intro x hx
        simp only [List.mem_cons, List.not_mem_nil, or_false] at hx
        rcases hx with rfl | rfl | rfl | rfl
        · exact viewIns t5 e5 g5
        · exact viewI64 t6 e6 g6
        · exact viewI64 t9 e9 g9
        · exact viewEvt t10 e10 g10
      · intro β1 hv
        simp only [Vd, ls_length, and_true] at hv
        obtain ⟨z5, z6, z9, z10⟩ := hv
        simp only [denL, aggDen, intDen, natDen, boolDen, ls_length, z5, z6, z9, z10, d5, d6, d9, d10, isI_den b1, isI_den b2, isI_den b3, isI_den b4, isI_den b7, isI_den b8]
      · exact Vm.b102
      · exact Vm.b102
    · cases hs
  · cases hs
def cNw28 : FuncId → Option Spec := look2 [(43, sClI), (61, sClN), (62, sPRight)]
theorem cNw28_ok : ∀ f S, cNw28 f = some S → CallOk Try.prog f S := allOk_spec ⟨sClI_ok, sClN_ok, sPRight_ok, trivial⟩
def newP (id : Int) (P : List Ins) (c : Nat) (ps : List Int) : Prc := ⟨id, P, List.replicate c 0, 0, 0, ps⟩
def pc0 : SV := .agg [.nat .i64 0, .sl 0 0 [] 0 0 0 (some 0), .sl 0 0 [] 0 0 0 (some 0), .nat .i64 0, .nat .i64 0, .sl 0 0 [] 0 0 0 (some 0)]
theorem ls_zero_rep (n : Nat) : ls iOf n (fun _ => SV.nat .i64 0) = List.replicate n 0 := by
  unfold ls
  simp [iOf, List.map_const']
theorem less_rep {t n : Nat} {σ : Nat → Nat} : Less (.own t (.arr n 1 fun _ => .nat .i64 0) false) ((HB.own t (.arr (List.replicate n (0 : Int)).length 1 (i64S (List.replicate n 0))) false).ren σ) := by
  rw [List.length_replicate]
  have e : (HB.own t (.arr n 1 (i64S (List.replicate n 0))) false).ren σ = .own t (.arr n 1 (i64S (List.replicate n 0))) false := rfl
  rw [e]
  exact .val (fun β => arrCl fun q hq => by
      unfold i64S
      rw [List.getD_eq_getElem?_getD, List.getElem?_eq_getElem (by simpa using hq)]
      simp; rfl) (fun n1 k1 f1 e => by injection e with e1 e2 e3; subst e1 e2; exact ⟨_, rfl⟩) (fun n1 k1 f1 e => by injection e with e1 e2 e3; subst e1 e2; exact ⟨_, rfl⟩)
theorem new_ok (id : Int) (c : Nat) (P : List Ins) (ps : List Int) (p1 p2 : Nat) (hok : ∀ x ∈ P, x.ok) (hn : P.length ≤ 1000000) (hpo : ps.length ≤ 1000000) (c1 : c ≤ 1024) (hr : (newP id P c ps).rightB = true) : LitOk Try.prog 34 [.int .i64 id, .sl 1 2 [] 5 0 P.length (some p1), .nat .i64 c, .sl 3 4 [] 1 0 ps.length (some p2)] [.gone, .gone, .ro (.arr P.length 5 (prS P)), .gone, .ro (.arr ps.length 1 (i64S ps))] (.tup [pcS (newP id P c ps) 5 6 7, .int .i64 0]) [.gone, .gone, .gone, .gone, .gone, prO P, i64O (newP id P c ps).cells, inO ps] := by
  have h2 : ¬ 1024 < c := by omega
  have hr' : Prc.rightB ⟨id, P, List.replicate c 0, 0, 0, ps⟩ = true := hr
  refine litOkM (fn := Try.f34) 5 31 0 rfl rfl rfl rfl rfl (by simp only [StableL, Stable, hp, pcS, dnB, DnI.at_, dnS, dnR, i64S, prS, insS, sndsS, sndS, evtsS, evtS, prO, i64O, inO, evO_, cB, sB, HB.stable]; simp [HB.born]) rfl fun w0 M E hro => ?_
  repeat' (first | refine Ctl.h ?_ | ((with_reducible intro hif); first | (focus (cases hif; done)) | (simp only [JH] at hif; try (exfalso; omega)) | (try (exfalso; omega))) | ((first | ((with_reducible apply J22 cNw28_ok tab_ok); (· rfl)) | ((with_reducible apply J23 fol cNw28_ok tab_ok); (· rfl)) | with_reducible apply J24); (· (simp only [push_cast, ↓JP, Nat.reduceAdd, Nat.reduceEqDiff, Nat.reduceLT, Nat.reduceMul, Nat.reduceLeDiff, reduceCtorEq, reduceIte, ↓JK, JE, prc_eta, cNw28, sClI, sClN, sPRight, inR, inN, ls_zero_rep, prO, i64O, inO, pc0, h2, hr']; rfl)); (try kernel_rfl); (try (focus (first | exact True.intro | ((try simp only [JS, implies_true, forall_const, shaped, shapedL, kndOf, ls_prS, ls_prS', ls_i64S', ls_i64S, ls_length, prc_eta, iOf]); (repeat' (first | exact True.intro | assumption | omega | apply And.intro | rfl | decide | intro _)); done) | ((try simp only [JS, implies_true, forall_const, shaped, shapedL, kndOf, inR, inN]); (repeat' (first | assumption | exact True.intro | omega | apply And.intro)); done))))) | fail)
  refine At.put 7 (.own 2 (.arr c 1 fun _ => .nat .i64 0) false) .loose (fun q => trivial) rfl rfl ?_
  simp only [setH]
  apply At.endsPick [0, 1, 2, 3, 4, 6, 7, 8] tab_ok (fn := Try.f34) (rs := [.cell 8 82, .tmp 9]) Anc.refl hro (Nat.le_of_ble_eq_true rfl) rfl
  · exact Vm.b18
  · exact Vm.b24
  · rfl
  · rfl
  · rfl
  · (repeat' (first | exact trivial | exact .inl rfl | exact .inr (.same _) | exact .inr .loose | exact .inr (.arr (by assumption)) | apply And.intro | exact .inr less_rep))
  · rfl
  · exact Vm.b102
  · exact Vm.b10
  · intro β; simp only [pcS, newP, List.length_replicate]; rfl
  · exact Vm.b102
def sNewPG : Spec := fun args h m => match args with
  | [v1, v2, .nat q3 v3, v4] => match srcV h 5 (.tup []) v2, srcV h 1 (.tup []) v4 with
    | some (c2, n2, f2, r2), some (c4, n4, f4, r4) => bif isI .i64 v1 && keq q3 .i64 then some (c2 ∧ c4 ∧ (∀ q, q < n2 → isIns (f2 q) = true) ∧ (∀ q, q < n4 → isI .i64 (f4 q) = true) ∧ ((∀ x ∈ (ls insOf n2 f2), x.ok)) ∧ (n2 ≤ 1000000) ∧ (n4 ≤ 1000000) ∧ (v3 ≤ 1024) ∧ ((newP (iOf v1) (ls insOf n2 f2) v3 (ls iOf n4 f4)).rightB = true), .tup [pcS (newP (iOf v1) (ls insOf n2 f2) v3 (ls iOf n4 f4)) m (m + 1) (m + 2), .int .i64 0], r2 ++ r4, [(m, prO (ls insOf n2 f2)), (m + 1, i64O (newP (iOf v1) (ls insOf n2 f2) v3 (ls iOf n4 f4)).cells), (m + 2, inO (ls iOf n4 f4))]) else none
    | _, _ => none
  | _ => none
theorem sNewPG_ok : CallOk Try.prog 34 sNewPG := by
  refine ⟨named_spec (by kernel_rfl), fun args h m c v rd wr hs hm hc w0 M β h' w R hrd hwr hst => ?_⟩
  unfold sNewPG at hs
  split at hs
  · rename_i v1 v2 q3 v3 v4
    split at hs
    · rename_i c2 n2 f2 r2 c4 n4 f4 r4 a2 a4
      obtain ⟨hb, hs⟩ := bif_some hs
      simp only [Option.some.injEq, Prod.mk.injEq] at hs
      obtain ⟨rfl, rfl, rfl, rfl⟩ := hs
      simp only [Bool.and_eq_true] at hb
      obtain ⟨b1, b3⟩ := hb
      have w3 := keq_eq b3
      subst w3
      obtain ⟨k2, k4, g2, g4, y1, y2, y3, y4, y5⟩ := hc
      obtain ⟨A2, p2, d2, e2, t2⟩ := reads_src R a2 k2 (fun i hi => hrd i (List.mem_append_left _ hi)) (by omega)
      obtain ⟨A4, p4, d4, e4, t4⟩ := reads_src R a4 k4 (fun i hi => hrd i (List.mem_append_right _ hi)) (by omega)
      refine callRo (views := [⟨5, (ls insOf n2 f2).length, prS (ls insOf n2 f2), A2, p2⟩, ⟨1, (ls iOf n4 f4).length, i64S (ls iOf n4 f4), A4, p4⟩]) (new_ok (iOf v1) v3 (ls insOf n2 f2) (ls iOf n4 f4) p2 p4 y1 (by rw [ls_length]; exact y2) (by rw [ls_length]; exact y3) y4 y5) ?_ R hm hwr ?_ ?_ ?_
      · intro x hx
        simp only [List.mem_cons, List.not_mem_nil, or_false] at hx
        rcases hx with rfl | rfl
        · exact viewIns t2 e2 g2
        · exact viewI64 t4 e4 g4
      · intro β1 hv
        simp only [Vd, ls_length, and_true] at hv
        obtain ⟨z2, z4⟩ := hv
        simp only [denL, aggDen, intDen, natDen, boolDen, ls_length, z2, z4, d2, d4, isI_den b1]
      · exact Vm.b102
      · exact Vm.b102
    · cases hs
  · cases hs
theorem ls_evtsS2 (l : List Evt) : ls evtOf l.length (fun q => evtS (l.getD q ⟨0, 0, 0, 0, 0⟩)) = l := ls_evtsS l
def cSev : FuncId → Option Spec := look2 [(88, sSmEvt)]
theorem cSev_ok : ∀ f S, cSev f = some S → CallOk Try.prog f S := allOk_spec ⟨sSmEvt_ok, trivial⟩
theorem sev_lit (xs ys : List Evt) (p1 p2 : Nat) (hx : xs.length ≤ 281474976710656) : LitOk Try.prog 60 [.sl 1 2 [] 5 0 xs.length (some p1), .sl 3 4 [] 5 0 ys.length (some p2)] [.gone, .gone, .ro (.arr xs.length 5 (evtsS xs)), .gone, .ro (.arr ys.length 5 (evtsS ys))] (.bool (eqL xs ys)) [.gone] := by
  refine litOkM (fn := Try.f60) 5 8 0 rfl rfl rfl rfl rfl (by simp only [StableL, Stable, hp, pcS, dnB, DnI.at_, dnS, dnR, i64S, prS, insS, sndsS, sndS, evtsS, evtS, prO, i64O, inO, evO_, cB, sB, HB.stable]; simp [HB.born]) rfl fun w0 M E hro => ?_
  repeat' (first | refine Ctl.h ?_ | ((with_reducible intro hif); first | (focus (cases hif; done)) | (simp only [JH] at hif; try (exfalso; omega)) | (try (exfalso; omega))) | ((first | ((with_reducible apply J22 cSev_ok tab_ok); (· rfl)) | ((with_reducible apply J23 fol cSev_ok tab_ok); (· rfl)) | with_reducible apply J24); (· (simp only [push_cast, ↓JP, Nat.reduceAdd, Nat.reduceEqDiff, Nat.reduceLT, Nat.reduceMul, Nat.reduceLeDiff, reduceCtorEq, reduceIte, ↓JK, cSev, sSmEvt, isEvt_evtS, ls_evtsS, ls_evtsS', ls_evtsS2, evtsS, inR, inN]; rfl)); (try kernel_rfl); (try (focus (first | exact True.intro | ((try simp only [JS, implies_true, ls_evtsS, ls_evtsS', ls_length]); (repeat' (first | exact True.intro | assumption | omega | apply And.intro | rfl | intro _)); done) | ((try simp only [JS, implies_true, forall_const, shaped, shapedL, kndOf, inR, inN]); (repeat' (first | assumption | exact True.intro | omega | apply And.intro)); done))))) | fail)
  apply At.endsRet tab_ok (fn := Try.f60) (rs := [.tmp 4]) Anc.refl hro (Nat.le_of_ble_eq_true rfl) rfl
  · exact Vm.b18
  · exact Vm.b7
  · exact Vm.b8
  · rfl
  · exact Vm.b102
  · exact Vm.b10
  · exact fun β => rfl
  · exact Vm.b102
def sSev : Spec := fun args h m => match args with
  | [v1, v2] => match srcV h 5 (.tup []) v1, srcV h 5 (.tup []) v2 with
    | some (c1, n1, f1, r1), some (c2, n2, f2, r2) => some (c1 ∧ c2 ∧ (∀ q, q < n1 → isEvt (f1 q) = true) ∧ (∀ q, q < n2 → isEvt (f2 q) = true) ∧ ((ls evtOf n1 f1).length ≤ 281474976710656), .bool (eqL (ls evtOf n1 f1) (ls evtOf n2 f2)), r1 ++ r2, [])
    | _, _ => none
  | _ => none
theorem sSev_ok : CallOk Try.prog 60 sSev := by
  refine ⟨named_spec (by kernel_rfl), fun args h m c v rd wr hs hm hc w0 M β h' w R hrd hwr hst => ?_⟩
  unfold sSev at hs
  split at hs
  · rename_i v1 v2
    split at hs
    · rename_i c1 n1 f1 r1 c2 n2 f2 r2 a1 a2
      simp only [Option.some.injEq, Prod.mk.injEq] at hs
      obtain ⟨rfl, rfl, rfl, rfl⟩ := hs
      obtain ⟨k1, k2, g1, g2, y1⟩ := hc
      obtain ⟨A1, p1, d1, e1, t1⟩ := reads_src R a1 k1 (fun i hi => hrd i (List.mem_append_left _ hi)) (by omega)
      obtain ⟨A2, p2, d2, e2, t2⟩ := reads_src R a2 k2 (fun i hi => hrd i (List.mem_append_right _ hi)) (by omega)
      refine callRo (views := [⟨5, (ls evtOf n1 f1).length, evtsS (ls evtOf n1 f1), A1, p1⟩, ⟨5, (ls evtOf n2 f2).length, evtsS (ls evtOf n2 f2), A2, p2⟩]) (sev_lit (ls evtOf n1 f1) (ls evtOf n2 f2) p1 p2 y1) ?_ R hm hwr ?_ ?_ ?_
      · intro x hx
        simp only [List.mem_cons, List.not_mem_nil, or_false] at hx
        rcases hx with rfl | rfl
        · exact viewEvt t1 e1 g1
        · exact viewEvt t2 e2 g2
      · intro β1 hv
        simp only [Vd, ls_length, and_true] at hv
        obtain ⟨z1, z2⟩ := hv
        simp only [denL, aggDen, intDen, natDen, boolDen, ls_length, z1, z2, d1, d2]
      · exact Vm.b102
      · exact Vm.b102
    · cases hs
  · cases hs
def cEq28 : FuncId → Option Spec := look2 [(59, sPSame), (60, sSev)]
theorem cEq28_ok : ∀ f S, cEq28 f = some S → CallOk Try.prog f S := allOk_spec ⟨sPSame_ok, sSev_ok, trivial⟩
def eqD (a : Prc) (as_ : List Evt) (au : Int) (b : Prc) (bs : List Evt) (bu : Int) : Bool := eqP a b && (eqL as_ bs && decide (au = bu))
theorem eq28_lit (a b : Prc) (as_ bs : List Evt) (au bu : Int) (p1 p2 p3 p4 q1 q2 q3 q4 : Nat) (hn : a.P.length ≤ 1000000) (hc : a.cells.length ≤ 1000000) (hpo : a.ports.length ≤ 1000000) (hs : as_.length ≤ 1000000) : LitOk Try.prog 33 [.agg [.agg [.int .i64 a.id, .sl 1 2 [] 5 0 a.P.length (some p1), .sl 3 4 [] 1 0 a.cells.length (some p2), .int .i64 a.draws, .int .i64 a.seq, .sl 5 6 [] 1 0 a.ports.length (some p3)], .sl 7 8 [] 5 0 as_.length (some p4), .int .i64 au], .agg [.agg [.int .i64 b.id, .sl 9 10 [] 5 0 b.P.length (some q1), .sl 11 12 [] 1 0 b.cells.length (some q2), .int .i64 b.draws, .int .i64 b.seq, .sl 13 14 [] 1 0 b.ports.length (some q3)], .sl 15 16 [] 5 0 bs.length (some q4), .int .i64 bu]]
    [.gone, .gone, .ro (.arr a.P.length 5 (prS a.P)), .gone, .ro (.arr a.cells.length 1 (i64S a.cells)), .gone, .ro (.arr a.ports.length 1 (i64S a.ports)), .gone, .ro (.arr as_.length 5 (evtsS as_)), .gone, .ro (.arr b.P.length 5 (prS b.P)), .gone, .ro (.arr b.cells.length 1 (i64S b.cells)), .gone, .ro (.arr b.ports.length 1 (i64S b.ports)), .gone, .ro (.arr bs.length 5 (evtsS bs))] (.bool (eqD a as_ au b bs bu)) [.gone] := by
  have hs2 : as_.length ≤ 281474976710656 := by omega
  cases q1 : eqP a b
  · skip
    have e : eqD a as_ au b bs bu = false := by simp [eqD, q1]
    rw [e]
    refine litOkM (fn := Try.f33) 17 24 0 rfl rfl rfl rfl rfl (by simp only [StableL, Stable, hp, pcS, dnB, DnI.at_, dnS, dnR, i64S, prS, insS, sndsS, sndS, evtsS, evtS, prO, i64O, inO, evO_, cB, sB, HB.stable]; simp [HB.born]) rfl fun w0 M E hro => ?_
    repeat' (first | refine Ctl.h ?_ | ((with_reducible intro hif); first | (focus (cases hif; done)) | (simp only [JH] at hif; try (exfalso; omega)) | (try (exfalso; omega))) | ((first | ((with_reducible apply J22 cEq28_ok tab_ok); (· rfl)) | ((with_reducible apply J23 fol cEq28_ok tab_ok); (· rfl)) | with_reducible apply J24); (· (simp only [push_cast, ↓JP, Nat.reduceAdd, Nat.reduceEqDiff, Nat.reduceLT, Nat.reduceMul, Nat.reduceLeDiff, reduceCtorEq, reduceIte, ↓JK, JE, prc_eta, cEq28, sPSame, sSev, isEvt_evtS, ls_evtsS, ls_evtsS', ls_evtsS2, evtsS, inR, inN, q1]; rfl)); (try kernel_rfl); (try exact Vm.b120)) | fail)
    apply At.endsRet tab_ok (fn := Try.f33) (rs := [.tmp 4]) Anc.refl hro (Nat.le_of_ble_eq_true rfl) rfl
    · exact Vm.b18
    · exact Vm.b7
    · exact Vm.b8
    · rfl
    · exact Vm.b102
    · exact Vm.b10
    · exact fun β => rfl
    · exact Vm.b102
  · cases q2 : eqL as_ bs
    · skip
      have e : eqD a as_ au b bs bu = false := by simp [eqD, q1, q2]
      rw [e]
      refine litOkM (fn := Try.f33) 17 24 0 rfl rfl rfl rfl rfl (by simp only [StableL, Stable, hp, pcS, dnB, DnI.at_, dnS, dnR, i64S, prS, insS, sndsS, sndS, evtsS, evtS, prO, i64O, inO, evO_, cB, sB, HB.stable]; simp [HB.born]) rfl fun w0 M E hro => ?_
      repeat' (first | refine Ctl.h ?_ | ((with_reducible intro hif); first | (focus (cases hif; done)) | (simp only [JH] at hif; try (exfalso; omega)) | (try (exfalso; omega))) | ((first | ((with_reducible apply J22 cEq28_ok tab_ok); (· rfl)) | ((with_reducible apply J23 fol cEq28_ok tab_ok); (· rfl)) | with_reducible apply J24); (· exact Vm.b121); (try kernel_rfl); (try exact Vm.b120)) | fail)
      apply At.endsRet tab_ok (fn := Try.f33) (rs := [.tmp 4]) Anc.refl hro (Nat.le_of_ble_eq_true rfl) rfl
      · exact Vm.b18
      · exact Vm.b7
      · exact Vm.b8
      · rfl
      · exact Vm.b102
      · exact Vm.b10
      · exact fun β => rfl
      · exact Vm.b102
    · skip
      have e : eqD a as_ au b bs bu = decide (au = bu) := by simp [eqD, q1, q2]
      rw [e]
      refine litOkM (fn := Try.f33) 17 24 0 rfl rfl rfl rfl rfl (by simp only [StableL, Stable, hp, pcS, dnB, DnI.at_, dnS, dnR, i64S, prS, insS, sndsS, sndS, evtsS, evtS, prO, i64O, inO, evO_, cB, sB, HB.stable]; simp [HB.born]) rfl fun w0 M E hro => ?_
      repeat' (first | refine Ctl.h ?_ | ((with_reducible intro hif); first | (focus (cases hif; done)) | (simp only [JH] at hif; try (exfalso; omega)) | (try (exfalso; omega))) | ((first | ((with_reducible apply J22 cEq28_ok tab_ok); (· rfl)) | ((with_reducible apply J23 fol cEq28_ok tab_ok); (· rfl)) | with_reducible apply J24); (· exact Vm.b121); (try kernel_rfl); (try exact Vm.b120)) | fail)
      apply At.endsRet tab_ok (fn := Try.f33) (rs := [.tmp 4]) Anc.refl hro (Nat.le_of_ble_eq_true rfl) rfl
      · exact Vm.b18
      · exact Vm.b7
      · exact Vm.b8
      · rfl
      · exact Vm.b102
      · exact Vm.b10
      · exact fun β => rfl
      · exact Vm.b102
def sEq28 : Spec := fun args h m => match args with
  | [.agg [.agg [v1, v2, v3, v4, v5, v6], v7, v8], .agg [.agg [v9, v10, v11, v12, v13, v14], v15, v16]] => match srcV h 5 (.tup []) v2, srcV h 1 (.tup []) v3, srcV h 1 (.tup []) v6, srcV h 5 (.tup []) v7, srcV h 5 (.tup []) v10, srcV h 1 (.tup []) v11, srcV h 1 (.tup []) v14, srcV h 5 (.tup []) v15 with
    | some (c2, n2, f2, r2), some (c3, n3, f3, r3), some (c6, n6, f6, r6), some (c7, n7, f7, r7), some (c10, n10, f10, r10), some (c11, n11, f11, r11), some (c14, n14, f14, r14), some (c15, n15, f15, r15) => bif isI .i64 v1 && isI .i64 v4 && isI .i64 v5 && isI .i64 v8 && isI .i64 v9 && isI .i64 v12 && isI .i64 v13 && isI .i64 v16 then some (c2 ∧ c3 ∧ c6 ∧ c7 ∧ c10 ∧ c11 ∧ c14 ∧ c15 ∧ (∀ q, q < n2 → isIns (f2 q) = true) ∧ (∀ q, q < n3 → isI .i64 (f3 q) = true) ∧ (∀ q, q < n6 → isI .i64 (f6 q) = true) ∧ (∀ q, q < n7 → isEvt (f7 q) = true) ∧ (∀ q, q < n10 → isIns (f10 q) = true) ∧ (∀ q, q < n11 → isI .i64 (f11 q) = true) ∧ (∀ q, q < n14 → isI .i64 (f14 q) = true) ∧ (∀ q, q < n15 → isEvt (f15 q) = true) ∧ (n2 ≤ 1000000) ∧ (n3 ≤ 1000000) ∧ (n6 ≤ 1000000) ∧ (n7 ≤ 1000000), .bool (eqD ⟨(iOf v1), (ls insOf n2 f2), (ls iOf n3 f3), (iOf v4), (iOf v5), (ls iOf n6 f6)⟩ (ls evtOf n7 f7) (iOf v8) ⟨(iOf v9), (ls insOf n10 f10), (ls iOf n11 f11), (iOf v12), (iOf v13), (ls iOf n14 f14)⟩ (ls evtOf n15 f15) (iOf v16)), r2 ++ r3 ++ r6 ++ r7 ++ r10 ++ r11 ++ r14 ++ r15, []) else none
    | _, _, _, _, _, _, _, _ => none
  | _ => none
theorem sEq28_ok : CallOk Try.prog 33 sEq28 := by
  refine ⟨named_spec (by kernel_rfl), fun args h m c v rd wr hs hm hc w0 M β h' w R hrd hwr hst => ?_⟩
  unfold sEq28 at hs
  split at hs
  · rename_i v1 v2 v3 v4 v5 v6 v7 v8 v9 v10 v11 v12 v13 v14 v15 v16
    split at hs
    · rename_i c2 n2 f2 r2 c3 n3 f3 r3 c6 n6 f6 r6 c7 n7 f7 r7 c10 n10 f10 r10 c11 n11 f11 r11 c14 n14 f14 r14 c15 n15 f15 r15 a2 a3 a6 a7 a10 a11 a14 a15
      obtain ⟨hb, hs⟩ := bif_some hs
      simp only [Option.some.injEq, Prod.mk.injEq] at hs
      obtain ⟨rfl, rfl, rfl, rfl⟩ := hs
      simp only [Bool.and_eq_true] at hb
      obtain ⟨⟨⟨⟨⟨⟨⟨b1, b4⟩, b5⟩, b8⟩, b9⟩, b12⟩, b13⟩, b16⟩ := hb
      obtain ⟨k2, k3, k6, k7, k10, k11, k14, k15, g2, g3, g6, g7, g10, g11, g14, g15, y1, y2, y3, y4⟩ := hc
      obtain ⟨A2, p2, d2, e2, t2⟩ := reads_src R a2 k2 (fun i hi => hrd i (List.mem_append_left _ (List.mem_append_left _ (List.mem_append_left _ (List.mem_append_left _ (List.mem_append_left _ (List.mem_append_left _ (List.mem_append_left _ hi)))))))) (by omega)
      obtain ⟨A3, p3, d3, e3, t3⟩ := reads_src R a3 k3 (fun i hi => hrd i (List.mem_append_left _ (List.mem_append_left _ (List.mem_append_left _ (List.mem_append_left _ (List.mem_append_left _ (List.mem_append_left _ (List.mem_append_right _ hi)))))))) (by omega)
      obtain ⟨A6, p6, d6, e6, t6⟩ := reads_src R a6 k6 (fun i hi => hrd i (List.mem_append_left _ (List.mem_append_left _ (List.mem_append_left _ (List.mem_append_left _ (List.mem_append_left _ (List.mem_append_right _ hi))))))) (by omega)
      obtain ⟨A7, p7, d7, e7, t7⟩ := reads_src R a7 k7 (fun i hi => hrd i (List.mem_append_left _ (List.mem_append_left _ (List.mem_append_left _ (List.mem_append_left _ (List.mem_append_right _ hi)))))) (by omega)
      obtain ⟨A10, p10, d10, e10, t10⟩ := reads_src R a10 k10 (fun i hi => hrd i (List.mem_append_left _ (List.mem_append_left _ (List.mem_append_left _ (List.mem_append_right _ hi))))) (by omega)
      obtain ⟨A11, p11, d11, e11, t11⟩ := reads_src R a11 k11 (fun i hi => hrd i (List.mem_append_left _ (List.mem_append_left _ (List.mem_append_right _ hi)))) (by omega)
      obtain ⟨A14, p14, d14, e14, t14⟩ := reads_src R a14 k14 (fun i hi => hrd i (List.mem_append_left _ (List.mem_append_right _ hi))) (by omega)
      obtain ⟨A15, p15, d15, e15, t15⟩ := reads_src R a15 k15 (fun i hi => hrd i (List.mem_append_right _ hi)) (by omega)
      refine callRo (views := [⟨5, (ls insOf n2 f2).length, prS (ls insOf n2 f2), A2, p2⟩, ⟨1, (ls iOf n3 f3).length, i64S (ls iOf n3 f3), A3, p3⟩, ⟨1, (ls iOf n6 f6).length, i64S (ls iOf n6 f6), A6, p6⟩, ⟨5, (ls evtOf n7 f7).length, evtsS (ls evtOf n7 f7), A7, p7⟩, ⟨5, (ls insOf n10 f10).length, prS (ls insOf n10 f10), A10, p10⟩, ⟨1, (ls iOf n11 f11).length, i64S (ls iOf n11 f11), A11, p11⟩, ⟨1, (ls iOf n14 f14).length, i64S (ls iOf n14 f14), A14, p14⟩, ⟨5, (ls evtOf n15 f15).length, evtsS (ls evtOf n15 f15), A15, p15⟩]) (eq28_lit ⟨(iOf v1), (ls insOf n2 f2), (ls iOf n3 f3), (iOf v4), (iOf v5), (ls iOf n6 f6)⟩ ⟨(iOf v9), (ls insOf n10 f10), (ls iOf n11 f11), (iOf v12), (iOf v13), (ls iOf n14 f14)⟩ (ls evtOf n7 f7) (ls evtOf n15 f15) (iOf v8) (iOf v16) p2 p3 p6 p7 p10 p11 p14 p15 (by rw [ls_length]; exact y1) (by rw [ls_length]; exact y2) (by rw [ls_length]; exact y3) (by rw [ls_length]; exact y4)) ?_ R hm hwr ?_ ?_ ?_
      · intro x hx
        simp only [List.mem_cons, List.not_mem_nil, or_false] at hx
        rcases hx with rfl | rfl | rfl | rfl | rfl | rfl | rfl | rfl
        · exact viewIns t2 e2 g2
        · exact viewI64 t3 e3 g3
        · exact viewI64 t6 e6 g6
        · exact viewEvt t7 e7 g7
        · exact viewIns t10 e10 g10
        · exact viewI64 t11 e11 g11
        · exact viewI64 t14 e14 g14
        · exact viewEvt t15 e15 g15
      · intro β1 hv
        simp only [Vd, ls_length, and_true] at hv
        obtain ⟨z2, z3, z6, z7, z10, z11, z14, z15⟩ := hv
        simp only [denL, aggDen, intDen, natDen, boolDen, ls_length, z2, z3, z6, z7, z10, z11, z14, z15, d2, d3, d6, d7, d10, d11, d14, d15, isI_den b1, isI_den b4, isI_den b5, isI_den b8, isI_den b9, isI_den b12, isI_den b13, isI_den b16]
      · exact Vm.b102
      · exact Vm.b102
    · cases hs
  · cases hs
end Go.Proofs.Ytjliakjbdcplcaa.Vm
end

section
namespace Go.Proofs.Ytjliakjbdcplcaa.Vm
open Go.RowKit
set_option linter.unusedVariables false
set_option linter.unusedSimpArgs false
set_option maxRecDepth 100000
set_option maxHeartbeats 4000000
def sOneX : Spec := fun args h m => match args with
  | [.agg [_, _, .nat .i64 10], .agg [_, _, _, _, _, .sl 5 5 [] 1 0 1 none], .agg [.agg [.nat .i64 7, _, _], .nat .i64 3, _]] => sOneG args h m
  | _ => sOneB args h m
theorem sOneX_ok : CallOk Try.prog 28 sOneX := by
  refine ⟨named_spec (by kernel_rfl), fun args h m c v rd wr hs hm hc w0 M β h' w R hrd hwr hst => ?_⟩
  unfold sOneX at hs
  split at hs
  · exact sOneG_ok.2 _ h m c v rd wr hs hm hc w0 M β h' w R hrd hwr hst
  · exact sOneB_ok.2 _ h m c v rd wr hs hm hc w0 M β h' w R hrd hwr hst
theorem ls_one {α : Type} (g : SV → α) (f : Nat → SV) : ls g 1 f = [g (f 0)] := rfl
theorem ls_two {α : Type} (g : SV → α) (f : Nat → SV) : ls g 2 f = [g (f 0), g (f 1)] := rfl
theorem nat_zero_int : ((0 : Nat) : Int) = 0 := rfl
theorem nat_one_int : ((1 : Nat) : Int) = 1 := rfl
theorem insOf_agg (a b c d e : SV) : insOf (.agg [a, b, c, d, e]) = ⟨iOf a, iOf b, iOf c, iOf d, iOf e⟩ := rfl
theorem evtOf_agg (a b c d e : SV) : evtOf (.agg [.agg [a, b, c], d, e]) = ⟨iOf a, iOf b, iOf c, iOf d, iOf e⟩ := rfl
theorem isEvt_agg (a b c d e : SV) : isEvt (.agg [.agg [a, b, c], d, e]) = (isI .i64 a && isI .i64 b && isI .i64 c && isI .i64 d && isI .i64 e) := rfl
def cAw28 : FuncId → Option Spec := look2 [(34, sNewPG), (28, sOneX), (32, (sAllB 1)), (52, sEqEvt)]
theorem cAw28_ok : ∀ f S, cAw28 f = some S → CallOk Try.prog f S := allOk_spec ⟨sNewPG_ok, sOneX_ok, sAllB_ok 1, sEqEvt_ok, trivial⟩
theorem awake28_lit : LitOk Try.prog 26 [] [.gone] (.bool true) [.gone] := by
  have k1 : ∀ x ∈ ([⟨8, 1, 0, 0, 0⟩, ⟨1, 0, 0, 0, 0⟩] : List Ins), x.ok := by intro x hx; simp only [List.mem_cons, List.not_mem_nil, or_false] at hx; rcases hx with rfl | rfl <;> (refine ⟨?_, ?_, ?_, ?_, ?_, ?_, ?_, ?_, ?_, ?_⟩ <;> decide)
  have r1 : (newP 3 [⟨8, 1, 0, 0, 0⟩, ⟨1, 0, 0, 0, 0⟩] 0 [5]).rightB = true := by kernel_rfl
  have f1 : oneE ⟨0, 2, 10⟩ ⟨3, [⟨8, 1, 0, 0, 0⟩, ⟨1, 0, 0, 0, 0⟩], [], 0, 0, [5]⟩ ⟨7, 0, 4, 3, 9⟩ = 0 := by kernel_rfl
  have f2 : oneE ⟨0, 2, 10⟩ ⟨3, [⟨8, 1, 0, 0, 0⟩, ⟨1, 0, 0, 0, 0⟩], [], 0, 0, [5]⟩ ⟨1, 0, 1, 3, 0⟩ = 189 := by kernel_rfl
  have n2 : oneE ⟨0, 2, 10⟩ ⟨3, [⟨8, 1, 0, 0, 0⟩, ⟨1, 0, 0, 0, 0⟩], [], 0, 0, [5]⟩ ⟨1, 0, 1, 3, 0⟩ ≠ 0 := by rw [f2]; decide
  have f3 : oneE ⟨0, 2, 10⟩ ⟨3, [⟨8, 1, 0, 0, 0⟩, ⟨1, 0, 0, 0, 0⟩], [], 0, 0, [5]⟩ ⟨7, 0, 4, 4, 9⟩ = 282 := by kernel_rfl
  have n3 : oneE ⟨0, 2, 10⟩ ⟨3, [⟨8, 1, 0, 0, 0⟩, ⟨1, 0, 0, 0, 0⟩], [], 0, 0, [5]⟩ ⟨7, 0, 4, 4, 9⟩ ≠ 0 := by rw [f3]; decide
  have f4 : oneE ⟨0, 2, 1⟩ ⟨3, [⟨8, 1, 0, 0, 0⟩, ⟨1, 0, 0, 0, 0⟩], [], 0, 0, [5]⟩ ⟨7, 0, 4, 3, 9⟩ = 190 := by kernel_rfl
  have n4 : oneE ⟨0, 2, 1⟩ ⟨3, [⟨8, 1, 0, 0, 0⟩, ⟨1, 0, 0, 0, 0⟩], [], 0, 0, [5]⟩ ⟨7, 0, 4, 3, 9⟩ ≠ 0 := by rw [f4]; decide
  have f6 : oneE ⟨0, 2, 10⟩ ⟨3, [⟨8, 1, 0, 0, 0⟩, ⟨1, 0, 0, 0, 0⟩], [], 0, 0, [0]⟩ ⟨7, 0, 4, 3, 9⟩ = 285 := by kernel_rfl
  have n6 : oneE ⟨0, 2, 10⟩ ⟨3, [⟨8, 1, 0, 0, 0⟩, ⟨1, 0, 0, 0, 0⟩], [], 0, 0, [0]⟩ ⟨7, 0, 4, 3, 9⟩ ≠ 0 := by rw [f6]; decide
  have f5 : badAt ⟨3, [⟨8, 1, 0, 0, 0⟩, ⟨1, 0, 0, 0, 0⟩], [], 0, 0, [5]⟩ [⟨7, 0, 4, 3, 9⟩, ⟨7, 0, 4, 3, 9⟩] 1 = 283 := by kernel_rfl
  have n5 : badAt ⟨3, [⟨8, 1, 0, 0, 0⟩, ⟨1, 0, 0, 0, 0⟩], [], 0, 0, [5]⟩ [⟨7, 0, 4, 3, 9⟩, ⟨7, 0, 4, 3, 9⟩] 1 ≠ 0 := by rw [f5]; decide
  have g5 : ∀ q, q < 1 → badAt ⟨3, [⟨8, 1, 0, 0, 0⟩, ⟨1, 0, 0, 0, 0⟩], [], 0, 0, [5]⟩ [⟨7, 0, 4, 3, 9⟩, ⟨7, 0, 4, 3, 9⟩] q = 0 := by intro q hq; obtain rfl : q = 0 := (by omega); kernel_rfl
  have p5 : procE ⟨0, 2, 10⟩ ⟨3, [⟨8, 1, 0, 0, 0⟩, ⟨1, 0, 0, 0, 0⟩], [], 0, 0, [5]⟩ = 0 := by kernel_rfl
  have h1 : (hS ⟨0, 2, 10⟩ ⟨⟨3, [⟨8, 1, 0, 0, 0⟩, ⟨1, 0, 0, 0, 0⟩], [], 0, 0, [5]⟩, [], 0⟩ ⟨7, 0, 4, 3, 9⟩).sent = [⟨14, 3, 0, 5, 9⟩] := by kernel_rfl
  have h2 : (hS ⟨0, 2, 10⟩ ⟨⟨3, [⟨8, 1, 0, 0, 0⟩, ⟨1, 0, 0, 0, 0⟩], [], 0, 0, [5]⟩, [], 0⟩ ⟨7, 0, 4, 3, 9⟩).used = 2 := by kernel_rfl
  have h3 : (hS ⟨0, 2, 10⟩ ⟨⟨3, [⟨8, 1, 0, 0, 0⟩, ⟨1, 0, 0, 0, 0⟩], [], 0, 0, [5]⟩, [], 0⟩ ⟨7, 0, 4, 3, 9⟩).p.seq = 1 := by kernel_rfl
  have z1 : eqL ([⟨14, 3, 0, 5, 9⟩] : List Evt) [⟨14, 3, 0, 5, 9⟩] = true := by exact eqL_true rfl
  refine litOkM (fn := Try.f26) 1 126 0 rfl rfl rfl rfl rfl trivial rfl fun w0 M E hro => ?_
  repeat' (first | refine Ctl.h ?_ | ((with_reducible intro hif); first | (focus (cases hif; done)) | (simp only [JH] at hif; try (exfalso; omega)) | (try (exfalso; omega))) | ((first | ((with_reducible apply J22 cAw28_ok tab_ok); (· rfl)) | ((with_reducible apply J23 fol cAw28_ok tab_ok); (· rfl)) | with_reducible apply J24); (· (simp only [push_cast, ↓JP, Nat.reduceAdd, Nat.reduceEqDiff, Nat.reduceLT, Nat.reduceMul, Nat.reduceLeDiff, reduceCtorEq, reduceIte, ↓JK, JE, JB, prc_eta, rul_eta, dnn_eta, cAw28, sNewPG, sOneX, sOneG, sOneB, sAllB, sEqEvt, pcS, prO, i64O, inO, evO_, dnS, dnR, dn0, newP, ls_one, ls_two, ls_zero, insOf_agg, evtOf_agg, isEvt_agg, nat_zero_int, nat_one_int, ls_evtsS, ls_evtsS', ls_evtsS2, evtsS, isEvt_evtS, evtOf_evtS, inR, inN, f1, f2, f3, f4, f6, f5, h1, h2, h3, z1]; rfl)); (try kernel_rfl); (try (focus (first | exact True.intro | ((try simp only [JS, implies_true, forall_const, shaped, shapedL, kndOf, iOf, newP, ls_one, ls_two, ls_zero, insOf_agg, evtOf_agg, isEvt_agg, nat_zero_int, nat_one_int, Nat.zero_add, List.getD_cons_zero, List.getD_cons_succ, Int.cast_ofNat_Int, List.replicate_zero, List.length_cons, List.length_nil]); (repeat' (first | exact True.intro | assumption | apply And.intro | decide | (intro q hq; first | rfl | exact hq.elim | exact k1 q hq | exact g5 q hq | ((rcases q with _ | _ | _ | q) <;> first | rfl | (exfalso; revert hq; simp; done))))); done) | ((try simp only [JS, implies_true, forall_const, shaped, shapedL, kndOf, inR, inN]); (repeat' (first | assumption | exact True.intro | omega | apply And.intro)); done))))) | fail)
  apply At.endsRet tab_ok (fn := Try.f26) (rs := [.tmp 0]) Anc.refl hro (Nat.le_of_ble_eq_true rfl) rfl
  · simp only [push_cast, ↓JP, Nat.reduceAdd, Nat.reduceEqDiff, Nat.reduceLT, Nat.reduceMul, Nat.reduceLeDiff, reduceCtorEq, reduceIte, ↓JK, resV, resV1, newP, ls_one, ls_two, ls_zero, insOf_agg, evtOf_agg, isEvt_agg, nat_zero_int, nat_one_int]; rfl
  · exact Vm.b7
  · exact Vm.b8
  · rfl
  · exact Vm.b102
  · exact Vm.b10
  · first | exact fun β => rfl | (intro β; kernel_rfl)
  · exact Vm.b102
def sAw28 : Spec := fun args h m => match args with
  | [] => some (True, .bool true, [], [])
  | _ => none
theorem sAw28_ok : CallOk Try.prog 26 sAw28 := by
  refine ⟨named_spec (by kernel_rfl), fun args h m c v rd wr hs hm hc w0 M β h' w R hrd hwr hst => ?_⟩
  unfold sAw28 at hs
  split at hs
  · skip
    simp only [Option.some.injEq, Prod.mk.injEq] at hs
    obtain ⟨rfl, rfl, rfl, rfl⟩ := hs
    refine callRo (views := []) (awake28_lit) ?_ R hm hwr ?_ ?_ ?_
    · intro x hx; cases hx
    · intro β1 hv
      simp only [denL, aggDen, intDen, natDen, boolDen, ls_length]
    · exact Vm.b102
    · exact Vm.b102
  · cases hs
end Go.Proofs.Ytjliakjbdcplcaa.Vm
end
end
