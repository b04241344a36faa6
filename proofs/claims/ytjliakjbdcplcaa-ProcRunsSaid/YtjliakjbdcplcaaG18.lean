import Derived.Test.YtjliakjbdcplcaaG6
import Derived.Test.YtjliakjbdcplcaaG7
import Derived.Test.YtjliakjbdcplcaaG8
import Derived.Test.YtjliakjbdcplcaaG9
import Derived.Test.YtjliakjbdcplcaaG12
import Derived.Test.YtjliakjbdcplcaaG13
import Derived.Test.YtjliakjbdcplcaaG14
import Derived.Test.YtjliakjbdcplcaaG16
import Derived.Test.YtjliakjbdcplcaaG17
section
namespace Go.Proofs.Ytjliakjbdcplcaa.Vm
theorem b124 {P : Prop} (h : P := by (repeat' (first | exact trivial | exact rfl | assumption | apply Stable.ite | apply And.intro | intro _ | (simp only [Stable, StableL, pcR, i64S, prS, insS, sndsS, sndS, evtsS, evtS, prO, i64O, inO, HB.stable]; done)))) : P := h
theorem b125 {P : Prop} (h : P := by (repeat' (first | exact trivial | exact rfl | assumption | apply Stable.ite | apply And.intro | intro _ | (simp only [Stable, StableL, pcR, dnB, DnI.at_, dnS, dnR, pcS, i64S, prS, insS, sndsS, sndS, evtsS, evtS, prO, i64O, inO, evO_, cB, sB, u8S, esS, esA, HB.stable]; done)))) : P := h
theorem b126 {P : Prop} (h : P := by (simp only [push_cast, ↓JP, Nat.reduceAdd, Nat.reduceEqDiff, Nat.reduceLT, Nat.reduceMul, Nat.reduceLeDiff, reduceCtorEq, reduceIte, ↓JK, evm_sn, PcI.at_, pcR, cP1, rP1, pcP, pcI, nodupN, memN, JE, isI_int, inR, inN]; rfl)) : P := h
theorem b127 {P : Prop} (h : P := by (simp only [push_cast, ↓JP, Nat.reduceAdd, Nat.reduceEqDiff, Nat.reduceLT, Nat.reduceMul, Nat.reduceLeDiff, reduceCtorEq, reduceIte, ↓JK, evm_sn, PcI.at_, pcR, cP1, rP1, pcP, pcI, nodupN, memN, JE, isI_int, inR, inN, hkl, hn']; rfl)) : P := h
theorem b128 {P : Prop} (h : P := by (first | exact True.intro | ((try simp only [JS, Nat.zero_add, implies_true, forall_const, shaped, shapedL, kndOf, ls_sndsS, ls_sndsS', ls_i64S', ls_i64S, ls_prS, ls_prS', ls_u8S, ls_u8S', ls_esS, ls_esS', ls_evtsS', ls_evtsS, ls_length, evtOf_evtS, prc_eta, rul_eta, iOf, capB]); (repeat' (first | exact True.intro | assumption | omega | apply And.intro | rfl | decide | intro _)); done) | ((try simp only [JS, implies_true, forall_const, shaped, shapedL, kndOf, inR, inN]); (repeat' (first | assumption | exact True.intro | omega | apply And.intro)); done))) : P := h
theorem b129 {P : Prop} (h : P := by (simp only [push_cast, ↓JP, Nat.reduceAdd, Nat.reduceEqDiff, Nat.reduceLT, Nat.reduceMul, Nat.reduceLeDiff, reduceCtorEq, reduceIte, ↓JK, JM, JE, JB, prc_eta, rul_eta, dnB, dnS, DnI.at_, DnI.v, dnR, dn0, evO_, pcS, prO, i64O, inO, cRuGG, sAw28, sMd28, sOneB, sOneG, sRunG, sRunB, rPC, sEqI64, pcP, pcI, nodupN, memN, isI_int, iOf, evtsS, ↓evtS_sz, ↓evtS_ag, ↓evtS_pl, nav_evt, nav_evt0, nav_evt1, nav_evt2, evm_ev, isEvt_evtS, evtOf_evtS, inR, inN, Nat.sub_zero, ls_u8S, ls_u8S', ls_esS, ls_esS', ls_evtsS, ls_evtsS', ls_sndsS, ls_sndsS', hPP, hCC, hQQ, hID, hAH, hFU, hL]; rfl)) : P := h
theorem b130 {P : Prop} (h : P := by (first | exact True.intro | ((try simp only [JS, Nat.zero_add, implies_true, forall_const, shaped, shapedL, kndOf, ls_sndsS, ls_sndsS', ls_i64S', ls_i64S, ls_prS, ls_prS', ls_u8S, ls_u8S', ls_esS, ls_esS', ls_evtsS', ls_evtsS, ls_length, evtOf_evtS, prc_eta, rul_eta, iOf, hOE, hRO, capB]); (repeat' (first | exact True.intro | assumption | omega | apply And.intro | rfl | decide | intro _)); done) | ((try simp only [JS, implies_true, forall_const, shaped, shapedL, kndOf, inR, inN]); (repeat' (first | assumption | exact True.intro | omega | apply And.intro)); done))) : P := h
end Go.Proofs.Ytjliakjbdcplcaa.Vm
end
section
open Go.Proofs.Ytjliakjbdcplcaa.Vm Go.RowKit
attribute [local push_cast] runR opG gtmp gval gus opX tmpsOf tm tmO tmP restr look look2 tab tys zs ets eqB eqBL allB numOf ieq Int.cast_ofNat_Int Int.ofNat_zero beq_true beq_false frameOf ev evL ofV opV loadV noW pushF wrsL setH allBorn allGone HB.born HB.isGone HB.val SV.plain dstOk hp nav fitsT SV.size sizeL SV.isAgg TK.size TK.agg bin binE binN binI arN arI cmpN cmpI keq kn narrow callV storeV setp fillV buildV buildSliceV makeV sliceV appendV copyV List.isEmpty_nil srcV evO asN ite_t ite_f ite_bool ite_int ite_nat maxV v_beq v_ble v_blt cond_true cond_false List.getElem?_cons_zero List.getElem?_cons_succ List.getD_cons_zero List.getD_cons_succ List.getD_nil List.length_cons List.length_nil List.take_succ_cons List.take_zero List.set_cons_zero List.set_cons_succ List.cons_append List.nil_append List.append_assoc List.replicate_succ List.replicate_zero Nat.zero_add Nat.add_zero decide_true decide_false Bool.true_and Bool.and_true Bool.false_and Bool.and_false Bool.true_or Bool.or_true Bool.false_or Bool.or_false beq_self_eq_true Bool.or_self Nat.lt_irrefl Nat.not_lt_zero Nat.le_refl Option.getD_some Option.getD_none BEq.rfl Bool.not_true Bool.not_false Bool.cond_true_left Bool.cond_false_right prS sndsS i64S nav_ins nav_ins0 nav_ins1 nav_ins2 nav_ins3 nav_ins4 nav_snd nav_snd0 nav_snd1 nav_snd2 isIns_insS insOf_insS isSnd_sndS sndOf_sndS isI_int isI_nat iOf
section
namespace Go.Proofs.Ytjliakjbdcplcaa.Vm
open Go.RowKit
set_option linter.unusedVariables false
set_option linter.unusedSimpArgs false
set_option maxRecDepth 100000
set_option maxHeartbeats 4000000
def pcR (id dr sq : Int) (n1 n2 n3 i c q : Nat) : SV := .agg [.int .i64 id, .sl i i [] 5 0 n1 none, .sl c c [] 1 0 n2 none, .int .i64 dr, .int .i64 sq, .sl q q [] 1 0 n3 none]
structure PcI where
  id : Int
  dr : Int
  sq : Int
  n1 : Nat
  n2 : Nat
  n3 : Nat
  i : Nat
  c : Nat
  q : Nat
def PcI.v (y : PcI) : SV := pcR y.id y.dr y.sq y.n1 y.n2 y.n3 y.i y.c y.q
def PcI.at_ (y : PcI) (i c q : Nat) : SV := pcR y.id y.dr y.sq y.n1 y.n2 y.n3 i c q
def pcI : SV → Option PcI
  | .agg [.int .i64 id, .sl z1 i [] 5 0 n1 none, .sl z2 c [] 1 0 n2 none, .int .i64 dr, .int .i64 sq, .sl z3 q [] 1 0 n3 none] =>
    bif (Nat.beq z1 i && Nat.beq z2 c) && Nat.beq z3 q then some ⟨id, dr, sq, n1, n2, n3, i, c, q⟩ else none
  | _ => none
theorem pcI_val {v : SV} {y : PcI} (h : pcI v = some y) : v = y.v := by
  unfold pcI at h
  split at h
  · obtain ⟨hb, hs⟩ := bif_some h
    simp only [Option.some.injEq] at hs
    subst hs
    simp only [Bool.and_eq_true] at hb
    obtain ⟨⟨b1, b2⟩, b3⟩ := hb
    have b1 := Nat.eq_of_beq_eq_true b1
    have b2 := Nat.eq_of_beq_eq_true b2
    have b3 := Nat.eq_of_beq_eq_true b3
    subst b1 b2 b3
    rfl
  · cases h
theorem pcR_ren {ρ : Nat → Nat} {y : PcI} {i c q : Nat} (h1 : ρ i = y.i) (h2 : ρ c = y.c) (h3 : ρ q = y.q) : (y.at_ i c q).ren ρ = y.v := by
  simp only [PcI.at_, PcI.v, pcR, SV.ren, renL, h1, h2, h3]
theorem pcR_st {h : HM} {y : PcI} {i c q : Nat} (h1 : (h i).born = true) (h2 : (h c).born = true) (h3 : (h q).born = true) : Stable h (y.at_ i c q) := by
  simp [PcI.at_, pcR, Stable, StableL, h1, h2, h3]
def pcP (h : HM) (b : Nat) : Option (PcI × List Int × Prop) := match (h b).val with
  | some v => match pcI v with
    | some y => match (h y.q).val with
      | some (.arr n3 1 f) => bif Nat.beq n3 y.n3 && ((h y.i).born && (h y.c).born) then some (y, ls iOf n3 f, ∀ x, x < n3 → isI .i64 (f x) = true) else none
      | _ => none
    | none => none
  | none => none
theorem pcP_val {h : HM} {b : Nat} {y : PcI} {ps : List Int} {ok : Prop} (hp : pcP h b = some (y, ps, ok)) :
    (h b).val = some y.v ∧ (h y.i).born = true ∧ (h y.c).born = true ∧ ps.length = y.n3 ∧ ∃ f, (h y.q).val = some (.arr y.n3 1 f) ∧ ps = ls iOf y.n3 f ∧ (ok → ∀ x, x < y.n3 → isI .i64 (f x) = true) := by
  unfold pcP at hp
  split at hp
  · rename_i v hd
    split at hp
    · rename_i y' hy
      split at hp
      · rename_i n3 f hq
        obtain ⟨hbb, hs⟩ := bif_some hp
        simp only [Option.some.injEq, Prod.mk.injEq] at hs
        obtain ⟨rfl, rfl, rfl⟩ := hs
        simp only [Bool.and_eq_true] at hbb
        obtain ⟨b1, b2, b3⟩ := hbb
        have b1 := Nat.eq_of_beq_eq_true b1
        subst b1
        have := pcI_val hy
        subst this
        exact ⟨hd, b2, b3, ls_length .., f, hq, rfl, fun h => h⟩
      · cases hp
    · cases hp
  · cases hp
theorem bun_pc {ρ : Nat → Nat} {h h' : HM} {d : Nat} {y : PcI} {i c q : Nat} (hp : (h d).val = some y.v) (e : h' d = h d) (h1 : ρ i = y.i) (h2 : ρ c = y.c) (h3 : ρ q = y.q) : Bun1 ρ (h' d) (.ro (y.at_ i c q)) :=
  Fit.ro (u := y.v) (by rw [e]; exact hp) (fun β => by rw [pcR_ren h1 h2 h3]) (fun n k f e => by cases e)
theorem p1_lit (s : Snd) (ps : List Int) (y : PcI) (hy : y.n3 = ps.length) (h0 : 0 ≤ s.port) (h1 : s.port.toNat < ps.length) (hl : ps.length ≤ 1000000) : LitOk Try.prog 31 [sndS s, .ptr 1 []] [.gone, .ro (y.at_ 2 3 4), .gone, .gone, .ro (.arr ps.length 1 (i64S ps))] (.bool (decide (ps.getD s.port.toNat 0 = 0))) [.gone, .gone, .gone, .gone, .gone] := by
  obtain ⟨id, dr, sq, n1, n2, n3, i, c, q⟩ := y
  dsimp only at hy
  subst hy
  simp only [PcI.at_]
  have h2 : s.port < (ps.length : Int) := by omega
  refine litOkM (fn := Try.f31) 5 24 0 rfl rfl rfl rfl rfl (by simp only [StableL, Stable, hp, pcR, i64S, prS, insS, sndsS, sndS, evtsS, evtS, prO, i64O, inO, HB.stable]; simp [HB.born, pcR, sndS]) rfl fun w0 M E hro => ?_
  repeat' (first | with_reducible (first | apply J1 | apply J3 | apply J4 | apply J5 | apply J6 | apply J7 | apply J8 | apply J9 | apply J10 | apply J11 | apply J12 | apply J13 | apply J14 | apply J15 | apply J16 | apply J17 | apply J18 | apply J19 | apply J20 | refine J2 ?_) | ((with_reducible apply J21); (· rfl)) | ((with_reducible intro hif); first | (focus (cases hif; done)) | (simp only [JH] at hif; try (exfalso; omega)) | (try (exfalso; omega))) | ((first | ((with_reducible apply J22 c1_ok tab_ok); (· rfl)) | ((with_reducible apply J23 fol c1_ok tab_ok); (· rfl)) | with_reducible apply J24); (· (simp only [push_cast, ↓JP, Nat.reduceAdd, Nat.reduceEqDiff, Nat.reduceLT, Nat.reduceMul, Nat.reduceLeDiff, reduceCtorEq, reduceIte, ↓JK, pcR, inR, inN, h0, h1, h2, i64S]; rfl)); (try kernel_rfl); (try exact Vm.b22)) | fail)
  apply At.endsPick [0, 1, 2, 3, 4] tab_ok (fn := Try.f31) (rs := [.tmp 3]) Anc.refl hro (Nat.le_of_ble_eq_true rfl) rfl
  · exact Vm.b18
  · exact Vm.b24
  · rfl
  · rfl
  · rfl
  · exact Vm.b38
  · rfl
  · exact Vm.b124
  · exact Vm.b10
  · exact fun β => rfl
  · exact Vm.b124
def rP1 : Spec := fun args h m => match args with
  | [v, .ptr b []] => match pcP h b with
    | some (y, ps, ok) => bif isSnd v && nodupN [0, b, y.i, y.c, y.q] then some (ok ∧ 0 ≤ (sndOf v).port ∧ (sndOf v).port.toNat < ps.length ∧ ps.length ≤ 1000000, .bool (decide (ps.getD (sndOf v).port.toNat 0 = 0)), [b, y.i, y.c, y.q], []) else none
    | none => none
  | _ => none
theorem rP1_ok : CallOk Try.prog 31 rP1 := by
  refine ⟨named_spec (by kernel_rfl), fun args h m c v rd wr hs hm hc w0 M β h' w R hrd hwr hst => ?_⟩
  unfold rP1 at hs
  split at hs
  · rename_i v0 b
    split at hs
    · rename_i y ps ok hcp
      obtain ⟨hb, hs⟩ := bif_some hs
      simp only [Option.some.injEq, Prod.mk.injEq] at hs
      obtain ⟨rfl, rfl, rfl, rfl⟩ := hs
      rw [Bool.and_eq_true] at hb
      obtain ⟨b1, hnd⟩ := hb
      obtain ⟨g2, g3, g4, g6, f, g7, g8, g9⟩ := pcP_val hcp
      obtain ⟨k1, k2, k3, k4⟩ := hc
      have ea : denL β [v0, .ptr b []] = denL β [sndS (sndOf v0), .ptr b []] := by simp only [denL]; rw [den_sndOf b1]
      rw [ea]
      exact bun_ok (h := h) (m := m) [0, b, y.i, y.c, y.q] (p1_lit (sndOf v0) ps y g6.symm k2 k3 k4) R rfl (by simp) rfl rfl hnd
        ⟨Fit.gone (by rw [R.nil0]; rfl), bun_pc g2 (hrd b (by simp)) rfl rfl rfl, Fit.gone (by rw [hrd y.i (by simp)]; exact g3), Fit.gone (by rw [hrd y.c (by simp)]; exact g4), bun_po g7 (g9 k1) g8 (hrd y.q (by simp)), trivial⟩ hm
        (fun p hp => by cases hp) (by simp) rfl
        ⟨trivial, pcR_st rfl rfl rfl, trivial, trivial, (fun q => i64S_stable q), trivial⟩ ⟨sndS_stable _, rfl, trivial⟩
        ⟨trivial, pcR_st rfl rfl rfl, trivial, trivial, (fun q => i64S_stable q), trivial⟩ trivial rfl rfl rfl
    · cases hs
  · cases hs
def cP1 : FuncId → Option Spec := look2 [(31, rP1)]
theorem cP1_ok : ∀ f S, cP1 f = some S → CallOk Try.prog f S := allOk_spec ⟨rP1_ok, trivial⟩
theorem idxQ_lit (l : List Snd) (ps : List Int) (y : PcI) (hy : y.n3 = ps.length) (hS : ∀ s ∈ l, 0 ≤ s.port ∧ s.port.toNat < ps.length) (hl : ps.length ≤ 1000000) (hll : l.length ≤ 1000000) : LitOk Try.prog 56 [.sl 1 1 [] 3 0 l.length none, .fn 31 [.ptr 2 []]] [.gone, .ro (.arr l.length 3 (sndsS l)), .ro (y.at_ 3 4 5), .gone, .gone, .ro (.arr ps.length 1 (i64S ps))] (.int .i64 (findI (gonB ps) l)) [.gone, .gone, .gone, .gone, .gone, .gone] := by
  obtain ⟨id, dr, sq, n1, n2, n3, i, c, q⟩ := y
  dsimp only at hy
  subst hy
  simp only [PcI.at_]
  refine litOkM (fn := Try.f56) 6 19 0 rfl rfl rfl rfl rfl (by simp only [StableL, Stable, hp, pcR, i64S, prS, insS, sndsS, sndS, evtsS, evtS, prO, i64O, inO, HB.stable]; simp [HB.born, pcR]) rfl fun w0 M E hro => ?_
  repeat' (first | with_reducible (first | apply J1 | apply J3 | apply J4 | apply J5 | apply J6 | apply J7 | apply J8 | apply J9 | apply J10 | apply J11 | apply J12 | apply J13 | apply J14 | apply J15 | apply J16 | apply J17 | apply J18 | apply J19 | apply J20 | refine J2 ?_) | ((with_reducible apply J21); (· rfl)) | ((with_reducible intro hif); first | (focus (cases hif; done)) | (simp only [JH] at hif; try (exfalso; omega)) | (try (exfalso; omega))) | ((first | ((with_reducible apply J22 cP1_ok tab_ok); (· rfl)) | ((with_reducible apply J23 fol cP1_ok tab_ok); (· rfl)) | with_reducible apply J24); (· exact Vm.b126); (try kernel_rfl); (try exact Vm.b89)) | fail)
  refine WF.loopAt (fun k => k ≤ l.length ∧ ∀ q, q < k → gonB ps (l.getD q ⟨0, 0, 0⟩) = false) (fun k => [(0, .sl 1 1 [] 3 0 l.length none), (1, .fn 31 [.ptr 2 []]), (7, .nat .i64 l.length), (8, .nat .i64 k)]) (fun k => [.gone, .ro (.arr l.length 3 (sndsS l)), .ro (pcR id dr sq n1 n2 ps.length 3 4 5), .gone, .gone, .ro (.arr ps.length 1 (i64S ps))]) (fun k => l.length - k) 0 ⟨Nat.zero_le _, fun q hq => absurd hq (Nat.not_lt_zero q)⟩ ?_ ?_ rfl ?_ ?_ rfl ?_
  · exact Vm.b11
  · exact Vm.b8
  · exact Vm.b124
  · exact Vm.b124
  rintro k ⟨hk, hq⟩
  by_cases hkl : k < l.length
  · have hm : l.getD k ⟨0, 0, 0⟩ ∈ l := by rw [List.getD_eq_getElem?_getD, List.getElem?_eq_getElem hkl]; exact List.getElem_mem hkl
    obtain ⟨s0, s1⟩ := hS _ hm
    cases hn : gonB ps (l.getD k ⟨0, 0, 0⟩)
    · have hn' := of_decide_eq_false hn
      repeat' (first | with_reducible (first | apply J1 | apply J3 | apply J4 | apply J5 | apply J6 | apply J7 | apply J8 | apply J9 | apply J10 | apply J11 | apply J12 | apply J13 | apply J14 | apply J15 | apply J16 | apply J17 | apply J18 | apply J19 | apply J20 | refine J2 ?_) | ((with_reducible apply J21); (· rfl)) | ((with_reducible intro hif); first | (focus (cases hif; done)) | (simp only [JH] at hif; try (exfalso; omega)) | (try (exfalso; omega))) | ((first | ((with_reducible apply J22 cP1_ok tab_ok); (· rfl)) | ((with_reducible apply J23 fol cP1_ok tab_ok); (· rfl)) | with_reducible apply J24); (· exact Vm.b127); (try kernel_rfl); (try exact Vm.b89)) | fail)
      refine At.next (k + 1) ?_ ?_ ?_ rfl ?_ ?_ rfl
      · exact Vm.b80
      · exact Vm.b11
      · exact Vm.b8
      · exact Vm.b124
      · exact Vm.b124
    · have hf := find_at hkl hq hn
      have hn' := of_decide_eq_true hn
      repeat' (first | with_reducible (first | apply J1 | apply J3 | apply J4 | apply J5 | apply J6 | apply J7 | apply J8 | apply J9 | apply J10 | apply J11 | apply J12 | apply J13 | apply J14 | apply J15 | apply J16 | apply J17 | apply J18 | apply J19 | apply J20 | refine J2 ?_) | ((with_reducible apply J21); (· rfl)) | ((with_reducible intro hif); first | (focus (cases hif; done)) | (simp only [JH] at hif; try (exfalso; omega)) | (try (exfalso; omega))) | ((first | ((with_reducible apply J22 cP1_ok tab_ok); (· rfl)) | ((with_reducible apply J23 fol cP1_ok tab_ok); (· rfl)) | with_reducible apply J24); (· exact Vm.b127); (try kernel_rfl); (try exact Vm.b89)) | fail)
      apply At.endsPick [0, 1, 2, 3, 4, 5] tab_ok (fn := Try.f56) (rs := [.tmp 4]) Anc.refl hro (Nat.le_of_ble_eq_true rfl) rfl
      · exact Vm.b18
      · exact Vm.b24
      · rfl
      · rfl
      · rfl
      · exact Vm.b38
      · rfl
      · exact Vm.b124
      · exact Vm.b10
      · rw [hf]; exact fun β => rfl
      · exact Vm.b124
  · obtain rfl : k = l.length := by omega
    have hf := find_no hq
    repeat' (first | with_reducible (first | apply J1 | apply J3 | apply J4 | apply J5 | apply J6 | apply J7 | apply J8 | apply J9 | apply J10 | apply J11 | apply J12 | apply J13 | apply J14 | apply J15 | apply J16 | apply J17 | apply J18 | apply J19 | apply J20 | refine J2 ?_) | ((with_reducible apply J21); (· rfl)) | ((with_reducible intro hif); first | (focus (cases hif; done)) | (simp only [JH] at hif; try (exfalso; omega)) | (try (exfalso; omega))) | ((first | ((with_reducible apply J22 cP1_ok tab_ok); (· rfl)) | ((with_reducible apply J23 fol cP1_ok tab_ok); (· rfl)) | with_reducible apply J24); (· exact Vm.b126); (try kernel_rfl); (try exact Vm.b89)) | fail)
    apply At.endsPick [0, 1, 2, 3, 4, 5] tab_ok (fn := Try.f56) (rs := [.tmp 4]) Anc.refl hro (Nat.le_of_ble_eq_true rfl) rfl
    · exact Vm.b18
    · exact Vm.b24
    · rfl
    · rfl
    · rfl
    · exact Vm.b38
    · rfl
    · exact Vm.b124
    · exact Vm.b10
    · rw [hf]; exact fun β => rfl
    · exact Vm.b124
def rPx : Spec := fun args h m => match args with
  | [.sl z s [] 3 0 n none, .fn f0 [.ptr b []]] => match (h s).val with
    | some (.arr n' 3 f) => match pcP h b with
      | some (y, ps, ok) => bif (Nat.beq z s && Nat.beq n n') && (Nat.beq f0 31 && nodupN [0, s, b, y.i, y.c, y.q]) then
          some (ok ∧ (∀ q, q < n → isSnd (f q) = true) ∧ (∀ s ∈ ls sndOf n f, 0 ≤ s.port ∧ s.port.toNat < ps.length) ∧ ps.length ≤ 1000000 ∧ n ≤ 1000000, .int .i64 (findI (gonB ps) (ls sndOf n f)), [s, b, y.i, y.c, y.q], []) else none
      | none => none
    | _ => none
  | _ => none
theorem rPx_ok : CallOk Try.prog 56 rPx := by
  refine ⟨named_spec (by kernel_rfl), fun args h m c v rd wr hs hm hc w0 M β h' w R hrd hwr hst => ?_⟩
  unfold rPx at hs
  split at hs
  · rename_i z s n f0 b
    split at hs
    · rename_i n' f hsv
      split at hs
      · rename_i y ps ok hcp
        obtain ⟨hb, hs⟩ := bif_some hs
        simp only [Option.some.injEq, Prod.mk.injEq] at hs
        obtain ⟨rfl, rfl, rfl, rfl⟩ := hs
        simp only [Bool.and_eq_true] at hb
        obtain ⟨⟨b1, b2⟩, b3, hnd⟩ := hb
        have b1 := Nat.eq_of_beq_eq_true b1
        have b2 := Nat.eq_of_beq_eq_true b2
        have b3 := Nat.eq_of_beq_eq_true b3
        subst b1 b2 b3
        obtain ⟨g2, g3, g4, g6, f2, g7, g8, g9⟩ := pcP_val hcp
        obtain ⟨k1, k2, k3, k4, k5⟩ := hc
        have el : (ls sndOf n f).length = n := ls_length ..
        have ea : denL β [SV.sl z z [] 3 0 n none, .fn 31 [.ptr b []]] = denL β [SV.sl z z [] 3 0 (ls sndOf n f).length none, .fn 31 [.ptr b []]] := by rw [el]
        rw [ea]
        exact bun_ok (h := h) (m := m) [0, z, b, y.i, y.c, y.q] (idxQ_lit (ls sndOf n f) ps y g6.symm k3 k4 (by rw [el]; exact k5)) R rfl (by simp) rfl rfl hnd
          ⟨Fit.gone (by rw [R.nil0]; rfl), Fit.ro (u := .arr n 3 f) (by rw [hrd z (by simp)]; exact hsv) (fun β => by
            simp only [SV.ren, sndsS_ren, el]
            exact arrCl fun q hq => by rw [isSnd_cl (k2 q hq)]; unfold sndsS; rw [ls_getD hq, isSnd_cl (isSnd_sndS _), sndOf_sndS]) (fun n k f e => by simp only [SV.ren, el] at e; injection e with e1 e2 e3; subst e1 e2; exact ⟨_, rfl⟩), bun_pc g2 (hrd b (by simp)) rfl rfl rfl, Fit.gone (by rw [hrd y.i (by simp)]; exact g3), Fit.gone (by rw [hrd y.c (by simp)]; exact g4), bun_po g7 (g9 k1) g8 (hrd y.q (by simp)), trivial⟩ hm
          (fun p hp => by cases hp) (by simp) rfl
          ⟨trivial, (fun q => sndsS_stable q), pcR_st rfl rfl rfl, trivial, trivial, (fun q => i64S_stable q), trivial⟩ ⟨⟨rfl, rfl⟩, ⟨rfl, trivial⟩, trivial⟩
          ⟨trivial, (fun q => sndsS_stable q), pcR_st rfl rfl rfl, trivial, trivial, (fun q => i64S_stable q), trivial⟩ trivial rfl rfl rfl
      · cases hs
    · cases hs
  · cases hs
def cPx : FuncId → Option Spec := look2 [(56, rPx)]
theorem cPx_ok : ∀ f S, cPx f = some S → CallOk Try.prog f S := allOk_spec ⟨rPx_ok, trivial⟩
theorem conQ_lit (l : List Snd) (ps : List Int) (y : PcI) (hy : y.n3 = ps.length) (hS : ∀ s ∈ l, 0 ≤ s.port ∧ s.port.toNat < ps.length) (hl : ps.length ≤ 1000000) (hll : l.length ≤ 1000000) : LitOk Try.prog 30 [.sl 1 1 [] 3 0 l.length none, .fn 31 [.ptr 2 []]] [.gone, .ro (.arr l.length 3 (sndsS l)), .ro (y.at_ 3 4 5), .gone, .gone, .ro (.arr ps.length 1 (i64S ps))] (.bool (l.any (gonB ps))) [.gone, .gone, .gone, .gone, .gone, .gone] := by
  obtain ⟨id, dr, sq, n1, n2, n3, i, c, q⟩ := y
  dsimp only at hy
  subst hy
  simp only [PcI.at_]
  have e := find_any (gonB ps) l
  refine litOkM (fn := Try.f30) 6 9 0 rfl rfl rfl rfl rfl (by simp only [StableL, Stable, hp, pcR, i64S, prS, insS, sndsS, sndS, evtsS, evtS, prO, i64O, inO, HB.stable]; simp [HB.born, pcR]) rfl fun w0 M E hro => ?_
  repeat' (first | with_reducible (first | apply J1 | apply J3 | apply J4 | apply J5 | apply J6 | apply J7 | apply J8 | apply J9 | apply J10 | apply J11 | apply J12 | apply J13 | apply J14 | apply J15 | apply J16 | apply J17 | apply J18 | apply J19 | apply J20 | refine J2 ?_) | ((with_reducible apply J21); (· rfl)) | ((with_reducible intro hif); first | (focus (cases hif; done)) | (simp only [JH] at hif; try (exfalso; omega)) | (try (exfalso; omega))) | ((first | ((with_reducible apply J22 cPx_ok tab_ok); (· rfl)) | ((with_reducible apply J23 fol cPx_ok tab_ok); (· rfl)) | with_reducible apply J24); (· (simp only [push_cast, ↓JP, Nat.reduceAdd, Nat.reduceEqDiff, Nat.reduceLT, Nat.reduceMul, Nat.reduceLeDiff, reduceCtorEq, reduceIte, ↓JK, PcI.at_, pcR, cPx, rPx, pcP, pcI, nodupN, memN, JE, isI_int, ls_sndsS, ls_sndsS', inR, inN]; rfl)); (try kernel_rfl); (try exact Vm.b92)) | fail)
  apply At.endsPick [0, 1, 2, 3, 4, 5] tab_ok (fn := Try.f30) (rs := [.tmp 4]) Anc.refl hro (Nat.le_of_ble_eq_true rfl) rfl
  · exact Vm.b18
  · exact Vm.b24
  · rfl
  · rfl
  · rfl
  · exact Vm.b38
  · rfl
  · exact Vm.b124
  · exact Vm.b10
  · rw [← e]; exact fun β => rfl
  · exact Vm.b124
def rPC : Spec := fun args h m => match args with
  | [.sl z s [] 3 0 n none, .fn f0 [.ptr b []]] => match (h s).val with
    | some (.arr n' 3 f) => match pcP h b with
      | some (y, ps, ok) => bif (Nat.beq z s && Nat.beq n n') && (Nat.beq f0 31 && nodupN [0, s, b, y.i, y.c, y.q]) then
          some (ok ∧ (∀ q, q < n → isSnd (f q) = true) ∧ (∀ s ∈ ls sndOf n f, 0 ≤ s.port ∧ s.port.toNat < ps.length) ∧ ps.length ≤ 1000000 ∧ n ≤ 1000000, .bool ((ls sndOf n f).any (gonB ps)), [s, b, y.i, y.c, y.q], []) else none
      | none => none
    | _ => none
  | _ => none
theorem rPC_ok : CallOk Try.prog 30 rPC := by
  refine ⟨named_spec (by kernel_rfl), fun args h m c v rd wr hs hm hc w0 M β h' w R hrd hwr hst => ?_⟩
  unfold rPC at hs
  split at hs
  · rename_i z s n f0 b
    split at hs
    · rename_i n' f hsv
      split at hs
      · rename_i y ps ok hcp
        obtain ⟨hb, hs⟩ := bif_some hs
        simp only [Option.some.injEq, Prod.mk.injEq] at hs
        obtain ⟨rfl, rfl, rfl, rfl⟩ := hs
        simp only [Bool.and_eq_true] at hb
        obtain ⟨⟨b1, b2⟩, b3, hnd⟩ := hb
        have b1 := Nat.eq_of_beq_eq_true b1
        have b2 := Nat.eq_of_beq_eq_true b2
        have b3 := Nat.eq_of_beq_eq_true b3
        subst b1 b2 b3
        obtain ⟨g2, g3, g4, g6, f2, g7, g8, g9⟩ := pcP_val hcp
        obtain ⟨k1, k2, k3, k4, k5⟩ := hc
        have el : (ls sndOf n f).length = n := ls_length ..
        have ea : denL β [SV.sl z z [] 3 0 n none, .fn 31 [.ptr b []]] = denL β [SV.sl z z [] 3 0 (ls sndOf n f).length none, .fn 31 [.ptr b []]] := by rw [el]
        rw [ea]
        exact bun_ok (h := h) (m := m) [0, z, b, y.i, y.c, y.q] (conQ_lit (ls sndOf n f) ps y g6.symm k3 k4 (by rw [el]; exact k5)) R rfl (by simp) rfl rfl hnd
          ⟨Fit.gone (by rw [R.nil0]; rfl), Fit.ro (u := .arr n 3 f) (by rw [hrd z (by simp)]; exact hsv) (fun β => by
            simp only [SV.ren, sndsS_ren, el]
            exact arrCl fun q hq => by rw [isSnd_cl (k2 q hq)]; unfold sndsS; rw [ls_getD hq, isSnd_cl (isSnd_sndS _), sndOf_sndS]) (fun n k f e => by simp only [SV.ren, el] at e; injection e with e1 e2 e3; subst e1 e2; exact ⟨_, rfl⟩), bun_pc g2 (hrd b (by simp)) rfl rfl rfl, Fit.gone (by rw [hrd y.i (by simp)]; exact g3), Fit.gone (by rw [hrd y.c (by simp)]; exact g4), bun_po g7 (g9 k1) g8 (hrd y.q (by simp)), trivial⟩ hm
          (fun p hp => by cases hp) (by simp) rfl
          ⟨trivial, (fun q => sndsS_stable q), pcR_st rfl rfl rfl, trivial, trivial, (fun q => i64S_stable q), trivial⟩ ⟨⟨rfl, rfl⟩, ⟨rfl, trivial⟩, trivial⟩
          ⟨trivial, (fun q => sndsS_stable q), pcR_st rfl rfl rfl, trivial, trivial, (fun q => i64S_stable q), trivial⟩ trivial rfl rfl rfl
      · cases hs
    · cases hs
  · cases hs
end Go.Proofs.Ytjliakjbdcplcaa.Vm
end

section
namespace Go.Proofs.Ytjliakjbdcplcaa.Vm
open Go.RowKit
set_option linter.unusedVariables false
set_option linter.unusedSimpArgs false
theorem mPorts_no {l : List Int} (h : ∀ x ∈ l, 0 ≤ x) : (mPorts l).any noPort = false := by
  rw [List.any_eq_false]
  intro x hx
  obtain ⟨y, hy, rfl⟩ := List.mem_map.1 hx
  have a := Int.tmod_nonneg 17 (h y hy)
  have b := Int.tmod_lt_of_pos y (show (0 : Int) < 17 by decide)
  unfold noPort isB
  by_cases h0 : y.tmod 17 = 0
  · simp [h0]
  · have e : decide (1 ≤ y.tmod 17 ∧ y.tmod 17 ≤ 16) = true := decide_eq_true (by omega)
    rw [e]; simp
theorem made28_proc (xs : List Ins) {id ahead fuel sq d seed : Int} {cs ps : List Int} (hid : 0 ≤ id) (hah : 0 ≤ ahead) (hf : 0 ≤ fuel) (hsq : 0 ≤ sq ∧ sq ≤ 65535) (hd : 0 ≤ d ∧ d ≤ 4294967295) (hps : ∀ q, 0 ≤ ps.getD q 0 ∧ ps.getD q 0 ≤ 255) :
    procE ⟨seed, 1 + ahead.tmod 5, fuel.tmod 300⟩ ⟨1 + id.tmod 16, made14 xs, cs.take 12, d, sq, mPorts (ps.take 16)⟩ = 0 := by
  have y0 := Int.tmod_nonneg 16 hid
  have y1 := Int.tmod_lt_of_pos id (show (0 : Int) < 16 by decide)
  have y2 := Int.tmod_nonneg 5 hah
  have y3 := Int.tmod_lt_of_pos ahead (show (0 : Int) < 5 by decide)
  have y4 := Int.tmod_nonneg 300 hf
  have y5 := Int.tmod_lt_of_pos fuel (show (0 : Int) < 300 by decide)
  have hr : (⟨seed, 1 + ahead.tmod 5, fuel.tmod 300⟩ : Rul).rightB = true := decide_eq_true (by dsimp only; omega)
  have hp : (⟨1 + id.tmod 16, made14 xs, cs.take 12, d, sq, mPorts (ps.take 16)⟩ : Prc).rightB = true := by
    refine rightB_iff.2 ⟨made14_right xs, by dsimp only; omega, by rw [List.length_take]; omega, hd.1, by dsimp only; omega, hsq.1, by dsimp only; omega, by simp [mPorts]; omega, mPorts_no fun x hx => ?_⟩
    obtain ⟨i, hi, rfl⟩ := List.mem_iff_getElem.1 (List.mem_of_mem_take hx)
    have := (hps i).1
    rwa [List.getD_eq_getElem?_getD, List.getElem?_eq_getElem hi] at this
  unfold procE
  rw [if_neg (by rw [hr]; exact Bool.noConfusion), if_neg (by rw [hp]; exact Bool.noConfusion)]
theorem oneE_of {r : Rul} {p : Prc} {e : Evt} (h : procE r p = 0) (ht : takesB p e = true) : oneE r p e = hE r p e := by
  unfold oneE
  rw [if_neg (fun g => g h), if_neg (by rw [ht]; exact Bool.noConfusion)]
theorem sentL_getD (p : Prc) (t : Int) : ∀ (l : List Snd) (q : Int) (i : Nat), i < l.length → (sentL p t q l).getD i ⟨0, 0, 0, 0, 0⟩ = ⟨t + (l.getD i ⟨0, 0, 0⟩).delay, p.id, q + (i : Int), p.ports.getD (l.getD i ⟨0, 0, 0⟩).port.toNat 0, (l.getD i ⟨0, 0, 0⟩).value⟩
  | [], _, i, hi => absurd hi (Nat.not_lt_zero i)
  | s :: l, q, 0, _ => by simp [sentL]
  | s :: l, q, i + 1, hi => by
    have := sentL_getD p t l (q + 1) i (by simp at hi; omega)
    simp only [sentL, List.getD_cons_succ, this]
    congr 1
    omega
theorem hE_bad {r : Rul} {p : Prc} {e : Evt} (h : (hR r p e).bad ≠ 0) : hE r p e = (hR r p e).bad := by unfold hE; rw [if_pos h]
theorem hE_gone {r : Rul} {p : Prc} {e : Evt} (h : (hR r p e).bad = 0) (hg : (hR r p e).s.sends.any (gonB p.ports) = true) : hE r p e = 285 := by
  unfold hE; rw [if_neg (fun g => g h), if_pos (by exact hg)]
theorem hE_ok {r : Rul} {p : Prc} {e : Evt} (h : (hR r p e).bad = 0) (hg : (hR r p e).s.sends.any (gonB p.ports) = false) (hq : p.seq + (hR r p e).s.sends.length ≤ 4294967296) : hE r p e = 0 := by
  unfold hE
  rw [if_neg (fun g => g h), if_neg (fun g => by rw [show goneB p.ports (hR r p e).s.sends = (hR r p e).s.sends.any (gonB p.ports) from rfl, hg] at g; cases g), if_neg (by omega)]
theorem cnt_le (P : List Ins) (x : Int) : ∀ l : List Int, cnt P x l ≤ l.length := fun l => by
  unfold cnt; exact List.length_filter_le _ _
end Go.Proofs.Ytjliakjbdcplcaa.Vm
end

section
namespace Go.Proofs.Ytjliakjbdcplcaa.Vm
open Go.RowKit
attribute [local push_cast] runR opG gtmp gval gus opX tmpsOf tm tmO tmP restr look look2 tab tys zs ets eqB eqBL allB numOf ieq Int.cast_ofNat_Int Int.ofNat_zero beq_true beq_false frameOf ev evL ofV opV loadV noW pushF wrsL setH allBorn allGone HB.born HB.isGone HB.val SV.plain dstOk hp nav fitsT SV.size sizeL SV.isAgg TK.size TK.agg bin binE binN binI arN arI cmpN cmpI keq kn narrow callV storeV setp fillV buildV buildSliceV makeV sliceV appendV copyV List.isEmpty_nil srcV evO asN ite_t ite_f ite_bool ite_int ite_nat maxV v_beq v_ble v_blt cond_true cond_false List.getElem?_cons_zero List.getElem?_cons_succ List.getD_cons_zero List.getD_cons_succ List.getD_nil List.length_cons List.length_nil List.take_succ_cons List.take_zero List.set_cons_zero List.set_cons_succ List.cons_append List.nil_append List.append_assoc List.replicate_succ List.replicate_zero Nat.zero_add Nat.add_zero decide_true decide_false Bool.true_and Bool.and_true Bool.false_and Bool.and_false Bool.true_or Bool.or_true Bool.false_or Bool.or_false beq_self_eq_true Bool.or_self Nat.lt_irrefl Nat.not_lt_zero Nat.le_refl Option.getD_some Option.getD_none BEq.rfl Bool.not_true Bool.not_false Bool.cond_true_left Bool.cond_false_right
set_option linter.unusedVariables false
set_option linter.unusedSimpArgs false
set_option maxRecDepth 100000
set_option maxHeartbeats 4000000
end Go.Proofs.Ytjliakjbdcplcaa.Vm
end

section
namespace Go.Proofs.Ytjliakjbdcplcaa.Vm
open Go.RowKit
set_option linter.unusedVariables false
set_option linter.unusedSimpArgs false
set_option maxRecDepth 100000
set_option maxHeartbeats 4000000
def sAllB (i : Nat) : Spec := fun args h m => match args with
  | [.agg [v1, v2, v3], .agg [v4, v5, v6, v7, v8, v9], v10] => match srcV h 5 (.tup []) v5, srcV h 1 (.tup []) v6, srcV h 1 (.tup []) v9, srcV h 5 (.tup []) v10 with
    | some (c5, n5, f5, r5), some (c6, n6, f6, r6), some (c9, n9, f9, r9), some (c10, n10, f10, r10) => bif isI .u64 v1 && isI .i64 v2 && isI .i64 v3 && isI .i64 v4 && isI .i64 v7 && isI .i64 v8 then some (c5 ∧ c6 ∧ c9 ∧ c10 ∧ (∀ q, q < n5 → isIns (f5 q) = true) ∧ (∀ q, q < n6 → isI .i64 (f6 q) = true) ∧ (∀ q, q < n9 → isI .i64 (f9 q) = true) ∧ (∀ q, q < n10 → isEvt (f10 q) = true) ∧ ((∀ x ∈ (ls insOf n5 f5), x.ok)) ∧ (n5 ≤ 1000000) ∧ (n6 ≤ 1000000) ∧ (n9 ≤ 1000000) ∧ (n10 ≤ 200) ∧ (i < (ls evtOf n10 f10).length) ∧ (procE ⟨(iOf v1), (iOf v2), (iOf v3)⟩ ⟨(iOf v4), (ls insOf n5 f5), (ls iOf n6 f6), (iOf v7), (iOf v8), (ls iOf n9 f9)⟩ = 0) ∧ ((∀ q, q < i → badAt ⟨(iOf v4), (ls insOf n5 f5), (ls iOf n6 f6), (iOf v7), (iOf v8), (ls iOf n9 f9)⟩ (ls evtOf n10 f10) q = 0)) ∧ (badAt ⟨(iOf v4), (ls insOf n5 f5), (ls iOf n6 f6), (iOf v7), (iOf v8), (ls iOf n9 f9)⟩ (ls evtOf n10 f10) i ≠ 0), .tup [dn0, .nat .i64 i, .int .i64 (badAt ⟨(iOf v4), (ls insOf n5 f5), (ls iOf n6 f6), (iOf v7), (iOf v8), (ls iOf n9 f9)⟩ (ls evtOf n10 f10) i)], r5 ++ r6 ++ r9 ++ r10, []) else none
    | _, _, _, _ => none
  | _ => none
theorem sAllB_ok (i : Nat) : CallOk Try.prog 32 (sAllB i) := by
  refine ⟨named_spec (by kernel_rfl), fun args h m c v rd wr hs hm hc w0 M β h' w R hrd hwr hst => ?_⟩
  unfold sAllB at hs
  split at hs
  · rename_i v1 v2 v3 v4 v5 v6 v7 v8 v9 v10
    split at hs
    · rename_i c5 n5 f5 r5 c6 n6 f6 r6 c9 n9 f9 r9 c10 n10 f10 r10 a5 a6 a9 a10
      obtain ⟨hb, hs⟩ := bif_some hs
      simp only [Option.some.injEq, Prod.mk.injEq] at hs
      obtain ⟨rfl, rfl, rfl, rfl⟩ := hs
      simp only [Bool.and_eq_true] at hb
      obtain ⟨⟨⟨⟨⟨b1, b2⟩, b3⟩, b4⟩, b7⟩, b8⟩ := hb
      obtain ⟨k5, k6, k9, k10, g5, g6, g9, g10, y1, y2, y3, y4, y5, y6, y7, y8, y9⟩ := hc
      obtain ⟨A5, p5, d5, e5, t5⟩ := reads_src R a5 k5 (fun i hi => hrd i (List.mem_append_left _ (List.mem_append_left _ (List.mem_append_left _ hi)))) (by omega)
      obtain ⟨A6, p6, d6, e6, t6⟩ := reads_src R a6 k6 (fun i hi => hrd i (List.mem_append_left _ (List.mem_append_left _ (List.mem_append_right _ hi)))) (by omega)
      obtain ⟨A9, p9, d9, e9, t9⟩ := reads_src R a9 k9 (fun i hi => hrd i (List.mem_append_left _ (List.mem_append_right _ hi))) (by omega)
      obtain ⟨A10, p10, d10, e10, t10⟩ := reads_src R a10 k10 (fun i hi => hrd i (List.mem_append_right _ hi)) (by omega)
      refine callRo (views := [⟨5, (ls insOf n5 f5).length, prS (ls insOf n5 f5), A5, p5⟩, ⟨1, (ls iOf n6 f6).length, i64S (ls iOf n6 f6), A6, p6⟩, ⟨1, (ls iOf n9 f9).length, i64S (ls iOf n9 f9), A9, p9⟩, ⟨5, (ls evtOf n10 f10).length, evtsS (ls evtOf n10 f10), A10, p10⟩]) (all_bad ⟨(iOf v1), (iOf v2), (iOf v3)⟩ ⟨(iOf v4), (ls insOf n5 f5), (ls iOf n6 f6), (iOf v7), (iOf v8), (ls iOf n9 f9)⟩ (ls evtOf n10 f10) p5 p6 p9 p10 y1 (by rw [ls_length]; exact y2) (by rw [ls_length]; exact y3) (by rw [ls_length]; exact y4) (by rw [ls_length]; exact y5) i y6 y7 y8 y9) ?_ R hm hwr ?_ ?_ ?_
      · intro x hx
        simp only [List.mem_cons, List.not_mem_nil, or_false] at hx
        rcases hx with rfl | rfl | rfl | rfl
        · exact viewIns t5 e5 g5
        · exact viewI64 t6 e6 g6
        · exact viewI64 t9 e9 g9
        · exact viewEvt t10 e10 g10
      · intro β1 hv
        simp only [Vd, ls_length, and_true] at hv
        obtain ⟨z5, z6, z9, z10⟩ := hv
        simp only [denL, aggDen, intDen, natDen, boolDen, ls_length, z5, z6, z9, z10, d5, d6, d9, d10, isI_den b1, isI_den b2, isI_den b3, isI_den b4, isI_den b7, isI_den b8]
      · exact Vm.b105
      · exact Vm.b105
    · cases hs
  · cases hs
def cNw28 : FuncId → Option Spec := look2 [(43, sClI), (61, sClN), (62, sPRight)]
theorem cNw28_ok : ∀ f S, cNw28 f = some S → CallOk Try.prog f S := allOk_spec ⟨sClI_ok, sClN_ok, sPRight_ok, trivial⟩
def newP (id : Int) (P : List Ins) (c : Nat) (ps : List Int) : Prc := ⟨id, P, List.replicate c 0, 0, 0, ps⟩
def pc0 : SV := .agg [.nat .i64 0, .sl 0 0 [] 0 0 0 (some 0), .sl 0 0 [] 0 0 0 (some 0), .nat .i64 0, .nat .i64 0, .sl 0 0 [] 0 0 0 (some 0)]
theorem ls_zero_rep (n : Nat) : ls iOf n (fun _ => SV.nat .i64 0) = List.replicate n 0 := by
  unfold ls
  simp [iOf, List.map_const']
theorem less_rep {t n : Nat} {σ : Nat → Nat} : Less (.own t (.arr n 1 fun _ => .nat .i64 0) false) ((HB.own t (.arr (List.replicate n (0 : Int)).length 1 (i64S (List.replicate n 0))) false).ren σ) := by
  rw [List.length_replicate]
  have e : (HB.own t (.arr n 1 (i64S (List.replicate n 0))) false).ren σ = .own t (.arr n 1 (i64S (List.replicate n 0))) false := rfl
  rw [e]
  exact .val (fun β => arrCl fun q hq => by
      unfold i64S
      rw [List.getD_eq_getElem?_getD, List.getElem?_eq_getElem (by simpa using hq)]
      simp; rfl) (fun n1 k1 f1 e => by injection e with e1 e2 e3; subst e1 e2; exact ⟨_, rfl⟩) (fun n1 k1 f1 e => by injection e with e1 e2 e3; subst e1 e2; exact ⟨_, rfl⟩)
theorem new_ok (id : Int) (c : Nat) (P : List Ins) (ps : List Int) (p1 p2 : Nat) (hok : ∀ x ∈ P, x.ok) (hn : P.length ≤ 1000000) (hpo : ps.length ≤ 1000000) (c1 : c ≤ 1024) (hr : (newP id P c ps).rightB = true) : LitOk Try.prog 34 [.int .i64 id, .sl 1 2 [] 5 0 P.length (some p1), .nat .i64 c, .sl 3 4 [] 1 0 ps.length (some p2)] [.gone, .gone, .ro (.arr P.length 5 (prS P)), .gone, .ro (.arr ps.length 1 (i64S ps))] (.tup [pcS (newP id P c ps) 5 6 7, .int .i64 0]) [.gone, .gone, .gone, .gone, .gone, prO P, i64O (newP id P c ps).cells, inO ps] := by
  have h2 : ¬ 1024 < c := by omega
  have hr' : Prc.rightB ⟨id, P, List.replicate c 0, 0, 0, ps⟩ = true := hr
  refine litOkM (fn := Try.f34) 5 31 0 rfl rfl rfl rfl rfl (by simp only [StableL, Stable, hp, pcS, dnB, DnI.at_, dnS, dnR, i64S, prS, insS, sndsS, sndS, evtsS, evtS, prO, i64O, inO, evO_, cB, sB, HB.stable]; simp [HB.born]) rfl fun w0 M E hro => ?_
  repeat' (first | with_reducible (first | apply J1 | apply J3 | apply J4 | apply J5 | apply J6 | apply J7 | apply J8 | apply J9 | apply J10 | apply J11 | apply J12 | apply J13 | apply J14 | apply J15 | apply J16 | apply J17 | apply J18 | apply J19 | apply J20 | refine J2 ?_) | ((with_reducible apply J21); (· rfl)) | ((with_reducible intro hif); first | (focus (cases hif; done)) | (simp only [JH] at hif; try (exfalso; omega)) | (try (exfalso; omega))) | ((first | ((with_reducible apply J22 cNw28_ok tab_ok); (· rfl)) | ((with_reducible apply J23 fol cNw28_ok tab_ok); (· rfl)) | with_reducible apply J24); (· (simp only [push_cast, ↓JP, Nat.reduceAdd, Nat.reduceEqDiff, Nat.reduceLT, Nat.reduceMul, Nat.reduceLeDiff, reduceCtorEq, reduceIte, ↓JK, JE, prc_eta, cNw28, sClI, sClN, sPRight, inR, inN, ls_zero_rep, prO, i64O, inO, pc0, h2, hr']; rfl)); (try kernel_rfl); (try (focus (first | exact True.intro | ((try simp only [JS, implies_true, forall_const, shaped, shapedL, kndOf, ls_prS, ls_prS', ls_i64S', ls_i64S, ls_length, prc_eta, iOf]); (repeat' (first | exact True.intro | assumption | omega | apply And.intro | rfl | decide | intro _)); done) | ((try simp only [JS, implies_true, forall_const, shaped, shapedL, kndOf, inR, inN]); (repeat' (first | assumption | exact True.intro | omega | apply And.intro)); done))))) | fail)
  refine At.put 7 (.own 2 (.arr c 1 fun _ => .nat .i64 0) false) .loose (fun q => trivial) rfl rfl ?_
  simp only [setH]
  apply At.endsPick [0, 1, 2, 3, 4, 6, 7, 8] tab_ok (fn := Try.f34) (rs := [.cell 8 82, .tmp 9]) Anc.refl hro (Nat.le_of_ble_eq_true rfl) rfl
  · exact Vm.b18
  · exact Vm.b24
  · rfl
  · rfl
  · rfl
  · (repeat' (first | exact trivial | exact .inl rfl | exact .inr (.same _) | exact .inr .loose | exact .inr (.arr (by assumption)) | apply And.intro | exact .inr less_rep))
  · rfl
  · exact Vm.b105
  · exact Vm.b10
  · intro β; simp only [pcS, newP, List.length_replicate]; rfl
  · exact Vm.b105
def sNewPG : Spec := fun args h m => match args with
  | [v1, v2, .nat q3 v3, v4] => match srcV h 5 (.tup []) v2, srcV h 1 (.tup []) v4 with
    | some (c2, n2, f2, r2), some (c4, n4, f4, r4) => bif isI .i64 v1 && keq q3 .i64 then some (c2 ∧ c4 ∧ (∀ q, q < n2 → isIns (f2 q) = true) ∧ (∀ q, q < n4 → isI .i64 (f4 q) = true) ∧ ((∀ x ∈ (ls insOf n2 f2), x.ok)) ∧ (n2 ≤ 1000000) ∧ (n4 ≤ 1000000) ∧ (v3 ≤ 1024) ∧ ((newP (iOf v1) (ls insOf n2 f2) v3 (ls iOf n4 f4)).rightB = true), .tup [pcS (newP (iOf v1) (ls insOf n2 f2) v3 (ls iOf n4 f4)) m (m + 1) (m + 2), .int .i64 0], r2 ++ r4, [(m, prO (ls insOf n2 f2)), (m + 1, i64O (newP (iOf v1) (ls insOf n2 f2) v3 (ls iOf n4 f4)).cells), (m + 2, inO (ls iOf n4 f4))]) else none
    | _, _ => none
  | _ => none
theorem sNewPG_ok : CallOk Try.prog 34 sNewPG := by
  refine ⟨named_spec (by kernel_rfl), fun args h m c v rd wr hs hm hc w0 M β h' w R hrd hwr hst => ?_⟩
  unfold sNewPG at hs
  split at hs
  · rename_i v1 v2 q3 v3 v4
    split at hs
    · rename_i c2 n2 f2 r2 c4 n4 f4 r4 a2 a4
      obtain ⟨hb, hs⟩ := bif_some hs
      simp only [Option.some.injEq, Prod.mk.injEq] at hs
      obtain ⟨rfl, rfl, rfl, rfl⟩ := hs
      simp only [Bool.and_eq_true] at hb
      obtain ⟨b1, b3⟩ := hb
      have w3 := keq_eq b3
      subst w3
      obtain ⟨k2, k4, g2, g4, y1, y2, y3, y4, y5⟩ := hc
      obtain ⟨A2, p2, d2, e2, t2⟩ := reads_src R a2 k2 (fun i hi => hrd i (List.mem_append_left _ hi)) (by omega)
      obtain ⟨A4, p4, d4, e4, t4⟩ := reads_src R a4 k4 (fun i hi => hrd i (List.mem_append_right _ hi)) (by omega)
      refine callRo (views := [⟨5, (ls insOf n2 f2).length, prS (ls insOf n2 f2), A2, p2⟩, ⟨1, (ls iOf n4 f4).length, i64S (ls iOf n4 f4), A4, p4⟩]) (new_ok (iOf v1) v3 (ls insOf n2 f2) (ls iOf n4 f4) p2 p4 y1 (by rw [ls_length]; exact y2) (by rw [ls_length]; exact y3) y4 y5) ?_ R hm hwr ?_ ?_ ?_
      · intro x hx
        simp only [List.mem_cons, List.not_mem_nil, or_false] at hx
        rcases hx with rfl | rfl
        · exact viewIns t2 e2 g2
        · exact viewI64 t4 e4 g4
      · intro β1 hv
        simp only [Vd, ls_length, and_true] at hv
        obtain ⟨z2, z4⟩ := hv
        simp only [denL, aggDen, intDen, natDen, boolDen, ls_length, z2, z4, d2, d4, isI_den b1]
      · exact Vm.b105
      · exact Vm.b105
    · cases hs
  · cases hs
theorem ls_evtsS2 (l : List Evt) : ls evtOf l.length (fun q => evtS (l.getD q ⟨0, 0, 0, 0, 0⟩)) = l := ls_evtsS l
end Go.Proofs.Ytjliakjbdcplcaa.Vm
end

section
namespace Go.Proofs.Ytjliakjbdcplcaa.Vm
open Go.RowKit
set_option linter.unusedVariables false
set_option linter.unusedSimpArgs false
set_option maxRecDepth 100000
set_option maxHeartbeats 4000000
def sOneX : Spec := fun args h m => match args with
  | [.agg [_, _, .nat .i64 10], .agg [_, _, _, _, _, .sl 5 5 [] 1 0 1 none], .agg [.agg [.nat .i64 7, _, _], .nat .i64 3, _]] => sOneG args h m
  | _ => sOneB args h m
theorem sOneX_ok : CallOk Try.prog 28 sOneX := by
  refine ⟨named_spec (by kernel_rfl), fun args h m c v rd wr hs hm hc w0 M β h' w R hrd hwr hst => ?_⟩
  unfold sOneX at hs
  split at hs
  · exact sOneG_ok.2 _ h m c v rd wr hs hm hc w0 M β h' w R hrd hwr hst
  · exact sOneB_ok.2 _ h m c v rd wr hs hm hc w0 M β h' w R hrd hwr hst
theorem ls_one {α : Type} (g : SV → α) (f : Nat → SV) : ls g 1 f = [g (f 0)] := rfl
theorem ls_two {α : Type} (g : SV → α) (f : Nat → SV) : ls g 2 f = [g (f 0), g (f 1)] := rfl
theorem nat_zero_int : ((0 : Nat) : Int) = 0 := rfl
theorem nat_one_int : ((1 : Nat) : Int) = 1 := rfl
theorem insOf_agg (a b c d e : SV) : insOf (.agg [a, b, c, d, e]) = ⟨iOf a, iOf b, iOf c, iOf d, iOf e⟩ := rfl
theorem evtOf_agg (a b c d e : SV) : evtOf (.agg [.agg [a, b, c], d, e]) = ⟨iOf a, iOf b, iOf c, iOf d, iOf e⟩ := rfl
theorem isEvt_agg (a b c d e : SV) : isEvt (.agg [.agg [a, b, c], d, e]) = (isI .i64 a && isI .i64 b && isI .i64 c && isI .i64 d && isI .i64 e) := rfl
def cAw28 : FuncId → Option Spec := look2 [(34, sNewPG), (28, sOneX), (32, (sAllB 1)), (52, sEqEvt)]
theorem cAw28_ok : ∀ f S, cAw28 f = some S → CallOk Try.prog f S := allOk_spec ⟨sNewPG_ok, sOneX_ok, sAllB_ok 1, sEqEvt_ok, trivial⟩
theorem awake28_lit : LitOk Try.prog 26 [] [.gone] (.bool true) [.gone] := by
  have k1 : ∀ x ∈ ([⟨8, 1, 0, 0, 0⟩, ⟨1, 0, 0, 0, 0⟩] : List Ins), x.ok := by intro x hx; simp only [List.mem_cons, List.not_mem_nil, or_false] at hx; rcases hx with rfl | rfl <;> (refine ⟨?_, ?_, ?_, ?_, ?_, ?_, ?_, ?_, ?_, ?_⟩ <;> decide)
  have r1 : (newP 3 [⟨8, 1, 0, 0, 0⟩, ⟨1, 0, 0, 0, 0⟩] 0 [5]).rightB = true := by kernel_rfl
  have f1 : oneE ⟨0, 2, 10⟩ ⟨3, [⟨8, 1, 0, 0, 0⟩, ⟨1, 0, 0, 0, 0⟩], [], 0, 0, [5]⟩ ⟨7, 0, 4, 3, 9⟩ = 0 := by kernel_rfl
  have f2 : oneE ⟨0, 2, 10⟩ ⟨3, [⟨8, 1, 0, 0, 0⟩, ⟨1, 0, 0, 0, 0⟩], [], 0, 0, [5]⟩ ⟨1, 0, 1, 3, 0⟩ = 189 := by kernel_rfl
  have n2 : oneE ⟨0, 2, 10⟩ ⟨3, [⟨8, 1, 0, 0, 0⟩, ⟨1, 0, 0, 0, 0⟩], [], 0, 0, [5]⟩ ⟨1, 0, 1, 3, 0⟩ ≠ 0 := by rw [f2]; decide
  have f3 : oneE ⟨0, 2, 10⟩ ⟨3, [⟨8, 1, 0, 0, 0⟩, ⟨1, 0, 0, 0, 0⟩], [], 0, 0, [5]⟩ ⟨7, 0, 4, 4, 9⟩ = 282 := by kernel_rfl
  have n3 : oneE ⟨0, 2, 10⟩ ⟨3, [⟨8, 1, 0, 0, 0⟩, ⟨1, 0, 0, 0, 0⟩], [], 0, 0, [5]⟩ ⟨7, 0, 4, 4, 9⟩ ≠ 0 := by rw [f3]; decide
  have f4 : oneE ⟨0, 2, 1⟩ ⟨3, [⟨8, 1, 0, 0, 0⟩, ⟨1, 0, 0, 0, 0⟩], [], 0, 0, [5]⟩ ⟨7, 0, 4, 3, 9⟩ = 190 := by kernel_rfl
  have n4 : oneE ⟨0, 2, 1⟩ ⟨3, [⟨8, 1, 0, 0, 0⟩, ⟨1, 0, 0, 0, 0⟩], [], 0, 0, [5]⟩ ⟨7, 0, 4, 3, 9⟩ ≠ 0 := by rw [f4]; decide
  have f6 : oneE ⟨0, 2, 10⟩ ⟨3, [⟨8, 1, 0, 0, 0⟩, ⟨1, 0, 0, 0, 0⟩], [], 0, 0, [0]⟩ ⟨7, 0, 4, 3, 9⟩ = 285 := by kernel_rfl
  have n6 : oneE ⟨0, 2, 10⟩ ⟨3, [⟨8, 1, 0, 0, 0⟩, ⟨1, 0, 0, 0, 0⟩], [], 0, 0, [0]⟩ ⟨7, 0, 4, 3, 9⟩ ≠ 0 := by rw [f6]; decide
  have f5 : badAt ⟨3, [⟨8, 1, 0, 0, 0⟩, ⟨1, 0, 0, 0, 0⟩], [], 0, 0, [5]⟩ [⟨7, 0, 4, 3, 9⟩, ⟨7, 0, 4, 3, 9⟩] 1 = 283 := by kernel_rfl
  have n5 : badAt ⟨3, [⟨8, 1, 0, 0, 0⟩, ⟨1, 0, 0, 0, 0⟩], [], 0, 0, [5]⟩ [⟨7, 0, 4, 3, 9⟩, ⟨7, 0, 4, 3, 9⟩] 1 ≠ 0 := by rw [f5]; decide
  have g5 : ∀ q, q < 1 → badAt ⟨3, [⟨8, 1, 0, 0, 0⟩, ⟨1, 0, 0, 0, 0⟩], [], 0, 0, [5]⟩ [⟨7, 0, 4, 3, 9⟩, ⟨7, 0, 4, 3, 9⟩] q = 0 := by intro q hq; obtain rfl : q = 0 := (by omega); kernel_rfl
  have p5 : procE ⟨0, 2, 10⟩ ⟨3, [⟨8, 1, 0, 0, 0⟩, ⟨1, 0, 0, 0, 0⟩], [], 0, 0, [5]⟩ = 0 := by kernel_rfl
  have h1 : (hS ⟨0, 2, 10⟩ ⟨⟨3, [⟨8, 1, 0, 0, 0⟩, ⟨1, 0, 0, 0, 0⟩], [], 0, 0, [5]⟩, [], 0⟩ ⟨7, 0, 4, 3, 9⟩).sent = [⟨14, 3, 0, 5, 9⟩] := by kernel_rfl
  have h2 : (hS ⟨0, 2, 10⟩ ⟨⟨3, [⟨8, 1, 0, 0, 0⟩, ⟨1, 0, 0, 0, 0⟩], [], 0, 0, [5]⟩, [], 0⟩ ⟨7, 0, 4, 3, 9⟩).used = 2 := by kernel_rfl
  have h3 : (hS ⟨0, 2, 10⟩ ⟨⟨3, [⟨8, 1, 0, 0, 0⟩, ⟨1, 0, 0, 0, 0⟩], [], 0, 0, [5]⟩, [], 0⟩ ⟨7, 0, 4, 3, 9⟩).p.seq = 1 := by kernel_rfl
  have z1 : eqL ([⟨14, 3, 0, 5, 9⟩] : List Evt) [⟨14, 3, 0, 5, 9⟩] = true := by exact eqL_true rfl
  refine litOkM (fn := Try.f26) 1 126 0 rfl rfl rfl rfl rfl trivial rfl fun w0 M E hro => ?_
  repeat' (first | with_reducible (first | apply J1 | apply J3 | apply J4 | apply J5 | apply J6 | apply J7 | apply J8 | apply J9 | apply J10 | apply J11 | apply J12 | apply J13 | apply J14 | apply J15 | apply J16 | apply J17 | apply J18 | apply J19 | apply J20 | refine J2 ?_) | ((with_reducible apply J21); (· rfl)) | ((with_reducible intro hif); first | (focus (cases hif; done)) | (simp only [JH] at hif; try (exfalso; omega)) | (try (exfalso; omega))) | ((first | ((with_reducible apply J22 cAw28_ok tab_ok); (· rfl)) | ((with_reducible apply J23 fol cAw28_ok tab_ok); (· rfl)) | with_reducible apply J24); (· (simp only [push_cast, ↓JP, Nat.reduceAdd, Nat.reduceEqDiff, Nat.reduceLT, Nat.reduceMul, Nat.reduceLeDiff, reduceCtorEq, reduceIte, ↓JK, JE, JB, prc_eta, rul_eta, dnn_eta, cAw28, sNewPG, sOneX, sOneG, sOneB, sAllB, sEqEvt, pcS, prO, i64O, inO, evO_, dnS, dnR, dn0, newP, ls_one, ls_two, ls_zero, insOf_agg, evtOf_agg, isEvt_agg, nat_zero_int, nat_one_int, ls_evtsS, ls_evtsS', ls_evtsS2, evtsS, isEvt_evtS, evtOf_evtS, inR, inN, f1, f2, f3, f4, f6, f5, h1, h2, h3, z1]; rfl)); (try kernel_rfl); (try (focus (first | exact True.intro | ((try simp only [JS, implies_true, forall_const, shaped, shapedL, kndOf, iOf, newP, ls_one, ls_two, ls_zero, insOf_agg, evtOf_agg, isEvt_agg, nat_zero_int, nat_one_int, Nat.zero_add, List.getD_cons_zero, List.getD_cons_succ, Int.cast_ofNat_Int, List.replicate_zero, List.length_cons, List.length_nil]); (repeat' (first | exact True.intro | assumption | apply And.intro | decide | (intro q hq; first | rfl | exact hq.elim | exact k1 q hq | exact g5 q hq | ((rcases q with _ | _ | _ | q) <;> first | rfl | (exfalso; revert hq; simp; done))))); done) | ((try simp only [JS, implies_true, forall_const, shaped, shapedL, kndOf, inR, inN]); (repeat' (first | assumption | exact True.intro | omega | apply And.intro)); done))))) | fail)
  apply At.endsRet tab_ok (fn := Try.f26) (rs := [.tmp 0]) Anc.refl hro (Nat.le_of_ble_eq_true rfl) rfl
  · simp only [push_cast, ↓JP, Nat.reduceAdd, Nat.reduceEqDiff, Nat.reduceLT, Nat.reduceMul, Nat.reduceLeDiff, reduceCtorEq, reduceIte, ↓JK, resV, resV1, newP, ls_one, ls_two, ls_zero, insOf_agg, evtOf_agg, isEvt_agg, nat_zero_int, nat_one_int]; rfl
  · exact Vm.b7
  · exact Vm.b8
  · rfl
  · exact Vm.b105
  · exact Vm.b10
  · first | exact fun β => rfl | (intro β; kernel_rfl)
  · exact Vm.b105
def sAw28 : Spec := fun args h m => match args with
  | [] => some (True, .bool true, [], [])
  | _ => none
theorem sAw28_ok : CallOk Try.prog 26 sAw28 := by
  refine ⟨named_spec (by kernel_rfl), fun args h m c v rd wr hs hm hc w0 M β h' w R hrd hwr hst => ?_⟩
  unfold sAw28 at hs
  split at hs
  · skip
    simp only [Option.some.injEq, Prod.mk.injEq] at hs
    obtain ⟨rfl, rfl, rfl, rfl⟩ := hs
    refine callRo (views := []) (awake28_lit) ?_ R hm hwr ?_ ?_ ?_
    · intro x hx; cases hx
    · intro β1 hv
      simp only [denL, aggDen, intDen, natDen, boolDen, ls_length]
    · exact Vm.b105
    · exact Vm.b105
  · cases hs
end Go.Proofs.Ytjliakjbdcplcaa.Vm
end

section
namespace Go.Proofs.Ytjliakjbdcplcaa.Vm
open Go.RowKit
set_option linter.unusedVariables false
set_option linter.unusedSimpArgs false
set_option maxRecDepth 100000
set_option maxHeartbeats 4000000
end Go.Proofs.Ytjliakjbdcplcaa.Vm
end

section
namespace Go.Proofs.Ytjliakjbdcplcaa.Vm
open Go.RowKit
set_option linter.unusedVariables false
set_option linter.unusedSimpArgs false
set_option maxRecDepth 100000
set_option maxHeartbeats 4000000
theorem eqL_self {α : Type} [DecidableEq α] (a : List α) : eqL a a = true := by simp [eqL]
end Go.Proofs.Ytjliakjbdcplcaa.Vm
end

section
namespace Go.Proofs.Ytjliakjbdcplcaa.Vm
open Go.RowKit
set_option linter.unusedVariables false
set_option linter.unusedSimpArgs false
set_option maxRecDepth 100000
set_option maxHeartbeats 4000000
def cRuBB : FuncId → Option Spec := look2 [(26, sAw28), (27, sMd28), (28, sOneB), (29, sRunB), (30, rPC), (20, sEqI64)]
theorem cRuBB_ok : ∀ f S, cRuBB f = some S → CallOk Try.prog f S := allOk_spec ⟨sAw28_ok, sMd28_ok, sOneB_ok, sRunB_ok, rPC_ok, sEqI64_ok, trivial⟩
def cRuBG : FuncId → Option Spec := look2 [(26, sAw28), (27, sMd28), (28, sOneB), (29, sRunG), (30, rPC), (20, sEqI64)]
theorem cRuBG_ok : ∀ f S, cRuBG f = some S → CallOk Try.prog f S := allOk_spec ⟨sAw28_ok, sMd28_ok, sOneB_ok, sRunG_ok, rPC_ok, sEqI64_ok, trivial⟩
def cRuGG : FuncId → Option Spec := look2 [(26, sAw28), (27, sMd28), (28, sOneG), (29, sRunG), (30, rPC), (20, sEqI64)]
theorem cRuGG_ok : ∀ f S, cRuGG f = some S → CallOk Try.prog f S := allOk_spec ⟨sAw28_ok, sMd28_ok, sOneG_ok, sRunG_ok, rPC_ok, sEqI64_ok, trivial⟩
theorem runs_lit (xs : List Ins) (a d sn seed id ahead fuel sq : Int) (rg : Nat → Int) (cs ps : List Int) (es : List ESm) (p1 p2 p3 p4 : Nat) (hx : ∀ x ∈ xs, x.ok) (hcap : max xs.length p1 ≤ 9223372036854775807) (hcp : cs.length ≤ p2) (ha : 0 ≤ a ∧ a ≤ 255) (hd : 0 ≤ d ∧ d ≤ 4294967295) (hs : 0 ≤ sn ∧ sn ≤ 255) (hid : 0 ≤ id ∧ id ≤ 255) (hah : 0 ≤ ahead ∧ ahead ≤ 255) (hf : 0 ≤ fuel ∧ fuel ≤ 65535) (hsq : 0 ≤ sq ∧ sq ≤ 65535) (hps : ∀ q, 0 ≤ ps.getD q 0 ∧ ps.getD q 0 ≤ 255) (hpl : ps.length ≤ p3) (hp3 : p3 ≤ 9223372036854775807) (hes : ∀ e ∈ es, e.ok) (hel : es.length ≤ p4) (hp4 : p4 ≤ 9223372036854775807) : LitOk Try.prog 7 [.agg [.sl 1 2 [] 5 0 xs.length (some p1), .agg [.int .u8 a, .arr 8 1 (fun q => .int .i64 (rg q)), .sl 3 4 [] 1 0 cs.length (some p2), .int .u32 d, .int .u8 sn], .int .u64 seed, .int .u8 id, .int .u8 ahead, .int .u16 fuel, .int .u16 sq, .sl 5 6 [] 1 0 ps.length (some p3), .sl 7 8 [] 3 0 es.length (some p4)]]
    [.gone, .gone, .ro (.arr xs.length 5 (prS xs)), .gone, .ro (.arr cs.length 1 (i64S cs)), .gone, .ro (.arr ps.length 1 (u8S ps)), .gone, .ro (.arr es.length 3 (esS es))] (.bool true) [.gone] := by
  have y0 := Int.tmod_nonneg 16 hid.1
  have y1 := Int.tmod_lt_of_pos id (show (0 : Int) < 16 by decide)
  have y2 := Int.tmod_nonneg 5 hah.1
  have y3 := Int.tmod_lt_of_pos ahead (show (0 : Int) < 5 by decide)
  have y4 := Int.tmod_nonneg 300 hf.1
  have y5 := Int.tmod_lt_of_pos fuel (show (0 : Int) < 300 by decide)
  have hE0 := made28_proc xs (cs := cs) (ps := ps) (seed := seed) hid.1 hah.1 hf.1 hsq hd hps
  have hok := made14_ok xs hx
  have hml := (made14_le xs).2
  have hct : (cs.take 12).length ≤ 12 := by rw [List.length_take]; omega
  have hpt : (mPorts (ps.take 16)).length ≤ 16 := by simp [mPorts]; omega
  have hG := mEv_good (p := ⟨1 + id.tmod 16, made14 xs, cs.take 12, d, sq, mPorts (ps.take 16)⟩) (l := es.take 10) (by rw [List.length_take]; omega) (fun e he => hes e (List.mem_of_mem_take he))
  have hGl := hG.1
  have hGb := hG.2
  rw [List.length_take] at hGl
  dsimp only at hGl hGb
  have hcapx : max xs.length p1 ≤ 9223372036854775807 := hcap
  have hcapp : max ps.length p3 ≤ 9223372036854775807 := by omega
  have hcape : max es.length p4 ≤ 9223372036854775807 := by omega
  obtain ⟨PP, hPP⟩ : ∃ x, made14 xs = x := ⟨_, rfl⟩
  obtain ⟨CC, hCC⟩ : ∃ x, cs.take 12 = x := ⟨_, rfl⟩
  obtain ⟨QQ, hQQ⟩ : ∃ x, mPorts (ps.take 16) = x := ⟨_, rfl⟩
  obtain ⟨ID, hID⟩ : ∃ x, 1 + id.tmod 16 = x := ⟨_, rfl⟩
  obtain ⟨AH, hAH⟩ : ∃ x, 1 + ahead.tmod 5 = x := ⟨_, rfl⟩
  obtain ⟨FU, hFU⟩ : ∃ x, fuel.tmod 300 = x := ⟨_, rfl⟩
  rw [hPP, hCC, hQQ, hID, hAH, hFU] at hE0
  rw [hPP] at hok hml
  rw [hCC] at hct
  rw [hQQ] at hpt
  rw [hPP, hCC, hQQ, hID] at hGb
  rw [hID] at hGl
  obtain ⟨L, hL⟩ : ∃ x, (mEv ID (es.take 10)).2 = x := ⟨_, rfl⟩
  rw [hL] at hGl hGb
  have hLl : L.length ≤ 10 := by omega
  have hn : PP.length ≤ 1000000 := by omega
  have hc : CC.length ≤ 1000000 := by omega
  have hq : QQ.length ≤ 1000000 := by omega

  refine litOkM (fn := Try.f7) 9 182 0 rfl rfl rfl rfl rfl (by simp only [StableL, Stable, hp, pcR, dnB, DnI.at_, dnS, dnR, pcS, i64S, prS, insS, sndsS, sndS, evtsS, evtS, prO, i64O, inO, evO_, cB, sB, u8S, esS, esA, HB.stable]; simp [HB.born]) rfl fun w0 M E hro => ?_
  repeat' (first | with_reducible (first | apply J1 | apply J3 | apply J4 | apply J5 | apply J6 | apply J7 | apply J8 | apply J9 | apply J10 | apply J11 | apply J12 | apply J13 | apply J14 | apply J15 | apply J16 | apply J17 | apply J18 | apply J19 | apply J20 | refine J2 ?_) | ((with_reducible apply J21); (· rfl)) | ((with_reducible intro hif); first | (focus (cases hif; done)) | (simp only [JH] at hif; try (exfalso; omega)) | (try (exfalso; omega))) | ((first | ((with_reducible apply J22 cRuGG_ok tab_ok); (· rfl)) | ((with_reducible apply J23 fol cRuGG_ok tab_ok); (· rfl)) | with_reducible apply J24); (· exact Vm.b129); (try kernel_rfl); (try exact Vm.b128)) | fail)
  refine WF.loopAt (fun (k : Nat) => k ≤ L.length) (fun (k : Nat) => [(1, .ptr 9 []), (3, .ptr 14 []), (4, .ptr 15 []), (24, .sl 13 13 [] 5 0 L.length none), (25, .nat .i64 L.length), (26, .nat .i64 k)]) (fun (k : Nat) => [.gone, .gone, .ro (.arr xs.length 5 (prS xs)), .gone, .ro (.arr cs.length 1 (i64S cs)), .gone, .ro (.arr ps.length 1 (u8S ps)), .gone, .ro (.arr es.length 3 (esS es)), .own 78 (.agg [.sl 1 2 [] 5 0 xs.length (some p1), .agg [.int .u8 a, .arr 8 1 (fun q => .int .i64 (rg q)), .sl 3 4 [] 1 0 cs.length (some p2), .int .u32 d, .int .u8 sn], .int .u64 seed, .int .u8 id, .int .u8 ahead, .int .u16 fuel, .int .u16 sq, .sl 5 6 [] 1 0 ps.length (some p3), .sl 7 8 [] 3 0 es.length (some p4)]) true, .own 73 (.arr PP.length 5 (prS PP)) false, .own 2 (.arr CC.length 1 (i64S CC)) false, .own 3 (.arr QQ.length 1 (i64S QQ)) false, .own 39 (.arr L.length 5 (evtsS L)) false, .own 80 (.agg [.int .u64 seed, .int .i64 AH, .int .i64 FU]) true, .own 82 (.agg [.int .i64 ID, .sl 10 10 [] 5 0 PP.length none, .sl 11 11 [] 1 0 CC.length none, .int .i64 d, .int .i64 sq, .sl 12 12 [] 1 0 QQ.length none]) true]) (fun (k : Nat) => L.length - k) 0 (Nat.zero_le _) ?_ ?_ rfl ?_ ?_ rfl ?_
  · exact Vm.b11
  · exact Vm.b8
  · exact Vm.b125
  · exact Vm.b125
  intro k hk
  by_cases hkl : k < L.length
  · obtain ⟨e, he⟩ : ∃ e, L.getD k ⟨0, 0, 0, 0, 0⟩ = e := ⟨_, rfl⟩
    have ht := badAt_takes (hGb k hkl)
    rw [he] at ht
    have hHG := HG.of hE0 ht hok
    have t0 := hHG.t0
    have t1 := hHG.t1
    have hOE := oneE_of hE0 ht
    obtain ⟨R, hRR⟩ : ∃ R, hR ⟨seed, AH, FU⟩ ⟨ID, PP, CC, d, sq, QQ⟩ e = R := ⟨_, rfl⟩
    have hRO : runO PP ⟨seed, ID, QQ.length, AH, e.time⟩ (begS e.value e.time e.source CC d) FU = R := hRR
    have hlen := hHG.len
    rw [hRR] at hlen
    dsimp only at hlen
    by_cases hb : R.bad = 0
    · have hSI := hHG.si (by rw [hRR]; exact hb)
      rw [hRR] at hSI
      obtain ⟨hI, hGR⟩ := hSI
      have hcR := hGR.c1
      have hcR2 : R.s.cells.length ≤ 281474976710656 := by omega
      have hnR := hGR.n1
      have hsl := hI.n
      have hsl2 := cnt_le PP 8 R.tr
      dsimp only at hsl
      have hS : ∀ s ∈ R.s.sends, 0 ≤ s.port ∧ s.port.toNat < QQ.length := fun s hs => by
        have := hI.s s hs
        have h := this.2.1
        change s.port < (QQ.length : Int) at h
        omega
      cases hg : R.s.sends.any (gonB QQ)
      · rw [hE_ok (by rw [hRR]; exact hb) (by rw [hRR]; exact hg) (by rw [hRR]; dsimp only; omega)] at hOE
        have hHS : Vm.hS ⟨seed, AH, FU⟩ ⟨⟨ID, PP, CC, d, sq, QQ⟩, [], 0⟩ e = ⟨⟨ID, PP, R.s.cells, R.s.draws, sq + R.s.sends.length, QQ⟩, sentL ⟨ID, PP, CC, d, sq, QQ⟩ e.time sq R.s.sends, 0 + R.tr.length⟩ := by unfold Vm.hS; dsimp only; rw [hRR]; rfl
        have hSl := sentL_len ⟨ID, PP, CC, d, sq, QQ⟩ e.time R.s.sends sq
        have hSg := fun i hi => sentL_getD ⟨ID, PP, CC, d, sq, QQ⟩ e.time R.s.sends sq i hi
        obtain ⟨T, hT⟩ : ∃ T, sentL ⟨ID, PP, CC, d, sq, QQ⟩ e.time sq R.s.sends = T := ⟨_, rfl⟩
        rw [hT] at hHS hSl hSg

        repeat' (first | with_reducible (first | apply J1 | apply J3 | apply J4 | apply J5 | apply J6 | apply J7 | apply J8 | apply J9 | apply J10 | apply J11 | apply J12 | apply J13 | apply J14 | apply J15 | apply J16 | apply J17 | apply J18 | apply J19 | apply J20 | refine J2 ?_) | ((with_reducible apply J21); (· rfl)) | ((with_reducible intro hif); first | (focus (cases hif; done)) | (simp only [JH] at hif; try (exfalso; omega)) | (try (exfalso; omega))) | ((first | ((with_reducible apply J22 cRuGG_ok tab_ok); (· rfl)) | ((with_reducible apply J23 fol cRuGG_ok tab_ok); (· rfl)) | with_reducible apply J24); (· (simp only [push_cast, ↓JP, Nat.reduceAdd, Nat.reduceEqDiff, Nat.reduceLT, Nat.reduceMul, Nat.reduceLeDiff, reduceCtorEq, reduceIte, ↓JK, JM, JE, JB, prc_eta, rul_eta, dnB, dnS, DnI.at_, DnI.v, dnR, dn0, evO_, pcS, prO, i64O, inO, cRuGG, sAw28, sMd28, sOneB, sOneG, sRunG, sRunB, rPC, sEqI64, pcP, pcI, nodupN, memN, isI_int, iOf, evtsS, ↓evtS_sz, ↓evtS_ag, ↓evtS_pl, nav_evt, nav_evt0, nav_evt1, nav_evt2, evm_ev, isEvt_evtS, evtOf_evtS, inR, inN, Nat.sub_zero, ls_u8S, ls_u8S', ls_esS, ls_esS', ls_evtsS, ls_evtsS', ls_sndsS, ls_sndsS', hPP, hCC, hQQ, hID, hAH, hFU, hL, hkl, he, hRO, hRR, hb, hg, hOE, hHS, hSl, eqL_self, Nat.zero_add]; rfl)); (try kernel_rfl); (try exact Vm.b130)) | fail)
        refine WF.loopAt (fun (j : Nat) => j ≤ R.s.sends.length) (fun (j : Nat) => [(1, .ptr 9 []), (3, .ptr 14 []), (4, .ptr 15 []), (24, .sl 13 13 [] 5 0 L.length none), (25, .nat .i64 L.length), (26, .nat .i64 k), (7, .ptr 16 []), (9, .ptr 22 []), (11, .ptr 25 []), (120, .sl 24 24 [] 3 0 R.s.sends.length none), (121, .nat .i64 R.s.sends.length), (122, .nat .i64 j)]) (fun (j : Nat) => [.gone, .gone, .ro (.arr xs.length 5 (prS xs)), .gone, .ro (.arr cs.length 1 (i64S cs)), .gone, .ro (.arr ps.length 1 (u8S ps)), .gone, .ro (.arr es.length 3 (esS es)), .own 78 (.agg [.sl 1 2 [] 5 0 xs.length (some p1), .agg [.int .u8 a, .arr 8 1 (fun q => .int .i64 (rg q)), .sl 3 4 [] 1 0 cs.length (some p2), .int .u32 d, .int .u8 sn], .int .u64 seed, .int .u8 id, .int .u8 ahead, .int .u16 fuel, .int .u16 sq, .sl 5 6 [] 1 0 ps.length (some p3), .sl 7 8 [] 3 0 es.length (some p4)]) true, .own 73 (.arr PP.length 5 (prS PP)) false, .own 2 (.arr CC.length 1 (i64S CC)) false, .own 3 (.arr QQ.length 1 (i64S QQ)) false, .own 39 (.arr L.length 5 (evtsS L)) false, .own 80 (.agg [.int .u64 seed, .int .i64 AH, .int .i64 FU]) true, .own 82 (.agg [.int .i64 ID, .sl 10 10 [] 5 0 PP.length none, .sl 11 11 [] 1 0 CC.length none, .int .i64 d, .int .i64 sq, .sl 12 12 [] 1 0 QQ.length none]) true, .own 39 (evtS e) true, .own 30 (.agg [.int .u64 seed, .int .i64 ID, .nat .i64 QQ.length, .int .i64 AH, .int .i64 e.time]) true, .own 73 (.arr PP.length 5 (prS PP)) false, cB R.s, .own 3 (.arr QQ.length 1 (i64S QQ)) false, .own 39 (.arr R.s.sends.length 5 (evtsS T)) false, .own 87 (.agg [.agg [.int .i64 ID, .sl 18 18 [] 5 0 PP.length none, .sl 19 19 [] 1 0 R.s.cells.length none, .int .i64 R.s.draws, .int .i64 (sq + R.s.sends.length), .sl 20 20 [] 1 0 QQ.length none], .sl 21 21 [] 5 0 R.s.sends.length none, .nat .i64 R.tr.length]) true, cB R.s, sB R.s, .own 45 (.agg [.nat .i64 R.tr.length, .int .i64 R.at_, .sl 23 23 [] 1 0 R.s.cells.length none, .int .i64 R.s.draws, .sl 24 24 [] 3 0 R.s.sends.length none]) true]) (fun (j : Nat) => R.s.sends.length - j) 0 (Nat.zero_le _) ?_ ?_ rfl ?_ ?_ rfl ?_
        · exact Vm.b11
        · exact Vm.b8
        · exact Vm.b125
        · exact Vm.b125
        intro j hj
        by_cases hjl : j < R.s.sends.length
        · obtain ⟨y, hY⟩ : ∃ y, R.s.sends.getD j ⟨0, 0, 0⟩ = y := ⟨_, rfl⟩
          have hym : y ∈ R.s.sends := by
            rw [← hY, List.getD_eq_getElem?_getD, List.getElem?_eq_getElem hjl]; exact List.getElem_mem hjl
          obtain ⟨s0, s1⟩ := hS y hym
          obtain ⟨_, _, s2, s3⟩ := hI.s y hym
          have s2 : AH ≤ y.delay := s2
          have s3 : y.delay ≤ 281474976710656 - e.time := s3
          have s4 : ¬ y.port < 0 := by omega
          have s5 : ¬ (QQ.length : Int) ≤ y.port := by omega
          have hTj := hSg j hjl
          rw [hY] at hTj
          dsimp only at hTj

          repeat' (first | with_reducible (first | apply J1 | apply J3 | apply J4 | apply J5 | apply J6 | apply J7 | apply J8 | apply J9 | apply J10 | apply J11 | apply J12 | apply J13 | apply J14 | apply J15 | apply J16 | apply J17 | apply J18 | apply J19 | apply J20 | refine J2 ?_) | ((with_reducible apply J21); (· rfl)) | ((with_reducible intro hif); first | (focus (cases hif; done)) | (simp only [JH] at hif; try (exfalso; omega)) | (try (exfalso; omega))) | ((first | ((with_reducible apply J22 cRuGG_ok tab_ok); (· rfl)) | ((with_reducible apply J23 fol cRuGG_ok tab_ok); (· rfl)) | with_reducible apply J24); (· (simp only [push_cast, ↓JP, Nat.reduceAdd, Nat.reduceEqDiff, Nat.reduceLT, Nat.reduceMul, Nat.reduceLeDiff, reduceCtorEq, reduceIte, ↓JK, JM, JE, JB, prc_eta, rul_eta, dnB, dnS, DnI.at_, DnI.v, dnR, dn0, evO_, pcS, prO, i64O, inO, cRuGG, sAw28, sMd28, sOneB, sOneG, sRunG, sRunB, rPC, sEqI64, pcP, pcI, nodupN, memN, isI_int, iOf, evtsS, ↓evtS_sz, ↓evtS_ag, ↓evtS_pl, nav_evt, nav_evt0, nav_evt1, nav_evt2, evm_ev, isEvt_evtS, evtOf_evtS, inR, inN, Nat.sub_zero, ls_u8S, ls_u8S', ls_esS, ls_esS', ls_evtsS, ls_evtsS', ls_sndsS, ls_sndsS', hPP, hCC, hQQ, hID, hAH, hFU, hL, hjl, hY, hTj, s0, s1, s4, s5, hSl]; rfl)); (try kernel_rfl); (try exact Vm.b130)) | fail)
          refine At.nextPick [0, 1, 2, 3, 4, 5, 6, 7, 8, 9, 10, 11, 12, 13, 14, 15, 16, 17, 18, 19, 20, 21, 22, 23, 24, 25] (j + 1) ?_ rfl rfl rfl ?_ rfl ?_ ?_ ?_ rfl
          · exact ⟨hjl, by omega⟩
          · exact Vm.b38
          · exact Vm.b125
          · exact Vm.b70
          · exact Vm.b125
        · obtain rfl : j = R.s.sends.length := by omega

          repeat' (first | with_reducible (first | apply J1 | apply J3 | apply J4 | apply J5 | apply J6 | apply J7 | apply J8 | apply J9 | apply J10 | apply J11 | apply J12 | apply J13 | apply J14 | apply J15 | apply J16 | apply J17 | apply J18 | apply J19 | apply J20 | refine J2 ?_) | ((with_reducible apply J21); (· rfl)) | ((with_reducible intro hif); first | (focus (cases hif; done)) | (simp only [JH] at hif; try (exfalso; omega)) | (try (exfalso; omega))) | ((first | ((with_reducible apply J22 cRuGG_ok tab_ok); (· rfl)) | ((with_reducible apply J23 fol cRuGG_ok tab_ok); (· rfl)) | with_reducible apply J24); (· exact Vm.b129); (try kernel_rfl); (try exact Vm.b130)) | fail)
          refine At.nextPick [0, 1, 2, 3, 4, 5, 6, 7, 8, 9, 10, 11, 12, 13, 14, 15] (k + 1) ?_ rfl rfl rfl ?_ rfl ?_ ?_ ?_ rfl
          · exact ⟨hkl, by omega⟩
          · exact Vm.b38
          · exact Vm.b125
          · exact Vm.b70
          · exact Vm.b125
      · rw [hE_gone (by rw [hRR]; exact hb) (by rw [hRR]; exact hg)] at hOE

        repeat' (first | with_reducible (first | apply J1 | apply J3 | apply J4 | apply J5 | apply J6 | apply J7 | apply J8 | apply J9 | apply J10 | apply J11 | apply J12 | apply J13 | apply J14 | apply J15 | apply J16 | apply J17 | apply J18 | apply J19 | apply J20 | refine J2 ?_) | ((with_reducible apply J21); (· rfl)) | ((with_reducible intro hif); first | (focus (cases hif; done)) | (simp only [JH] at hif; try (exfalso; omega)) | (try (exfalso; omega))) | ((first | ((with_reducible apply J22 cRuBG_ok tab_ok); (· rfl)) | ((with_reducible apply J23 fol cRuBG_ok tab_ok); (· rfl)) | with_reducible apply J24); (· (simp only [push_cast, ↓JP, Nat.reduceAdd, Nat.reduceEqDiff, Nat.reduceLT, Nat.reduceMul, Nat.reduceLeDiff, reduceCtorEq, reduceIte, ↓JK, JM, JE, JB, prc_eta, rul_eta, dnB, dnS, DnI.at_, DnI.v, dnR, dn0, evO_, pcS, prO, i64O, inO, cRuBG, sAw28, sMd28, sOneB, sOneG, sRunG, sRunB, rPC, sEqI64, pcP, pcI, nodupN, memN, isI_int, iOf, evtsS, ↓evtS_sz, ↓evtS_ag, ↓evtS_pl, nav_evt, nav_evt0, nav_evt1, nav_evt2, evm_ev, isEvt_evtS, evtOf_evtS, inR, inN, Nat.sub_zero, ls_u8S, ls_u8S', ls_esS, ls_esS', ls_evtsS, ls_evtsS', ls_sndsS, ls_sndsS', hPP, hCC, hQQ, hID, hAH, hFU, hL, hkl, he, hRO, hRR, hb, hg, hOE]; rfl)); (try kernel_rfl); (try exact Vm.b130)) | fail)
        refine At.nextPick [0, 1, 2, 3, 4, 5, 6, 7, 8, 9, 10, 11, 12, 13, 14, 15] (k + 1) ?_ rfl rfl rfl ?_ rfl ?_ ?_ ?_ rfl
        · exact ⟨hkl, by omega⟩
        · exact Vm.b38
        · exact Vm.b125
        · exact Vm.b70
        · exact Vm.b125
    · rw [hE_bad (by rw [hRR]; exact hb), hRR] at hOE

      repeat' (first | with_reducible (first | apply J1 | apply J3 | apply J4 | apply J5 | apply J6 | apply J7 | apply J8 | apply J9 | apply J10 | apply J11 | apply J12 | apply J13 | apply J14 | apply J15 | apply J16 | apply J17 | apply J18 | apply J19 | apply J20 | refine J2 ?_) | ((with_reducible apply J21); (· rfl)) | ((with_reducible intro hif); first | (focus (cases hif; done)) | (simp only [JH] at hif; try (exfalso; omega)) | (try (exfalso; omega))) | ((first | ((with_reducible apply J22 cRuBB_ok tab_ok); (· rfl)) | ((with_reducible apply J23 fol cRuBB_ok tab_ok); (· rfl)) | with_reducible apply J24); (· (simp only [push_cast, ↓JP, Nat.reduceAdd, Nat.reduceEqDiff, Nat.reduceLT, Nat.reduceMul, Nat.reduceLeDiff, reduceCtorEq, reduceIte, ↓JK, JM, JE, JB, prc_eta, rul_eta, dnB, dnS, DnI.at_, DnI.v, dnR, dn0, evO_, pcS, prO, i64O, inO, cRuBB, sAw28, sMd28, sOneB, sOneG, sRunG, sRunB, rPC, sEqI64, pcP, pcI, nodupN, memN, isI_int, iOf, evtsS, ↓evtS_sz, ↓evtS_ag, ↓evtS_pl, nav_evt, nav_evt0, nav_evt1, nav_evt2, evm_ev, isEvt_evtS, evtOf_evtS, inR, inN, Nat.sub_zero, ls_u8S, ls_u8S', ls_esS, ls_esS', ls_evtsS, ls_evtsS', ls_sndsS, ls_sndsS', hPP, hCC, hQQ, hID, hAH, hFU, hL, hkl, he, hRO, hRR, hb, hOE]; rfl)); (try kernel_rfl); (try exact Vm.b130)) | fail)
      refine At.nextPick [0, 1, 2, 3, 4, 5, 6, 7, 8, 9, 10, 11, 12, 13, 14, 15] (k + 1) ?_ rfl rfl rfl ?_ rfl ?_ ?_ ?_ rfl
      · exact ⟨hkl, by omega⟩
      · exact Vm.b38
      · exact Vm.b125
      · exact Vm.b70
      · exact Vm.b125
  · obtain rfl : k = L.length := by omega

    repeat' (first | with_reducible (first | apply J1 | apply J3 | apply J4 | apply J5 | apply J6 | apply J7 | apply J8 | apply J9 | apply J10 | apply J11 | apply J12 | apply J13 | apply J14 | apply J15 | apply J16 | apply J17 | apply J18 | apply J19 | apply J20 | refine J2 ?_) | ((with_reducible apply J21); (· rfl)) | ((with_reducible intro hif); first | (focus (cases hif; done)) | (simp only [JH] at hif; try (exfalso; omega)) | (try (exfalso; omega))) | ((first | ((with_reducible apply J22 cRuGG_ok tab_ok); (· rfl)) | ((with_reducible apply J23 fol cRuGG_ok tab_ok); (· rfl)) | with_reducible apply J24); (· exact Vm.b129); (try kernel_rfl); (try exact Vm.b128)) | fail)
    apply At.endsRet tab_ok (fn := Try.f7) (rs := [.tmp 2]) Anc.refl hro (Nat.le_of_ble_eq_true rfl) rfl
    · exact Vm.b18
    · exact Vm.b7
    · exact Vm.b8
    · rfl
    · exact Vm.b125
    · exact Vm.b10
    · exact fun β => rfl
    · exact Vm.b125
end Go.Proofs.Ytjliakjbdcplcaa.Vm
end
end
