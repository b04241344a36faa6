import Derived.Test.YtjliakjbdcplcaaG6
import Derived.Test.YtjliakjbdcplcaaG7
import Derived.Test.YtjliakjbdcplcaaG8
import Derived.Test.YtjliakjbdcplcaaG9
import Derived.Test.YtjliakjbdcplcaaG12
section
namespace Go.Proofs.Ytjliakjbdcplcaa.Vm
theorem b84 {P : Prop} (h : P := by (repeat' (first | exact trivial | exact rfl | assumption | apply Stable.ite | apply And.intro | intro _ | (simp only [Stable, StableL, i64S, prS, insS, sndsS, sndS, stS, evS, macS, cB, sB, HB.stable]; done)))) : P := h
theorem b85 {P : Prop} (h : P := by (first | exact True.intro | ((try simp only [JS, implies_true, forall_const, shaped, shapedL, kndOf, inR, inN]); (first | first | omega | exact ⟨fun q _ => rfl, hx, hmx⟩ | exact ⟨rfl, fun q _ => rfl, hx, hmx⟩ | (repeat' (first | assumption | exact True.intro | omega | apply And.intro))); done))) : P := h
theorem b86 {P : Prop} (h : P := by (first | exact True.intro | ((try simp only [JS, implies_true, forall_const, shaped, shapedL, kndOf, inR, inN]); (first | first | omega | exact ⟨hP, hn, hc⟩ | exact ⟨hP, hn, hc, hb⟩ | (repeat' (first | assumption | exact True.intro | omega | apply And.intro))); done))) : P := h
end Go.Proofs.Ytjliakjbdcplcaa.Vm
end
section
namespace Go.Proofs.Ytjliakjbdcplcaa.Vm
open Go.RowKit
attribute [local push_cast] runR opG gtmp gval gus opX tmpsOf tm tmO tmP restr look look2 tab tys zs ets eqB eqBL allB numOf ieq Int.cast_ofNat_Int Int.ofNat_zero beq_true beq_false frameOf ev evL ofV opV loadV noW pushF wrsL setH allBorn allGone HB.born HB.isGone HB.val SV.plain dstOk hp nav fitsT SV.size sizeL SV.isAgg TK.size TK.agg bin binE binN binI arN arI cmpN cmpI keq kn narrow callV storeV setp fillV buildV buildSliceV makeV sliceV appendV copyV List.isEmpty_nil srcV evO asN ite_t ite_f ite_bool ite_int ite_nat maxV v_beq v_ble v_blt cond_true cond_false List.getElem?_cons_zero List.getElem?_cons_succ List.getD_cons_zero List.getD_cons_succ List.getD_nil List.length_cons List.length_nil List.take_succ_cons List.take_zero List.set_cons_zero List.set_cons_succ List.cons_append List.nil_append List.append_assoc List.replicate_succ List.replicate_zero Nat.zero_add Nat.add_zero decide_true decide_false Bool.true_and Bool.and_true Bool.false_and Bool.and_false Bool.true_or Bool.or_true Bool.false_or Bool.or_false beq_self_eq_true Bool.or_self Nat.lt_irrefl Nat.not_lt_zero Nat.le_refl Option.getD_some Option.getD_none BEq.rfl Bool.not_true Bool.not_false Bool.cond_true_left Bool.cond_false_right prS sndsS i64S nav_ins nav_ins0 nav_ins1 nav_ins2 nav_ins3 nav_ins4 nav_snd nav_snd0 nav_snd1 nav_snd2 isIns_insS insOf_insS isSnd_sndS sndOf_sndS isI_int isI_nat iOf
set_option linter.unusedVariables false
set_option linter.unusedSimpArgs false
set_option maxRecDepth 100000
set_option maxHeartbeats 4000000
theorem wrap_u16 (x : Int) : 0 ≤ IntKind.wrap .u16 x ∧ IntKind.wrap .u16 x ≤ 65535 := by
  unfold IntKind.wrap; simp [IntKind.bits, IntKind.signed]; omega
theorem wrap_u8 (x : Int) : 0 ≤ IntKind.wrap .u8 x ∧ IntKind.wrap .u8 x ≤ 255 := by
  unfold IntKind.wrap; simp [IntKind.bits, IntKind.signed]; omega
def capB : SV → Prop
  | .sl _ _ _ _ _ n (some cp) => max n cp ≤ 9223372036854775807
  | _ => False
theorem capB_le {v : SV} {β : Env} {A : Option Addr} {n p : Nat} (h : capB v) (d : v.den β = .slice A n p) : p ≤ 9223372036854775807 := by
  cases v with
  | sl z i pa k s n' c => cases c with
    | none => exact h.elim
    | some cp =>
      have h' : max n' cp ≤ 9223372036854775807 := h
      simp only [SV.den, Option.getD_some] at d
      injection d with _ _ h3
      omega
  | _ => exact h.elim
def cMd19N : FuncId → Option Spec := look2 [(41, sEnv18), (40, sMd18N), (42, sMd14)]
theorem cMd19N_ok : ∀ f S, cMd19N f = some S → CallOk Try.prog f S := allOk_spec ⟨sEnv18_ok, sMd18N_ok, sMd14_ok, trivial⟩
theorem made19N (xs : List Ins) (a d sn time source value fuel : Int) (rg : Nat → Int) (cs : List Int) (v : Evi) (p1 p2 : Nat) (hx : ∀ x ∈ xs, x.ok) (hcx : xs.length ≤ p1) (hcap : p1 ≤ 9223372036854775807) (hcp : cs.length ≤ p2) (ha : 0 ≤ a ∧ a ≤ 255) (hd : 0 ≤ d ∧ d ≤ 4294967295) (hs : 0 ≤ sn ∧ sn ≤ 255) (ht : 0 ≤ time ∧ time ≤ 4294967295) (hso : 0 ≤ source ∧ source ≤ 255) (hf : 0 ≤ fuel ∧ fuel ≤ 65535) (hm : (mSnd (sn.tmod 21).toNat).isEmpty = true) : LitOk Try.prog 13
    [.agg [.sl 1 2 [] 5 0 xs.length (some p1), .agg [.int .u8 a, .arr 8 1 (fun q => .int .i64 (rg q)), .sl 3 4 [] 1 0 cs.length (some p2), .int .u32 d, .int .u8 sn], .agg [.int .u64 v.seed, .int .i64 v.process, .int .i64 v.ports, .int .i64 v.look, .int .i64 v.now], .int .u32 time, .int .u8 source, .int .i64 value, .int .u16 fuel]]
    [.gone, .gone, .ro (.arr xs.length 5 (prS xs)), .gone, .ro (.arr cs.length 1 (i64S cs))]
    (.agg [.sl 5 5 [] 5 0 (made14 xs).length none, .agg [.int .u64 v.seed, .int .i64 (IntKind.wrap .u16 v.process), .int .i64 ((IntKind.wrap .u8 v.ports).tmod 17), .int .i64 (1 + IntKind.wrap .u8 v.look), .int .i64 time], .agg [.agg [.int .i64 time, .int .i64 source, .int .i64 1], .int .i64 0, .int .i64 value], .sl 6 6 [] 1 0 (cs.take 12).length none, .int .i64 d, .int .i64 (fuel.tmod 512)])
    [.gone, .gone, .gone, .gone, .gone, .own 73 (.arr (made14 xs).length 5 (prS (made14 xs))) false, .own 2 (.arr (cs.take 12).length 1 (i64S (cs.take 12))) false] := by
  have w1 := wrap_u16 v.process
  have w2 := wrap_u8 v.ports
  have w3 := wrap_u8 v.look
  have hmx : max xs.length p1 ≤ 9223372036854775807 := by omega
  refine litOkM (fn := Try.f13) 5 49 0 rfl rfl rfl rfl rfl (by simp only [StableL, Stable, hp, i64S, prS, insS, sndsS, sndS, stS, evS, macS, HB.stable]; simp [HB.born]) rfl fun w0 M E hro => ?_
  repeat' (first | with_reducible (first | apply J1 | apply J3 | apply J4 | apply J5 | apply J6 | apply J7 | apply J8 | apply J9 | apply J10 | apply J11 | apply J12 | apply J13 | apply J14 | apply J15 | apply J16 | apply J17 | apply J18 | apply J19 | apply J20 | refine J2 ?_) | ((with_reducible apply J21); (· rfl)) | ((with_reducible intro hif); first | (focus (cases hif; done)) | (simp only [JH] at hif; try (exfalso; omega)) | (try (exfalso; omega))) | ((first | ((with_reducible apply J22 cMd19N_ok tab_ok); (· rfl)) | ((with_reducible apply J23 fol cMd19N_ok tab_ok); (· rfl)) | with_reducible apply J24); (· (simp only [push_cast, ↓JP, Nat.reduceAdd, Nat.reduceEqDiff, Nat.reduceLT, Nat.reduceMul, Nat.reduceLeDiff, reduceCtorEq, reduceIte, ↓JK, JM, JE, JB, cMd19N, sEnv18, sMd18N, sMd14, inR, inN, Nat.sub_zero, hm]; rfl)); (try kernel_rfl); (try exact Vm.b85)) | fail)
  apply At.endsPick [0, 1, 2, 3, 4, 10, 7] tab_ok (fn := Try.f13) (rs := [.cell 2 41]) Anc.refl hro (Nat.le_of_ble_eq_true rfl) rfl
  · exact Vm.b12
  · exact Vm.b14
  · rfl
  · rfl
  · rfl
  · exact Vm.b31
  · rfl
  · exact Vm.b81
  · exact Vm.b9
  · exact fun β => rfl
  · exact Vm.b81
def cMd19S : FuncId → Option Spec := look2 [(41, sEnv18), (40, sMd18S), (42, sMd14)]
theorem cMd19S_ok : ∀ f S, cMd19S f = some S → CallOk Try.prog f S := allOk_spec ⟨sEnv18_ok, sMd18S_ok, sMd14_ok, trivial⟩
theorem made19S (xs : List Ins) (a d sn time source value fuel : Int) (rg : Nat → Int) (cs : List Int) (v : Evi) (p1 p2 : Nat) (hx : ∀ x ∈ xs, x.ok) (hcx : xs.length ≤ p1) (hcap : p1 ≤ 9223372036854775807) (hcp : cs.length ≤ p2) (ha : 0 ≤ a ∧ a ≤ 255) (hd : 0 ≤ d ∧ d ≤ 4294967295) (hs : 0 ≤ sn ∧ sn ≤ 255) (ht : 0 ≤ time ∧ time ≤ 4294967295) (hso : 0 ≤ source ∧ source ≤ 255) (hf : 0 ≤ fuel ∧ fuel ≤ 65535) (hm : (mSnd (sn.tmod 21).toNat).isEmpty = false) : LitOk Try.prog 13
    [.agg [.sl 1 2 [] 5 0 xs.length (some p1), .agg [.int .u8 a, .arr 8 1 (fun q => .int .i64 (rg q)), .sl 3 4 [] 1 0 cs.length (some p2), .int .u32 d, .int .u8 sn], .agg [.int .u64 v.seed, .int .i64 v.process, .int .i64 v.ports, .int .i64 v.look, .int .i64 v.now], .int .u32 time, .int .u8 source, .int .i64 value, .int .u16 fuel]]
    [.gone, .gone, .ro (.arr xs.length 5 (prS xs)), .gone, .ro (.arr cs.length 1 (i64S cs))]
    (.agg [.sl 5 5 [] 5 0 (made14 xs).length none, .agg [.int .u64 v.seed, .int .i64 (IntKind.wrap .u16 v.process), .int .i64 ((IntKind.wrap .u8 v.ports).tmod 17), .int .i64 (1 + IntKind.wrap .u8 v.look), .int .i64 time], .agg [.agg [.int .i64 time, .int .i64 source, .int .i64 1], .int .i64 0, .int .i64 value], .sl 6 6 [] 1 0 (cs.take 12).length none, .int .i64 d, .int .i64 (fuel.tmod 512)])
    [.gone, .gone, .gone, .gone, .gone, .own 73 (.arr (made14 xs).length 5 (prS (made14 xs))) false, .own 2 (.arr (cs.take 12).length 1 (i64S (cs.take 12))) false] := by
  have w1 := wrap_u16 v.process
  have w2 := wrap_u8 v.ports
  have w3 := wrap_u8 v.look
  have hmx : max xs.length p1 ≤ 9223372036854775807 := by omega
  refine litOkM (fn := Try.f13) 5 49 0 rfl rfl rfl rfl rfl (by simp only [StableL, Stable, hp, i64S, prS, insS, sndsS, sndS, stS, evS, macS, HB.stable]; simp [HB.born]) rfl fun w0 M E hro => ?_
  repeat' (first | with_reducible (first | apply J1 | apply J3 | apply J4 | apply J5 | apply J6 | apply J7 | apply J8 | apply J9 | apply J10 | apply J11 | apply J12 | apply J13 | apply J14 | apply J15 | apply J16 | apply J17 | apply J18 | apply J19 | apply J20 | refine J2 ?_) | ((with_reducible apply J21); (· rfl)) | ((with_reducible intro hif); first | (focus (cases hif; done)) | (simp only [JH] at hif; try (exfalso; omega)) | (try (exfalso; omega))) | ((first | ((with_reducible apply J22 cMd19S_ok tab_ok); (· rfl)) | ((with_reducible apply J23 fol cMd19S_ok tab_ok); (· rfl)) | with_reducible apply J24); (· (simp only [push_cast, ↓JP, Nat.reduceAdd, Nat.reduceEqDiff, Nat.reduceLT, Nat.reduceMul, Nat.reduceLeDiff, reduceCtorEq, reduceIte, ↓JK, JM, JE, JB, cMd19S, sEnv18, sMd18S, sMd14, inR, inN, Nat.sub_zero, hm]; rfl)); (try kernel_rfl); (try exact Vm.b85)) | fail)
  apply At.endsPick [0, 1, 2, 3, 4, 11, 7] tab_ok (fn := Try.f13) (rs := [.cell 2 41]) Anc.refl hro (Nat.le_of_ble_eq_true rfl) rfl
  · exact Vm.b12
  · exact Vm.b14
  · rfl
  · rfl
  · rfl
  · exact Vm.b31
  · rfl
  · exact Vm.b81
  · exact Vm.b9
  · exact fun β => rfl
  · exact Vm.b81
theorem made19 (xs : List Ins) (a d sn time source value fuel : Int) (rg : Nat → Int) (cs : List Int) (v : Evi) (p1 p2 : Nat) (hx : ∀ x ∈ xs, x.ok) (hcx : xs.length ≤ p1) (hcap : p1 ≤ 9223372036854775807) (hcp : cs.length ≤ p2) (ha : 0 ≤ a ∧ a ≤ 255) (hd : 0 ≤ d ∧ d ≤ 4294967295) (hs : 0 ≤ sn ∧ sn ≤ 255) (ht : 0 ≤ time ∧ time ≤ 4294967295) (hso : 0 ≤ source ∧ source ≤ 255) (hf : 0 ≤ fuel ∧ fuel ≤ 65535) : LitOk Try.prog 13
    [.agg [.sl 1 2 [] 5 0 xs.length (some p1), .agg [.int .u8 a, .arr 8 1 (fun q => .int .i64 (rg q)), .sl 3 4 [] 1 0 cs.length (some p2), .int .u32 d, .int .u8 sn], .agg [.int .u64 v.seed, .int .i64 v.process, .int .i64 v.ports, .int .i64 v.look, .int .i64 v.now], .int .u32 time, .int .u8 source, .int .i64 value, .int .u16 fuel]]
    [.gone, .gone, .ro (.arr xs.length 5 (prS xs)), .gone, .ro (.arr cs.length 1 (i64S cs))]
    (.agg [.sl 5 5 [] 5 0 (made14 xs).length none, .agg [.int .u64 v.seed, .int .i64 (IntKind.wrap .u16 v.process), .int .i64 ((IntKind.wrap .u8 v.ports).tmod 17), .int .i64 (1 + IntKind.wrap .u8 v.look), .int .i64 time], .agg [.agg [.int .i64 time, .int .i64 source, .int .i64 1], .int .i64 0, .int .i64 value], .sl 6 6 [] 1 0 (cs.take 12).length none, .int .i64 d, .int .i64 (fuel.tmod 512)])
    [.gone, .gone, .gone, .gone, .gone, .own 73 (.arr (made14 xs).length 5 (prS (made14 xs))) false, .own 2 (.arr (cs.take 12).length 1 (i64S (cs.take 12))) false] := by
  cases hm : (mSnd (sn.tmod 21).toNat).isEmpty
  · exact made19S xs a d sn time source value fuel rg cs v p1 p2 hx hcx hcap hcp ha hd hs ht hso hf hm
  · exact made19N xs a d sn time source value fuel rg cs v p1 p2 hx hcx hcap hcp ha hd hs ht hso hf hm
def sMd19 : Spec := fun args h m => match args with
  | [.agg [v1, .agg [v2, .arr 8 1 v3, v4, v5, v6], .agg [v7, v8, v9, v10, v11], v12, v13, v14, v15]] => match srcV h 5 (.tup []) v1, srcV h 1 (.tup []) v4 with
    | some (c1, n1, f1, r1), some (c4, n4, f4, r4) => bif isI .u8 v2 && isI .u32 v5 && isI .u8 v6 && isI .u64 v7 && isI .i64 v8 && isI .i64 v9 && isI .i64 v10 && isI .i64 v11 && isI .u32 v12 && isI .u8 v13 && isI .i64 v14 && isI .u16 v15 then some (c1 ∧ c4 ∧ (∀ q, q < n1 → isIns (f1 q) = true) ∧ (∀ q, q < n4 → isI .i64 (f4 q) = true) ∧ (∀ q, q < 8 → isI .i64 (v3 q) = true) ∧ ((∀ x ∈ (ls insOf n1 f1), x.ok)) ∧ (capB v1) ∧ (0 ≤ (iOf v2) ∧ (iOf v2) ≤ 255) ∧ (0 ≤ (iOf v5) ∧ (iOf v5) ≤ 4294967295) ∧ (0 ≤ (iOf v6) ∧ (iOf v6) ≤ 255) ∧ (0 ≤ (iOf v12) ∧ (iOf v12) ≤ 4294967295) ∧ (0 ≤ (iOf v13) ∧ (iOf v13) ≤ 255) ∧ (0 ≤ (iOf v15) ∧ (iOf v15) ≤ 65535), .agg [.sl m m [] 5 0 (made14 (ls insOf n1 f1)).length none, .agg [.int .u64 (iOf v7), .int .i64 (IntKind.wrap .u16 (iOf v8)), .int .i64 ((IntKind.wrap .u8 (iOf v9)).tmod 17), .int .i64 (1 + IntKind.wrap .u8 (iOf v10)), .int .i64 (iOf v12)], .agg [.agg [.int .i64 (iOf v12), .int .i64 (iOf v13), .int .i64 1], .int .i64 0, .int .i64 (iOf v14)], .sl (m + 1) (m + 1) [] 1 0 ((ls iOf n4 f4).take 12).length none, .int .i64 (iOf v5), .int .i64 ((iOf v15).tmod 512)], r1 ++ r4, [(m, .own 73 (.arr (made14 (ls insOf n1 f1)).length 5 (prS (made14 (ls insOf n1 f1)))) false), (m + 1, .own 2 (.arr ((ls iOf n4 f4).take 12).length 1 (i64S ((ls iOf n4 f4).take 12))) false)]) else none
    | _, _ => none
  | _ => none
theorem sMd19_ok : CallOk Try.prog 13 sMd19 := by
  refine ⟨named_spec (by kernel_rfl), fun args h m c v rd wr hs hm hc w0 M β h' w R hrd hwr hst => ?_⟩
  unfold sMd19 at hs
  split at hs
  · rename_i v1 v2 v3 v4 v5 v6 v7 v8 v9 v10 v11 v12 v13 v14 v15
    split at hs
    · rename_i c1 n1 f1 r1 c4 n4 f4 r4 a1 a4
      obtain ⟨hb, hs⟩ := bif_some hs
      simp only [Option.some.injEq, Prod.mk.injEq] at hs
      obtain ⟨rfl, rfl, rfl, rfl⟩ := hs
      simp only [Bool.and_eq_true] at hb
      obtain ⟨⟨⟨⟨⟨⟨⟨⟨⟨⟨⟨b2, b5⟩, b6⟩, b7⟩, b8⟩, b9⟩, b10⟩, b11⟩, b12⟩, b13⟩, b14⟩, b15⟩ := hb
      obtain ⟨k1, k4, g1, g4, g3, y1, y2, y3, y4, y5, y6, y7, y8⟩ := hc
      obtain ⟨A1, p1, d1, e1, t1⟩ := reads_src R a1 k1 (fun i hi => hrd i (List.mem_append_left _ hi)) (by omega)
      obtain ⟨A4, p4, d4, e4, t4⟩ := reads_src R a4 k4 (fun i hi => hrd i (List.mem_append_right _ hi)) (by omega)
      refine callRo (views := [⟨5, (ls insOf n1 f1).length, prS (ls insOf n1 f1), A1, p1⟩, ⟨1, (ls iOf n4 f4).length, i64S (ls iOf n4 f4), A4, p4⟩]) (made19 (ls insOf n1 f1) (iOf v2) (iOf v5) (iOf v6) (iOf v12) (iOf v13) (iOf v14) (iOf v15) (fun q => iOf (v3 q)) (ls iOf n4 f4) ⟨(iOf v7), (iOf v8), (iOf v9), (iOf v10), (iOf v11)⟩ p1 p4 y1 (by rw [ls_length]; exact e1) (capB_le y2 d1) (by rw [ls_length]; exact e4) y3 y4 y5 y6 y7 y8) ?_ R hm hwr ?_ ?_ ?_
      · intro x hx
        simp only [List.mem_cons, List.not_mem_nil, or_false] at hx
        rcases hx with rfl | rfl
        · exact viewIns t1 e1 g1
        · exact viewI64 t4 e4 g4
      · intro β1 hv
        simp only [Vd, ls_length, and_true] at hv
        obtain ⟨z1, z4⟩ := hv
        simp only [denL, aggDen, intDen, natDen, boolDen, ls_length, z1, z4, d1, d4, isI_den b2, isI_den b5, isI_den b6, isI_den b7, isI_den b8, isI_den b9, isI_den b10, isI_den b11, isI_den b12, isI_den b13, isI_den b14, isI_den b15, ← r8Den (β := β) (β1 := β1) g3]
      · exact Vm.b81
      · exact Vm.b81
    · cases hs
  · cases hs
end Go.Proofs.Ytjliakjbdcplcaa.Vm
end

section
namespace Go.Proofs.Ytjliakjbdcplcaa.Vm
open Go.RowKit
attribute [local push_cast] runR opG gtmp gval gus opX tmpsOf tm tmO tmP restr look look2 tab tys zs ets eqB eqBL allB numOf ieq Int.cast_ofNat_Int Int.ofNat_zero beq_true beq_false frameOf ev evL ofV opV loadV noW pushF wrsL setH allBorn allGone HB.born HB.isGone HB.val SV.plain dstOk hp nav fitsT SV.size sizeL SV.isAgg TK.size TK.agg bin binE binN binI arN arI cmpN cmpI keq kn narrow callV storeV setp fillV buildV buildSliceV makeV sliceV appendV copyV List.isEmpty_nil srcV evO asN ite_t ite_f ite_bool ite_int ite_nat maxV v_beq v_ble v_blt cond_true cond_false List.getElem?_cons_zero List.getElem?_cons_succ List.getD_cons_zero List.getD_cons_succ List.getD_nil List.length_cons List.length_nil List.take_succ_cons List.take_zero List.set_cons_zero List.set_cons_succ List.cons_append List.nil_append List.append_assoc List.replicate_succ List.replicate_zero Nat.zero_add Nat.add_zero decide_true decide_false Bool.true_and Bool.and_true Bool.false_and Bool.and_false Bool.true_or Bool.or_true Bool.false_or Bool.or_false beq_self_eq_true Bool.or_self Nat.lt_irrefl Nat.not_lt_zero Nat.le_refl Option.getD_some Option.getD_none BEq.rfl Bool.not_true Bool.not_false Bool.cond_true_left Bool.cond_false_right prS sndsS i64S nav_ins nav_ins0 nav_ins1 nav_ins2 nav_ins3 nav_ins4 nav_snd nav_snd0 nav_snd1 nav_snd2 isIns_insS insOf_insS isSnd_sndS sndOf_sndS isI_int isI_nat iOf
set_option linter.unusedVariables false
set_option linter.unusedSimpArgs false
set_option maxRecDepth 100000
set_option maxHeartbeats 4000000
def cCrG : FuncId → Option Spec := look2 [(29, sRunG)]
theorem cCrG_ok : ∀ f S, cCrG f = some S → CallOk Try.prog f S := allOk_spec ⟨sRunG_ok, trivial⟩
theorem crunG (P : List Ins) (v : Evi) (t s q o y d f0 f : Int) (cs : List Int) (p1 p2 : Nat) (hP : ∀ x ∈ P, x.ok) (hn : P.length ≤ 1000000) (hc : cs.length ≤ 1000000) (hb : (runO P v (begS y t s cs d) f).bad = 0) : LitOk Try.prog 14 [.agg [.sl 1 2 [] 5 0 P.length (some p1), .agg [.int .u64 v.seed, .int .i64 v.process, .int .i64 v.ports, .int .i64 v.look, .int .i64 v.now], .agg [.agg [.int .i64 t, .int .i64 s, .int .i64 q], .int .i64 o, .int .i64 y], .sl 3 4 [] 1 0 cs.length (some p2), .int .i64 d, .int .i64 f0], .int .i64 f]
    [.gone, .gone, .ro (.arr P.length 5 (prS P)), .gone, .ro (.arr cs.length 1 (i64S cs))]
    (.tup [.agg [.nat .i64 (runO P v (begS y t s cs d) f).tr.length, .int .i64 (runO P v (begS y t s cs d) f).at_, .sl 5 5 [] 1 0 (runO P v (begS y t s cs d) f).s.cells.length none, .int .i64 (runO P v (begS y t s cs d) f).s.draws, .sl 6 6 [] 3 0 (runO P v (begS y t s cs d) f).s.sends.length none], .int .i64 0]) [.gone, .gone, .gone, .gone, .gone, cB (runO P v (begS y t s cs d) f).s, sB (runO P v (begS y t s cs d) f).s] := by
  refine litOkM (fn := Try.f14) 5 20 0 rfl rfl rfl rfl rfl (by simp only [StableL, Stable, hp, i64S, prS, insS, sndsS, sndS, stS, evS, macS, cB, sB, HB.stable]; simp [HB.born]) rfl fun w0 M E hro => ?_
  repeat' (first | with_reducible (first | apply J1 | apply J3 | apply J4 | apply J5 | apply J6 | apply J7 | apply J8 | apply J9 | apply J10 | apply J11 | apply J12 | apply J13 | apply J14 | apply J15 | apply J16 | apply J17 | apply J18 | apply J19 | apply J20 | refine J2 ?_) | ((with_reducible apply J21); (· rfl)) | ((with_reducible intro hif); first | (focus (cases hif; done)) | (simp only [JH] at hif; try (exfalso; omega)) | (try (exfalso; omega))) | ((first | ((with_reducible apply J22 cCrG_ok tab_ok); (· rfl)) | ((with_reducible apply J23 fol cCrG_ok tab_ok); (· rfl)) | with_reducible apply J24); (· (simp only [push_cast, ↓JP, Nat.reduceAdd, Nat.reduceEqDiff, Nat.reduceLT, Nat.reduceMul, Nat.reduceLeDiff, reduceCtorEq, reduceIte, ↓JK, JE, JB, cCrG, sRunG, inR, inN, hb]; rfl)); (try kernel_rfl); (try exact Vm.b86)) | fail)
  apply At.endsPick [0, 1, 2, 3, 4, 7, 8] tab_ok (fn := Try.f14) (rs := [.cell 4 45, .tmp 5]) Anc.refl hro (Nat.le_of_ble_eq_true rfl) rfl
  · exact Vm.b12
  · exact Vm.b14
  · rfl
  · rfl
  · rfl
  · exact Vm.b31
  · rfl
  · exact Vm.b84
  · exact Vm.b9
  · exact fun β => rfl
  · exact Vm.b84
def sCrG : Spec := fun args h m => match args with
  | [.agg [v1, .agg [v2, v3, v4, v5, v6], .agg [.agg [v7, v8, v9], v10, v11], v12, v13, v14], v15] => match srcV h 5 (.tup []) v1, srcV h 1 (.tup []) v12 with
    | some (c1, n1, f1, r1), some (c12, n12, f12, r12) => bif isI .u64 v2 && isI .i64 v3 && isI .i64 v4 && isI .i64 v5 && isI .i64 v6 && isI .i64 v7 && isI .i64 v8 && isI .i64 v9 && isI .i64 v10 && isI .i64 v11 && isI .i64 v13 && isI .i64 v14 && isI .i64 v15 then some (c1 ∧ c12 ∧ (∀ q, q < n1 → isIns (f1 q) = true) ∧ (∀ q, q < n12 → isI .i64 (f12 q) = true) ∧ ((∀ x ∈ (ls insOf n1 f1), x.ok)) ∧ (n1 ≤ 1000000) ∧ (n12 ≤ 1000000) ∧ ((runO (ls insOf n1 f1) ⟨(iOf v2), (iOf v3), (iOf v4), (iOf v5), (iOf v6)⟩ (begS (iOf v11) (iOf v7) (iOf v8) (ls iOf n12 f12) (iOf v13)) (iOf v15)).bad = 0), .tup [.agg [.nat .i64 (runO (ls insOf n1 f1) ⟨(iOf v2), (iOf v3), (iOf v4), (iOf v5), (iOf v6)⟩ (begS (iOf v11) (iOf v7) (iOf v8) (ls iOf n12 f12) (iOf v13)) (iOf v15)).tr.length, .int .i64 (runO (ls insOf n1 f1) ⟨(iOf v2), (iOf v3), (iOf v4), (iOf v5), (iOf v6)⟩ (begS (iOf v11) (iOf v7) (iOf v8) (ls iOf n12 f12) (iOf v13)) (iOf v15)).at_, .sl m m [] 1 0 (runO (ls insOf n1 f1) ⟨(iOf v2), (iOf v3), (iOf v4), (iOf v5), (iOf v6)⟩ (begS (iOf v11) (iOf v7) (iOf v8) (ls iOf n12 f12) (iOf v13)) (iOf v15)).s.cells.length none, .int .i64 (runO (ls insOf n1 f1) ⟨(iOf v2), (iOf v3), (iOf v4), (iOf v5), (iOf v6)⟩ (begS (iOf v11) (iOf v7) (iOf v8) (ls iOf n12 f12) (iOf v13)) (iOf v15)).s.draws, .sl (m + 1) (m + 1) [] 3 0 (runO (ls insOf n1 f1) ⟨(iOf v2), (iOf v3), (iOf v4), (iOf v5), (iOf v6)⟩ (begS (iOf v11) (iOf v7) (iOf v8) (ls iOf n12 f12) (iOf v13)) (iOf v15)).s.sends.length none], .int .i64 0], r1 ++ r12, [(m, cB (runO (ls insOf n1 f1) ⟨(iOf v2), (iOf v3), (iOf v4), (iOf v5), (iOf v6)⟩ (begS (iOf v11) (iOf v7) (iOf v8) (ls iOf n12 f12) (iOf v13)) (iOf v15)).s), (m + 1, sB (runO (ls insOf n1 f1) ⟨(iOf v2), (iOf v3), (iOf v4), (iOf v5), (iOf v6)⟩ (begS (iOf v11) (iOf v7) (iOf v8) (ls iOf n12 f12) (iOf v13)) (iOf v15)).s)]) else none
    | _, _ => none
  | _ => none
theorem sCrG_ok : CallOk Try.prog 14 sCrG := by
  refine ⟨named_spec (by kernel_rfl), fun args h m c v rd wr hs hm hc w0 M β h' w R hrd hwr hst => ?_⟩
  unfold sCrG at hs
  split at hs
  · rename_i v1 v2 v3 v4 v5 v6 v7 v8 v9 v10 v11 v12 v13 v14 v15
    split at hs
    · rename_i c1 n1 f1 r1 c12 n12 f12 r12 a1 a12
      obtain ⟨hb, hs⟩ := bif_some hs
      simp only [Option.some.injEq, Prod.mk.injEq] at hs
      obtain ⟨rfl, rfl, rfl, rfl⟩ := hs
      simp only [Bool.and_eq_true] at hb
      obtain ⟨⟨⟨⟨⟨⟨⟨⟨⟨⟨⟨⟨b2, b3⟩, b4⟩, b5⟩, b6⟩, b7⟩, b8⟩, b9⟩, b10⟩, b11⟩, b13⟩, b14⟩, b15⟩ := hb
      obtain ⟨k1, k12, g1, g12, y1, y2, y3, y4⟩ := hc
      obtain ⟨A1, p1, d1, e1, t1⟩ := reads_src R a1 k1 (fun i hi => hrd i (List.mem_append_left _ hi)) (by omega)
      obtain ⟨A12, p12, d12, e12, t12⟩ := reads_src R a12 k12 (fun i hi => hrd i (List.mem_append_right _ hi)) (by omega)
      refine callRo (views := [⟨5, (ls insOf n1 f1).length, prS (ls insOf n1 f1), A1, p1⟩, ⟨1, (ls iOf n12 f12).length, i64S (ls iOf n12 f12), A12, p12⟩]) (crunG (ls insOf n1 f1) ⟨(iOf v2), (iOf v3), (iOf v4), (iOf v5), (iOf v6)⟩ (iOf v7) (iOf v8) (iOf v9) (iOf v10) (iOf v11) (iOf v13) (iOf v14) (iOf v15) (ls iOf n12 f12) p1 p12 y1 (by rw [ls_length]; exact y2) (by rw [ls_length]; exact y3) y4) ?_ R hm hwr ?_ ?_ ?_
      · intro x hx
        simp only [List.mem_cons, List.not_mem_nil, or_false] at hx
        rcases hx with rfl | rfl
        · exact viewIns t1 e1 g1
        · exact viewI64 t12 e12 g12
      · intro β1 hv
        simp only [Vd, ls_length, and_true] at hv
        obtain ⟨z1, z12⟩ := hv
        simp only [denL, aggDen, intDen, natDen, boolDen, ls_length, z1, z12, d1, d12, isI_den b2, isI_den b3, isI_den b4, isI_den b5, isI_den b6, isI_den b7, isI_den b8, isI_den b9, isI_den b10, isI_den b11, isI_den b13, isI_den b14, isI_den b15]
      · exact Vm.b84
      · exact Vm.b84
    · cases hs
  · cases hs
def cCrB : FuncId → Option Spec := look2 [(29, sRunB)]
theorem cCrB_ok : ∀ f S, cCrB f = some S → CallOk Try.prog f S := allOk_spec ⟨sRunB_ok, trivial⟩
theorem crunB (P : List Ins) (v : Evi) (t s q o y d f0 f : Int) (cs : List Int) (p1 p2 : Nat) (hP : ∀ x ∈ P, x.ok) (hn : P.length ≤ 1000000) (hc : cs.length ≤ 1000000) (hb : (runO P v (begS y t s cs d) f).bad ≠ 0) : LitOk Try.prog 14 [.agg [.sl 1 2 [] 5 0 P.length (some p1), .agg [.int .u64 v.seed, .int .i64 v.process, .int .i64 v.ports, .int .i64 v.look, .int .i64 v.now], .agg [.agg [.int .i64 t, .int .i64 s, .int .i64 q], .int .i64 o, .int .i64 y], .sl 3 4 [] 1 0 cs.length (some p2), .int .i64 d, .int .i64 f0], .int .i64 f]
    [.gone, .gone, .ro (.arr P.length 5 (prS P)), .gone, .ro (.arr cs.length 1 (i64S cs))]
    (.tup [.agg [.nat .i64 (runO P v (begS y t s cs d) f).tr.length, .int .i64 (runO P v (begS y t s cs d) f).at_, .sl 0 0 [] 0 0 0 (some 0), .nat .i64 0, .sl 0 0 [] 0 0 0 (some 0)], .int .i64 (runO P v (begS y t s cs d) f).bad]) [.gone] := by
  refine litOkM (fn := Try.f14) 5 20 0 rfl rfl rfl rfl rfl (by simp only [StableL, Stable, hp, i64S, prS, insS, sndsS, sndS, stS, evS, macS, cB, sB, HB.stable]; simp [HB.born]) rfl fun w0 M E hro => ?_
  repeat' (first | with_reducible (first | apply J1 | apply J3 | apply J4 | apply J5 | apply J6 | apply J7 | apply J8 | apply J9 | apply J10 | apply J11 | apply J12 | apply J13 | apply J14 | apply J15 | apply J16 | apply J17 | apply J18 | apply J19 | apply J20 | refine J2 ?_) | ((with_reducible apply J21); (· rfl)) | ((with_reducible intro hif); first | (focus (cases hif; done)) | (simp only [JH] at hif; try (exfalso; omega)) | (try (exfalso; omega))) | ((first | ((with_reducible apply J22 cCrB_ok tab_ok); (· rfl)) | ((with_reducible apply J23 fol cCrB_ok tab_ok); (· rfl)) | with_reducible apply J24); (· (simp only [push_cast, ↓JP, Nat.reduceAdd, Nat.reduceEqDiff, Nat.reduceLT, Nat.reduceMul, Nat.reduceLeDiff, reduceCtorEq, reduceIte, ↓JK, JE, JB, cCrB, sRunB, inR, inN, hb]; rfl)); (try kernel_rfl); (try exact Vm.b86)) | fail)
  apply At.endsRet tab_ok (fn := Try.f14) (rs := [.cell 4 45, .tmp 5]) Anc.refl hro (Nat.le_of_ble_eq_true rfl) rfl
  · exact Vm.b12
  · exact Vm.b6
  · exact Vm.b7
  · rfl
  · exact Vm.b84
  · exact Vm.b9
  · exact fun β => rfl
  · exact Vm.b84
def sCrB : Spec := fun args h m => match args with
  | [.agg [v1, .agg [v2, v3, v4, v5, v6], .agg [.agg [v7, v8, v9], v10, v11], v12, v13, v14], v15] => match srcV h 5 (.tup []) v1, srcV h 1 (.tup []) v12 with
    | some (c1, n1, f1, r1), some (c12, n12, f12, r12) => bif isI .u64 v2 && isI .i64 v3 && isI .i64 v4 && isI .i64 v5 && isI .i64 v6 && isI .i64 v7 && isI .i64 v8 && isI .i64 v9 && isI .i64 v10 && isI .i64 v11 && isI .i64 v13 && isI .i64 v14 && isI .i64 v15 then some (c1 ∧ c12 ∧ (∀ q, q < n1 → isIns (f1 q) = true) ∧ (∀ q, q < n12 → isI .i64 (f12 q) = true) ∧ ((∀ x ∈ (ls insOf n1 f1), x.ok)) ∧ (n1 ≤ 1000000) ∧ (n12 ≤ 1000000) ∧ ((runO (ls insOf n1 f1) ⟨(iOf v2), (iOf v3), (iOf v4), (iOf v5), (iOf v6)⟩ (begS (iOf v11) (iOf v7) (iOf v8) (ls iOf n12 f12) (iOf v13)) (iOf v15)).bad ≠ 0), .tup [.agg [.nat .i64 (runO (ls insOf n1 f1) ⟨(iOf v2), (iOf v3), (iOf v4), (iOf v5), (iOf v6)⟩ (begS (iOf v11) (iOf v7) (iOf v8) (ls iOf n12 f12) (iOf v13)) (iOf v15)).tr.length, .int .i64 (runO (ls insOf n1 f1) ⟨(iOf v2), (iOf v3), (iOf v4), (iOf v5), (iOf v6)⟩ (begS (iOf v11) (iOf v7) (iOf v8) (ls iOf n12 f12) (iOf v13)) (iOf v15)).at_, .sl 0 0 [] 0 0 0 (some 0), .nat .i64 0, .sl 0 0 [] 0 0 0 (some 0)], .int .i64 (runO (ls insOf n1 f1) ⟨(iOf v2), (iOf v3), (iOf v4), (iOf v5), (iOf v6)⟩ (begS (iOf v11) (iOf v7) (iOf v8) (ls iOf n12 f12) (iOf v13)) (iOf v15)).bad], r1 ++ r12, []) else none
    | _, _ => none
  | _ => none
theorem sCrB_ok : CallOk Try.prog 14 sCrB := by
  refine ⟨named_spec (by kernel_rfl), fun args h m c v rd wr hs hm hc w0 M β h' w R hrd hwr hst => ?_⟩
  unfold sCrB at hs
  split at hs
  · rename_i v1 v2 v3 v4 v5 v6 v7 v8 v9 v10 v11 v12 v13 v14 v15
    split at hs
    · rename_i c1 n1 f1 r1 c12 n12 f12 r12 a1 a12
      obtain ⟨hb, hs⟩ := bif_some hs
      simp only [Option.some.injEq, Prod.mk.injEq] at hs
      obtain ⟨rfl, rfl, rfl, rfl⟩ := hs
      simp only [Bool.and_eq_true] at hb
      obtain ⟨⟨⟨⟨⟨⟨⟨⟨⟨⟨⟨⟨b2, b3⟩, b4⟩, b5⟩, b6⟩, b7⟩, b8⟩, b9⟩, b10⟩, b11⟩, b13⟩, b14⟩, b15⟩ := hb
      obtain ⟨k1, k12, g1, g12, y1, y2, y3, y4⟩ := hc
      obtain ⟨A1, p1, d1, e1, t1⟩ := reads_src R a1 k1 (fun i hi => hrd i (List.mem_append_left _ hi)) (by omega)
      obtain ⟨A12, p12, d12, e12, t12⟩ := reads_src R a12 k12 (fun i hi => hrd i (List.mem_append_right _ hi)) (by omega)
      refine callRo (views := [⟨5, (ls insOf n1 f1).length, prS (ls insOf n1 f1), A1, p1⟩, ⟨1, (ls iOf n12 f12).length, i64S (ls iOf n12 f12), A12, p12⟩]) (crunB (ls insOf n1 f1) ⟨(iOf v2), (iOf v3), (iOf v4), (iOf v5), (iOf v6)⟩ (iOf v7) (iOf v8) (iOf v9) (iOf v10) (iOf v11) (iOf v13) (iOf v14) (iOf v15) (ls iOf n12 f12) p1 p12 y1 (by rw [ls_length]; exact y2) (by rw [ls_length]; exact y3) y4) ?_ R hm hwr ?_ ?_ ?_
      · intro x hx
        simp only [List.mem_cons, List.not_mem_nil, or_false] at hx
        rcases hx with rfl | rfl
        · exact viewIns t1 e1 g1
        · exact viewI64 t12 e12 g12
      · intro β1 hv
        simp only [Vd, ls_length, and_true] at hv
        obtain ⟨z1, z12⟩ := hv
        simp only [denL, aggDen, intDen, natDen, boolDen, ls_length, z1, z12, d1, d12, isI_den b2, isI_den b3, isI_den b4, isI_den b5, isI_den b6, isI_den b7, isI_den b8, isI_den b9, isI_den b10, isI_den b11, isI_den b13, isI_den b14, isI_den b15]
      · exact Vm.b84
      · exact Vm.b84
    · cases hs
  · cases hs
def cSm : FuncId → Option Spec := look2 [(20, sEqI64), (21, sEqSnd)]
theorem cSm_ok : ∀ f S, cSm f = some S → CallOk Try.prog f S := allOk_spec ⟨sEqI64_ok, sEqSnd_ok, trivial⟩
end Go.Proofs.Ytjliakjbdcplcaa.Vm
end

section
namespace Go.Proofs.Ytjliakjbdcplcaa.Vm
open Go.RowKit
attribute [local push_cast] runR opG gtmp gval gus opX tmpsOf tm tmO tmP restr look look2 tab tys zs ets eqB eqBL allB numOf ieq Int.cast_ofNat_Int Int.ofNat_zero beq_true beq_false frameOf ev evL ofV opV loadV noW pushF wrsL setH allBorn allGone HB.born HB.isGone HB.val SV.plain dstOk hp nav fitsT SV.size sizeL SV.isAgg TK.size TK.agg bin binE binN binI arN arI cmpN cmpI keq kn narrow callV storeV setp fillV buildV buildSliceV makeV sliceV appendV copyV List.isEmpty_nil srcV evO asN ite_t ite_f ite_bool ite_int ite_nat maxV v_beq v_ble v_blt cond_true cond_false List.getElem?_cons_zero List.getElem?_cons_succ List.getD_cons_zero List.getD_cons_succ List.getD_nil List.length_cons List.length_nil List.take_succ_cons List.take_zero List.set_cons_zero List.set_cons_succ List.cons_append List.nil_append List.append_assoc List.replicate_succ List.replicate_zero Nat.zero_add Nat.add_zero decide_true decide_false Bool.true_and Bool.and_true Bool.false_and Bool.and_false Bool.true_or Bool.or_true Bool.false_or Bool.or_false beq_self_eq_true Bool.or_self Nat.lt_irrefl Nat.not_lt_zero Nat.le_refl Option.getD_some Option.getD_none BEq.rfl Bool.not_true Bool.not_false Bool.cond_true_left Bool.cond_false_right prS sndsS i64S nav_ins nav_ins0 nav_ins1 nav_ins2 nav_ins3 nav_ins4 nav_snd nav_snd0 nav_snd1 nav_snd2 isIns_insS insOf_insS isSnd_sndS sndOf_sndS isI_int isI_nat iOf
set_option linter.unusedVariables false
set_option linter.unusedSimpArgs false
set_option maxRecDepth 100000
set_option maxHeartbeats 4000000
theorem eqL_self {α : Type} [DecidableEq α] (a : List α) : eqL a a = true := by simp [eqL]
theorem isame_lit (a d a' d' : Int) (e e' : Bool) (r r' : Nat → Int) (c c' : List Int) (s s' : List Snd) (p1 p2 p3 p4 : Nat) (h1 : a = a') (h2 : e = e') (h3 : ∀ q, q < 8 → r q = r' q) (h4 : c = c') (h5 : d = d') (h6 : s = s') (hc : c.length ≤ 1000000) (hs : s.length ≤ 1000000) : LitOk Try.prog 23 [.agg [.int .i64 a, .bool e, .arr 8 1 (fun q => .int .i64 (r q)), .sl 1 2 [] 1 0 c.length (some p1), .int .i64 d, .sl 3 4 [] 3 0 s.length (some p2)], .agg [.int .i64 a', .bool e', .arr 8 1 (fun q => .int .i64 (r' q)), .sl 5 6 [] 1 0 c'.length (some p3), .int .i64 d', .sl 7 8 [] 3 0 s'.length (some p4)]]
    [.gone, .gone, .ro (.arr c.length 1 (i64S c)), .gone, .ro (.arr s.length 3 (sndsS s)), .gone, .ro (.arr c'.length 1 (i64S c')), .gone, .ro (.arr s'.length 3 (sndsS s'))] (.bool true) [.gone] := by
  subst h1 h2 h4 h5 h6
  have hc2 : c.length ≤ 281474976710656 := by omega
  have hs2 : s.length ≤ 281474976710656 := by omega
  have r0 := h3 0 (by decide)
  have r1 := h3 1 (by decide)
  have r2 := h3 2 (by decide)
  have r3 := h3 3 (by decide)
  have r4 := h3 4 (by decide)
  have r5 := h3 5 (by decide)
  have r6 := h3 6 (by decide)
  have r7 := h3 7 (by decide)
  refine litOkM (fn := Try.f23) 9 45 0 rfl rfl rfl rfl rfl (by simp only [StableL, Stable, hp, i64S, prS, insS, sndsS, sndS, stS, evS, macS, cB, sB, HB.stable]; simp [HB.born]) rfl fun w0 M E hro => ?_
  repeat' (first | with_reducible (first | apply J1 | apply J3 | apply J4 | apply J5 | apply J6 | apply J7 | apply J8 | apply J9 | apply J10 | apply J11 | apply J12 | apply J13 | apply J14 | apply J15 | apply J16 | apply J17 | apply J18 | apply J19 | apply J20 | refine J2 ?_) | ((with_reducible apply J21); (· rfl)) | ((with_reducible intro hif); first | (focus (cases hif; done)) | (simp only [JH] at hif; try (exfalso; omega)) | (try (exfalso; omega))) | ((first | ((with_reducible apply J22 cSm_ok tab_ok); (· rfl)) | ((with_reducible apply J23 fol cSm_ok tab_ok); (· rfl)) | with_reducible apply J24); (· (simp only [push_cast, ↓JP, Nat.reduceAdd, Nat.reduceEqDiff, Nat.reduceLT, Nat.reduceMul, Nat.reduceLeDiff, reduceCtorEq, reduceIte, ↓JK, JE, cSm, sEqI64, sEqSnd, inR, inN, eq_self, eqL_self, r0, r1, r2, r3, r4, r5, r6, r7]; rfl)); (try kernel_rfl); (try exact Vm.b21)) | fail)
  apply At.endsRet tab_ok (fn := Try.f23) (rs := [.tmp 4]) Anc.refl hro (Nat.le_of_ble_eq_true rfl) rfl
  · exact Vm.b12
  · exact Vm.b6
  · exact Vm.b7
  · rfl
  · exact Vm.b84
  · exact Vm.b9
  · exact fun β => rfl
  · exact Vm.b84
def sISame : Spec := fun args h m => match args with
  | [.agg [v1, .bool v2, .arr 8 1 v3, v4, v5, v6], .agg [v7, .bool v8, .arr 8 1 v9, v10, v11, v12]] => match srcV h 1 (.tup []) v4, srcV h 3 (.tup []) v6, srcV h 1 (.tup []) v10, srcV h 3 (.tup []) v12 with
    | some (c4, n4, f4, r4), some (c6, n6, f6, r6), some (c10, n10, f10, r10), some (c12, n12, f12, r12) => bif isI .i64 v1 && isI .i64 v5 && isI .i64 v7 && isI .i64 v11 then some (c4 ∧ c6 ∧ c10 ∧ c12 ∧ (∀ q, q < n4 → isI .i64 (f4 q) = true) ∧ (∀ q, q < n6 → isSnd (f6 q) = true) ∧ (∀ q, q < n10 → isI .i64 (f10 q) = true) ∧ (∀ q, q < n12 → isSnd (f12 q) = true) ∧ (∀ q, q < 8 → isI .i64 (v3 q) = true) ∧ (∀ q, q < 8 → isI .i64 (v9 q) = true) ∧ ((iOf v1) = (iOf v7)) ∧ (v2 = v8) ∧ ((∀ q, q < 8 → (fun q => iOf (v3 q)) q = (fun q => iOf (v9 q)) q)) ∧ ((ls iOf n4 f4) = (ls iOf n10 f10)) ∧ ((iOf v5) = (iOf v11)) ∧ ((ls sndOf n6 f6) = (ls sndOf n12 f12)) ∧ (n4 ≤ 1000000) ∧ (n6 ≤ 1000000), .bool true, r4 ++ r6 ++ r10 ++ r12, []) else none
    | _, _, _, _ => none
  | _ => none
theorem sISame_ok : CallOk Try.prog 23 sISame := by
  refine ⟨named_spec (by kernel_rfl), fun args h m c v rd wr hs hm hc w0 M β h' w R hrd hwr hst => ?_⟩
  unfold sISame at hs
  split at hs
  · rename_i v1 v2 v3 v4 v5 v6 v7 v8 v9 v10 v11 v12
    split at hs
    · rename_i c4 n4 f4 r4 c6 n6 f6 r6 c10 n10 f10 r10 c12 n12 f12 r12 a4 a6 a10 a12
      obtain ⟨hb, hs⟩ := bif_some hs
      simp only [Option.some.injEq, Prod.mk.injEq] at hs
      obtain ⟨rfl, rfl, rfl, rfl⟩ := hs
      simp only [Bool.and_eq_true] at hb
      obtain ⟨⟨⟨b1, b5⟩, b7⟩, b11⟩ := hb
      obtain ⟨k4, k6, k10, k12, g4, g6, g10, g12, g3, g9, y1, y2, y3, y4, y5, y6, y7, y8⟩ := hc
      obtain ⟨A4, p4, d4, e4, t4⟩ := reads_src R a4 k4 (fun i hi => hrd i (List.mem_append_left _ (List.mem_append_left _ (List.mem_append_left _ hi)))) (by omega)
      obtain ⟨A6, p6, d6, e6, t6⟩ := reads_src R a6 k6 (fun i hi => hrd i (List.mem_append_left _ (List.mem_append_left _ (List.mem_append_right _ hi)))) (by omega)
      obtain ⟨A10, p10, d10, e10, t10⟩ := reads_src R a10 k10 (fun i hi => hrd i (List.mem_append_left _ (List.mem_append_right _ hi))) (by omega)
      obtain ⟨A12, p12, d12, e12, t12⟩ := reads_src R a12 k12 (fun i hi => hrd i (List.mem_append_right _ hi)) (by omega)
      refine callRo (views := [⟨1, (ls iOf n4 f4).length, i64S (ls iOf n4 f4), A4, p4⟩, ⟨3, (ls sndOf n6 f6).length, sndsS (ls sndOf n6 f6), A6, p6⟩, ⟨1, (ls iOf n10 f10).length, i64S (ls iOf n10 f10), A10, p10⟩, ⟨3, (ls sndOf n12 f12).length, sndsS (ls sndOf n12 f12), A12, p12⟩]) (isame_lit (iOf v1) (iOf v5) (iOf v7) (iOf v11) v2 v8 (fun q => iOf (v3 q)) (fun q => iOf (v9 q)) (ls iOf n4 f4) (ls iOf n10 f10) (ls sndOf n6 f6) (ls sndOf n12 f12) p4 p6 p10 p12 y1 y2 y3 y4 y5 y6 (by rw [ls_length]; exact y7) (by rw [ls_length]; exact y8)) ?_ R hm hwr ?_ ?_ ?_
      · intro x hx
        simp only [List.mem_cons, List.not_mem_nil, or_false] at hx
        rcases hx with rfl | rfl | rfl | rfl
        · exact viewI64 t4 e4 g4
        · exact viewSnd t6 e6 g6
        · exact viewI64 t10 e10 g10
        · exact viewSnd t12 e12 g12
      · intro β1 hv
        simp only [Vd, ls_length, and_true] at hv
        obtain ⟨z4, z6, z10, z12⟩ := hv
        simp only [denL, aggDen, intDen, natDen, boolDen, ls_length, z4, z6, z10, z12, d4, d6, d10, d12, isI_den b1, isI_den b5, isI_den b7, isI_den b11, ← r8Den (β := β) (β1 := β1) g3, ← r8Den (β := β) (β1 := β1) g9]
      · exact Vm.b84
      · exact Vm.b84
    · cases hs
  · cases hs
end Go.Proofs.Ytjliakjbdcplcaa.Vm
end

section
namespace Go.Proofs.Ytjliakjbdcplcaa.Vm
open Go.RowKit
set_option linter.unusedVariables false
set_option linter.unusedSimpArgs false
theorem made_open (xs : List Ins) {v : Evi} {y t s d : Int} {cs : List Int} (p0 : 0 ≤ v.process) (p1 : v.process ≤ 65536) (o0 : 0 ≤ v.ports) (l0 : 1 ≤ v.look) (t0 : 0 ≤ v.now) (t1 : v.now ≤ 281474976710656) (hc : cs.length ≤ 1024) (d0 : 0 ≤ d) (d1 : d ≤ 1099511627776) : openE (made14 xs) v (begS y t s cs d) = 0 := by
  unfold openE
  have h3 : v.rightB = true := decide_eq_true ⟨p0, p1, o0, l0, t0, t1⟩
  have hl := (made14_le xs).1
  have h4 : (begS y t s cs d).rightB (made14 xs).length = true := decide_eq_true ⟨Int.le_refl 0, by show (0 : Int) < _; omega, by show (cs.length : Int) ≤ 1024; omega, d0, d1⟩
  rw [if_neg (fun h => h (made14_right xs)), if_neg (by rw [h3]; exact Bool.noConfusion), if_neg (by rw [h4]; exact Bool.noConfusion)]
end Go.Proofs.Ytjliakjbdcplcaa.Vm
end

section
namespace Go.Proofs.Ytjliakjbdcplcaa.Vm
open Go.RowKit
set_option linter.unusedVariables false
set_option linter.unusedSimpArgs false
section
variable {P : List Ins} {v : Evi}
theorem runA_le : ∀ (n : Nat) (s : Sta) (x : Ins) (tr : List Int) (a : Int), tr.length ≤ (runA P v n s x tr a).tr.length ∧ (runA P v n s x tr a).tr.length ≤ tr.length + n
  | 0, s, x, tr, a => by
    unfold runA
    split <;> simp
  | n + 1, s, x, tr, a => by
    unfold runA
    split
    · simp
    · split
      · have := runA_le n (stepS P v s) (stepX P s x) (tr ++ [s.at_]) s.at_
        simp at this
        omega
      · simp
theorem runA_same : ∀ (n m : Nat) (s : Sta) (x : Ins) (tr : List Int) (a : Int), (runA P v n s x tr a).bad ≠ 190 → runA P v (n + m) s x tr a = runA P v n s x tr a
  | 0, m, s, x, tr, a, h => by
    cases he : s.ended
    · rw [runA_zero he] at h; exact absurd rfl h
    · rw [runA_end he, runA_end he]
  | n + 1, m, s, x, tr, a, h => by
    cases he : s.ended
    · by_cases hs : stepE P v s = 0
      · rw [runA_go he (Nat.succ_pos n) hs] at h ⊢
        rw [show n + 1 + m = (n + m) + 1 by omega, runA_go he (Nat.succ_pos _) hs]
        exact runA_same n m _ _ _ _ h
      · rw [show n + 1 + m = (n + m) + 1 by omega, runA_bad he (Nat.succ_pos _) hs, runA_bad he (Nat.succ_pos _) hs]
    · rw [runA_end he, runA_end he]
theorem runA_fuel : ∀ (n : Nat) (s : Sta) (x : Ins) (tr : List Int) (a : Int), (runA P v n s x tr a).bad = 190 → (runA P v n s x tr a).s.ended = false ∧ (runA P v n s x tr a).tr.length = tr.length + n ∧ ∀ m, ∃ a', runA P v (n + m) s x tr a = runA P v m (runA P v n s x tr a).s (runA P v n s x tr a).x (runA P v n s x tr a).tr a'
  | 0, s, x, tr, a, h => by
    cases he : s.ended
    · rw [runA_zero he]
      exact ⟨he, rfl, fun m => ⟨a, by rw [Nat.zero_add]⟩⟩
    · rw [runA_end he] at h; cases h
  | n + 1, s, x, tr, a, h => by
    cases he : s.ended
    · by_cases hs : stepE P v s = 0
      · rw [runA_go he (Nat.succ_pos n) hs] at h ⊢
        obtain ⟨h1, h2, h3⟩ := runA_fuel n _ _ _ _ h
        refine ⟨h1, ?_, fun m => ?_⟩
        · show (runA P v n (stepS P v s) (stepX P s x) (tr ++ [s.at_]) s.at_).tr.length = _
          rw [h2]; simp; omega
        · rw [show n + 1 + m = (n + m) + 1 by omega, runA_go he (Nat.succ_pos _) hs]
          exact h3 m
      · rw [runA_bad he (Nat.succ_pos _) hs] at h
        exact absurd h (stepE_ne190 P v s)
    · rw [runA_end he] at h; cases h
variable {s : Sta} {F n : Int}
theorem ropE_of (hO : openE P v s = 0) (h0 : 0 ≤ F) (h1 : F ≤ 4096) : ropE P v s F = 0 := by
  unfold ropE
  have : rrE F = 0 := by unfold rrE; rw [if_neg (by omega)]
  rw [if_pos this]; exact hO
theorem runO_of (hO : openE P v s = 0) (h0 : 0 ≤ F) (h1 : F ≤ 4096) : runO P v s F = runA P v F.toNat s Ins0 [] 0 := by
  unfold runO; rw [if_pos (ropE_of hO h0 h1)]
end
theorem runA_good {P : List Ins} {v : Evi} (hP : PG P) : ∀ (n : Nat) (s : Sta) (x : Ins) (tr : List Int) (a : Int), SG P s → SG P (runA P v n s x tr a).s
  | 0, s, x, tr, a, h => by
    unfold runA
    split <;> exact h
  | n + 1, s, x, tr, a, h => by
    unfold runA
    split
    · exact h
    · split
      · exact runA_good hP n _ _ _ _ (stepS_good h hP)
      · exact stepS_good h hP
end Go.Proofs.Ytjliakjbdcplcaa.Vm
end

section
namespace Go.Proofs.Ytjliakjbdcplcaa.Vm
open Go.RowKit
set_option linter.unusedVariables false
set_option linter.unusedSimpArgs false
section
variable {P : List Ins} {v : Evi}
theorem doS_end {s : Sta} {x : Ins} (he : doE s v x = 0) (h : (doS s v x).ended = true) (h0 : s.ended = false) : (doS s v x).at_ = s.at_ := by
  unfold doS at h ⊢
  simp only [he, ne_eq, not_true_eq_false, if_false] at h ⊢
  by_cases q : x.op = 1
  · simp only [q, if_true]
  · simp only [q, if_false] at h ⊢
    exfalso
    repeat' split at h
    all_goals first | (rw [h0] at h; cases h) | (simp only [Sta.put] at h; rw [h0] at h; cases h)
theorem stepS_end {s : Sta} (h0 : s.ended = false) (he : stepE P v s = 0) (h : (stepS P v s).ended = true) : (stepS P v s).at_ = s.at_ := by
  unfold stepE at he
  unfold stepS at h ⊢
  rw [h0] at he h ⊢
  simp only [Bool.false_eq_true, if_false] at he h ⊢
  exact doS_end he h h0
theorem stepS_bad {s : Sta} (h0 : s.ended = false) (he : stepE P v s ≠ 0) : stepS P v s = s := by
  unfold stepE at he
  unfold stepS
  rw [h0] at he ⊢
  simp only [Bool.false_eq_true, if_false] at he ⊢
  exact doS_bad he
theorem runA_at : ∀ (n : Nat) (s : Sta) (x : Ins) (tr : List Int) (a : Int), (s.ended = true → a = s.at_) → (runA P v n s x tr a).at_ = (runA P v n s x tr a).s.at_ ∧ (runA P v n s x tr a).s.ended = decide ((runA P v n s x tr a).bad = 0)
  | 0, s, x, tr, a, h => by
    cases he : s.ended
    · rw [runA_zero he]; exact ⟨rfl, by simp [he]⟩
    · rw [runA_end he]; exact ⟨h he, by simp [he]⟩
  | n + 1, s, x, tr, a, h => by
    cases he : s.ended
    · by_cases hs : stepE P v s = 0
      · rw [runA_go he (Nat.succ_pos n) hs]
        exact runA_at n _ _ _ _ (fun h' => (stepS_end he hs h').symm)
      · rw [runA_bad he (Nat.succ_pos n) hs]
        dsimp only
        rw [stepS_bad he hs]
        exact ⟨rfl, by simp [he, hs]⟩
    · rw [runA_end he]; exact ⟨h he, by simp [he]⟩
theorem runA_a {n : Nat} {s : Sta} {x : Ins} {tr : List Int} {a b : Int} (h : s.ended = false) : runA P v n s x tr a = runA P v n s x tr b := by
  cases n with
  | zero => rw [runA_zero h, runA_zero h]
  | succ n =>
    by_cases hs : stepE P v s = 0
    · rw [runA_go h (Nat.succ_pos n) hs, runA_go h (Nat.succ_pos n) hs]
    · rw [runA_bad h (Nat.succ_pos n) hs, runA_bad h (Nat.succ_pos n) hs]
theorem runA_pre : ∀ (n : Nat) (s : Sta) (x : Ins) (tr t : List Int) (a : Int), runA P v n s x (tr ++ t) a = { runA P v n s x t a with tr := tr ++ (runA P v n s x t a).tr }
  | 0, s, x, tr, t, a => by
    cases he : s.ended
    · rw [runA_zero he, runA_zero he]
    · rw [runA_end he, runA_end he]
  | n + 1, s, x, tr, t, a => by
    cases he : s.ended
    · by_cases hs : stepE P v s = 0
      · rw [runA_go he (Nat.succ_pos n) hs, runA_go he (Nat.succ_pos n) hs, List.append_assoc]
        exact runA_pre n _ _ _ _ _
      · rw [runA_bad he (Nat.succ_pos n) hs, runA_bad he (Nat.succ_pos n) hs, List.append_assoc]
    · rw [runA_end he, runA_end he]
theorem runA_cut {n : Nat} {s : Sta} (h : (runA P v n s Ins0 [] 0).bad = 190) (m : Nat) : runA P v (n + m) s Ins0 [] 0 = { runA P v m (runA P v n s Ins0 [] 0).s (runA P v n s Ins0 [] 0).x [] 0 with tr := (runA P v n s Ins0 [] 0).tr ++ (runA P v m (runA P v n s Ins0 [] 0).s (runA P v n s Ins0 [] 0).x [] 0).tr } := by
  obtain ⟨h1, h2, h3⟩ := runA_fuel n s Ins0 [] 0 h
  obtain ⟨a', e⟩ := h3 m
  rw [e, runA_a (b := 0) h1]
  have := runA_pre (P := P) (v := v) m (runA P v n s Ins0 [] 0).s (runA P v n s Ins0 [] 0).x (runA P v n s Ins0 [] 0).tr [] 0
  rw [List.append_nil] at this
  exact this
structure Cut (P : List Ins) (v : Evi) (s0 : Sta) (F : Nat) (n : Nat) (W : RR) : Prop where
  le : n ≤ F
  run : runA P v n s0 Ins0 [] 0 = W
  bad : W.bad = 190
theorem Cut.start {s0 : Sta} {F : Nat} (h : s0.ended = false) : Cut P v s0 F 0 ⟨[], s0.at_, 190, s0, Ins0⟩ := ⟨Nat.zero_le _, runA_zero h, rfl⟩
theorem Cut.len {s0 : Sta} {F n : Nat} {W : RR} (h : Cut P v s0 F n W) : W.tr.length = n := by
  have := (runA_fuel (P := P) (v := v) n s0 Ins0 [] 0 (by rw [h.run]; exact h.bad)).2.1
  rw [h.run] at this
  simpa using this
theorem Cut.on {s0 : Sta} {F n m : Nat} {W Q R : RR} (h : Cut P v s0 F n W) (hm : n + m ≤ F) (hQ : runA P v m W.s W.x [] 0 = Q) (hb : Q.bad = 190) : Cut P v s0 F (n + m) { Q with tr := W.tr ++ Q.tr } := by
  refine ⟨hm, ?_, hb⟩
  have := runA_cut (P := P) (v := v) (n := n) (s := s0) (by rw [h.run]; exact h.bad) m
  rw [h.run, hQ] at this
  exact this
theorem Cut.all {s0 : Sta} {F : Nat} {W R : RR} (h : Cut P v s0 F F W) (hR : runA P v F s0 Ins0 [] 0 = R) : W = R := h.run.symm.trans hR
theorem Cut.done {s0 : Sta} {F n m : Nat} {W Q R : RR} (h : Cut P v s0 F n W) (hm : n + m ≤ F) (hQ : runA P v m W.s W.x [] 0 = Q) (hb : Q.bad ≠ 190) (hR : runA P v F s0 Ins0 [] 0 = R) : R = { Q with tr := W.tr ++ Q.tr } := by
  have := runA_cut (P := P) (v := v) (n := n) (s := s0) (by rw [h.run]; exact h.bad) (F - n)
  rw [h.run, show n + (F - n) = F by omega, hR] at this
  have h2 := runA_same (P := P) (v := v) m (F - n - m) W.s W.x [] 0 (by rw [hQ]; exact hb)
  rw [show m + (F - n - m) = F - n by omega, hQ] at h2
  rw [h2] at this
  exact this
end
end Go.Proofs.Ytjliakjbdcplcaa.Vm
end

section
namespace Go.Proofs.Ytjliakjbdcplcaa.Vm
open Go.RowKit
attribute [local push_cast] runR opG gtmp gval gus opX tmpsOf tm tmO tmP restr look look2 tab tys zs ets eqB eqBL allB numOf ieq Int.cast_ofNat_Int Int.ofNat_zero beq_true beq_false frameOf ev evL ofV opV loadV noW pushF wrsL setH allBorn allGone HB.born HB.isGone HB.val SV.plain dstOk hp nav fitsT SV.size sizeL SV.isAgg TK.size TK.agg bin binE binN binI arN arI cmpN cmpI keq kn narrow callV storeV setp fillV buildV buildSliceV makeV sliceV appendV copyV List.isEmpty_nil srcV evO asN ite_t ite_f ite_bool ite_int ite_nat maxV v_beq v_ble v_blt cond_true cond_false List.getElem?_cons_zero List.getElem?_cons_succ List.getD_cons_zero List.getD_cons_succ List.getD_nil List.length_cons List.length_nil List.take_succ_cons List.take_zero List.set_cons_zero List.set_cons_succ List.cons_append List.nil_append List.append_assoc List.replicate_succ List.replicate_zero Nat.zero_add Nat.add_zero decide_true decide_false Bool.true_and Bool.and_true Bool.false_and Bool.and_false Bool.true_or Bool.or_true Bool.false_or Bool.or_false beq_self_eq_true Bool.or_self Nat.lt_irrefl Nat.not_lt_zero Nat.le_refl Option.getD_some Option.getD_none BEq.rfl Bool.not_true Bool.not_false Bool.cond_true_left Bool.cond_false_right prS sndsS i64S nav_ins nav_ins0 nav_ins1 nav_ins2 nav_ins3 nav_ins4 nav_snd nav_snd0 nav_snd1 nav_snd2 isIns_insS insOf_insS isSnd_sndS sndOf_sndS isI_int isI_nat iOf
set_option linter.unusedVariables false
set_option linter.unusedSimpArgs false
set_option maxRecDepth 100000
set_option maxHeartbeats 4000000
def sRunA : Spec := fun args h m => match args with
  | [_, _, _, _, _, .nat .i64 2] => sRunG args h m
  | _ => sRunB args h m
theorem sRunA_ok : CallOk Try.prog 29 sRunA := by
  refine ⟨named_spec (by kernel_rfl), fun args h m c v rd wr hs hm hc w0 M β h' w R hrd hwr hst => ?_⟩
  unfold sRunA at hs
  split at hs
  · exact sRunG_ok.2 _ h m c v rd wr hs hm hc w0 M β h' w R hrd hwr hst
  · exact sRunB_ok.2 _ h m c v rd wr hs hm hc w0 M β h' w R hrd hwr hst
def cAw : FuncId → Option Spec := look2 [(29, sRunA), (16, sNewG), (17, rGo), (18, rState), (22, rBack), (19, rUsed), (20, sEqI64)]
theorem cAw_ok : ∀ f S, cAw f = some S → CallOk Try.prog f S := allOk_spec ⟨sRunA_ok, sNewG_ok, rGo_ok, rState_ok, rBack_ok, rUsed_ok, sEqI64_ok, trivial⟩
theorem ls_one {α : Type} (g : SV → α) (f : Nat → SV) : ls g 1 f = [g (f 0)] := rfl
theorem ls_two {α : Type} (g : SV → α) (f : Nat → SV) : ls g 2 f = [g (f 0), g (f 1)] := rfl
theorem ls_three {α : Type} (g : SV → α) (f : Nat → SV) : ls g 3 f = [g (f 0), g (f 1), g (f 2)] := rfl
theorem nat_zero_int : ((0 : Nat) : Int) = 0 := rfl
theorem insOf_agg (a b c d e : SV) : insOf (.agg [a, b, c, d, e]) = ⟨iOf a, iOf b, iOf c, iOf d, iOf e⟩ := rfl
theorem toNat2 : Int.toNat 2 = 2 := rfl
theorem awake_lit : LitOk Try.prog 12 [] [.gone] (.bool true) [.gone] := by
  have k1 : ∀ x ∈ ([⟨34, 0, 0, 3, 0⟩, ⟨1, 0, 0, 0, 0⟩] : List Ins), x.ok := by intro x hx; simp only [List.mem_cons, List.not_mem_nil, or_false] at hx; rcases hx with rfl | rfl <;> (refine ⟨?_, ?_, ?_, ?_, ?_, ?_, ?_, ?_, ?_, ?_⟩ <;> decide)
  have k2 : ∀ x ∈ ([⟨9, 0, 0, 0, 0⟩, ⟨1, 0, 0, 0, 0⟩] : List Ins), x.ok := by intro x hx; simp only [List.mem_cons, List.not_mem_nil, or_false] at hx; rcases hx with rfl | rfl <;> (refine ⟨?_, ?_, ?_, ?_, ?_, ?_, ?_, ?_, ?_, ?_⟩ <;> decide)
  have k3 : ∀ x ∈ ([⟨3, 4, 0, 0, 7⟩, ⟨6, 4, 3, 0, 0⟩, ⟨2, 0, 0, 0, 0⟩] : List Ins), x.ok := by intro x hx; simp only [List.mem_cons, List.not_mem_nil, or_false] at hx; rcases hx with rfl | rfl | rfl <;> (refine ⟨?_, ?_, ?_, ?_, ?_, ?_, ?_, ?_, ?_, ?_⟩ <;> decide)
  have b1 : (runO [⟨34, 0, 0, 3, 0⟩, ⟨1, 0, 0, 0, 0⟩] ⟨0, 0, 0, 1, 0⟩ (begS 0 0 0 [] 0) 2).bad = 0 := by kernel_rfl
  have t1 : (runO [⟨34, 0, 0, 3, 0⟩, ⟨1, 0, 0, 0, 0⟩] ⟨0, 0, 0, 1, 0⟩ (begS 0 0 0 [] 0) 2).tr.length = 2 := by kernel_rfl
  have a1 : (runO [⟨34, 0, 0, 3, 0⟩, ⟨1, 0, 0, 0, 0⟩] ⟨0, 0, 0, 1, 0⟩ (begS 0 0 0 [] 0) 2).at_ = 1 := by kernel_rfl
  have b2 : (runO [⟨34, 0, 0, 3, 0⟩, ⟨1, 0, 0, 0, 0⟩] ⟨0, 0, 0, 1, 0⟩ (begS 0 0 0 [] 0) 1).bad = 190 := by kernel_rfl
  have t2 : (runO [⟨34, 0, 0, 3, 0⟩, ⟨1, 0, 0, 0, 0⟩] ⟨0, 0, 0, 1, 0⟩ (begS 0 0 0 [] 0) 1).tr.length = 1 := by kernel_rfl
  have a2 : (runO [⟨34, 0, 0, 3, 0⟩, ⟨1, 0, 0, 0, 0⟩] ⟨0, 0, 0, 1, 0⟩ (begS 0 0 0 [] 0) 1).at_ = 1 := by kernel_rfl
  have n2 : (runO [⟨34, 0, 0, 3, 0⟩, ⟨1, 0, 0, 0, 0⟩] ⟨0, 0, 0, 1, 0⟩ (begS 0 0 0 [] 0) 1).bad ≠ 0 := by rw [b2]; decide
  have b3 : (runO [⟨34, 0, 0, 3, 0⟩, ⟨1, 0, 0, 0, 0⟩] ⟨0, 0, 0, 1, 0⟩ (begS 0 0 0 [] 0) 0).bad = 190 := by kernel_rfl
  have t3 : (runO [⟨34, 0, 0, 3, 0⟩, ⟨1, 0, 0, 0, 0⟩] ⟨0, 0, 0, 1, 0⟩ (begS 0 0 0 [] 0) 0).tr.length = 0 := by kernel_rfl
  have a3 : (runO [⟨34, 0, 0, 3, 0⟩, ⟨1, 0, 0, 0, 0⟩] ⟨0, 0, 0, 1, 0⟩ (begS 0 0 0 [] 0) 0).at_ = 0 := by kernel_rfl
  have n3 : (runO [⟨34, 0, 0, 3, 0⟩, ⟨1, 0, 0, 0, 0⟩] ⟨0, 0, 0, 1, 0⟩ (begS 0 0 0 [] 0) 0).bad ≠ 0 := by rw [b3]; decide
  have b4 : (runO [⟨9, 0, 0, 0, 0⟩, ⟨1, 0, 0, 0, 0⟩] ⟨0, 0, 0, 1, 0⟩ (begS 0 0 0 [] 0) 100).bad = 190 := by kernel_rfl
  have t4 : (runO [⟨9, 0, 0, 0, 0⟩, ⟨1, 0, 0, 0, 0⟩] ⟨0, 0, 0, 1, 0⟩ (begS 0 0 0 [] 0) 100).tr.length = 100 := by kernel_rfl
  have a4 : (runO [⟨9, 0, 0, 0, 0⟩, ⟨1, 0, 0, 0, 0⟩] ⟨0, 0, 0, 1, 0⟩ (begS 0 0 0 [] 0) 100).at_ = 0 := by kernel_rfl
  have n4 : (runO [⟨9, 0, 0, 0, 0⟩, ⟨1, 0, 0, 0, 0⟩] ⟨0, 0, 0, 1, 0⟩ (begS 0 0 0 [] 0) 100).bad ≠ 0 := by rw [b4]; decide
  have b5 : (runO [⟨3, 4, 0, 0, 7⟩, ⟨6, 4, 3, 0, 0⟩, ⟨2, 0, 0, 0, 0⟩] ⟨0, 0, 0, 1, 0⟩ (begS 0 0 0 [0] 0) 9).bad = 184 := by kernel_rfl
  have t5 : (runO [⟨3, 4, 0, 0, 7⟩, ⟨6, 4, 3, 0, 0⟩, ⟨2, 0, 0, 0, 0⟩] ⟨0, 0, 0, 1, 0⟩ (begS 0 0 0 [0] 0) 9).tr.length = 3 := by kernel_rfl
  have a5 : (runO [⟨3, 4, 0, 0, 7⟩, ⟨6, 4, 3, 0, 0⟩, ⟨2, 0, 0, 0, 0⟩] ⟨0, 0, 0, 1, 0⟩ (begS 0 0 0 [0] 0) 9).at_ = 2 := by kernel_rfl
  have n5 : (runO [⟨3, 4, 0, 0, 7⟩, ⟨6, 4, 3, 0, 0⟩, ⟨2, 0, 0, 0, 0⟩] ⟨0, 0, 0, 1, 0⟩ (begS 0 0 0 [0] 0) 9).bad ≠ 0 := by rw [b5]; decide
  have p3 : PG [⟨3, 4, 0, 0, 7⟩, ⟨6, 4, 3, 0, 0⟩, ⟨2, 0, 0, 0, 0⟩] := by exact ⟨k3, by kernel_rfl⟩
  have v3 : VOk ⟨0, 0, 0, 1, 0⟩ := by exact ⟨by decide, by decide, by decide, by decide, by decide, by decide⟩
  have s3 : SG [⟨3, 4, 0, 0, 7⟩, ⟨6, 4, 3, 0, 0⟩, ⟨2, 0, 0, 0, 0⟩] (begS 0 0 0 [0] 0) := by exact ⟨by decide, by decide, by decide, by decide, by decide, by decide⟩
  have e3 : openE [⟨3, 4, 0, 0, 7⟩, ⟨6, 4, 3, 0, 0⟩, ⟨2, 0, 0, 0, 0⟩] ⟨0, 0, 0, 1, 0⟩ (begS 0 0 0 [0] 0) = 0 := by kernel_rfl
  have g1 : (runA [⟨3, 4, 0, 0, 7⟩, ⟨6, 4, 3, 0, 0⟩, ⟨2, 0, 0, 0, 0⟩] ⟨0, 0, 0, 1, 0⟩ 2 (begS 0 0 0 [0] 0) Ins0 [] 0).bad = 190 := by kernel_rfl
  have g2 : (runA [⟨3, 4, 0, 0, 7⟩, ⟨6, 4, 3, 0, 0⟩, ⟨2, 0, 0, 0, 0⟩] ⟨0, 0, 0, 1, 0⟩ 2 (begS 0 0 0 [0] 0) Ins0 [] 0).tr.length = 2 := by kernel_rfl
  have g3 : (runA [⟨3, 4, 0, 0, 7⟩, ⟨6, 4, 3, 0, 0⟩, ⟨2, 0, 0, 0, 0⟩] ⟨0, 0, 0, 1, 0⟩ 2 (begS 0 0 0 [0] 0) Ins0 [] 0).s.cells = [7] := by kernel_rfl
  refine litOkM (fn := Try.f12) 1 186 0 rfl rfl rfl rfl rfl trivial rfl fun w0 M E hro => ?_
  repeat' (first | with_reducible (first | apply J1 | apply J3 | apply J4 | apply J5 | apply J6 | apply J7 | apply J8 | apply J9 | apply J10 | apply J11 | apply J12 | apply J13 | apply J14 | apply J15 | apply J16 | apply J17 | apply J18 | apply J19 | apply J20 | refine J2 ?_) | ((with_reducible apply J21); (· rfl)) | ((with_reducible intro hif); first | (focus (cases hif; done)) | (simp only [JH] at hif; try (exfalso; omega)) | (try (exfalso; omega))) | ((first | ((with_reducible apply J22 cAw_ok tab_ok); (· rfl)) | ((with_reducible apply J23 fol cAw_ok tab_ok); (· rfl)) | with_reducible apply J24); (· (simp only [push_cast, ↓JP, Nat.reduceAdd, Nat.reduceEqDiff, Nat.reduceLT, Nat.reduceMul, Nat.reduceLeDiff, reduceCtorEq, reduceIte, ↓JK, JM, JE, JB, cAw, sRunA, sRunG, sRunB, ls_one, ls_two, ls_three, insOf_agg, nat_zero_int, toNat2, inR, inN, b1, t1, a1, b2, t2, a2, b3, t3, a3, b4, t4, a4, b5, t5, a5, g1, g2, g3]; rfl)); (try kernel_rfl); (try (focus (first | exact True.intro | ((try simp only [JS, implies_true, forall_const, shaped, shapedL, kndOf, iOf, insOf_agg, ls_one, ls_two, ls_three, ls_zero, nat_zero_int, Nat.zero_add, List.getD_cons_zero, List.getD_cons_succ, Int.cast_ofNat_Int, beg_fold]); (repeat' (first | exact True.intro | assumption | apply And.intro | decide | (intro q hq; first | rfl | exact hq.elim | exact k1 q hq | exact k2 q hq | exact k3 q hq | ((rcases q with _ | _ | _ | q) <;> first | rfl | (exfalso; revert hq; simp; done))))); done) | ((try simp only [JS, implies_true, forall_const, shaped, shapedL, kndOf, inR, inN]); (repeat' (first | assumption | exact True.intro | omega | apply And.intro)); done))))) | fail)
  apply At.endsRet tab_ok (fn := Try.f12) (rs := [.tmp 0]) Anc.refl hro (Nat.le_of_ble_eq_true rfl) rfl
  · simp only [push_cast, ↓JP, Nat.reduceAdd, Nat.reduceEqDiff, Nat.reduceLT, Nat.reduceMul, Nat.reduceLeDiff, reduceCtorEq, reduceIte, ↓JK, resV, resV1, ls_one, ls_two, ls_three]; rfl
  · exact Vm.b6
  · exact Vm.b7
  · rfl
  · exact Vm.b84
  · exact Vm.b9
  · first | exact fun β => rfl | (intro β; kernel_rfl)
  · exact Vm.b84
def sAw19 : Spec := fun args h m => match args with
  | [] => some (True, .bool true, [], [])
  | _ => none
theorem sAw19_ok : CallOk Try.prog 12 sAw19 := by
  refine ⟨named_spec (by kernel_rfl), fun args h m c v rd wr hs hm hc w0 M β h' w R hrd hwr hst => ?_⟩
  unfold sAw19 at hs
  split at hs
  · skip
    simp only [Option.some.injEq, Prod.mk.injEq] at hs
    obtain ⟨rfl, rfl, rfl, rfl⟩ := hs
    refine callRo (views := []) (awake_lit) ?_ R hm hwr ?_ ?_ ?_
    · intro x hx; cases hx
    · intro β1 hv
      simp only [denL, aggDen, intDen, natDen, boolDen, ls_length]
    · exact Vm.b84
    · exact Vm.b84
  · cases hs
end Go.Proofs.Ytjliakjbdcplcaa.Vm
end

section
namespace Go.Proofs.Ytjliakjbdcplcaa.Vm
open Go.RowKit
set_option linter.unusedVariables false
set_option linter.unusedSimpArgs false
set_option maxRecDepth 100000
structure Evt where
  time : Int
  source : Int
  seq : Int
  to_ : Int
  value : Int
deriving DecidableEq
def Evt.cells (e : Evt) : List Value := [.int .i64 e.time, .int .i64 e.source, .int .i64 e.seq, .int .i64 e.to_, .int .i64 e.value]
def u8S (l : List Int) : Nat → SV := fun q => .int .u8 (l.getD q 0)
theorem u8S_stable {h : HM} {l : List Int} (q : Nat) : Stable h (u8S l q) := trivial
def u8V (l : List Int) : List Value := l.map fun x => .int .u8 x
theorem elems_u8S {β : Env} (l : List Int) : elems β 1 l.length (u8S l) = u8V l := by
  rw [elems_ls (g := iOf) (cells := fun x => [.int .u8 x]) (isI_cl (k := .u8)) (fun _ => rfl) (fun q _ => rfl), show ls iOf l.length (u8S l) = l from ls_of (g := iOf) (e := fun x => .int .u8 x) (fun _ => rfl) l 0]
  unfold u8V
  rw [List.flatMap_def]
  induction l with
  | nil => rfl
  | cons x l ih => simp [ih]
end Go.Proofs.Ytjliakjbdcplcaa.Vm
end
