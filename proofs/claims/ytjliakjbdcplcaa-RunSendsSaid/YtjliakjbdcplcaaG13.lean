import Derived.Test.YtjliakjbdcplcaaG7
import Derived.Test.YtjliakjbdcplcaaG8
import Derived.Test.YtjliakjbdcplcaaG12
section
namespace Go.Proofs.Ytjliakjbdcplcaa.Vm
theorem b83 {P : Prop} (h : P := by (repeat' (first | exact trivial | exact rfl | assumption | apply Stable.ite | apply And.intro | intro _ | (simp only [Stable, StableL, i64S, prS, insS, sndsS, sndS, stS, evS, macS, cB, sB, HB.stable]; done)))) : P := h
theorem b84 {P : Prop} (h : P := by (first | exact True.intro | ((try simp only [JS, implies_true, forall_const, shaped, shapedL, kndOf, inR, inN]); (first | first | omega | exact ⟨fun q _ => rfl, hx, hmx⟩ | exact ⟨rfl, fun q _ => rfl, hx, hmx⟩ | (repeat' (first | assumption | exact True.intro | omega | apply And.intro))); done))) : P := h
theorem b85 {P : Prop} (h : P := by (first | exact True.intro | ((try simp only [JS, implies_true, forall_const, shaped, shapedL, kndOf, inR, inN]); (first | first | omega | exact ⟨hP, hn, hc⟩ | exact ⟨hP, hn, hc, hb⟩ | (repeat' (first | assumption | exact True.intro | omega | apply And.intro))); done))) : P := h
end Go.Proofs.Ytjliakjbdcplcaa.Vm
end
section
namespace Go.Proofs.Ytjliakjbdcplcaa.Vm
open Go.RowKit
attribute [local push_cast] runR opG gtmp gval gus opX tmpsOf tm tmO tmP restr look look2 tab tys zs ets eqB eqBL allB numOf ieq Int.cast_ofNat_Int Int.ofNat_zero beq_true beq_false frameOf ev evL ofV opV loadV noW pushF wrsL setH allBorn allGone HB.born HB.isGone HB.val SV.plain dstOk hp nav fitsT SV.size sizeL SV.isAgg TK.size TK.agg bin binE binN binI arN arI cmpN cmpI keq kn narrow callV storeV setp fillV buildV buildSliceV makeV sliceV appendV copyV List.isEmpty_nil srcV evO asN ite_t ite_f ite_bool ite_int ite_nat maxV v_beq v_ble v_blt cond_true cond_false List.getElem?_cons_zero List.getElem?_cons_succ List.getD_cons_zero List.getD_cons_succ List.getD_nil List.length_cons List.length_nil List.take_succ_cons List.take_zero List.set_cons_zero List.set_cons_succ List.cons_append List.nil_append List.append_assoc List.replicate_succ List.replicate_zero Nat.zero_add Nat.add_zero decide_true decide_false Bool.true_and Bool.and_true Bool.false_and Bool.and_false Bool.true_or Bool.or_true Bool.false_or Bool.or_false beq_self_eq_true Bool.or_self Nat.lt_irrefl Nat.not_lt_zero Nat.le_refl Option.getD_some Option.getD_none BEq.rfl Bool.not_true Bool.not_false Bool.cond_true_left Bool.cond_false_right prS sndsS i64S nav_ins nav_ins0 nav_ins1 nav_ins2 nav_ins3 nav_ins4 nav_snd nav_snd0 nav_snd1 nav_snd2 isIns_insS insOf_insS isSnd_sndS sndOf_sndS isI_int isI_nat iOf
set_option linter.unusedVariables false
set_option linter.unusedSimpArgs false
set_option maxRecDepth 100000
set_option maxHeartbeats 4000000
theorem wrap_u16 (x : Int) : 0 ≤ IntKind.wrap .u16 x ∧ IntKind.wrap .u16 x ≤ 65535 := by
  unfold IntKind.wrap; simp [IntKind.bits, IntKind.signed]; omega
theorem wrap_u8 (x : Int) : 0 ≤ IntKind.wrap .u8 x ∧ IntKind.wrap .u8 x ≤ 255 := by
  unfold IntKind.wrap; simp [IntKind.bits, IntKind.signed]; omega
def capB : SV → Prop
  | .sl _ _ _ _ _ n (some cp) => max n cp ≤ 9223372036854775807
  | _ => False
theorem capB_le {v : SV} {β : Env} {A : Option Addr} {n p : Nat} (h : capB v) (d : v.den β = .slice A n p) : p ≤ 9223372036854775807 := by
  cases v with
  | sl z i pa k s n' c => cases c with
    | none => exact h.elim
    | some cp =>
      have h' : max n' cp ≤ 9223372036854775807 := h
      simp only [SV.den, Option.getD_some] at d
      injection d with _ _ h3
      omega
  | _ => exact h.elim
def cMd19N : FuncId → Option Spec := look2 [(41, sEnv18), (40, sMd18N), (42, sMd14)]
theorem cMd19N_ok : ∀ f S, cMd19N f = some S → CallOk Try.prog f S := allOk_spec ⟨sEnv18_ok, sMd18N_ok, sMd14_ok, trivial⟩
theorem made19N (xs : List Ins) (a d sn time source value fuel : Int) (rg : Nat → Int) (cs : List Int) (v : Evi) (p1 p2 : Nat) (hx : ∀ x ∈ xs, x.ok) (hcx : xs.length ≤ p1) (hcap : p1 ≤ 9223372036854775807) (hcp : cs.length ≤ p2) (ha : 0 ≤ a ∧ a ≤ 255) (hd : 0 ≤ d ∧ d ≤ 4294967295) (hs : 0 ≤ sn ∧ sn ≤ 255) (ht : 0 ≤ time ∧ time ≤ 4294967295) (hso : 0 ≤ source ∧ source ≤ 255) (hf : 0 ≤ fuel ∧ fuel ≤ 65535) (hm : (mSnd (sn.tmod 21).toNat).isEmpty = true) : LitOk Try.prog 13
    [.agg [.sl 1 2 [] 5 0 xs.length (some p1), .agg [.int .u8 a, .arr 8 1 (fun q => .int .i64 (rg q)), .sl 3 4 [] 1 0 cs.length (some p2), .int .u32 d, .int .u8 sn], .agg [.int .u64 v.seed, .int .i64 v.process, .int .i64 v.ports, .int .i64 v.look, .int .i64 v.now], .int .u32 time, .int .u8 source, .int .i64 value, .int .u16 fuel]]
    [.gone, .gone, .ro (.arr xs.length 5 (prS xs)), .gone, .ro (.arr cs.length 1 (i64S cs))]
    (.agg [.sl 5 5 [] 5 0 (made14 xs).length none, .agg [.int .u64 v.seed, .int .i64 (IntKind.wrap .u16 v.process), .int .i64 ((IntKind.wrap .u8 v.ports).tmod 17), .int .i64 (1 + IntKind.wrap .u8 v.look), .int .i64 time], .agg [.agg [.int .i64 time, .int .i64 source, .int .i64 1], .int .i64 0, .int .i64 value], .sl 6 6 [] 1 0 (cs.take 12).length none, .int .i64 d, .int .i64 (fuel.tmod 512)])
    [.gone, .gone, .gone, .gone, .gone, .own 73 (.arr (made14 xs).length 5 (prS (made14 xs))) false, .own 2 (.arr (cs.take 12).length 1 (i64S (cs.take 12))) false] := by
  have w1 := wrap_u16 v.process
  have w2 := wrap_u8 v.ports
  have w3 := wrap_u8 v.look
  have hmx : max xs.length p1 ≤ 9223372036854775807 := by omega
  refine litOkM (fn := Try.f13) 5 49 0 rfl rfl rfl rfl rfl (by simp only [StableL, Stable, hp, i64S, prS, insS, sndsS, sndS, stS, evS, macS, HB.stable]; simp [HB.born]) rfl fun w0 M E hro => ?_
  repeat' (first | with_reducible (first | apply J1 | apply J3 | apply J4 | apply J5 | apply J6 | apply J7 | apply J8 | apply J9 | apply J10 | apply J11 | apply J12 | apply J13 | apply J14 | apply J15 | apply J16 | apply J17 | apply J18 | apply J19 | apply J20 | refine J2 ?_) | ((with_reducible apply J21); (· rfl)) | ((with_reducible intro hif); first | (focus (cases hif; done)) | (simp only [JH] at hif; try (exfalso; omega)) | (try (exfalso; omega))) | ((first | ((with_reducible apply J22 cMd19N_ok tab_ok); (· rfl)) | ((with_reducible apply J23 fol cMd19N_ok tab_ok); (· rfl)) | with_reducible apply J24); (· (simp only [push_cast, ↓JP, Nat.reduceAdd, Nat.reduceEqDiff, Nat.reduceLT, Nat.reduceMul, Nat.reduceLeDiff, reduceCtorEq, reduceIte, ↓JK, JM, JE, JB, cMd19N, sEnv18, sMd18N, sMd14, inR, inN, Nat.sub_zero, hm]; rfl)); (try kernel_rfl); (try exact Vm.b84)) | fail)
  apply At.endsPick [0, 1, 2, 3, 4, 10, 7] tab_ok (fn := Try.f13) (rs := [.cell 2 41]) Anc.refl hro (Nat.le_of_ble_eq_true rfl) rfl
  · exact Vm.b5
  · exact Vm.b10
  · rfl
  · rfl
  · rfl
  · exact Vm.b24
  · rfl
  · exact Vm.b80
  · exact Vm.b9
  · exact fun β => rfl
  · exact Vm.b80
def cMd19S : FuncId → Option Spec := look2 [(41, sEnv18), (40, sMd18S), (42, sMd14)]
theorem cMd19S_ok : ∀ f S, cMd19S f = some S → CallOk Try.prog f S := allOk_spec ⟨sEnv18_ok, sMd18S_ok, sMd14_ok, trivial⟩
theorem made19S (xs : List Ins) (a d sn time source value fuel : Int) (rg : Nat → Int) (cs : List Int) (v : Evi) (p1 p2 : Nat) (hx : ∀ x ∈ xs, x.ok) (hcx : xs.length ≤ p1) (hcap : p1 ≤ 9223372036854775807) (hcp : cs.length ≤ p2) (ha : 0 ≤ a ∧ a ≤ 255) (hd : 0 ≤ d ∧ d ≤ 4294967295) (hs : 0 ≤ sn ∧ sn ≤ 255) (ht : 0 ≤ time ∧ time ≤ 4294967295) (hso : 0 ≤ source ∧ source ≤ 255) (hf : 0 ≤ fuel ∧ fuel ≤ 65535) (hm : (mSnd (sn.tmod 21).toNat).isEmpty = false) : LitOk Try.prog 13
    [.agg [.sl 1 2 [] 5 0 xs.length (some p1), .agg [.int .u8 a, .arr 8 1 (fun q => .int .i64 (rg q)), .sl 3 4 [] 1 0 cs.length (some p2), .int .u32 d, .int .u8 sn], .agg [.int .u64 v.seed, .int .i64 v.process, .int .i64 v.ports, .int .i64 v.look, .int .i64 v.now], .int .u32 time, .int .u8 source, .int .i64 value, .int .u16 fuel]]
    [.gone, .gone, .ro (.arr xs.length 5 (prS xs)), .gone, .ro (.arr cs.length 1 (i64S cs))]
    (.agg [.sl 5 5 [] 5 0 (made14 xs).length none, .agg [.int .u64 v.seed, .int .i64 (IntKind.wrap .u16 v.process), .int .i64 ((IntKind.wrap .u8 v.ports).tmod 17), .int .i64 (1 + IntKind.wrap .u8 v.look), .int .i64 time], .agg [.agg [.int .i64 time, .int .i64 source, .int .i64 1], .int .i64 0, .int .i64 value], .sl 6 6 [] 1 0 (cs.take 12).length none, .int .i64 d, .int .i64 (fuel.tmod 512)])
    [.gone, .gone, .gone, .gone, .gone, .own 73 (.arr (made14 xs).length 5 (prS (made14 xs))) false, .own 2 (.arr (cs.take 12).length 1 (i64S (cs.take 12))) false] := by
  have w1 := wrap_u16 v.process
  have w2 := wrap_u8 v.ports
  have w3 := wrap_u8 v.look
  have hmx : max xs.length p1 ≤ 9223372036854775807 := by omega
  refine litOkM (fn := Try.f13) 5 49 0 rfl rfl rfl rfl rfl (by simp only [StableL, Stable, hp, i64S, prS, insS, sndsS, sndS, stS, evS, macS, HB.stable]; simp [HB.born]) rfl fun w0 M E hro => ?_
  repeat' (first | with_reducible (first | apply J1 | apply J3 | apply J4 | apply J5 | apply J6 | apply J7 | apply J8 | apply J9 | apply J10 | apply J11 | apply J12 | apply J13 | apply J14 | apply J15 | apply J16 | apply J17 | apply J18 | apply J19 | apply J20 | refine J2 ?_) | ((with_reducible apply J21); (· rfl)) | ((with_reducible intro hif); first | (focus (cases hif; done)) | (simp only [JH] at hif; try (exfalso; omega)) | (try (exfalso; omega))) | ((first | ((with_reducible apply J22 cMd19S_ok tab_ok); (· rfl)) | ((with_reducible apply J23 fol cMd19S_ok tab_ok); (· rfl)) | with_reducible apply J24); (· (simp only [push_cast, ↓JP, Nat.reduceAdd, Nat.reduceEqDiff, Nat.reduceLT, Nat.reduceMul, Nat.reduceLeDiff, reduceCtorEq, reduceIte, ↓JK, JM, JE, JB, cMd19S, sEnv18, sMd18S, sMd14, inR, inN, Nat.sub_zero, hm]; rfl)); (try kernel_rfl); (try exact Vm.b84)) | fail)
  apply At.endsPick [0, 1, 2, 3, 4, 11, 7] tab_ok (fn := Try.f13) (rs := [.cell 2 41]) Anc.refl hro (Nat.le_of_ble_eq_true rfl) rfl
  · exact Vm.b5
  · exact Vm.b10
  · rfl
  · rfl
  · rfl
  · exact Vm.b24
  · rfl
  · exact Vm.b80
  · exact Vm.b9
  · exact fun β => rfl
  · exact Vm.b80
theorem made19 (xs : List Ins) (a d sn time source value fuel : Int) (rg : Nat → Int) (cs : List Int) (v : Evi) (p1 p2 : Nat) (hx : ∀ x ∈ xs, x.ok) (hcx : xs.length ≤ p1) (hcap : p1 ≤ 9223372036854775807) (hcp : cs.length ≤ p2) (ha : 0 ≤ a ∧ a ≤ 255) (hd : 0 ≤ d ∧ d ≤ 4294967295) (hs : 0 ≤ sn ∧ sn ≤ 255) (ht : 0 ≤ time ∧ time ≤ 4294967295) (hso : 0 ≤ source ∧ source ≤ 255) (hf : 0 ≤ fuel ∧ fuel ≤ 65535) : LitOk Try.prog 13
    [.agg [.sl 1 2 [] 5 0 xs.length (some p1), .agg [.int .u8 a, .arr 8 1 (fun q => .int .i64 (rg q)), .sl 3 4 [] 1 0 cs.length (some p2), .int .u32 d, .int .u8 sn], .agg [.int .u64 v.seed, .int .i64 v.process, .int .i64 v.ports, .int .i64 v.look, .int .i64 v.now], .int .u32 time, .int .u8 source, .int .i64 value, .int .u16 fuel]]
    [.gone, .gone, .ro (.arr xs.length 5 (prS xs)), .gone, .ro (.arr cs.length 1 (i64S cs))]
    (.agg [.sl 5 5 [] 5 0 (made14 xs).length none, .agg [.int .u64 v.seed, .int .i64 (IntKind.wrap .u16 v.process), .int .i64 ((IntKind.wrap .u8 v.ports).tmod 17), .int .i64 (1 + IntKind.wrap .u8 v.look), .int .i64 time], .agg [.agg [.int .i64 time, .int .i64 source, .int .i64 1], .int .i64 0, .int .i64 value], .sl 6 6 [] 1 0 (cs.take 12).length none, .int .i64 d, .int .i64 (fuel.tmod 512)])
    [.gone, .gone, .gone, .gone, .gone, .own 73 (.arr (made14 xs).length 5 (prS (made14 xs))) false, .own 2 (.arr (cs.take 12).length 1 (i64S (cs.take 12))) false] := by
  cases hm : (mSnd (sn.tmod 21).toNat).isEmpty
  · exact made19S xs a d sn time source value fuel rg cs v p1 p2 hx hcx hcap hcp ha hd hs ht hso hf hm
  · exact made19N xs a d sn time source value fuel rg cs v p1 p2 hx hcx hcap hcp ha hd hs ht hso hf hm
def sMd19 : Spec := fun args h m => match args with
  | [.agg [v1, .agg [v2, .arr 8 1 v3, v4, v5, v6], .agg [v7, v8, v9, v10, v11], v12, v13, v14, v15]] => match srcV h 5 (.tup []) v1, srcV h 1 (.tup []) v4 with
    | some (c1, n1, f1, r1), some (c4, n4, f4, r4) => bif isI .u8 v2 && isI .u32 v5 && isI .u8 v6 && isI .u64 v7 && isI .i64 v8 && isI .i64 v9 && isI .i64 v10 && isI .i64 v11 && isI .u32 v12 && isI .u8 v13 && isI .i64 v14 && isI .u16 v15 then some (c1 ∧ c4 ∧ (∀ q, q < n1 → isIns (f1 q) = true) ∧ (∀ q, q < n4 → isI .i64 (f4 q) = true) ∧ (∀ q, q < 8 → isI .i64 (v3 q) = true) ∧ ((∀ x ∈ (ls insOf n1 f1), x.ok)) ∧ (capB v1) ∧ (0 ≤ (iOf v2) ∧ (iOf v2) ≤ 255) ∧ (0 ≤ (iOf v5) ∧ (iOf v5) ≤ 4294967295) ∧ (0 ≤ (iOf v6) ∧ (iOf v6) ≤ 255) ∧ (0 ≤ (iOf v12) ∧ (iOf v12) ≤ 4294967295) ∧ (0 ≤ (iOf v13) ∧ (iOf v13) ≤ 255) ∧ (0 ≤ (iOf v15) ∧ (iOf v15) ≤ 65535), .agg [.sl m m [] 5 0 (made14 (ls insOf n1 f1)).length none, .agg [.int .u64 (iOf v7), .int .i64 (IntKind.wrap .u16 (iOf v8)), .int .i64 ((IntKind.wrap .u8 (iOf v9)).tmod 17), .int .i64 (1 + IntKind.wrap .u8 (iOf v10)), .int .i64 (iOf v12)], .agg [.agg [.int .i64 (iOf v12), .int .i64 (iOf v13), .int .i64 1], .int .i64 0, .int .i64 (iOf v14)], .sl (m + 1) (m + 1) [] 1 0 ((ls iOf n4 f4).take 12).length none, .int .i64 (iOf v5), .int .i64 ((iOf v15).tmod 512)], r1 ++ r4, [(m, .own 73 (.arr (made14 (ls insOf n1 f1)).length 5 (prS (made14 (ls insOf n1 f1)))) false), (m + 1, .own 2 (.arr ((ls iOf n4 f4).take 12).length 1 (i64S ((ls iOf n4 f4).take 12))) false)]) else none
    | _, _ => none
  | _ => none
theorem sMd19_ok : CallOk Try.prog 13 sMd19 := by
  refine ⟨named_spec (by kernel_rfl), fun args h m c v rd wr hs hm hc w0 M β h' w R hrd hwr hst => ?_⟩
  unfold sMd19 at hs
  split at hs
  · rename_i v1 v2 v3 v4 v5 v6 v7 v8 v9 v10 v11 v12 v13 v14 v15
    split at hs
    · rename_i c1 n1 f1 r1 c4 n4 f4 r4 a1 a4
      obtain ⟨hb, hs⟩ := bif_some hs
      simp only [Option.some.injEq, Prod.mk.injEq] at hs
      obtain ⟨rfl, rfl, rfl, rfl⟩ := hs
      simp only [Bool.and_eq_true] at hb
      obtain ⟨⟨⟨⟨⟨⟨⟨⟨⟨⟨⟨b2, b5⟩, b6⟩, b7⟩, b8⟩, b9⟩, b10⟩, b11⟩, b12⟩, b13⟩, b14⟩, b15⟩ := hb
      obtain ⟨k1, k4, g1, g4, g3, y1, y2, y3, y4, y5, y6, y7, y8⟩ := hc
      obtain ⟨A1, p1, d1, e1, t1⟩ := reads_src R a1 k1 (fun i hi => hrd i (List.mem_append_left _ hi)) (by omega)
      obtain ⟨A4, p4, d4, e4, t4⟩ := reads_src R a4 k4 (fun i hi => hrd i (List.mem_append_right _ hi)) (by omega)
      refine callRo (views := [⟨5, (ls insOf n1 f1).length, prS (ls insOf n1 f1), A1, p1⟩, ⟨1, (ls iOf n4 f4).length, i64S (ls iOf n4 f4), A4, p4⟩]) (made19 (ls insOf n1 f1) (iOf v2) (iOf v5) (iOf v6) (iOf v12) (iOf v13) (iOf v14) (iOf v15) (fun q => iOf (v3 q)) (ls iOf n4 f4) ⟨(iOf v7), (iOf v8), (iOf v9), (iOf v10), (iOf v11)⟩ p1 p4 y1 (by rw [ls_length]; exact e1) (capB_le y2 d1) (by rw [ls_length]; exact e4) y3 y4 y5 y6 y7 y8) ?_ R hm hwr ?_ ?_ ?_
      · intro x hx
        simp only [List.mem_cons, List.not_mem_nil, or_false] at hx
        rcases hx with rfl | rfl
        · exact viewIns t1 e1 g1
        · exact viewI64 t4 e4 g4
      · intro β1 hv
        simp only [Vd, ls_length, and_true] at hv
        obtain ⟨z1, z4⟩ := hv
        simp only [denL, aggDen, intDen, natDen, boolDen, ls_length, z1, z4, d1, d4, isI_den b2, isI_den b5, isI_den b6, isI_den b7, isI_den b8, isI_den b9, isI_den b10, isI_den b11, isI_den b12, isI_den b13, isI_den b14, isI_den b15, ← r8Den (β := β) (β1 := β1) g3]
      · exact Vm.b80
      · exact Vm.b80
    · cases hs
  · cases hs
end Go.Proofs.Ytjliakjbdcplcaa.Vm
end

section
namespace Go.Proofs.Ytjliakjbdcplcaa.Vm
open Go.RowKit
attribute [local push_cast] runR opG gtmp gval gus opX tmpsOf tm tmO tmP restr look look2 tab tys zs ets eqB eqBL allB numOf ieq Int.cast_ofNat_Int Int.ofNat_zero beq_true beq_false frameOf ev evL ofV opV loadV noW pushF wrsL setH allBorn allGone HB.born HB.isGone HB.val SV.plain dstOk hp nav fitsT SV.size sizeL SV.isAgg TK.size TK.agg bin binE binN binI arN arI cmpN cmpI keq kn narrow callV storeV setp fillV buildV buildSliceV makeV sliceV appendV copyV List.isEmpty_nil srcV evO asN ite_t ite_f ite_bool ite_int ite_nat maxV v_beq v_ble v_blt cond_true cond_false List.getElem?_cons_zero List.getElem?_cons_succ List.getD_cons_zero List.getD_cons_succ List.getD_nil List.length_cons List.length_nil List.take_succ_cons List.take_zero List.set_cons_zero List.set_cons_succ List.cons_append List.nil_append List.append_assoc List.replicate_succ List.replicate_zero Nat.zero_add Nat.add_zero decide_true decide_false Bool.true_and Bool.and_true Bool.false_and Bool.and_false Bool.true_or Bool.or_true Bool.false_or Bool.or_false beq_self_eq_true Bool.or_self Nat.lt_irrefl Nat.not_lt_zero Nat.le_refl Option.getD_some Option.getD_none BEq.rfl Bool.not_true Bool.not_false Bool.cond_true_left Bool.cond_false_right prS sndsS i64S nav_ins nav_ins0 nav_ins1 nav_ins2 nav_ins3 nav_ins4 nav_snd nav_snd0 nav_snd1 nav_snd2 isIns_insS insOf_insS isSnd_sndS sndOf_sndS isI_int isI_nat iOf
set_option linter.unusedVariables false
set_option linter.unusedSimpArgs false
set_option maxRecDepth 100000
set_option maxHeartbeats 4000000
def cCrG : FuncId → Option Spec := look2 [(29, sRunG)]
theorem cCrG_ok : ∀ f S, cCrG f = some S → CallOk Try.prog f S := allOk_spec ⟨sRunG_ok, trivial⟩
theorem crunG (P : List Ins) (v : Evi) (t s q o y d f0 f : Int) (cs : List Int) (p1 p2 : Nat) (hP : ∀ x ∈ P, x.ok) (hn : P.length ≤ 1000000) (hc : cs.length ≤ 1000000) (hb : (runO P v (begS y t s cs d) f).bad = 0) : LitOk Try.prog 14 [.agg [.sl 1 2 [] 5 0 P.length (some p1), .agg [.int .u64 v.seed, .int .i64 v.process, .int .i64 v.ports, .int .i64 v.look, .int .i64 v.now], .agg [.agg [.int .i64 t, .int .i64 s, .int .i64 q], .int .i64 o, .int .i64 y], .sl 3 4 [] 1 0 cs.length (some p2), .int .i64 d, .int .i64 f0], .int .i64 f]
    [.gone, .gone, .ro (.arr P.length 5 (prS P)), .gone, .ro (.arr cs.length 1 (i64S cs))]
    (.tup [.agg [.nat .i64 (runO P v (begS y t s cs d) f).tr.length, .int .i64 (runO P v (begS y t s cs d) f).at_, .sl 5 5 [] 1 0 (runO P v (begS y t s cs d) f).s.cells.length none, .int .i64 (runO P v (begS y t s cs d) f).s.draws, .sl 6 6 [] 3 0 (runO P v (begS y t s cs d) f).s.sends.length none], .int .i64 0]) [.gone, .gone, .gone, .gone, .gone, cB (runO P v (begS y t s cs d) f).s, sB (runO P v (begS y t s cs d) f).s] := by
  refine litOkM (fn := Try.f14) 5 20 0 rfl rfl rfl rfl rfl (by simp only [StableL, Stable, hp, i64S, prS, insS, sndsS, sndS, stS, evS, macS, cB, sB, HB.stable]; simp [HB.born]) rfl fun w0 M E hro => ?_
  repeat' (first | with_reducible (first | apply J1 | apply J3 | apply J4 | apply J5 | apply J6 | apply J7 | apply J8 | apply J9 | apply J10 | apply J11 | apply J12 | apply J13 | apply J14 | apply J15 | apply J16 | apply J17 | apply J18 | apply J19 | apply J20 | refine J2 ?_) | ((with_reducible apply J21); (· rfl)) | ((with_reducible intro hif); first | (focus (cases hif; done)) | (simp only [JH] at hif; try (exfalso; omega)) | (try (exfalso; omega))) | ((first | ((with_reducible apply J22 cCrG_ok tab_ok); (· rfl)) | ((with_reducible apply J23 fol cCrG_ok tab_ok); (· rfl)) | with_reducible apply J24); (· (simp only [push_cast, ↓JP, Nat.reduceAdd, Nat.reduceEqDiff, Nat.reduceLT, Nat.reduceMul, Nat.reduceLeDiff, reduceCtorEq, reduceIte, ↓JK, JE, JB, cCrG, sRunG, inR, inN, hb]; rfl)); (try kernel_rfl); (try exact Vm.b85)) | fail)
  apply At.endsPick [0, 1, 2, 3, 4, 7, 8] tab_ok (fn := Try.f14) (rs := [.cell 4 45, .tmp 5]) Anc.refl hro (Nat.le_of_ble_eq_true rfl) rfl
  · exact Vm.b5
  · exact Vm.b10
  · rfl
  · rfl
  · rfl
  · exact Vm.b24
  · rfl
  · exact Vm.b83
  · exact Vm.b9
  · exact fun β => rfl
  · exact Vm.b83
def sCrG : Spec := fun args h m => match args with
  | [.agg [v1, .agg [v2, v3, v4, v5, v6], .agg [.agg [v7, v8, v9], v10, v11], v12, v13, v14], v15] => match srcV h 5 (.tup []) v1, srcV h 1 (.tup []) v12 with
    | some (c1, n1, f1, r1), some (c12, n12, f12, r12) => bif isI .u64 v2 && isI .i64 v3 && isI .i64 v4 && isI .i64 v5 && isI .i64 v6 && isI .i64 v7 && isI .i64 v8 && isI .i64 v9 && isI .i64 v10 && isI .i64 v11 && isI .i64 v13 && isI .i64 v14 && isI .i64 v15 then some (c1 ∧ c12 ∧ (∀ q, q < n1 → isIns (f1 q) = true) ∧ (∀ q, q < n12 → isI .i64 (f12 q) = true) ∧ ((∀ x ∈ (ls insOf n1 f1), x.ok)) ∧ (n1 ≤ 1000000) ∧ (n12 ≤ 1000000) ∧ ((runO (ls insOf n1 f1) ⟨(iOf v2), (iOf v3), (iOf v4), (iOf v5), (iOf v6)⟩ (begS (iOf v11) (iOf v7) (iOf v8) (ls iOf n12 f12) (iOf v13)) (iOf v15)).bad = 0), .tup [.agg [.nat .i64 (runO (ls insOf n1 f1) ⟨(iOf v2), (iOf v3), (iOf v4), (iOf v5), (iOf v6)⟩ (begS (iOf v11) (iOf v7) (iOf v8) (ls iOf n12 f12) (iOf v13)) (iOf v15)).tr.length, .int .i64 (runO (ls insOf n1 f1) ⟨(iOf v2), (iOf v3), (iOf v4), (iOf v5), (iOf v6)⟩ (begS (iOf v11) (iOf v7) (iOf v8) (ls iOf n12 f12) (iOf v13)) (iOf v15)).at_, .sl m m [] 1 0 (runO (ls insOf n1 f1) ⟨(iOf v2), (iOf v3), (iOf v4), (iOf v5), (iOf v6)⟩ (begS (iOf v11) (iOf v7) (iOf v8) (ls iOf n12 f12) (iOf v13)) (iOf v15)).s.cells.length none, .int .i64 (runO (ls insOf n1 f1) ⟨(iOf v2), (iOf v3), (iOf v4), (iOf v5), (iOf v6)⟩ (begS (iOf v11) (iOf v7) (iOf v8) (ls iOf n12 f12) (iOf v13)) (iOf v15)).s.draws, .sl (m + 1) (m + 1) [] 3 0 (runO (ls insOf n1 f1) ⟨(iOf v2), (iOf v3), (iOf v4), (iOf v5), (iOf v6)⟩ (begS (iOf v11) (iOf v7) (iOf v8) (ls iOf n12 f12) (iOf v13)) (iOf v15)).s.sends.length none], .int .i64 0], r1 ++ r12, [(m, cB (runO (ls insOf n1 f1) ⟨(iOf v2), (iOf v3), (iOf v4), (iOf v5), (iOf v6)⟩ (begS (iOf v11) (iOf v7) (iOf v8) (ls iOf n12 f12) (iOf v13)) (iOf v15)).s), (m + 1, sB (runO (ls insOf n1 f1) ⟨(iOf v2), (iOf v3), (iOf v4), (iOf v5), (iOf v6)⟩ (begS (iOf v11) (iOf v7) (iOf v8) (ls iOf n12 f12) (iOf v13)) (iOf v15)).s)]) else none
    | _, _ => none
  | _ => none
theorem sCrG_ok : CallOk Try.prog 14 sCrG := by
  refine ⟨named_spec (by kernel_rfl), fun args h m c v rd wr hs hm hc w0 M β h' w R hrd hwr hst => ?_⟩
  unfold sCrG at hs
  split at hs
  · rename_i v1 v2 v3 v4 v5 v6 v7 v8 v9 v10 v11 v12 v13 v14 v15
    split at hs
    · rename_i c1 n1 f1 r1 c12 n12 f12 r12 a1 a12
      obtain ⟨hb, hs⟩ := bif_some hs
      simp only [Option.some.injEq, Prod.mk.injEq] at hs
      obtain ⟨rfl, rfl, rfl, rfl⟩ := hs
      simp only [Bool.and_eq_true] at hb
      obtain ⟨⟨⟨⟨⟨⟨⟨⟨⟨⟨⟨⟨b2, b3⟩, b4⟩, b5⟩, b6⟩, b7⟩, b8⟩, b9⟩, b10⟩, b11⟩, b13⟩, b14⟩, b15⟩ := hb
      obtain ⟨k1, k12, g1, g12, y1, y2, y3, y4⟩ := hc
      obtain ⟨A1, p1, d1, e1, t1⟩ := reads_src R a1 k1 (fun i hi => hrd i (List.mem_append_left _ hi)) (by omega)
      obtain ⟨A12, p12, d12, e12, t12⟩ := reads_src R a12 k12 (fun i hi => hrd i (List.mem_append_right _ hi)) (by omega)
      refine callRo (views := [⟨5, (ls insOf n1 f1).length, prS (ls insOf n1 f1), A1, p1⟩, ⟨1, (ls iOf n12 f12).length, i64S (ls iOf n12 f12), A12, p12⟩]) (crunG (ls insOf n1 f1) ⟨(iOf v2), (iOf v3), (iOf v4), (iOf v5), (iOf v6)⟩ (iOf v7) (iOf v8) (iOf v9) (iOf v10) (iOf v11) (iOf v13) (iOf v14) (iOf v15) (ls iOf n12 f12) p1 p12 y1 (by rw [ls_length]; exact y2) (by rw [ls_length]; exact y3) y4) ?_ R hm hwr ?_ ?_ ?_
      · intro x hx
        simp only [List.mem_cons, List.not_mem_nil, or_false] at hx
        rcases hx with rfl | rfl
        · exact viewIns t1 e1 g1
        · exact viewI64 t12 e12 g12
      · intro β1 hv
        simp only [Vd, ls_length, and_true] at hv
        obtain ⟨z1, z12⟩ := hv
        simp only [denL, aggDen, intDen, natDen, boolDen, ls_length, z1, z12, d1, d12, isI_den b2, isI_den b3, isI_den b4, isI_den b5, isI_den b6, isI_den b7, isI_den b8, isI_den b9, isI_den b10, isI_den b11, isI_den b13, isI_den b14, isI_den b15]
      · exact Vm.b83
      · exact Vm.b83
    · cases hs
  · cases hs
def cCrB : FuncId → Option Spec := look2 [(29, sRunB)]
theorem cCrB_ok : ∀ f S, cCrB f = some S → CallOk Try.prog f S := allOk_spec ⟨sRunB_ok, trivial⟩
theorem crunB (P : List Ins) (v : Evi) (t s q o y d f0 f : Int) (cs : List Int) (p1 p2 : Nat) (hP : ∀ x ∈ P, x.ok) (hn : P.length ≤ 1000000) (hc : cs.length ≤ 1000000) (hb : (runO P v (begS y t s cs d) f).bad ≠ 0) : LitOk Try.prog 14 [.agg [.sl 1 2 [] 5 0 P.length (some p1), .agg [.int .u64 v.seed, .int .i64 v.process, .int .i64 v.ports, .int .i64 v.look, .int .i64 v.now], .agg [.agg [.int .i64 t, .int .i64 s, .int .i64 q], .int .i64 o, .int .i64 y], .sl 3 4 [] 1 0 cs.length (some p2), .int .i64 d, .int .i64 f0], .int .i64 f]
    [.gone, .gone, .ro (.arr P.length 5 (prS P)), .gone, .ro (.arr cs.length 1 (i64S cs))]
    (.tup [.agg [.nat .i64 (runO P v (begS y t s cs d) f).tr.length, .int .i64 (runO P v (begS y t s cs d) f).at_, .sl 0 0 [] 0 0 0 (some 0), .nat .i64 0, .sl 0 0 [] 0 0 0 (some 0)], .int .i64 (runO P v (begS y t s cs d) f).bad]) [.gone] := by
  refine litOkM (fn := Try.f14) 5 20 0 rfl rfl rfl rfl rfl (by simp only [StableL, Stable, hp, i64S, prS, insS, sndsS, sndS, stS, evS, macS, cB, sB, HB.stable]; simp [HB.born]) rfl fun w0 M E hro => ?_
  repeat' (first | with_reducible (first | apply J1 | apply J3 | apply J4 | apply J5 | apply J6 | apply J7 | apply J8 | apply J9 | apply J10 | apply J11 | apply J12 | apply J13 | apply J14 | apply J15 | apply J16 | apply J17 | apply J18 | apply J19 | apply J20 | refine J2 ?_) | ((with_reducible apply J21); (· rfl)) | ((with_reducible intro hif); first | (focus (cases hif; done)) | (simp only [JH] at hif; try (exfalso; omega)) | (try (exfalso; omega))) | ((first | ((with_reducible apply J22 cCrB_ok tab_ok); (· rfl)) | ((with_reducible apply J23 fol cCrB_ok tab_ok); (· rfl)) | with_reducible apply J24); (· (simp only [push_cast, ↓JP, Nat.reduceAdd, Nat.reduceEqDiff, Nat.reduceLT, Nat.reduceMul, Nat.reduceLeDiff, reduceCtorEq, reduceIte, ↓JK, JE, JB, cCrB, sRunB, inR, inN, hb]; rfl)); (try kernel_rfl); (try exact Vm.b85)) | fail)
  apply At.endsRet tab_ok (fn := Try.f14) (rs := [.cell 4 45, .tmp 5]) Anc.refl hro (Nat.le_of_ble_eq_true rfl) rfl
  · exact Vm.b5
  · exact Vm.b6
  · exact Vm.b7
  · rfl
  · exact Vm.b83
  · exact Vm.b9
  · exact fun β => rfl
  · exact Vm.b83
def sCrB : Spec := fun args h m => match args with
  | [.agg [v1, .agg [v2, v3, v4, v5, v6], .agg [.agg [v7, v8, v9], v10, v11], v12, v13, v14], v15] => match srcV h 5 (.tup []) v1, srcV h 1 (.tup []) v12 with
    | some (c1, n1, f1, r1), some (c12, n12, f12, r12) => bif isI .u64 v2 && isI .i64 v3 && isI .i64 v4 && isI .i64 v5 && isI .i64 v6 && isI .i64 v7 && isI .i64 v8 && isI .i64 v9 && isI .i64 v10 && isI .i64 v11 && isI .i64 v13 && isI .i64 v14 && isI .i64 v15 then some (c1 ∧ c12 ∧ (∀ q, q < n1 → isIns (f1 q) = true) ∧ (∀ q, q < n12 → isI .i64 (f12 q) = true) ∧ ((∀ x ∈ (ls insOf n1 f1), x.ok)) ∧ (n1 ≤ 1000000) ∧ (n12 ≤ 1000000) ∧ ((runO (ls insOf n1 f1) ⟨(iOf v2), (iOf v3), (iOf v4), (iOf v5), (iOf v6)⟩ (begS (iOf v11) (iOf v7) (iOf v8) (ls iOf n12 f12) (iOf v13)) (iOf v15)).bad ≠ 0), .tup [.agg [.nat .i64 (runO (ls insOf n1 f1) ⟨(iOf v2), (iOf v3), (iOf v4), (iOf v5), (iOf v6)⟩ (begS (iOf v11) (iOf v7) (iOf v8) (ls iOf n12 f12) (iOf v13)) (iOf v15)).tr.length, .int .i64 (runO (ls insOf n1 f1) ⟨(iOf v2), (iOf v3), (iOf v4), (iOf v5), (iOf v6)⟩ (begS (iOf v11) (iOf v7) (iOf v8) (ls iOf n12 f12) (iOf v13)) (iOf v15)).at_, .sl 0 0 [] 0 0 0 (some 0), .nat .i64 0, .sl 0 0 [] 0 0 0 (some 0)], .int .i64 (runO (ls insOf n1 f1) ⟨(iOf v2), (iOf v3), (iOf v4), (iOf v5), (iOf v6)⟩ (begS (iOf v11) (iOf v7) (iOf v8) (ls iOf n12 f12) (iOf v13)) (iOf v15)).bad], r1 ++ r12, []) else none
    | _, _ => none
  | _ => none
theorem sCrB_ok : CallOk Try.prog 14 sCrB := by
  refine ⟨named_spec (by kernel_rfl), fun args h m c v rd wr hs hm hc w0 M β h' w R hrd hwr hst => ?_⟩
  unfold sCrB at hs
  split at hs
  · rename_i v1 v2 v3 v4 v5 v6 v7 v8 v9 v10 v11 v12 v13 v14 v15
    split at hs
    · rename_i c1 n1 f1 r1 c12 n12 f12 r12 a1 a12
      obtain ⟨hb, hs⟩ := bif_some hs
      simp only [Option.some.injEq, Prod.mk.injEq] at hs
      obtain ⟨rfl, rfl, rfl, rfl⟩ := hs
      simp only [Bool.and_eq_true] at hb
      obtain ⟨⟨⟨⟨⟨⟨⟨⟨⟨⟨⟨⟨b2, b3⟩, b4⟩, b5⟩, b6⟩, b7⟩, b8⟩, b9⟩, b10⟩, b11⟩, b13⟩, b14⟩, b15⟩ := hb
      obtain ⟨k1, k12, g1, g12, y1, y2, y3, y4⟩ := hc
      obtain ⟨A1, p1, d1, e1, t1⟩ := reads_src R a1 k1 (fun i hi => hrd i (List.mem_append_left _ hi)) (by omega)
      obtain ⟨A12, p12, d12, e12, t12⟩ := reads_src R a12 k12 (fun i hi => hrd i (List.mem_append_right _ hi)) (by omega)
      refine callRo (views := [⟨5, (ls insOf n1 f1).length, prS (ls insOf n1 f1), A1, p1⟩, ⟨1, (ls iOf n12 f12).length, i64S (ls iOf n12 f12), A12, p12⟩]) (crunB (ls insOf n1 f1) ⟨(iOf v2), (iOf v3), (iOf v4), (iOf v5), (iOf v6)⟩ (iOf v7) (iOf v8) (iOf v9) (iOf v10) (iOf v11) (iOf v13) (iOf v14) (iOf v15) (ls iOf n12 f12) p1 p12 y1 (by rw [ls_length]; exact y2) (by rw [ls_length]; exact y3) y4) ?_ R hm hwr ?_ ?_ ?_
      · intro x hx
        simp only [List.mem_cons, List.not_mem_nil, or_false] at hx
        rcases hx with rfl | rfl
        · exact viewIns t1 e1 g1
        · exact viewI64 t12 e12 g12
      · intro β1 hv
        simp only [Vd, ls_length, and_true] at hv
        obtain ⟨z1, z12⟩ := hv
        simp only [denL, aggDen, intDen, natDen, boolDen, ls_length, z1, z12, d1, d12, isI_den b2, isI_den b3, isI_den b4, isI_den b5, isI_den b6, isI_den b7, isI_den b8, isI_den b9, isI_den b10, isI_den b11, isI_den b13, isI_den b14, isI_den b15]
      · exact Vm.b83
      · exact Vm.b83
    · cases hs
  · cases hs
end Go.Proofs.Ytjliakjbdcplcaa.Vm
end

section
namespace Go.Proofs.Ytjliakjbdcplcaa.Vm
open Go.RowKit
attribute [local push_cast] runR opG gtmp gval gus opX tmpsOf tm tmO tmP restr look look2 tab tys zs ets eqB eqBL allB numOf ieq Int.cast_ofNat_Int Int.ofNat_zero beq_true beq_false frameOf ev evL ofV opV loadV noW pushF wrsL setH allBorn allGone HB.born HB.isGone HB.val SV.plain dstOk hp nav fitsT SV.size sizeL SV.isAgg TK.size TK.agg bin binE binN binI arN arI cmpN cmpI keq kn narrow callV storeV setp fillV buildV buildSliceV makeV sliceV appendV copyV List.isEmpty_nil srcV evO asN ite_t ite_f ite_bool ite_int ite_nat maxV v_beq v_ble v_blt cond_true cond_false List.getElem?_cons_zero List.getElem?_cons_succ List.getD_cons_zero List.getD_cons_succ List.getD_nil List.length_cons List.length_nil List.take_succ_cons List.take_zero List.set_cons_zero List.set_cons_succ List.cons_append List.nil_append List.append_assoc List.replicate_succ List.replicate_zero Nat.zero_add Nat.add_zero decide_true decide_false Bool.true_and Bool.and_true Bool.false_and Bool.and_false Bool.true_or Bool.or_true Bool.false_or Bool.or_false beq_self_eq_true Bool.or_self Nat.lt_irrefl Nat.not_lt_zero Nat.le_refl Option.getD_some Option.getD_none BEq.rfl Bool.not_true Bool.not_false Bool.cond_true_left Bool.cond_false_right prS sndsS i64S nav_ins nav_ins0 nav_ins1 nav_ins2 nav_ins3 nav_ins4 nav_snd nav_snd0 nav_snd1 nav_snd2 isIns_insS insOf_insS isSnd_sndS sndOf_sndS isI_int isI_nat iOf
set_option linter.unusedVariables false
set_option linter.unusedSimpArgs false
set_option maxRecDepth 100000
set_option maxHeartbeats 4000000
def sRunA : Spec := fun args h m => match args with
  | [_, _, _, _, _, .nat .i64 2] => sRunG args h m
  | _ => sRunB args h m
theorem sRunA_ok : CallOk Try.prog 29 sRunA := by
  refine ⟨named_spec (by kernel_rfl), fun args h m c v rd wr hs hm hc w0 M β h' w R hrd hwr hst => ?_⟩
  unfold sRunA at hs
  split at hs
  · exact sRunG_ok.2 _ h m c v rd wr hs hm hc w0 M β h' w R hrd hwr hst
  · exact sRunB_ok.2 _ h m c v rd wr hs hm hc w0 M β h' w R hrd hwr hst
def cAw : FuncId → Option Spec := look2 [(29, sRunA), (16, sNewG), (17, rGo), (18, rState), (22, rBack), (19, rUsed), (20, sEqI64)]
theorem cAw_ok : ∀ f S, cAw f = some S → CallOk Try.prog f S := allOk_spec ⟨sRunA_ok, sNewG_ok, rGo_ok, rState_ok, rBack_ok, rUsed_ok, sEqI64_ok, trivial⟩
theorem ls_one {α : Type} (g : SV → α) (f : Nat → SV) : ls g 1 f = [g (f 0)] := rfl
theorem ls_two {α : Type} (g : SV → α) (f : Nat → SV) : ls g 2 f = [g (f 0), g (f 1)] := rfl
theorem ls_three {α : Type} (g : SV → α) (f : Nat → SV) : ls g 3 f = [g (f 0), g (f 1), g (f 2)] := rfl
theorem nat_zero_int : ((0 : Nat) : Int) = 0 := rfl
theorem insOf_agg (a b c d e : SV) : insOf (.agg [a, b, c, d, e]) = ⟨iOf a, iOf b, iOf c, iOf d, iOf e⟩ := rfl
theorem toNat2 : Int.toNat 2 = 2 := rfl
theorem awake_lit : LitOk Try.prog 12 [] [.gone] (.bool true) [.gone] := by
  have k1 : ∀ x ∈ ([⟨34, 0, 0, 3, 0⟩, ⟨1, 0, 0, 0, 0⟩] : List Ins), x.ok := by intro x hx; simp only [List.mem_cons, List.not_mem_nil, or_false] at hx; rcases hx with rfl | rfl <;> (refine ⟨?_, ?_, ?_, ?_, ?_, ?_, ?_, ?_, ?_, ?_⟩ <;> decide)
  have k2 : ∀ x ∈ ([⟨9, 0, 0, 0, 0⟩, ⟨1, 0, 0, 0, 0⟩] : List Ins), x.ok := by intro x hx; simp only [List.mem_cons, List.not_mem_nil, or_false] at hx; rcases hx with rfl | rfl <;> (refine ⟨?_, ?_, ?_, ?_, ?_, ?_, ?_, ?_, ?_, ?_⟩ <;> decide)
  have k3 : ∀ x ∈ ([⟨3, 4, 0, 0, 7⟩, ⟨6, 4, 3, 0, 0⟩, ⟨2, 0, 0, 0, 0⟩] : List Ins), x.ok := by intro x hx; simp only [List.mem_cons, List.not_mem_nil, or_false] at hx; rcases hx with rfl | rfl | rfl <;> (refine ⟨?_, ?_, ?_, ?_, ?_, ?_, ?_, ?_, ?_, ?_⟩ <;> decide)
  have b1 : (runO [⟨34, 0, 0, 3, 0⟩, ⟨1, 0, 0, 0, 0⟩] ⟨0, 0, 0, 1, 0⟩ (begS 0 0 0 [] 0) 2).bad = 0 := by kernel_rfl
  have t1 : (runO [⟨34, 0, 0, 3, 0⟩, ⟨1, 0, 0, 0, 0⟩] ⟨0, 0, 0, 1, 0⟩ (begS 0 0 0 [] 0) 2).tr.length = 2 := by kernel_rfl
  have a1 : (runO [⟨34, 0, 0, 3, 0⟩, ⟨1, 0, 0, 0, 0⟩] ⟨0, 0, 0, 1, 0⟩ (begS 0 0 0 [] 0) 2).at_ = 1 := by kernel_rfl
  have b2 : (runO [⟨34, 0, 0, 3, 0⟩, ⟨1, 0, 0, 0, 0⟩] ⟨0, 0, 0, 1, 0⟩ (begS 0 0 0 [] 0) 1).bad = 190 := by kernel_rfl
  have t2 : (runO [⟨34, 0, 0, 3, 0⟩, ⟨1, 0, 0, 0, 0⟩] ⟨0, 0, 0, 1, 0⟩ (begS 0 0 0 [] 0) 1).tr.length = 1 := by kernel_rfl
  have a2 : (runO [⟨34, 0, 0, 3, 0⟩, ⟨1, 0, 0, 0, 0⟩] ⟨0, 0, 0, 1, 0⟩ (begS 0 0 0 [] 0) 1).at_ = 1 := by kernel_rfl
  have n2 : (runO [⟨34, 0, 0, 3, 0⟩, ⟨1, 0, 0, 0, 0⟩] ⟨0, 0, 0, 1, 0⟩ (begS 0 0 0 [] 0) 1).bad ≠ 0 := by rw [b2]; decide
  have b3 : (runO [⟨34, 0, 0, 3, 0⟩, ⟨1, 0, 0, 0, 0⟩] ⟨0, 0, 0, 1, 0⟩ (begS 0 0 0 [] 0) 0).bad = 190 := by kernel_rfl
  have t3 : (runO [⟨34, 0, 0, 3, 0⟩, ⟨1, 0, 0, 0, 0⟩] ⟨0, 0, 0, 1, 0⟩ (begS 0 0 0 [] 0) 0).tr.length = 0 := by kernel_rfl
  have a3 : (runO [⟨34, 0, 0, 3, 0⟩, ⟨1, 0, 0, 0, 0⟩] ⟨0, 0, 0, 1, 0⟩ (begS 0 0 0 [] 0) 0).at_ = 0 := by kernel_rfl
  have n3 : (runO [⟨34, 0, 0, 3, 0⟩, ⟨1, 0, 0, 0, 0⟩] ⟨0, 0, 0, 1, 0⟩ (begS 0 0 0 [] 0) 0).bad ≠ 0 := by rw [b3]; decide
  have b4 : (runO [⟨9, 0, 0, 0, 0⟩, ⟨1, 0, 0, 0, 0⟩] ⟨0, 0, 0, 1, 0⟩ (begS 0 0 0 [] 0) 100).bad = 190 := by kernel_rfl
  have t4 : (runO [⟨9, 0, 0, 0, 0⟩, ⟨1, 0, 0, 0, 0⟩] ⟨0, 0, 0, 1, 0⟩ (begS 0 0 0 [] 0) 100).tr.length = 100 := by kernel_rfl
  have a4 : (runO [⟨9, 0, 0, 0, 0⟩, ⟨1, 0, 0, 0, 0⟩] ⟨0, 0, 0, 1, 0⟩ (begS 0 0 0 [] 0) 100).at_ = 0 := by kernel_rfl
  have n4 : (runO [⟨9, 0, 0, 0, 0⟩, ⟨1, 0, 0, 0, 0⟩] ⟨0, 0, 0, 1, 0⟩ (begS 0 0 0 [] 0) 100).bad ≠ 0 := by rw [b4]; decide
  have b5 : (runO [⟨3, 4, 0, 0, 7⟩, ⟨6, 4, 3, 0, 0⟩, ⟨2, 0, 0, 0, 0⟩] ⟨0, 0, 0, 1, 0⟩ (begS 0 0 0 [0] 0) 9).bad = 184 := by kernel_rfl
  have t5 : (runO [⟨3, 4, 0, 0, 7⟩, ⟨6, 4, 3, 0, 0⟩, ⟨2, 0, 0, 0, 0⟩] ⟨0, 0, 0, 1, 0⟩ (begS 0 0 0 [0] 0) 9).tr.length = 3 := by kernel_rfl
  have a5 : (runO [⟨3, 4, 0, 0, 7⟩, ⟨6, 4, 3, 0, 0⟩, ⟨2, 0, 0, 0, 0⟩] ⟨0, 0, 0, 1, 0⟩ (begS 0 0 0 [0] 0) 9).at_ = 2 := by kernel_rfl
  have n5 : (runO [⟨3, 4, 0, 0, 7⟩, ⟨6, 4, 3, 0, 0⟩, ⟨2, 0, 0, 0, 0⟩] ⟨0, 0, 0, 1, 0⟩ (begS 0 0 0 [0] 0) 9).bad ≠ 0 := by rw [b5]; decide
  have p3 : PG [⟨3, 4, 0, 0, 7⟩, ⟨6, 4, 3, 0, 0⟩, ⟨2, 0, 0, 0, 0⟩] := by exact ⟨k3, by kernel_rfl⟩
  have v3 : VOk ⟨0, 0, 0, 1, 0⟩ := by exact ⟨by decide, by decide, by decide, by decide, by decide, by decide⟩
  have s3 : SG [⟨3, 4, 0, 0, 7⟩, ⟨6, 4, 3, 0, 0⟩, ⟨2, 0, 0, 0, 0⟩] (begS 0 0 0 [0] 0) := by exact ⟨by decide, by decide, by decide, by decide, by decide, by decide⟩
  have e3 : openE [⟨3, 4, 0, 0, 7⟩, ⟨6, 4, 3, 0, 0⟩, ⟨2, 0, 0, 0, 0⟩] ⟨0, 0, 0, 1, 0⟩ (begS 0 0 0 [0] 0) = 0 := by kernel_rfl
  have g1 : (runA [⟨3, 4, 0, 0, 7⟩, ⟨6, 4, 3, 0, 0⟩, ⟨2, 0, 0, 0, 0⟩] ⟨0, 0, 0, 1, 0⟩ 2 (begS 0 0 0 [0] 0) Ins0 [] 0).bad = 190 := by kernel_rfl
  have g2 : (runA [⟨3, 4, 0, 0, 7⟩, ⟨6, 4, 3, 0, 0⟩, ⟨2, 0, 0, 0, 0⟩] ⟨0, 0, 0, 1, 0⟩ 2 (begS 0 0 0 [0] 0) Ins0 [] 0).tr.length = 2 := by kernel_rfl
  have g3 : (runA [⟨3, 4, 0, 0, 7⟩, ⟨6, 4, 3, 0, 0⟩, ⟨2, 0, 0, 0, 0⟩] ⟨0, 0, 0, 1, 0⟩ 2 (begS 0 0 0 [0] 0) Ins0 [] 0).s.cells = [7] := by kernel_rfl
  refine litOkM (fn := Try.f12) 1 186 0 rfl rfl rfl rfl rfl trivial rfl fun w0 M E hro => ?_
  repeat' (first | with_reducible (first | apply J1 | apply J3 | apply J4 | apply J5 | apply J6 | apply J7 | apply J8 | apply J9 | apply J10 | apply J11 | apply J12 | apply J13 | apply J14 | apply J15 | apply J16 | apply J17 | apply J18 | apply J19 | apply J20 | refine J2 ?_) | ((with_reducible apply J21); (· rfl)) | ((with_reducible intro hif); first | (focus (cases hif; done)) | (simp only [JH] at hif; try (exfalso; omega)) | (try (exfalso; omega))) | ((first | ((with_reducible apply J22 cAw_ok tab_ok); (· rfl)) | ((with_reducible apply J23 fol cAw_ok tab_ok); (· rfl)) | with_reducible apply J24); (· (simp only [push_cast, ↓JP, Nat.reduceAdd, Nat.reduceEqDiff, Nat.reduceLT, Nat.reduceMul, Nat.reduceLeDiff, reduceCtorEq, reduceIte, ↓JK, JM, JE, JB, cAw, sRunA, sRunG, sRunB, ls_one, ls_two, ls_three, insOf_agg, nat_zero_int, toNat2, inR, inN, b1, t1, a1, b2, t2, a2, b3, t3, a3, b4, t4, a4, b5, t5, a5, g1, g2, g3]; rfl)); (try kernel_rfl); (try (focus (first | exact True.intro | ((try simp only [JS, implies_true, forall_const, shaped, shapedL, kndOf, iOf, insOf_agg, ls_one, ls_two, ls_three, ls_zero, nat_zero_int, Nat.zero_add, List.getD_cons_zero, List.getD_cons_succ, Int.cast_ofNat_Int, beg_fold]); (repeat' (first | exact True.intro | assumption | apply And.intro | decide | (intro q hq; first | rfl | exact hq.elim | exact k1 q hq | exact k2 q hq | exact k3 q hq | ((rcases q with _ | _ | _ | q) <;> first | rfl | (exfalso; revert hq; simp; done))))); done) | ((try simp only [JS, implies_true, forall_const, shaped, shapedL, kndOf, inR, inN]); (repeat' (first | assumption | exact True.intro | omega | apply And.intro)); done))))) | fail)
  apply At.endsRet tab_ok (fn := Try.f12) (rs := [.tmp 0]) Anc.refl hro (Nat.le_of_ble_eq_true rfl) rfl
  · simp only [push_cast, ↓JP, Nat.reduceAdd, Nat.reduceEqDiff, Nat.reduceLT, Nat.reduceMul, Nat.reduceLeDiff, reduceCtorEq, reduceIte, ↓JK, resV, resV1, ls_one, ls_two, ls_three]; rfl
  · exact Vm.b6
  · exact Vm.b7
  · rfl
  · exact Vm.b83
  · exact Vm.b9
  · first | exact fun β => rfl | (intro β; kernel_rfl)
  · exact Vm.b83
def sAw19 : Spec := fun args h m => match args with
  | [] => some (True, .bool true, [], [])
  | _ => none
theorem sAw19_ok : CallOk Try.prog 12 sAw19 := by
  refine ⟨named_spec (by kernel_rfl), fun args h m c v rd wr hs hm hc w0 M β h' w R hrd hwr hst => ?_⟩
  unfold sAw19 at hs
  split at hs
  · skip
    simp only [Option.some.injEq, Prod.mk.injEq] at hs
    obtain ⟨rfl, rfl, rfl, rfl⟩ := hs
    refine callRo (views := []) (awake_lit) ?_ R hm hwr ?_ ?_ ?_
    · intro x hx; cases hx
    · intro β1 hv
      simp only [denL, aggDen, intDen, natDen, boolDen, ls_length]
    · exact Vm.b83
    · exact Vm.b83
  · cases hs
end Go.Proofs.Ytjliakjbdcplcaa.Vm
end
