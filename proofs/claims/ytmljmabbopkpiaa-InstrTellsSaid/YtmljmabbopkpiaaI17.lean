import Derived.Test.YtmljmabbopkpiaaI6
import Derived.Test.YtmljmabbopkpiaaI11
import Derived.Test.YtmljmabbopkpiaaI12
import Derived.Test.YtmljmabbopkpiaaI16
set_option linter.unusedSimpArgs false
set_option linter.unusedVariables false
set_option maxRecDepth 100000
set_option maxHeartbeats 4000000
section
namespace Go.Proofs.Ytmljmabbopkpiaa.Vm
theorem u11_ {P : Prop} (h : P := by simp only [ze_, zc_, hp, i64S, prS, yl_, sndsS, sndS, evS, sr]; simp [HB.born]) : P := h
theorem u12_ {P : Prop} (h : P := by rw [Evi.rightB]; exact decide_eq_false (by omega)) : P := h
theorem u13_ {P : Prop} (h : P := by rw [Evi.rightB, decide_eq_true (by omega)]; decide) : P := h
theorem u14_ {P : Prop} (h : P := by rw [Sta.rightB]; exact decide_eq_false (by omega)) : P := h
theorem u15_ {P : Prop} (h : P := by show List.length (ls _ _ _) ≤ _; rw [zb_]; exact y3) : P := h
theorem k96_ {P : Prop} (h : P := by (repeat' (first | exact trivial | exact rfl | assumption | apply zc_.ite | apply And.intro | intro _ | (simp only [zc_, ze_, i64S, prS, yl_, sndsS, sndS, evS, sr, csl, ssl, yj_, nilS]; done)))) : P := h
theorem k97_ {P : Prop} (h : P := by (repeat' (first | exact trivial | exact rfl | assumption | apply zc_.ite | apply And.intro | intro _ | (simp only [zc_, ze_, i64S, prS, yl_, sndsS, sndS, evS, sr]; done)))) : P := h
theorem k98_ {P : Prop} (h : P := by (first | exact True.intro | ((try simp only [lsI_raw]); (repeat' (first | exact True.intro | apply And.intro | rfl | omega | assumption | decide | (exact fun q hq => rfl) | intro _)); done) | ((try simp only [JS, implies_true, forall_const, z7_, z5_, kndOf]); (repeat' (first | assumption | exact True.intro | omega | apply And.intro)); done))) : P := h
theorem k99_ {P : Prop} (h : P := by (simp only [push_cast, ↓JP, Nat.reduceAdd, Nat.reduceEqDiff, Nat.reduceLT, Nat.reduceMul, Nat.reduceLeDiff, reduceCtorEq, reduceIte, ↓JK, cRt, lsI_raw, Int.cast_ofNat_Int, (eq_true h0), h1, h2, h3, h4, h5, h6, h7, h8, h9, h10, h11]; rfl)) : P := h
end Go.Proofs.Ytmljmabbopkpiaa.Vm
end
section
open Go.Proofs.Ytmljmabbopkpiaa.Vm Go.RowKit
attribute [local push_cast] prS sndsS i64S nav_ins nav_ins0 nav_ins1 nav_ins2 nav_ins3 nav_ins4 nav_snd nav_snd0 nav_snd1 nav_snd2 zy_ yi_ ym_ yh_ yd_ yc_ iOf
section
namespace Go.Proofs.Ytmljmabbopkpiaa.Vm
open Go.RowKit
def regsB (r q : Nat → Int) : Bool := r 0 == q 0 && (r 1 == q 1 && (r 2 == q 2 && (r 3 == q 3 && (r 4 == q 4 && (r 5 == q 5 && (r 6 == q 6 && r 7 == q 7))))))
def sameB (a b : Sta) : Bool := a.at_ == b.at_ && (a.ended == b.ended && (regsB a.regs b.regs && (a.cells == b.cells && (a.draws == b.draws && decide (a.sends = b.sends)))))
def cR18 : FuncId → Option yq_ := yz_ []
theorem cR18_ok : ∀ f S, cR18 f = some S → zj_ Try.prog f S := fun f S h => by cases h
theorem regsB_iff {f g : Nat → Int} : regsB f g = true ↔ f 0 = g 0 ∧ f 1 = g 1 ∧ f 2 = g 2 ∧ f 3 = g 3 ∧ f 4 = g 4 ∧ f 5 = g 5 ∧ f 6 = g 6 ∧ f 7 = g 7 := by
 unfold regsB
 simp
theorem rsame_lit (s t : Sta) (p1 p2 p3 p4 : Nat) (hm : s.cells.length ≤ 1000000) (hn : s.sends.length ≤ 1000000) : zo_ Try.prog 68
    [.agg [.int .i64 s.at_, .bool s.ended, .arr 8 1 (fun q => .int .i64 (s.regs q)), .sl 1 2 [] 1 0 s.cells.length (some p1), .int .i64 s.draws, .sl 3 4 [] 3 0 s.sends.length (some p2)],
     .agg [.int .i64 t.at_, .bool t.ended, .arr 8 1 (fun q => .int .i64 (t.regs q)), .sl 5 6 [] 1 0 t.cells.length (some p3), .int .i64 t.draws, .sl 7 8 [] 3 0 t.sends.length (some p4)]]
    [.gone, .gone, .ro (.arr s.cells.length 1 (i64S s.cells)), .gone, .ro (.arr s.sends.length 3 (sndsS s.sends)), .gone, .ro (.arr t.cells.length 1 (i64S t.cells)), .gone, .ro (.arr t.sends.length 3 (sndsS t.sends))] (.bool (sameB s t)) [.gone] := by
  refine zf_ (fn := Try.f68) 9 87 0 rfl rfl rfl rfl rfl u2_ rfl fun w0 M E hro => ?_
  obtain ⟨a, e, r, c, d, x⟩ := s
  obtain ⟨a', e', r', c', d', x'⟩ := t
  dsimp only at hm hn hro ⊢
  by_cases H : a = a' ∧ e = e' ∧ regsB r r' = true ∧ d = d' ∧ c.length = c'.length ∧ x.length = x'.length
  · obtain ⟨h1, h2, h3, h4, h5, h6⟩ := H
    obtain ⟨r0, r1, r2, r3, r4, r5, r6, r7⟩ := regsB_iff.1 h3
    subst h1 h2 h4
    rw [h5, h6] at hro
    have hsame : ∀ b, (b = true ↔ c = c' ∧ x = x') → b = sameB ⟨a, e, r, c, d, x⟩ ⟨a, e, r', c', d, x'⟩ := fun b hb => by
      rw [Bool.eq_iff_iff, hb]
      simp [sameB, h3]
    repeat' (first | refine Ctl.h ?_ | ((with_reducible intro hif); first | (focus (cases hif; done)) | ((try simp only [JH] at hif); try (exfalso; omega))) | ((with_reducible first | apply J22 cR18_ok za_ | apply J23 fol cR18_ok za_ | apply J24); (·rfl); (· (simp only [push_cast, ↓JP, Nat.reduceAdd, Nat.reduceEqDiff, Nat.reduceLT, Nat.reduceMul, Nat.reduceLeDiff, reduceCtorEq, reduceIte, ↓JK, h5, h6, r0, r1, r2, r3, r4, r5, r6, r7, eq_self]; rfl)); (try kernel_rfl); try exact y6_) | fail)
    refine WF.loopAt (fun j => j ≤ c'.length ∧ ∀ q, q < j → c.getD q 0 = c'.getD q 0) (fun j => [(2, .ptr 9 []), (3, .ptr 10 []), (5, .nat .i64 j)]) (fun j => [.gone, .gone, .ro (.arr c'.length 1 (i64S c)), .gone, .ro (.arr x'.length 3 (sndsS x)), .gone, .ro (.arr c'.length 1 (i64S c')), .gone, .ro (.arr x'.length 3 (sndsS x')), .own 135 (.agg [.int .i64 a, .bool e, .arr 8 1 (fun q => .int .i64 (r q)), .sl 1 2 [] 1 0 c'.length (some p1), .int .i64 d, .sl 3 4 [] 3 0 x'.length (some p2)]) true, .own 135 (.agg [.int .i64 a, .bool e, .arr 8 1 (fun q => .int .i64 (r' q)), .sl 5 6 [] 1 0 c'.length (some p3), .int .i64 d, .sl 7 8 [] 3 0 x'.length (some p4)]) true]) (fun j => c'.length - j) 0 ⟨Nat.zero_le _, fun q hq => absurd hq (Nat.not_lt_zero q)⟩ ?_ ?_ rfl ?_ ?_ rfl ?_
    · exact k8_
    · exact k5_
    · exact k6_
    · exact k6_
    rintro j ⟨hj, heq⟩
    repeat' (first | refine Ctl.h ?_ | ((with_reducible intro hif); first | (focus (cases hif; done)) | ((try simp only [JH] at hif); try (exfalso; omega))) | ((with_reducible first | apply J22 cR18_ok za_ | apply J23 fol cR18_ok za_ | apply J24); (·rfl); (· (simp only [push_cast, ↓JP, Nat.reduceAdd, Nat.reduceEqDiff, Nat.reduceLT, Nat.reduceMul, Nat.reduceLeDiff, reduceCtorEq, reduceIte, ↓JK, h5, h6, r0, r1, r2, r3, r4, r5, r6, r7, eq_self, inN]; rfl)); (try kernel_rfl); try exact k21_) | fail)
    · have hne : c ≠ c' := fun e => hif (by rw [e])
      apply At.endsRet za_ (fn := Try.f68) (rs := [.tmp 4]) Anc.refl hro (lb_ rfl) rfl
      · exact yo_
      · exact k4_
      · exact k5_
      · rfl
      · exact k6_
      · exact k7_
      · rw [← hsame false (by simp [hne])]; exact fun β => rfl
      · exact k6_
    · have hjl : j < c'.length := by assumption
      refine At.next (j + 1) ?_ ?_ ?_ rfl ?_ ?_ rfl
      · refine ⟨⟨by omega, fun q hq' => ?_⟩, by omega⟩; by_cases e : q = j; (rw [e]; exact hif); exact heq q (by omega)
      · exact k8_
      · exact k5_
      · exact k6_
      · exact k6_
    · have hjn : j = c'.length := by omega
      have hcc : c = c' := ext_getD 0 h5 (fun q hq => heq q (by omega))
      refine WF.loopAt (fun k => k ≤ x'.length ∧ ∀ q, q < k → x.getD q ⟨0, 0, 0⟩ = x'.getD q ⟨0, 0, 0⟩) (fun k => [(2, .ptr 9 []), (3, .ptr 10 []), (6, .nat .i64 k)]) (fun k => [.gone, .gone, .ro (.arr c'.length 1 (i64S c)), .gone, .ro (.arr x'.length 3 (sndsS x)), .gone, .ro (.arr c'.length 1 (i64S c')), .gone, .ro (.arr x'.length 3 (sndsS x')), .own 135 (.agg [.int .i64 a, .bool e, .arr 8 1 (fun q => .int .i64 (r q)), .sl 1 2 [] 1 0 c'.length (some p1), .int .i64 d, .sl 3 4 [] 3 0 x'.length (some p2)]) true, .own 135 (.agg [.int .i64 a, .bool e, .arr 8 1 (fun q => .int .i64 (r' q)), .sl 5 6 [] 1 0 c'.length (some p3), .int .i64 d, .sl 7 8 [] 3 0 x'.length (some p4)]) true]) (fun k => x'.length - k) 0 ⟨Nat.zero_le _, fun q hq => absurd hq (Nat.not_lt_zero q)⟩ ?_ ?_ rfl ?_ ?_ rfl ?_
      · exact k8_
      · exact k5_
      · exact k6_
      · exact k6_
      rintro k ⟨hk, hxq⟩
      repeat' (first | refine Ctl.h ?_ | ((with_reducible intro hif); first | (focus (cases hif; done)) | ((try simp only [JH] at hif); try (exfalso; omega))) | ((with_reducible first | apply J22 cR18_ok za_ | apply J23 fol cR18_ok za_ | apply J24); (·rfl); (· (simp only [push_cast, ↓JP, Nat.reduceAdd, Nat.reduceEqDiff, Nat.reduceLT, Nat.reduceMul, Nat.reduceLeDiff, reduceCtorEq, reduceIte, ↓JK, h5, h6, r0, r1, r2, r3, r4, r5, r6, r7, eq_self, inN, sndS]; rfl)); (try kernel_rfl); try exact k21_) | fail)
      · have hne : x ≠ x' := by
          rintro rfl
          simp at hif
        apply At.endsRet za_ (fn := Try.f68) (rs := [.tmp 4]) Anc.refl hro (lb_ rfl) rfl
        · exact yo_
        · exact k4_
        · exact k5_
        · rfl
        · exact k6_
        · exact k7_
        · rw [← hsame false (by simp [hne])]; exact fun β => rfl
        · exact k6_
      · have hq : x.getD k ⟨0, 0, 0⟩ = x'.getD k ⟨0, 0, 0⟩ := snd_ext (of_decide_eq_true hif.1) (of_decide_eq_true hif.2.1) (of_decide_eq_true hif.2.2)
        have hkl : k < x'.length := by assumption
        refine At.next (k + 1) ?_ ?_ ?_ rfl ?_ ?_ rfl
        · refine ⟨⟨by omega, fun q hq' => ?_⟩, by omega⟩; by_cases e : q = k; (rw [e]; exact hq); exact hxq q (by omega)
        · exact k8_
        · exact k5_
        · exact k6_
        · exact k6_
      · have hkn : k = x'.length := by omega
        have hxx : x = x' := ext_getD ⟨0, 0, 0⟩ h6 (fun q hq => hxq q (by omega))
        apply At.endsRet za_ (fn := Try.f68) (rs := [.tmp 4]) Anc.refl hro (lb_ rfl) rfl
        · exact yo_
        · exact k4_
        · exact k5_
        · rfl
        · exact k6_
        · exact k7_
        · rw [← hsame true (by simp [hcc, hxx])]; exact fun β => rfl
        · exact k6_
  · have hF : sameB ⟨a, e, r, c, d, x⟩ ⟨a', e', r', c', d', x'⟩ = false := by
      rw [Bool.eq_false_iff]
      intro hs
      simp only [sameB, Bool.and_eq_true, beq_iff_eq, decide_eq_true_eq] at hs
      obtain ⟨q1, q2, q3, q4, q5, q6⟩ := hs
      exact H ⟨q1, q2, q3, q5, by rw [q4], by rw [q6]⟩
    rw [hF]
    repeat' (first | refine Ctl.h ?_ | ((with_reducible intro hif); first | (focus (cases hif; done)) | ((try simp only [JH] at hif); try (exfalso; omega))) | ((with_reducible first | apply J22 cR18_ok za_ | apply J23 fol cR18_ok za_ | apply J24); (·rfl); (· (simp only [push_cast, ↓JP, Nat.reduceAdd, Nat.reduceEqDiff, Nat.reduceLT, Nat.reduceMul, Nat.reduceLeDiff, reduceCtorEq, reduceIte, ↓JK, eq_self]; rfl)); (try kernel_rfl); try exact y6_) | fail)
    · apply At.endsRet za_ (fn := Try.f68) (rs := [.tmp 4]) Anc.refl hro (lb_ rfl) rfl
      · exact yo_
      · exact k4_
      · exact k5_
      · rfl
      · exact k6_
      · exact k7_
      · exact fun β => rfl
      · exact k6_
    · exfalso
      apply H
      have e0 := hif
      simp only [Bool.or_eq_false_iff, Bool.not_eq_false', decide_eq_true_eq, Bool.and_eq_true] at e0
      obtain ⟨⟨⟨⟨⟨q1, q2⟩, ⟨⟨⟨⟨⟨⟨⟨u0, u1⟩, u2⟩, u3⟩, u4⟩, u5⟩, u6⟩, u7⟩⟩, q4⟩, q5⟩, q6⟩ := e0
      exact ⟨q1, eq_of_beq q2, regsB_iff.2 ⟨of_decide_eq_true u0, of_decide_eq_true u1, of_decide_eq_true u2, of_decide_eq_true u3, of_decide_eq_true u4, of_decide_eq_true u5, of_decide_eq_true u6, of_decide_eq_true u7⟩, q4, q5, q6⟩
def sRSame : yq_ := fun args h m => match args with
 | [.agg [v1, .bool v2, .arr 8 1 v3, v4, v5, v6], .agg [v7, .bool v8, .arr 8 1 v9, v10, v11, v12]] => match y2_ h 1 (.tup []) v4, y2_ h 3 (.tup []) v6, y2_ h 1 (.tup []) v10, y2_ h 3 (.tup []) v12 with
  | some (c4, n4, f4, r4), some (c6, n6, f6, r6), some (c10, n10, f10, r10), some (c12, n12, f12, r12) => bif isI .i64 v1 && isI .i64 v5 && isI .i64 v7 && isI .i64 v11 then some (c4 ∧ c6 ∧ c10 ∧ c12 ∧ (∀ q, q < n4 → isI .i64 (f4 q) = true) ∧ (∀ q, q < n6 → isSnd (f6 q) = true) ∧ (∀ q, q < n10 → isI .i64 (f10 q) = true) ∧ (∀ q, q < n12 → isSnd (f12 q) = true) ∧ (∀ q, q < 8 → isI .i64 (v3 q) = true) ∧ (∀ q, q < 8 → isI .i64 (v9 q) = true) ∧ (n4 ≤ 1000000) ∧ (n6 ≤ 1000000), .bool (sameB ⟨(iOf v1), v2, (fun q => iOf (v3 q)), (ls iOf n4 f4), (iOf v5), (ls zm_ n6 f6)⟩ ⟨(iOf v7), v8, (fun q => iOf (v9 q)), (ls iOf n10 f10), (iOf v11), (ls zm_ n12 f12)⟩), r4 ++ r6 ++ r10 ++ r12, []) else none
  | _, _, _, _ => none
 | _ => none
theorem sRSame_ok : zj_ Try.prog 68 sRSame := by
 refine ⟨zi_ (by kernel_rfl), fun args h m c v rd wr hs hm hc w0 M β h' w R hrd hwr hst => ?_⟩
 unfold sRSame at hs
 split at hs
 ·rename_i v1 v2 v3 v4 v5 v6 v7 v8 v9 v10 v11 v12
  split at hs
  ·rename_i c4 n4 f4 r4 c6 n6 f6 r6 c10 n10 f10 r10 c12 n12 f12 r12 a4 a6 a10 a12
   obtain ⟨hb, hs⟩ := zl_ hs
   simp only [Option.some.injEq, Prod.mk.injEq] at hs
   obtain ⟨rfl, rfl, rfl, rfl⟩ := hs
   simp only [Bool.and_eq_true] at hb
   obtain ⟨⟨⟨b1, b5⟩, b7⟩, b11⟩ := hb
   obtain ⟨k4, k6, k10, k12, g4, g6, g10, g12, g3, g9, y1, y2⟩ := hc
   obtain ⟨A4, p4, d4, e4, t4⟩ := zg_ R a4 k4 (fun i hi => hrd i (List.mem_append_left _ (List.mem_append_left _ (List.mem_append_left _ hi)))) (by omega)
   obtain ⟨A6, p6, d6, e6, t6⟩ := zg_ R a6 k6 (fun i hi => hrd i (List.mem_append_left _ (List.mem_append_left _ (List.mem_append_right _ hi)))) (by omega)
   obtain ⟨A10, p10, d10, e10, t10⟩ := zg_ R a10 k10 (fun i hi => hrd i (List.mem_append_left _ (List.mem_append_right _ hi))) (by omega)
   obtain ⟨A12, p12, d12, e12, t12⟩ := zg_ R a12 k12 (fun i hi => hrd i (List.mem_append_right _ hi)) (by omega)
   refine yf_ (views := [⟨1, (ls iOf n4 f4).length, i64S (ls iOf n4 f4), A4, p4⟩, ⟨3, (ls zm_ n6 f6).length, sndsS (ls zm_ n6 f6), A6, p6⟩, ⟨1, (ls iOf n10 f10).length, i64S (ls iOf n10 f10), A10, p10⟩, ⟨3, (ls zm_ n12 f12).length, sndsS (ls zm_ n12 f12), A12, p12⟩]) (rsame_lit ⟨(iOf v1), v2, (fun q => iOf (v3 q)), (ls iOf n4 f4), (iOf v5), (ls zm_ n6 f6)⟩ ⟨(iOf v7), v8, (fun q => iOf (v9 q)), (ls iOf n10 f10), (iOf v11), (ls zm_ n12 f12)⟩ p4 p6 p10 p12 (by rw [zb_]; exact y1) (by rw [zb_]; exact y2)) ?_ R hm hwr ?_ ?_ ?_
   ·intro x hx
    simp only [List.mem_cons, List.not_mem_nil, or_false] at hx
    rcases hx with rfl | rfl | rfl | rfl
    ·exact z8_ t4 e4 g4
    ·exact yy_ t6 e6 g6
    ·exact z8_ t10 e10 g10
    ·exact yy_ t12 e12 g12
   ·intro β1 hv
    simp only [Vd, zb_, and_true] at hv
    obtain ⟨z4, z6, z10, z12⟩ := hv
    simp only [denL, z2_, z0_, z6_, zq_, zb_, z4, z6, z10, z12, d4, d6, d10, d12, zd_ b1, zd_ b5, zd_ b7, zd_ b11, ← r8Den (β := β) (β1 := β1) g3, ← r8Den (β := β) (β1 := β1) g9]
   ·exact k6_
   ·exact k6_
  ·cases hs
 ·cases hs
theorem den_sr {β β' : Env} {s : Sta} {x y x' y' : SV} {e : Int} (hx : x.den β = x'.den β') (hy : y.den β = y'.den β') : (SV.tup [sr s x y, .int .i64 e]).den β = (SV.tup [sr s x' y', .int .i64 e]).den β' := by
 simp only [sr, SV.den, denL, hx, hy]
theorem stable_sr {h : HM} {s : Sta} {x y : SV} {e : Int} (hx : zc_ h x) (hy : zc_ h y) : zc_ h (.tup [sr s x y, .int .i64 e]) := by
 simp only [sr, zc_, ze_, hx, hy, and_self, implies_true]
def sROneE : yq_ := fun args h m => match args with
 | [.agg [v1, v2, v3, v4, v5], .agg [v6, v7, v8, v9, v10], .agg [v11, .bool v12, .arr 8 1 v13, v14, v15, v16]] => match y2_ h 1 (.tup []) v14, y2_ h 3 (.tup []) v16 with
  | some (c14, n14, f14, r14), some (c16, n16, f16, r16) => bif isI .u8 v1 && isI .u8 v2 && isI .u8 v3 && isI .u8 v4 && isI .i64 v5 && isI .u64 v6 && isI .i64 v7 && isI .i64 v8 && isI .i64 v9 && isI .i64 v10 && isI .i64 v11 && isI .i64 v15 then some (c14 ∧ c16 ∧ (∀ q, q < n14 → isI .i64 (f14 q) = true) ∧ (∀ q, q < n16 → isSnd (f16 q) = true) ∧ (∀ q, q < 8 → isI .i64 (v13 q) = true) ∧ (OOk ⟨(iOf v11), v12, (fun q => iOf (v13 q)), (ls iOf n14 f14), (iOf v15), (ls zm_ n16 f16)⟩ ⟨(iOf v6), (iOf v7), (iOf v8), (iOf v9), (iOf v10)⟩ ⟨(iOf v1), (iOf v2), (iOf v3), (iOf v4), (iOf v5)⟩) ∧ (doE ⟨(iOf v11), v12, (fun q => iOf (v13 q)), (ls iOf n14 f14), (iOf v15), (ls zm_ n16 f16)⟩ ⟨(iOf v6), (iOf v7), (iOf v8), (iOf v9), (iOf v10)⟩ ⟨(iOf v1), (iOf v2), (iOf v3), (iOf v4), (iOf v5)⟩ ≠ 0), .tup [yj_, .int .i64 (doE ⟨(iOf v11), v12, (fun q => iOf (v13 q)), (ls iOf n14 f14), (iOf v15), (ls zm_ n16 f16)⟩ ⟨(iOf v6), (iOf v7), (iOf v8), (iOf v9), (iOf v10)⟩ ⟨(iOf v1), (iOf v2), (iOf v3), (iOf v4), (iOf v5)⟩)], r14 ++ r16, []) else none
  | _, _ => none
 | _ => none
theorem sROneE_ok : zj_ Try.prog 107 sROneE := by
 refine ⟨zi_ (by kernel_rfl), fun args h m c v rd wr hs hm hc w0 M β h' w R hrd hwr hst => ?_⟩
 unfold sROneE at hs
 split at hs
 ·rename_i v1 v2 v3 v4 v5 v6 v7 v8 v9 v10 v11 v12 v13 v14 v15 v16
  split at hs
  ·rename_i c14 n14 f14 r14 c16 n16 f16 r16 a14 a16
   obtain ⟨hb, hs⟩ := zl_ hs
   simp only [Option.some.injEq, Prod.mk.injEq] at hs
   obtain ⟨rfl, rfl, rfl, rfl⟩ := hs
   simp only [Bool.and_eq_true] at hb
   obtain ⟨⟨⟨⟨⟨⟨⟨⟨⟨⟨⟨b1, b2⟩, b3⟩, b4⟩, b5⟩, b6⟩, b7⟩, b8⟩, b9⟩, b10⟩, b11⟩, b15⟩ := hb
   obtain ⟨k14, k16, g14, g16, g13, y1, y2⟩ := hc
   obtain ⟨A14, p14, d14, e14, t14⟩ := zg_ R a14 k14 (fun i hi => hrd i (List.mem_append_left _ hi)) (by omega)
   obtain ⟨A16, p16, d16, e16, t16⟩ := zg_ R a16 k16 (fun i hi => hrd i (List.mem_append_right _ hi)) (by omega)
   refine yf_ (views := [⟨1, (ls iOf n14 f14).length, i64S (ls iOf n14 f14), A14, p14⟩, ⟨3, (ls zm_ n16 f16).length, sndsS (ls zm_ n16 f16), A16, p16⟩]) (oneE_lit ⟨(iOf v11), v12, (fun q => iOf (v13 q)), (ls iOf n14 f14), (iOf v15), (ls zm_ n16 f16)⟩ ⟨(iOf v6), (iOf v7), (iOf v8), (iOf v9), (iOf v10)⟩ ⟨(iOf v1), (iOf v2), (iOf v3), (iOf v4), (iOf v5)⟩ p14 p16 y1 y2) ?_ R hm hwr ?_ ?_ ?_
   ·intro x hx
    simp only [List.mem_cons, List.not_mem_nil, or_false] at hx
    rcases hx with rfl | rfl
    ·exact z8_ t14 e14 g14
    ·exact yy_ t16 e16 g16
   ·intro β1 hv
    simp only [Vd, zb_, and_true] at hv
    obtain ⟨z14, z16⟩ := hv
    simp only [denL, z2_, z0_, z6_, zq_, zb_, yl_, evS, sr, csl, ssl, z14, z16, d14, d16, zd_ b1, zd_ b2, zd_ b3, zd_ b4, zd_ b5, zd_ b6, zd_ b7, zd_ b8, zd_ b9, zd_ b10, zd_ b11, zd_ b15, ← r8Den (β := β) (β1 := β1) g13]
   ·exact k96_
   ·exact k96_
  ·cases hs
 ·cases hs
def sROneX : yq_ := fun args h m => match args with
 | [.agg [v1, v2, v3, v4, v5], .agg [v6, v7, v8, v9, v10], .agg [v11, .bool v12, .arr 8 1 v13, v14, v15, v16]] => match y2_ h 1 (.tup []) v14, y2_ h 3 (.tup []) v16 with
  | some (c14, n14, f14, r14), some (c16, n16, f16, r16) => bif isI .u8 v1 && isI .u8 v2 && isI .u8 v3 && isI .u8 v4 && isI .i64 v5 && isI .u64 v6 && isI .i64 v7 && isI .i64 v8 && isI .i64 v9 && isI .i64 v10 && isI .i64 v11 && isI .i64 v15 then some (c14 ∧ c16 ∧ (∀ q, q < n14 → isI .i64 (f14 q) = true) ∧ (∀ q, q < n16 → isSnd (f16 q) = true) ∧ (∀ q, q < 8 → isI .i64 (v13 q) = true) ∧ (OOk ⟨iOf v11, v12, fun q => iOf (v13 q), ls iOf n14 f14, iOf v15, ls zm_ n16 f16⟩ ⟨iOf v6, iOf v7, iOf v8, iOf v9, iOf v10⟩ ⟨iOf v1, iOf v2, iOf v3, iOf v4, iOf v5⟩) ∧ (doE ⟨iOf v11, v12, fun q => iOf (v13 q), ls iOf n14 f14, iOf v15, ls zm_ n16 f16⟩ ⟨iOf v6, iOf v7, iOf v8, iOf v9, iOf v10⟩ ⟨iOf v1, iOf v2, iOf v3, iOf v4, iOf v5⟩ = 0) ∧ (iOf v1 ≠ 6) ∧ (iOf v1 ≠ 8), .tup [sr (doS ⟨iOf v11, v12, fun q => iOf (v13 q), ls iOf n14 f14, iOf v15, ls zm_ n16 f16⟩ ⟨iOf v6, iOf v7, iOf v8, iOf v9, iOf v10⟩ ⟨iOf v1, iOf v2, iOf v3, iOf v4, iOf v5⟩) v14 v16, .int .i64 0], r14 ++ r16, []) else none
  | _, _ => none
 | _ => none
theorem sROneX_ok : zj_ Try.prog 107 sROneX := by
 refine ⟨zi_ (by kernel_rfl), fun args h m c v rd wr hs hm hc w0 M β h' w R hrd hwr hst => ?_⟩
 unfold sROneX at hs
 split at hs
 ·rename_i v1 v2 v3 v4 v5 v6 v7 v8 v9 v10 v11 v12 v13 v14 v15 v16
  split at hs
  ·rename_i c14 n14 f14 r14 c16 n16 f16 r16 a14 a16
   obtain ⟨hb, hs⟩ := zl_ hs
   simp only [Option.some.injEq, Prod.mk.injEq] at hs
   obtain ⟨rfl, rfl, rfl, rfl⟩ := hs
   simp only [Bool.and_eq_true] at hb
   obtain ⟨⟨⟨⟨⟨⟨⟨⟨⟨⟨⟨b1, b2⟩, b3⟩, b4⟩, b5⟩, b6⟩, b7⟩, b8⟩, b9⟩, b10⟩, b11⟩, b15⟩ := hb
   obtain ⟨k14, k16, g14, g16, g13, y1, y2, y3, y4⟩ := hc
   have s14 : zc_ h' v14 := by simp only [ze_, zc_] at hst; exact hst.2.2.1.2.2.2.1
   have s16 : zc_ h' v16 := by simp only [ze_, zc_] at hst; exact hst.2.2.1.2.2.2.2.2.1
   obtain ⟨A14, p14, d14, e14, t14⟩ := zg_ R a14 k14 (fun i hi => hrd i (List.mem_append_left _ hi)) (by omega)
   obtain ⟨A16, p16, d16, e16, t16⟩ := zg_ R a16 k16 (fun i hi => hrd i (List.mem_append_right _ hi)) (by omega)
   refine callRoV (v' := .nilp) (views := [⟨1, (ls iOf n14 f14).length, i64S (ls iOf n14 f14), A14, p14⟩, ⟨3, (ls zm_ n16 f16).length, sndsS (ls zm_ n16 f16), A16, p16⟩]) (oneX_lit ⟨iOf v11, v12, fun q => iOf (v13 q), ls iOf n14 f14, iOf v15, ls zm_ n16 f16⟩ ⟨iOf v6, iOf v7, iOf v8, iOf v9, iOf v10⟩ ⟨iOf v1, iOf v2, iOf v3, iOf v4, iOf v5⟩ p14 p16 y1 y2 y3 y4) ?_ R hm hwr ?_ ?_ ?_ ?_ ?_
   ·intro x hx
    simp only [List.mem_cons, List.not_mem_nil, or_false] at hx
    rcases hx with rfl | rfl
    ·exact z8_ t14 e14 g14
    ·exact yy_ t16 e16 g16
   ·intro β1 hv
    simp only [Vd, zb_, and_true] at hv
    obtain ⟨z14, z16⟩ := hv
    simp only [denL, z2_, z0_, z6_, zq_, zb_, yl_, evS, sr, csl, ssl, z14, z16, d14, d16, zd_ b1, zd_ b2, zd_ b3, zd_ b4, zd_ b5, zd_ b6, zd_ b7, zd_ b8, zd_ b9, zd_ b10, zd_ b11, zd_ b15, ← r8Den (β := β) (β1 := β1) g13]
   ·exact k96_
   ·exact k96_
   ·intro h2 hb2 hp2
    exact stable_sr (s14.more hb2) (s16.more hb2)
   ·intro β2 β' hv he hbo
    simp only [Vd, zb_, and_true] at hv
    obtain ⟨z14, z16⟩ := hv
    have u14 := (zc_.den hbo s14).symm.trans d14
    have u16 := (zc_.den hbo s16).symm.trans d16
    refine den_sr (by rw [u14]; simp only [csl, zb_]; exact z14) (by rw [u16]; simp only [ssl, zb_]; exact z16)
  ·cases hs
 ·cases hs
def sROne6 : yq_ := fun args h m => match args with
 | [.agg [v1, v2, v3, v4, v5], .agg [v6, v7, v8, v9, v10], .agg [v11, .bool v12, .arr 8 1 v13, v14, v15, v16]] => match y2_ h 1 (.tup []) v14, y2_ h 3 (.tup []) v16 with
  | some (c14, n14, f14, r14), some (c16, n16, f16, r16) => bif isI .u8 v1 && isI .u8 v2 && isI .u8 v3 && isI .u8 v4 && isI .i64 v5 && isI .u64 v6 && isI .i64 v7 && isI .i64 v8 && isI .i64 v9 && isI .i64 v10 && isI .i64 v11 && isI .i64 v15 then some (c14 ∧ c16 ∧ (∀ q, q < n14 → isI .i64 (f14 q) = true) ∧ (∀ q, q < n16 → isSnd (f16 q) = true) ∧ (∀ q, q < 8 → isI .i64 (v13 q) = true) ∧ (OOk ⟨iOf v11, v12, fun q => iOf (v13 q), ls iOf n14 f14, iOf v15, ls zm_ n16 f16⟩ ⟨iOf v6, iOf v7, iOf v8, iOf v9, iOf v10⟩ ⟨iOf v1, iOf v2, iOf v3, iOf v4, iOf v5⟩) ∧ (doE ⟨iOf v11, v12, fun q => iOf (v13 q), ls iOf n14 f14, iOf v15, ls zm_ n16 f16⟩ ⟨iOf v6, iOf v7, iOf v8, iOf v9, iOf v10⟩ ⟨iOf v1, iOf v2, iOf v3, iOf v4, iOf v5⟩ = 0) ∧ (iOf v1 = 6), .tup [sr (doS ⟨iOf v11, v12, fun q => iOf (v13 q), ls iOf n14 f14, iOf v15, ls zm_ n16 f16⟩ ⟨iOf v6, iOf v7, iOf v8, iOf v9, iOf v10⟩ ⟨iOf v1, iOf v2, iOf v3, iOf v4, iOf v5⟩) (.sl m m [] 1 0 (ls iOf n14 f14).length none) v16, .int .i64 0], r14 ++ r16, [(m, .own 2 (.arr (ls iOf n14 f14).length 1 (i64S (doS ⟨iOf v11, v12, fun q => iOf (v13 q), ls iOf n14 f14, iOf v15, ls zm_ n16 f16⟩ ⟨iOf v6, iOf v7, iOf v8, iOf v9, iOf v10⟩ ⟨iOf v1, iOf v2, iOf v3, iOf v4, iOf v5⟩).cells)) false)]) else none
  | _, _ => none
 | _ => none
theorem sROne6_ok : zj_ Try.prog 107 sROne6 := by
 refine ⟨zi_ (by kernel_rfl), fun args h m c v rd wr hs hm hc w0 M β h' w R hrd hwr hst => ?_⟩
 unfold sROne6 at hs
 split at hs
 ·rename_i v1 v2 v3 v4 v5 v6 v7 v8 v9 v10 v11 v12 v13 v14 v15 v16
  split at hs
  ·rename_i c14 n14 f14 r14 c16 n16 f16 r16 a14 a16
   obtain ⟨hb, hs⟩ := zl_ hs
   simp only [Option.some.injEq, Prod.mk.injEq] at hs
   obtain ⟨rfl, rfl, rfl, rfl⟩ := hs
   simp only [Bool.and_eq_true] at hb
   obtain ⟨⟨⟨⟨⟨⟨⟨⟨⟨⟨⟨b1, b2⟩, b3⟩, b4⟩, b5⟩, b6⟩, b7⟩, b8⟩, b9⟩, b10⟩, b11⟩, b15⟩ := hb
   obtain ⟨k14, k16, g14, g16, g13, y1, y2, y3⟩ := hc
   have s14 : zc_ h' v14 := by simp only [ze_, zc_] at hst; exact hst.2.2.1.2.2.2.1
   have s16 : zc_ h' v16 := by simp only [ze_, zc_] at hst; exact hst.2.2.1.2.2.2.2.2.1
   obtain ⟨A14, p14, d14, e14, t14⟩ := zg_ R a14 k14 (fun i hi => hrd i (List.mem_append_left _ hi)) (by omega)
   obtain ⟨A16, p16, d16, e16, t16⟩ := zg_ R a16 k16 (fun i hi => hrd i (List.mem_append_right _ hi)) (by omega)
   refine callRoV (v' := .sl 5 5 [] 1 0 (ls iOf n14 f14).length none) (views := [⟨1, (ls iOf n14 f14).length, i64S (ls iOf n14 f14), A14, p14⟩, ⟨3, (ls zm_ n16 f16).length, sndsS (ls zm_ n16 f16), A16, p16⟩]) (one6_lit ⟨iOf v11, v12, fun q => iOf (v13 q), ls iOf n14 f14, iOf v15, ls zm_ n16 f16⟩ ⟨iOf v6, iOf v7, iOf v8, iOf v9, iOf v10⟩ ⟨iOf v1, iOf v2, iOf v3, iOf v4, iOf v5⟩ p14 p16 y1 y2 y3) ?_ R hm hwr ?_ ?_ ?_ ?_ ?_
   ·intro x hx
    simp only [List.mem_cons, List.not_mem_nil, or_false] at hx
    rcases hx with rfl | rfl
    ·exact z8_ t14 e14 g14
    ·exact yy_ t16 e16 g16
   ·intro β1 hv
    simp only [Vd, zb_, and_true] at hv
    obtain ⟨z14, z16⟩ := hv
    simp only [denL, z2_, z0_, z6_, zq_, zb_, yl_, evS, sr, csl, ssl, z14, z16, d14, d16, zd_ b1, zd_ b2, zd_ b3, zd_ b4, zd_ b5, zd_ b6, zd_ b7, zd_ b8, zd_ b9, zd_ b10, zd_ b11, zd_ b15, ← r8Den (β := β) (β1 := β1) g13]
   ·exact k96_
   ·exact k96_
   ·intro h2 hb2 hp2
    exact stable_sr hp2 (s16.more hb2)
   ·intro β2 β' hv he hbo
    simp only [Vd, zb_, and_true] at hv
    obtain ⟨z14, z16⟩ := hv
    have u14 := (zc_.den hbo s14).symm.trans d14
    have u16 := (zc_.den hbo s16).symm.trans d16
    refine den_sr he (by rw [u16]; simp only [ssl, zb_]; exact z16)
  ·cases hs
 ·cases hs
def sROne8 : yq_ := fun args h m => match args with
 | [.agg [v1, v2, v3, v4, v5], .agg [v6, v7, v8, v9, v10], .agg [v11, .bool v12, .arr 8 1 v13, v14, v15, v16]] => match y2_ h 1 (.tup []) v14, y2_ h 3 (.tup []) v16 with
  | some (c14, n14, f14, r14), some (c16, n16, f16, r16) => bif isI .u8 v1 && isI .u8 v2 && isI .u8 v3 && isI .u8 v4 && isI .i64 v5 && isI .u64 v6 && isI .i64 v7 && isI .i64 v8 && isI .i64 v9 && isI .i64 v10 && isI .i64 v11 && isI .i64 v15 then some (c14 ∧ c16 ∧ (∀ q, q < n14 → isI .i64 (f14 q) = true) ∧ (∀ q, q < n16 → isSnd (f16 q) = true) ∧ (∀ q, q < 8 → isI .i64 (v13 q) = true) ∧ (OOk ⟨iOf v11, v12, fun q => iOf (v13 q), ls iOf n14 f14, iOf v15, ls zm_ n16 f16⟩ ⟨iOf v6, iOf v7, iOf v8, iOf v9, iOf v10⟩ ⟨iOf v1, iOf v2, iOf v3, iOf v4, iOf v5⟩) ∧ (doE ⟨iOf v11, v12, fun q => iOf (v13 q), ls iOf n14 f14, iOf v15, ls zm_ n16 f16⟩ ⟨iOf v6, iOf v7, iOf v8, iOf v9, iOf v10⟩ ⟨iOf v1, iOf v2, iOf v3, iOf v4, iOf v5⟩ = 0) ∧ (iOf v1 = 8), .tup [sr (doS ⟨iOf v11, v12, fun q => iOf (v13 q), ls iOf n14 f14, iOf v15, ls zm_ n16 f16⟩ ⟨iOf v6, iOf v7, iOf v8, iOf v9, iOf v10⟩ ⟨iOf v1, iOf v2, iOf v3, iOf v4, iOf v5⟩) v14 (.sl m m [] 3 0 ((ls zm_ n16 f16).length + 1) none), .int .i64 0], r14 ++ r16, [(m, .own 200 (.arr ((ls zm_ n16 f16).length + 1) 3 (sndsS (doS ⟨iOf v11, v12, fun q => iOf (v13 q), ls iOf n14 f14, iOf v15, ls zm_ n16 f16⟩ ⟨iOf v6, iOf v7, iOf v8, iOf v9, iOf v10⟩ ⟨iOf v1, iOf v2, iOf v3, iOf v4, iOf v5⟩).sends)) false)]) else none
  | _, _ => none
 | _ => none
theorem sROne8_ok : zj_ Try.prog 107 sROne8 := by
 refine ⟨zi_ (by kernel_rfl), fun args h m c v rd wr hs hm hc w0 M β h' w R hrd hwr hst => ?_⟩
 unfold sROne8 at hs
 split at hs
 ·rename_i v1 v2 v3 v4 v5 v6 v7 v8 v9 v10 v11 v12 v13 v14 v15 v16
  split at hs
  ·rename_i c14 n14 f14 r14 c16 n16 f16 r16 a14 a16
   obtain ⟨hb, hs⟩ := zl_ hs
   simp only [Option.some.injEq, Prod.mk.injEq] at hs
   obtain ⟨rfl, rfl, rfl, rfl⟩ := hs
   simp only [Bool.and_eq_true] at hb
   obtain ⟨⟨⟨⟨⟨⟨⟨⟨⟨⟨⟨b1, b2⟩, b3⟩, b4⟩, b5⟩, b6⟩, b7⟩, b8⟩, b9⟩, b10⟩, b11⟩, b15⟩ := hb
   obtain ⟨k14, k16, g14, g16, g13, y1, y2, y3⟩ := hc
   have s14 : zc_ h' v14 := by simp only [ze_, zc_] at hst; exact hst.2.2.1.2.2.2.1
   have s16 : zc_ h' v16 := by simp only [ze_, zc_] at hst; exact hst.2.2.1.2.2.2.2.2.1
   obtain ⟨A14, p14, d14, e14, t14⟩ := zg_ R a14 k14 (fun i hi => hrd i (List.mem_append_left _ hi)) (by omega)
   obtain ⟨A16, p16, d16, e16, t16⟩ := zg_ R a16 k16 (fun i hi => hrd i (List.mem_append_right _ hi)) (by omega)
   refine callRoV (v' := .sl 5 5 [] 3 0 ((ls zm_ n16 f16).length + 1) none) (views := [⟨1, (ls iOf n14 f14).length, i64S (ls iOf n14 f14), A14, p14⟩, ⟨3, (ls zm_ n16 f16).length, sndsS (ls zm_ n16 f16), A16, p16⟩]) (one8_lit ⟨iOf v11, v12, fun q => iOf (v13 q), ls iOf n14 f14, iOf v15, ls zm_ n16 f16⟩ ⟨iOf v6, iOf v7, iOf v8, iOf v9, iOf v10⟩ ⟨iOf v1, iOf v2, iOf v3, iOf v4, iOf v5⟩ p14 p16 y1 y2 y3) ?_ R hm hwr ?_ ?_ ?_ ?_ ?_
   ·intro x hx
    simp only [List.mem_cons, List.not_mem_nil, or_false] at hx
    rcases hx with rfl | rfl
    ·exact z8_ t14 e14 g14
    ·exact yy_ t16 e16 g16
   ·intro β1 hv
    simp only [Vd, zb_, and_true] at hv
    obtain ⟨z14, z16⟩ := hv
    simp only [denL, z2_, z0_, z6_, zq_, zb_, yl_, evS, sr, csl, ssl, z14, z16, d14, d16, zd_ b1, zd_ b2, zd_ b3, zd_ b4, zd_ b5, zd_ b6, zd_ b7, zd_ b8, zd_ b9, zd_ b10, zd_ b11, zd_ b15, ← r8Den (β := β) (β1 := β1) g13]
   ·exact k96_
   ·exact k96_
   ·intro h2 hb2 hp2
    exact stable_sr (s14.more hb2) hp2
   ·intro β2 β' hv he hbo
    simp only [Vd, zb_, and_true] at hv
    obtain ⟨z14, z16⟩ := hv
    have u14 := (zc_.den hbo s14).symm.trans d14
    have u16 := (zc_.den hbo s16).symm.trans d16
    refine den_sr (by rw [u14]; simp only [csl, zb_]; exact z14) he
  ·cases hs
 ·cases hs
def beginR (a b c : Int) (j : Nat) : Int := match j with
 | 0 => a
 | 1 => b
 | 2 => c
 | _ => 0
theorem rbegin_lit (v tm_ src : Int) (cs : List Int) (p1 : Nat) (d : Int) (hm : cs.length ≤ 1000000) : zo_ Try.prog 70
  [.int .i64 v, .int .i64 tm_, .int .i64 src, .sl 1 2 [] 1 0 cs.length (some p1), .int .i64 d] [.gone, .gone, .ro (.arr cs.length 1 (i64S cs))]
  (.agg [.nat .i64 0, .bool false, .arr 8 1 (fun j => .int .i64 (beginR v tm_ src j)), .sl 3 3 [] 1 0 cs.length none, .int .i64 d, .sl 0 0 [] 0 0 0 (some 0)])
  [.gone, .gone, .gone, .own 2 (.arr cs.length 1 (i64S cs)) false] := by
 refine zf_ (fn := Try.f70) 3 27 0 rfl rfl rfl rfl rfl u2_ rfl fun w0 M E hro => ?_
 repeat' (first | refine Ctl.h ?_ | ((with_reducible intro hif); first | (focus (cases hif; done)) | ((try simp only [JH] at hif); try (exfalso; omega))) | ((with_reducible first | apply J22 cR18_ok za_ | apply J23 fol cR18_ok za_ | apply J24); (·rfl); (· (simp only [push_cast, ↓JP, Nat.reduceAdd, Nat.reduceEqDiff, Nat.reduceLT, Nat.reduceMul, Nat.reduceLeDiff, reduceCtorEq, reduceIte, ↓JK, inN, inR, eq_self, List.all_nil]; rfl)); (try kernel_rfl); (try (focus (first | exact True.intro | ((try simp only [JS, implies_true, forall_const, z7_, z5_, kndOf, inN, inR]); (repeat' (first | assumption | exact True.intro | omega | apply And.intro)); done))))) | fail)
 apply At.endsPick [0, 1, 2, 5] za_ (fn := Try.f70) (rs := [.cell 10 135]) Anc.refl hro (lb_ rfl) rfl
 ·exact yo_
 ·exact k14_
 ·rfl
 ·rfl
 ·rfl
 ·(repeat' (first | exact trivial | exact .inl rfl | exact .inr (.same _) | exact .inr .loose | exact .inr (.arr (by assumption)) | apply And.intro | exact .inr (.arr fun q hq => rfl)))
 ·rfl
 ·exact k6_
 ·exact k7_
 ·exact fun β => rfl
 ·exact k6_
def sRBegin : yq_ := fun args h m => match args with
 | [v1, v2, v3, v4, v5] => match y2_ h 1 (.tup []) v4 with
  | some (c4, n4, f4, r4) => bif isI .i64 v1 && isI .i64 v2 && isI .i64 v3 && isI .i64 v5 then some (c4 ∧ (∀ q, q < n4 → isI .i64 (f4 q) = true) ∧ (n4 ≤ 1000000), .agg [.nat .i64 0, .bool false, .arr 8 1 (fun j => .int .i64 (beginR (iOf v1) (iOf v2) (iOf v3) j)), .sl m m [] 1 0 (ls iOf n4 f4).length none, .int .i64 (iOf v5), .sl 0 0 [] 0 0 0 (some 0)], r4, [(m, .own 2 (.arr (ls iOf n4 f4).length 1 (i64S (ls iOf n4 f4))) false)]) else none
  | _ => none
 | _ => none
theorem sRBegin_ok : zj_ Try.prog 70 sRBegin := by
 refine ⟨zi_ (by kernel_rfl), fun args h m c v rd wr hs hm hc w0 M β h' w R hrd hwr hst => ?_⟩
 unfold sRBegin at hs
 split at hs
 ·rename_i v1 v2 v3 v4 v5
  split at hs
  ·rename_i c4 n4 f4 r4 a4
   obtain ⟨hb, hs⟩ := zl_ hs
   simp only [Option.some.injEq, Prod.mk.injEq] at hs
   obtain ⟨rfl, rfl, rfl, rfl⟩ := hs
   simp only [Bool.and_eq_true] at hb
   obtain ⟨⟨⟨b1, b2⟩, b3⟩, b5⟩ := hb
   obtain ⟨k4, g4, y1⟩ := hc
   obtain ⟨A4, p4, d4, e4, t4⟩ := zg_ R a4 k4 (fun i hi => hrd i hi) (by omega)
   refine yf_ (views := [⟨1, (ls iOf n4 f4).length, i64S (ls iOf n4 f4), A4, p4⟩]) (rbegin_lit (iOf v1) (iOf v2) (iOf v3) (ls iOf n4 f4) p4 (iOf v5) (by rw [zb_]; exact y1)) ?_ R hm hwr ?_ ?_ ?_
   ·intro x hx
    simp only [List.mem_cons, List.not_mem_nil, or_false] at hx
    subst hx
    ·exact z8_ t4 e4 g4
   ·intro β1 hv
    simp only [Vd, zb_, and_true] at hv
    have z4 := hv
    simp only [denL, z2_, z0_, z6_, zq_, zb_, z4, d4, zd_ b1, zd_ b2, zd_ b3, zd_ b5]
   ·exact k6_
   ·exact k6_
  ·cases hs
 ·cases hs
end Go.Proofs.Ytmljmabbopkpiaa.Vm
end
end
section
namespace Go.Proofs.Ytmljmabbopkpiaa.Vm
open Go.RowKit
attribute [local push_cast] prS sndsS i64S nav_ins nav_ins0 nav_ins1 nav_ins2 nav_ins3 nav_ins4 nav_snd nav_snd0 nav_snd1 nav_snd2 zy_ yi_ ym_ yh_ yd_ yc_ iOf sRCheck ls_prS ls_prS' inR inN
theorem lsI_raw (p : List Ins) : ls zs_ p.length (fun q => yl_ (p.getD q ⟨0, 0, 0, 0, 0⟩)) = p := ls_prS p
def cRt : FuncId → Option yq_ := yz_ [(112, sRCheck)]
theorem cRt_ok : ∀ f S, cRt f = some S → zj_ Try.prog f S := zp_ ⟨sRCheck_ok, trivial⟩
theorem right18_lit (p : List Ins) (v : Evi) (s : Sta) (p1 p2 p3 : Nat) (hok : ∀ x ∈ p, x.ok) (hl : p.length ≤ 1000000) (hc : s.cells.length ≤ 1000000) : zo_ Try.prog 90 [.sl 1 2 [] 5 0 p.length (some p1), evS v, sr s (.sl 3 4 [] 1 0 s.cells.length (some p2)) (.sl 5 6 [] 3 0 s.sends.length (some p3))] [.gone, .gone, .ro (.arr p.length 5 (prS p)), .gone, .ro (.arr s.cells.length 1 (i64S s.cells)), .gone, .ro (.arr s.sends.length 3 (sndsS s.sends))] (.int .i64 (yx_ p v s)) [.gone] := by
 simp only [evS, sr]
 by_cases h0 : (checkI p).2 = 0
 case neg =>
  rw [show yx_ p v s = 180 by rw [yx_, if_pos h0]]
  refine zf_ (fn := Try.f90) 7 70 0 rfl rfl rfl rfl rfl u11_ rfl fun w0 M E hro => ?_
  repeat' (first | refine Ctl.h ?_ | ((with_reducible intro hif); first | (focus (cases hif; done)) | ((try simp only [JH] at hif); try (exfalso; omega))) | ((with_reducible first | apply J22 cRt_ok za_ | apply J23 fol cRt_ok za_ | apply J24); (·rfl); (· (simp only [push_cast, ↓JP, Nat.reduceAdd, Nat.reduceEqDiff, Nat.reduceLT, Nat.reduceMul, Nat.reduceLeDiff, reduceCtorEq, reduceIte, ↓JK, cRt, lsI_raw, Int.cast_ofNat_Int, h0]; rfl)); (try kernel_rfl); try exact k98_) | fail)
  apply At.endsRet za_ (fn := Try.f90) (rs := [.tmp 6]) Anc.refl hro (lb_ rfl) rfl
  ·exact yo_
  ·exact k4_
  ·exact k5_
  ·rfl
  ·exact k97_
  ·exact k7_
  ·exact fun β => rfl
  ·exact k97_
 by_cases h1 : v.process < 0
 case pos =>
  rw [show yx_ p v s = 181 by rw [yx_, if_neg (by simp [h0]), if_pos u12_]]
  refine zf_ (fn := Try.f90) 7 70 0 rfl rfl rfl rfl rfl u11_ rfl fun w0 M E hro => ?_
  repeat' (first | refine Ctl.h ?_ | ((with_reducible intro hif); first | (focus (cases hif; done)) | ((try simp only [JH] at hif); try (exfalso; omega))) | ((with_reducible first | apply J22 cRt_ok za_ | apply J23 fol cRt_ok za_ | apply J24); (·rfl); (· (simp only [push_cast, ↓JP, Nat.reduceAdd, Nat.reduceEqDiff, Nat.reduceLT, Nat.reduceMul, Nat.reduceLeDiff, reduceCtorEq, reduceIte, ↓JK, cRt, lsI_raw, Int.cast_ofNat_Int, (eq_true h0), h1]; rfl)); (try kernel_rfl); try exact k98_) | fail)
  apply At.endsRet za_ (fn := Try.f90) (rs := [.tmp 6]) Anc.refl hro (lb_ rfl) rfl
  ·exact yo_
  ·exact k4_
  ·exact k5_
  ·rfl
  ·exact k97_
  ·exact k7_
  ·exact fun β => rfl
  ·exact k97_
 by_cases h2 : 65536 < v.process
 case pos =>
  rw [show yx_ p v s = 181 by rw [yx_, if_neg (by simp [h0]), if_pos u12_]]
  refine zf_ (fn := Try.f90) 7 70 0 rfl rfl rfl rfl rfl u11_ rfl fun w0 M E hro => ?_
  repeat' (first | refine Ctl.h ?_ | ((with_reducible intro hif); first | (focus (cases hif; done)) | ((try simp only [JH] at hif); try (exfalso; omega))) | ((with_reducible first | apply J22 cRt_ok za_ | apply J23 fol cRt_ok za_ | apply J24); (·rfl); (· (simp only [push_cast, ↓JP, Nat.reduceAdd, Nat.reduceEqDiff, Nat.reduceLT, Nat.reduceMul, Nat.reduceLeDiff, reduceCtorEq, reduceIte, ↓JK, cRt, lsI_raw, Int.cast_ofNat_Int, (eq_true h0), h1, h2]; rfl)); (try kernel_rfl); try exact k98_) | fail)
  apply At.endsRet za_ (fn := Try.f90) (rs := [.tmp 6]) Anc.refl hro (lb_ rfl) rfl
  ·exact yo_
  ·exact k4_
  ·exact k5_
  ·rfl
  ·exact k97_
  ·exact k7_
  ·exact fun β => rfl
  ·exact k97_
 by_cases h3 : v.ports < 0
 case pos =>
  rw [show yx_ p v s = 181 by rw [yx_, if_neg (by simp [h0]), if_pos u12_]]
  refine zf_ (fn := Try.f90) 7 70 0 rfl rfl rfl rfl rfl u11_ rfl fun w0 M E hro => ?_
  repeat' (first | refine Ctl.h ?_ | ((with_reducible intro hif); first | (focus (cases hif; done)) | ((try simp only [JH] at hif); try (exfalso; omega))) | ((with_reducible first | apply J22 cRt_ok za_ | apply J23 fol cRt_ok za_ | apply J24); (·rfl); (· (simp only [push_cast, ↓JP, Nat.reduceAdd, Nat.reduceEqDiff, Nat.reduceLT, Nat.reduceMul, Nat.reduceLeDiff, reduceCtorEq, reduceIte, ↓JK, cRt, lsI_raw, Int.cast_ofNat_Int, (eq_true h0), h1, h2, h3]; rfl)); (try kernel_rfl); try exact k98_) | fail)
  apply At.endsRet za_ (fn := Try.f90) (rs := [.tmp 6]) Anc.refl hro (lb_ rfl) rfl
  ·exact yo_
  ·exact k4_
  ·exact k5_
  ·rfl
  ·exact k97_
  ·exact k7_
  ·exact fun β => rfl
  ·exact k97_
 by_cases h4 : v.look ≤ 0
 case pos =>
  rw [show yx_ p v s = 181 by rw [yx_, if_neg (by simp [h0]), if_pos u12_]]
  refine zf_ (fn := Try.f90) 7 70 0 rfl rfl rfl rfl rfl u11_ rfl fun w0 M E hro => ?_
  repeat' (first | refine Ctl.h ?_ | ((with_reducible intro hif); first | (focus (cases hif; done)) | ((try simp only [JH] at hif); try (exfalso; omega))) | ((with_reducible first | apply J22 cRt_ok za_ | apply J23 fol cRt_ok za_ | apply J24); (·rfl); (· (simp only [push_cast, ↓JP, Nat.reduceAdd, Nat.reduceEqDiff, Nat.reduceLT, Nat.reduceMul, Nat.reduceLeDiff, reduceCtorEq, reduceIte, ↓JK, cRt, lsI_raw, Int.cast_ofNat_Int, (eq_true h0), h1, h2, h3, h4]; rfl)); (try kernel_rfl); try exact k98_) | fail)
  apply At.endsRet za_ (fn := Try.f90) (rs := [.tmp 6]) Anc.refl hro (lb_ rfl) rfl
  ·exact yo_
  ·exact k4_
  ·exact k5_
  ·rfl
  ·exact k97_
  ·exact k7_
  ·exact fun β => rfl
  ·exact k97_
 by_cases h5 : v.now < 0
 case pos =>
  rw [show yx_ p v s = 181 by rw [yx_, if_neg (by simp [h0]), if_pos u12_]]
  refine zf_ (fn := Try.f90) 7 70 0 rfl rfl rfl rfl rfl u11_ rfl fun w0 M E hro => ?_
  repeat' (first | refine Ctl.h ?_ | ((with_reducible intro hif); first | (focus (cases hif; done)) | ((try simp only [JH] at hif); try (exfalso; omega))) | ((with_reducible first | apply J22 cRt_ok za_ | apply J23 fol cRt_ok za_ | apply J24); (·rfl); (· (simp only [push_cast, ↓JP, Nat.reduceAdd, Nat.reduceEqDiff, Nat.reduceLT, Nat.reduceMul, Nat.reduceLeDiff, reduceCtorEq, reduceIte, ↓JK, cRt, lsI_raw, Int.cast_ofNat_Int, (eq_true h0), h1, h2, h3, h4, h5]; rfl)); (try kernel_rfl); try exact k98_) | fail)
  apply At.endsRet za_ (fn := Try.f90) (rs := [.tmp 6]) Anc.refl hro (lb_ rfl) rfl
  ·exact yo_
  ·exact k4_
  ·exact k5_
  ·rfl
  ·exact k97_
  ·exact k7_
  ·exact fun β => rfl
  ·exact k97_
 by_cases h6 : 281474976710656 < v.now
 case pos =>
  rw [show yx_ p v s = 181 by rw [yx_, if_neg (by simp [h0]), if_pos u12_]]
  refine zf_ (fn := Try.f90) 7 70 0 rfl rfl rfl rfl rfl u11_ rfl fun w0 M E hro => ?_
  repeat' (first | refine Ctl.h ?_ | ((with_reducible intro hif); first | (focus (cases hif; done)) | ((try simp only [JH] at hif); try (exfalso; omega))) | ((with_reducible first | apply J22 cRt_ok za_ | apply J23 fol cRt_ok za_ | apply J24); (·rfl); (· (simp only [push_cast, ↓JP, Nat.reduceAdd, Nat.reduceEqDiff, Nat.reduceLT, Nat.reduceMul, Nat.reduceLeDiff, reduceCtorEq, reduceIte, ↓JK, cRt, lsI_raw, Int.cast_ofNat_Int, (eq_true h0), h1, h2, h3, h4, h5, h6]; rfl)); (try kernel_rfl); try exact k98_) | fail)
  apply At.endsRet za_ (fn := Try.f90) (rs := [.tmp 6]) Anc.refl hro (lb_ rfl) rfl
  ·exact yo_
  ·exact k4_
  ·exact k5_
  ·rfl
  ·exact k97_
  ·exact k7_
  ·exact fun β => rfl
  ·exact k97_
 by_cases h7 : s.at_ < 0
 case pos =>
  rw [show yx_ p v s = 182 by rw [yx_, if_neg (by simp [h0]), if_neg u13_, if_pos u14_]]
  refine zf_ (fn := Try.f90) 7 70 0 rfl rfl rfl rfl rfl u11_ rfl fun w0 M E hro => ?_
  repeat' (first | refine Ctl.h ?_ | ((with_reducible intro hif); first | (focus (cases hif; done)) | ((try simp only [JH] at hif); try (exfalso; omega))) | ((with_reducible first | apply J22 cRt_ok za_ | apply J23 fol cRt_ok za_ | apply J24); (·rfl); (· (simp only [push_cast, ↓JP, Nat.reduceAdd, Nat.reduceEqDiff, Nat.reduceLT, Nat.reduceMul, Nat.reduceLeDiff, reduceCtorEq, reduceIte, ↓JK, cRt, lsI_raw, Int.cast_ofNat_Int, (eq_true h0), h1, h2, h3, h4, h5, h6, h7]; rfl)); (try kernel_rfl); try exact k98_) | fail)
  apply At.endsRet za_ (fn := Try.f90) (rs := [.tmp 6]) Anc.refl hro (lb_ rfl) rfl
  ·exact yo_
  ·exact k4_
  ·exact k5_
  ·rfl
  ·exact k97_
  ·exact k7_
  ·exact fun β => rfl
  ·exact k97_
 by_cases h8 : (p.length : Int) ≤ s.at_
 case pos =>
  rw [show yx_ p v s = 182 by rw [yx_, if_neg (by simp [h0]), if_neg u13_, if_pos u14_]]
  refine zf_ (fn := Try.f90) 7 70 0 rfl rfl rfl rfl rfl u11_ rfl fun w0 M E hro => ?_
  repeat' (first | refine Ctl.h ?_ | ((with_reducible intro hif); first | (focus (cases hif; done)) | ((try simp only [JH] at hif); try (exfalso; omega))) | ((with_reducible first | apply J22 cRt_ok za_ | apply J23 fol cRt_ok za_ | apply J24); (·rfl); (· (simp only [push_cast, ↓JP, Nat.reduceAdd, Nat.reduceEqDiff, Nat.reduceLT, Nat.reduceMul, Nat.reduceLeDiff, reduceCtorEq, reduceIte, ↓JK, cRt, lsI_raw, Int.cast_ofNat_Int, (eq_true h0), h1, h2, h3, h4, h5, h6, h7, h8]; rfl)); (try kernel_rfl); try exact k98_) | fail)
  apply At.endsRet za_ (fn := Try.f90) (rs := [.tmp 6]) Anc.refl hro (lb_ rfl) rfl
  ·exact yo_
  ·exact k4_
  ·exact k5_
  ·rfl
  ·exact k97_
  ·exact k7_
  ·exact fun β => rfl
  ·exact k97_
 by_cases h9 : 1024 < s.cells.length
 case pos =>
  rw [show yx_ p v s = 182 by rw [yx_, if_neg (by simp [h0]), if_neg u13_, if_pos u14_]]
  refine zf_ (fn := Try.f90) 7 70 0 rfl rfl rfl rfl rfl u11_ rfl fun w0 M E hro => ?_
  repeat' (first | refine Ctl.h ?_ | ((with_reducible intro hif); first | (focus (cases hif; done)) | ((try simp only [JH] at hif); try (exfalso; omega))) | ((with_reducible first | apply J22 cRt_ok za_ | apply J23 fol cRt_ok za_ | apply J24); (·rfl); (· (simp only [push_cast, ↓JP, Nat.reduceAdd, Nat.reduceEqDiff, Nat.reduceLT, Nat.reduceMul, Nat.reduceLeDiff, reduceCtorEq, reduceIte, ↓JK, cRt, lsI_raw, Int.cast_ofNat_Int, (eq_true h0), h1, h2, h3, h4, h5, h6, h7, h8, h9]; rfl)); (try kernel_rfl); try exact k98_) | fail)
  apply At.endsRet za_ (fn := Try.f90) (rs := [.tmp 6]) Anc.refl hro (lb_ rfl) rfl
  ·exact yo_
  ·exact k4_
  ·exact k5_
  ·rfl
  ·exact k97_
  ·exact k7_
  ·exact fun β => rfl
  ·exact k97_
 by_cases h10 : s.draws < 0
 case pos =>
  rw [show yx_ p v s = 182 by rw [yx_, if_neg (by simp [h0]), if_neg u13_, if_pos u14_]]
  refine zf_ (fn := Try.f90) 7 70 0 rfl rfl rfl rfl rfl u11_ rfl fun w0 M E hro => ?_
  repeat' (first | refine Ctl.h ?_ | ((with_reducible intro hif); first | (focus (cases hif; done)) | ((try simp only [JH] at hif); try (exfalso; omega))) | ((with_reducible first | apply J22 cRt_ok za_ | apply J23 fol cRt_ok za_ | apply J24); (·rfl); (· (simp only [push_cast, ↓JP, Nat.reduceAdd, Nat.reduceEqDiff, Nat.reduceLT, Nat.reduceMul, Nat.reduceLeDiff, reduceCtorEq, reduceIte, ↓JK, cRt, lsI_raw, Int.cast_ofNat_Int, (eq_true h0), h1, h2, h3, h4, h5, h6, h7, h8, h9, h10]; rfl)); (try kernel_rfl); try exact k98_) | fail)
  apply At.endsRet za_ (fn := Try.f90) (rs := [.tmp 6]) Anc.refl hro (lb_ rfl) rfl
  ·exact yo_
  ·exact k4_
  ·exact k5_
  ·rfl
  ·exact k97_
  ·exact k7_
  ·exact fun β => rfl
  ·exact k97_
 by_cases h11 : 1099511627776 < s.draws
 case pos =>
  rw [show yx_ p v s = 182 by rw [yx_, if_neg (by simp [h0]), if_neg u13_, if_pos u14_]]
  refine zf_ (fn := Try.f90) 7 70 0 rfl rfl rfl rfl rfl u11_ rfl fun w0 M E hro => ?_
  repeat' (first | refine Ctl.h ?_ | ((with_reducible intro hif); first | (focus (cases hif; done)) | ((try simp only [JH] at hif); try (exfalso; omega))) | ((with_reducible first | apply J22 cRt_ok za_ | apply J23 fol cRt_ok za_ | apply J24); (·rfl); (· exact k99_); (try kernel_rfl); try exact k98_) | fail)
  apply At.endsRet za_ (fn := Try.f90) (rs := [.tmp 6]) Anc.refl hro (lb_ rfl) rfl
  ·exact yo_
  ·exact k4_
  ·exact k5_
  ·rfl
  ·exact k97_
  ·exact k7_
  ·exact fun β => rfl
  ·exact k97_
 rw [show yx_ p v s = 0 by rw [yx_, if_neg (by simp [h0]), if_neg u13_, if_neg (by rw [Sta.rightB, decide_eq_true (by omega)]; decide)]]
 refine zf_ (fn := Try.f90) 7 70 0 rfl rfl rfl rfl rfl u11_ rfl fun w0 M E hro => ?_
 repeat' (first | refine Ctl.h ?_ | ((with_reducible intro hif); first | (focus (cases hif; done)) | ((try simp only [JH] at hif); try (exfalso; omega))) | ((with_reducible first | apply J22 cRt_ok za_ | apply J23 fol cRt_ok za_ | apply J24); (·rfl); (· exact k99_); (try kernel_rfl); try exact k98_) | fail)
 apply At.endsRet za_ (fn := Try.f90) (rs := [.tmp 6]) Anc.refl hro (lb_ rfl) rfl
 ·exact yo_
 ·exact k4_
 ·exact k5_
 ·rfl
 ·exact k97_
 ·exact k7_
 ·exact fun β => rfl
 ·exact k97_
end Go.Proofs.Ytmljmabbopkpiaa.Vm
end
section
namespace Go.Proofs.Ytmljmabbopkpiaa.Vm
open Go.RowKit
def sRt18 : yq_ := fun args h m => match args with
 | [v1, .agg [v2, v3, v4, v5, v6], .agg [v7, .bool v8, .arr 8 1 v9, v10, v11, v12]] => match y2_ h 5 (.tup []) v1, y2_ h 1 (.tup []) v10, y2_ h 3 (.tup []) v12 with
  | some (c1, n1, f1, r1), some (c10, n10, f10, r10), some (c12, n12, f12, r12) => bif isI .u64 v2 && isI .i64 v3 && isI .i64 v4 && isI .i64 v5 && isI .i64 v6 && isI .i64 v7 && isI .i64 v11 then some (c1 ∧ c10 ∧ c12 ∧ (∀ q, q < n1 → isIns (f1 q) = true) ∧ (∀ q, q < n10 → isI .i64 (f10 q) = true) ∧ (∀ q, q < n12 → isSnd (f12 q) = true) ∧ (∀ q, q < 8 → isI .i64 (v9 q) = true) ∧ ((∀ x ∈ (ls zs_ n1 f1), x.ok)) ∧ (n1 ≤ 1000000) ∧ (n10 ≤ 1000000), .int .i64 (yx_ (ls zs_ n1 f1) ⟨(iOf v2), (iOf v3), (iOf v4), (iOf v5), (iOf v6)⟩ ⟨(iOf v7), v8, (fun q => iOf (v9 q)), (ls iOf n10 f10), (iOf v11), (ls zm_ n12 f12)⟩), r1 ++ r10 ++ r12, []) else none
  | _, _, _ => none
 | _ => none
theorem sRt18_ok : zj_ Try.prog 90 sRt18 := by
 refine ⟨zi_ (by kernel_rfl), fun args h m c v rd wr hs hm hc w0 M β h' w R hrd hwr hst => ?_⟩
 unfold sRt18 at hs
 split at hs
 ·rename_i v1 v2 v3 v4 v5 v6 v7 v8 v9 v10 v11 v12
  split at hs
  ·rename_i c1 n1 f1 r1 c10 n10 f10 r10 c12 n12 f12 r12 a1 a10 a12
   obtain ⟨hb, hs⟩ := zl_ hs
   simp only [Option.some.injEq, Prod.mk.injEq] at hs
   obtain ⟨rfl, rfl, rfl, rfl⟩ := hs
   simp only [Bool.and_eq_true] at hb
   obtain ⟨⟨⟨⟨⟨⟨b2, b3⟩, b4⟩, b5⟩, b6⟩, b7⟩, b11⟩ := hb
   obtain ⟨k1, k10, k12, g1, g10, g12, g9, y1, y2, y3⟩ := hc
   obtain ⟨A1, p1, d1, e1, t1⟩ := zg_ R a1 k1 (fun i hi => hrd i (List.mem_append_left _ (List.mem_append_left _ hi))) (by omega)
   obtain ⟨A10, p10, d10, e10, t10⟩ := zg_ R a10 k10 (fun i hi => hrd i (List.mem_append_left _ (List.mem_append_right _ hi))) (by omega)
   obtain ⟨A12, p12, d12, e12, t12⟩ := zg_ R a12 k12 (fun i hi => hrd i (List.mem_append_right _ hi)) (by omega)
   refine yf_ (views := [⟨5, (ls zs_ n1 f1).length, prS (ls zs_ n1 f1), A1, p1⟩, ⟨1, (ls iOf n10 f10).length, i64S (ls iOf n10 f10), A10, p10⟩, ⟨3, (ls zm_ n12 f12).length, sndsS (ls zm_ n12 f12), A12, p12⟩]) (right18_lit (ls zs_ n1 f1) ⟨(iOf v2), (iOf v3), (iOf v4), (iOf v5), (iOf v6)⟩ ⟨(iOf v7), v8, (fun q => iOf (v9 q)), (ls iOf n10 f10), (iOf v11), (ls zm_ n12 f12)⟩ p1 p10 p12 y1 (by rw [zb_]; exact y2) u15_) ?_ R hm hwr ?_ ?_ ?_
   ·intro x hx
    simp only [List.mem_cons, List.not_mem_nil, or_false] at hx
    rcases hx with rfl | rfl | rfl
    ·exact viewIns t1 e1 g1
    ·exact z8_ t10 e10 g10
    ·exact yy_ t12 e12 g12
   ·intro β1 hv
    simp only [Vd, zb_, and_true] at hv
    obtain ⟨z1, z10, z12⟩ := hv
    simp only [denL, z2_, z0_, z6_, zq_, zb_, yl_, evS, sr, csl, ssl, z1, z10, z12, d1, d10, d12, zd_ b2, zd_ b3, zd_ b4, zd_ b5, zd_ b6, zd_ b7, zd_ b11, ← r8Den (β := β) (β1 := β1) g9]
   ·exact k59_
   ·exact k59_
  ·cases hs
 ·cases hs
def runB (P : List Ins) (v : Evi) : Nat → Sta → Bool → Bool → Bool × Bool
 | 0, _, c, d => (c, d)
 | n + 1, s, c, d => if s.ended = true then (c, d) else
  if stepE P v s = 0 then runB P v n (yv_ P v s) (c || decide ((insAt P s.at_).op = 6)) (d || decide ((insAt P s.at_).op = 8)) else (c, d)
theorem runB_go {P : List Ins} {v : Evi} {n : Nat} {s : Sta} {c d : Bool} (h : s.ended = false) (hn : 0 < n) (he : stepE P v s = 0) : runB P v n s c d = runB P v (n - 1) (yv_ P v s) (c || decide ((insAt P s.at_).op = 6)) (d || decide ((insAt P s.at_).op = 8)) := by
 obtain ⟨n, rfl⟩ : ∃ k, n = k + 1 := ⟨n - 1, by omega⟩
 simp [runB, h, he]
structure FG (P : List Ins) (s : Sta) : Prop where
 sg : SG P s
 rg : ∀ q, R64 (s.regs q)
 cr : CR s
 sd : s.sends.length ≤ 256
theorem FG.ook {P : List Ins} {v : Evi} {s : Sta} (h : FG P s) (hP : PG P) (V : VOk v) : OOk s v (insAt P s.at_) := by
 have R := h.sg.ri hP
 have ⟨o0, o1, a0, a1, b0, b1, c0, c1, n0, n1⟩ := R.ok
 exact ⟨R, V, h.sg.sok hP, h.rg, n0, n1, by have := h.sd; omega⟩
theorem doS_sends {s : Sta} {v : Evi} {x : Ins} (h : s.sends.length ≤ 256) : (doS s v x).sends.length ≤ 256 := by
 by_cases hE : doE s v x = 0
 ·by_cases h8 : x.op = 8
  ·have hl : s.sends.length < 256 := by
    rcases Nat.lt_or_ge s.sends.length 256 with h' | h'
    ·exact h'
    ·exfalso
     have h3 : doE s v x = sendE s v x := by simp [doE, h8]
     unfold sendE at h3
     rw [hE, if_pos h'] at h3
     split at h3
     ·omega
     ·split at h3
      ·omega
      ·split at h3 <;> omega
   have e : doS s v x = { s with at_ := s.at_ + 1, sends := s.sends ++ [⟨x.n, s.regs x.a.toNat, s.regs x.b.toNat⟩] } := by simp [doS, hE, h8]
   rw [e]
   simp only [List.length_append, List.length_cons, List.length_nil]
   omega
  ·have e : (doS s v x).sends = s.sends := by
    unfold doS
    simp only [apply_ite Sta.sends, if_neg h8, Sta.put, ite_self]
   rw [e]; exact h
 ·rw [doS_bad hE]; exact h
theorem doS_cells6 {s : Sta} {v : Evi} {x : Ins} (h : x.op ≠ 6) : (doS s v x).cells = s.cells := by
 unfold doS
 simp only [apply_ite Sta.cells, if_neg h, Sta.put, ite_self]
theorem doS_sends8 {s : Sta} {v : Evi} {x : Ins} (h : x.op ≠ 8) : (doS s v x).sends = s.sends := by
 unfold doS
 simp only [apply_ite Sta.sends, if_neg h, Sta.put, ite_self]
theorem doS_clen (s : Sta) (v : Evi) (x : Ins) : (doS s v x).cells.length = s.cells.length := by
 unfold doS
 simp only [apply_ite Sta.cells, apply_ite List.length, Sta.put, List.length_set, ite_self]
theorem doS_slen {s : Sta} {v : Evi} {x : Ins} (hE : doE s v x = 0) (h : x.op = 8) : (doS s v x).sends.length = s.sends.length + 1 := by
 have e : doS s v x = { s with at_ := s.at_ + 1, sends := s.sends ++ [⟨x.n, s.regs x.a.toNat, s.regs x.b.toNat⟩] } := by simp [doS, hE, h]
 rw [e]
 simp only [List.length_append, List.length_cons, List.length_nil]
theorem FG.step {P : List Ins} {v : Evi} {s : Sta} (h : FG P s) (hP : PG P) (V : VOk v) (he : s.ended = false) : FG P (yv_ P v s) := by
 have K := h.ook hP V
 have e : yv_ P v s = doS s v (insAt P s.at_) := by unfold yv_; rw [if_neg (by rw [he]; exact Bool.noConfusion)]
 rw [e]
 have hR := doS_R K h.cr
 exact ⟨doS_good h.sg hP, hR.1, hR.2, doS_sends h.sd⟩
structure FS where
 k : Nat
 s : Sta
 x : Ins
 tr : List Int
 a : Int
 fc : Bool
 fs : Bool
 nc : Nat
 ns : Nat
def FS.ct (z : FS) : List Int := bif z.fc then z.s.cells else []
def FS.st (z : FS) : List Snd := bif z.fs then z.s.sends else []
structure FInv (P : List Ins) (v : Evi) (f : Nat) (s0 : Sta) (R : RR) (B : Bool × Bool) (z : FS) : Prop where
 hk : z.k ≤ f
 hg : FG P z.s
 hl : z.tr.length = z.k
 hr : runA P v (f - z.k) z.s z.x z.tr z.a = R
 hb : runB P v (f - z.k) z.s z.fc z.fs = B
 hc : z.s.cells.length = z.nc
 hs : z.s.sends.length = z.ns
 hc2 : z.fc = false → z.s.cells = s0.cells
 hs2 : z.fs = false → z.s.sends = s0.sends
theorem stepS_of {P : List Ins} {v : Evi} {s : Sta} (he : s.ended = false) : yv_ P v s = doS s v (insAt P s.at_) := by unfold yv_; rw [if_neg (by rw [he]; exact Bool.noConfusion)]
theorem stepE_of {P : List Ins} {v : Evi} {s : Sta} (he : s.ended = false) : stepE P v s = doE s v (insAt P s.at_) := by unfold stepE; rw [if_neg (by rw [he]; exact Bool.noConfusion)]
theorem FInv.step {P : List Ins} {v : Evi} {f : Nat} {s0 : Sta} {R : RR} {B : Bool × Bool} {z : FS} (H : FInv P v f s0 R B z) (hP : PG P) (V : VOk v) (he : z.s.ended = false) (hkf : z.k < f) (x : Ins) (hx : insAt P z.s.at_ = x) (h : doE z.s v x = 0) (c d : Bool) (m : Nat)
  (hc : c = (z.fc || decide (x.op = 6))) (hd : d = (z.fs || decide (x.op = 8))) (hm : (doS z.s v x).sends.length = m) : FInv P v f s0 R B ⟨z.k + 1, doS z.s v x, stepX P z.s z.x, z.tr ++ [z.s.at_], z.s.at_, c, d, z.nc, m⟩ := by
 subst hx
 have e := stepS_of (P := P) (v := v) he
 have h' : stepE P v z.s = 0 := by rw [stepE_of he]; exact h
 refine ⟨hkf, ?_, by simp [H.hl], ?_, ?_, ?_, hm, fun hf => ?_, fun hf => ?_⟩
 ·have := H.hg.step hP V he; rwa [e] at this
 ·have := H.hr; rw [runA_go he (by omega) h', e] at this
  exact this
 ·have := H.hb; rw [runB_go he (by omega) h', e, ← hc, ← hd] at this
  exact this
 ·exact (doS_clen _ _ _).trans H.hc
 ·dsimp only at hf ⊢
  rw [hf] at hc
  have hc := hc.symm
  simp only [Bool.or_eq_false_iff, decide_eq_false_iff_not] at hc
  rw [doS_cells6 hc.2]; exact H.hc2 hc.1
 ·dsimp only at hf ⊢
  rw [hf] at hd
  have hd := hd.symm
  simp only [Bool.or_eq_false_iff, decide_eq_false_iff_not] at hd
  rw [doS_sends8 hd.2]; exact H.hs2 hd.1
def cRf (l : List Int) : HB := .own 2 (.arr l.length 1 (i64S l)) false
def sRf (l : List Snd) : HB := .own 200 (.arr l.length 3 (sndsS l)) false
theorem eqIns_lit (xs ys : List Ins) (p1 p2 : Nat) (hx : xs.length ≤ 281474976710656) : zo_ Try.prog 71 [.sl 1 2 [] 5 0 xs.length (some p1), .sl 3 4 [] 5 0 ys.length (some p2)] [.gone, .gone, .ro (.arr xs.length 5 (prS xs)), .gone, .ro (.arr ys.length 5 (prS ys))] (.bool (eqL xs ys)) [.gone] := by
 refine zf_ (fn := Try.f71) 5 26 0 rfl rfl rfl rfl rfl u2_ rfl fun w0 M E hro => ?_
 repeat' (first | refine Ctl.h ?_ | ((with_reducible intro hif); first | (focus (cases hif; done)) | ((try simp only [JH] at hif); try (exfalso; omega))) | ((with_reducible first | apply J22 zt_ za_ | apply J23 fol zt_ za_ | apply J24); (·rfl); (· exact k20_); (try kernel_rfl); try exact y6_) | fail)
 ·have hne : xs ≠ ys := fun e => hif (by rw [e])
  apply At.endsRet za_ (fn := Try.f71) (rs := [.tmp 4]) Anc.refl hro (lb_ rfl) rfl
  ·exact k3_
  ·exact k4_
  ·exact k5_
  ·rfl
  ·exact k6_
  ·exact k7_
  ·rw [eqL_false hne]; exact fun β => rfl
  ·exact k6_
 ·refine WF.loopAt (fun j => j ≤ xs.length ∧ ∀ q, q < j → xs.getD q ⟨0, 0, 0, 0, 0⟩ = ys.getD q ⟨0, 0, 0, 0, 0⟩) (fun j => [(0, .sl 1 2 [] 5 0 xs.length (some p1)), (1, .sl 3 4 [] 5 0 ys.length (some p2)), (12, .nat .i64 xs.length), (13, .nat .i64 j)]) (fun j => [.gone, .gone, .ro (.arr xs.length 5 (prS xs)), .gone, .ro (.arr ys.length 5 (prS ys))]) (fun j => xs.length - j) 0 ⟨Nat.zero_le _, fun q hq => absurd hq (Nat.not_lt_zero q)⟩ ?_ ?_ rfl ?_ ?_ rfl ?_
  ·exact k8_
  ·exact k5_
  ·exact k6_
  ·exact k6_
  have hlen := hif
  rintro j ⟨hj, heq⟩
  repeat' (first | refine Ctl.h ?_ | ((with_reducible intro hif); first | (focus (cases hif; done)) | ((try simp only [JH] at hif); try (exfalso; omega))) | ((with_reducible first | apply J22 zt_ za_ | apply J23 fol zt_ za_ | apply J24); (·rfl); (· (simp only [push_cast, ↓JP, Nat.reduceAdd, Nat.reduceEqDiff, Nat.reduceLT, Nat.reduceMul, Nat.reduceLeDiff, reduceCtorEq, reduceIte, prS, yl_, inN]; rfl)); (try kernel_rfl); try exact k21_) | fail)
  ·have hne : xs ≠ ys := by rintro rfl; simp at hif
   apply At.endsRet za_ (fn := Try.f71) (rs := [.tmp 4]) Anc.refl hro (lb_ rfl) rfl
   ·exact k3_
   ·exact k4_
   ·exact k5_
   ·rfl
   ·exact k6_
   ·exact k7_
   ·rw [eqL_false hne]; exact fun β => rfl
   ·exact k6_
  ·have hq : xs.getD j ⟨0, 0, 0, 0, 0⟩ = ys.getD j ⟨0, 0, 0, 0, 0⟩ := ins_ext (of_decide_eq_true hif.1) (of_decide_eq_true hif.2.1) (of_decide_eq_true hif.2.2.1) (of_decide_eq_true hif.2.2.2.1) (of_decide_eq_true hif.2.2.2.2)
   refine At.next (j + 1) ?_ ?_ ?_ rfl ?_ ?_ rfl
   ·exact k9_
   ·exact k8_
   ·exact k5_
   ·exact k6_
   ·exact k6_
  ·have hjn : j = xs.length := by omega
   subst hjn
   have he : xs = ys := ext_getD ⟨0, 0, 0, 0, 0⟩ hlen heq
   apply At.endsRet za_ (fn := Try.f71) (rs := [.tmp 4]) Anc.refl hro (lb_ rfl) rfl
   ·exact k3_
   ·exact k4_
   ·exact k5_
   ·rfl
   ·exact k6_
   ·exact k7_
   ·rw [eqL_true he]; exact fun β => rfl
   ·exact k6_
def sEqIns : yq_ := fun args h m => match args with
 | [v1, v2] => match y2_ h 5 (.tup []) v1, y2_ h 5 (.tup []) v2 with
  | some (c1, n1, f1, r1), some (c2, n2, f2, r2) => some (c1 ∧ c2 ∧ (∀ q, q < n1 → isIns (f1 q) = true) ∧ (∀ q, q < n2 → isIns (f2 q) = true) ∧ ((ls zs_ n1 f1).length ≤ 281474976710656), .bool (eqL (ls zs_ n1 f1) (ls zs_ n2 f2)), r1 ++ r2, [])
  | _, _ => none
 | _ => none
theorem sEqIns_ok : zj_ Try.prog 71 sEqIns := by
 refine ⟨zi_ (by kernel_rfl), fun args h m c v rd wr hs hm hc w0 M β h' w R hrd hwr hst => ?_⟩
 unfold sEqIns at hs
 split at hs
 ·rename_i v1 v2
  split at hs
  ·rename_i c1 n1 f1 r1 c2 n2 f2 r2 a1 a2
   simp only [Option.some.injEq, Prod.mk.injEq] at hs
   obtain ⟨rfl, rfl, rfl, rfl⟩ := hs
   obtain ⟨k1, k2, g1, g2, y1⟩ := hc
   obtain ⟨A1, p1, d1, e1, t1⟩ := zg_ R a1 k1 (fun i hi => hrd i (List.mem_append_left _ hi)) (by omega)
   obtain ⟨A2, p2, d2, e2, t2⟩ := zg_ R a2 k2 (fun i hi => hrd i (List.mem_append_right _ hi)) (by omega)
   refine yf_ (views := [⟨5, (ls zs_ n1 f1).length, prS (ls zs_ n1 f1), A1, p1⟩, ⟨5, (ls zs_ n2 f2).length, prS (ls zs_ n2 f2), A2, p2⟩]) (eqIns_lit (ls zs_ n1 f1) (ls zs_ n2 f2) p1 p2 y1) ?_ R hm hwr ?_ ?_ ?_
   ·intro x hx
    simp only [List.mem_cons, List.not_mem_nil, or_false] at hx
    rcases hx with rfl | rfl
    ·exact viewIns t1 e1 g1
    ·exact viewIns t2 e2 g2
   ·intro β1 hv
    simp only [Vd, zb_, and_true] at hv
    obtain ⟨z1, z2⟩ := hv
    simp only [denL, z2_, z0_, z6_, zq_, zb_, z1, z2, d1, d2]
   ·exact k6_
   ·exact k6_
  ·cases hs
 ·cases hs
end Go.Proofs.Ytmljmabbopkpiaa.Vm
end
