import Derived.Test.YtmljmabbopkpiaaM1
import Derived.Test.YtmljmabbopkpiaaM9
import Derived.Test.YtmljmabbopkpiaaM20
import Derived.Test.YtmljmabbopkpiaaM22
import Derived.Test.YtmljmabbopkpiaaM28
set_option linter.unusedSimpArgs false
set_option linter.unusedVariables false
set_option maxRecDepth 100000
set_option maxHeartbeats 4000000
section
open Go.Proofs.Ytmljmabbopkpiaa.Vm Go.RowKit
attribute [local push_cast] prS zm_ zo_ nav_ins xe_ xd_ xc_ xb_ xa_ nav_snd y9_ y8_ y7_ zu_ z7_ yf_ z5_ ya_ z9_ iOf
section
namespace Go.Proofs.Ytmljmabbopkpiaa.Vm
open Go.RowKit
theorem evm_in1 (i : Ins) (a : Bool → SV → Option (Prop × SV)) (b : SV → Option (Prop × SV)) (c : Unit → Option (Prop × SV)) : ev.match_1 (fun _ => Option (Prop × SV)) (some (yo_ i)) a b c = b (yo_ i) := rfl
def cRG : FuncId → Option yp_ := yy_ [(144, sROne)]
theorem cRG_ok : ∀ f S, cRG f = some S → zj_ Try.prog f S := zq_ ⟨sROne_ok, trivial⟩
theorem rgoes_lit (i : Ins) (hi : i.ok) : zp_ Try.prog 146 [yo_ i] [.gone] (.bool (goesB i)) [.gone] := by
 by_cases he : oneE i = 0 <;> by_cases h1 : i.op = 1 <;> by_cases h2 : i.op = 2 <;> by_cases h9 : i.op = 9
 all_goals
  refine zf_ (fn := Try.f146) 1 21 0 rfl rfl rfl rfl rfl u10_ rfl fun w0 M E hro => ?_
  repeat' (first | refine Ctl.h ?_ | ((with_reducible intro hif); first | (focus (cases hif; done)) | ((try simp only [JH] at hif); try (exfalso; omega))) | ((with_reducible first | apply J22 cRG_ok za_ | apply J23 fol cRG_ok za_ | apply J24); (·rfl); (· (simp only [push_cast, ↓JP, Nat.reduceAdd, Nat.reduceEqDiff, Nat.reduceLT, Nat.reduceMul, Nat.reduceLeDiff, reduceCtorEq, reduceIte, ↓JK, evm_in1, cRG, sROne, he, h1, h2, h9]; rfl)); (try kernel_rfl); (try (focus (first | exact True.intro | ((try simp only [JS, implies_true, forall_const, yc_, z6_, kndOf]); (first | assumption | (repeat' (first | assumption | exact True.intro | omega | apply And.intro))); done))))) | fail)
 all_goals
  apply At.endsRet za_ (fn := Try.f146) (rs := [.tmp 2]) Anc.refl hro (lb_ rfl) rfl
  ·exact yq_
  ·exact k4_
  ·exact k5_
  ·rfl
  ·exact k6_
  ·exact k7_
  ·(intro β; simp [resS, SV.den, goesB, he, h1, h2, h9])
  ·exact k6_
def sRGoes : yp_ := fun args h m => match args with
 | [v1] => bif isIns v1 then some (((zt_ v1).ok), .bool (goesB (zt_ v1)), [], []) else none
 | _ => none
theorem sRGoes_ok : zj_ Try.prog 146 sRGoes := by
 refine ⟨zi_ (by kernel_rfl), fun args h m c v rd wr hs hm hc w0 M β h' w R hrd hwr hst => ?_⟩
 unfold sRGoes at hs
 split at hs
 ·rename_i v1
  obtain ⟨hb, hs⟩ := zl_ hs
  simp only [Option.some.injEq, Prod.mk.injEq] at hs
  obtain ⟨rfl, rfl, rfl, rfl⟩ := hs
  have b1 := hb
  have y1 := hc
  refine yl_ (views := []) (rgoes_lit (zt_ v1) y1) ?_ R hm hwr ?_ ?_ ?_
  ·intro x hx; cases hx
  ·exact d40_
  ·exact k6_
  ·exact k6_
 ·cases hs
theorem targB_of {i : Ins} (he : oneE i = 0) : targB i = decide (9 ≤ i.op ∧ i.op ≤ 11) := by
 unfold targB
 rw [he, Bool.eq_iff_iff]
 simp
 omega
theorem targB_no {i : Ins} (he : oneE i ≠ 0) : targB i = false := by
 unfold targB
 simp [he]
theorem rtarg_lit (i : Ins) (hi : i.ok) : zp_ Try.prog 145 [yo_ i] [.gone] (.tup [.int .i64 (targV i), .bool (targB i)]) [.gone] := by
 by_cases he : oneE i = 0 <;> by_cases h1 : i.op < 9 <;> by_cases h2 : 11 < i.op
 all_goals
  refine zf_ (fn := Try.f145) 1 19 0 rfl rfl rfl rfl rfl u10_ rfl fun w0 M E hro => ?_
  repeat' (first | refine Ctl.h ?_ | ((with_reducible intro hif); first | (focus (cases hif; done)) | ((try simp only [JH] at hif); try (exfalso; omega))) | ((with_reducible first | apply J22 cRG_ok za_ | apply J23 fol cRG_ok za_ | apply J24); (·rfl); (· (simp only [push_cast, ↓JP, Nat.reduceAdd, Nat.reduceEqDiff, Nat.reduceLT, Nat.reduceMul, Nat.reduceLeDiff, reduceCtorEq, reduceIte, ↓JK, evm_in1, cRG, sROne, he, h1, h2, inR, inN]; rfl)); (try kernel_rfl); (try (focus (first | exact True.intro | ((try simp only [JS, implies_true, forall_const, yc_, z6_, kndOf, inR, inN]); (first | assumption | (repeat' (first | assumption | exact True.intro | omega | apply And.intro))); done))))) | fail)
 all_goals
  apply At.endsRet za_ (fn := Try.f145) (rs := [.tmp 2, .tmp 3]) Anc.refl hro (lb_ rfl) rfl
  ·exact yq_
  ·exact k4_
  ·exact k5_
  ·rfl
  ·exact k6_
  ·exact k7_
  ·(intro β; first | (have e : targB i = false := (by first | exact targB_no he | (rw [targB_of he]; exact decide_eq_false (by omega))); simp only [resS, SV.den, denL, targV, e]; rfl) | (have e : targB i = true := (by rw [targB_of he]; exact decide_eq_true (by omega)); simp only [resS, SV.den, denL, targV, e]; rfl))
  ·exact k6_
def sRTarg : yp_ := fun args h m => match args with
 | [v1] => bif isIns v1 then some (((zt_ v1).ok), .tup [.int .i64 (targV (zt_ v1)), .bool (targB (zt_ v1))], [], []) else none
 | _ => none
theorem sRTarg_ok : zj_ Try.prog 145 sRTarg := by
 refine ⟨zi_ (by kernel_rfl), fun args h m c v rd wr hs hm hc w0 M β h' w R hrd hwr hst => ?_⟩
 unfold sRTarg at hs
 split at hs
 ·rename_i v1
  obtain ⟨hb, hs⟩ := zl_ hs
  simp only [Option.some.injEq, Prod.mk.injEq] at hs
  obtain ⟨rfl, rfl, rfl, rfl⟩ := hs
  have b1 := hb
  have y1 := hc
  refine yl_ (views := []) (rtarg_lit (zt_ v1) y1) ?_ R hm hwr ?_ ?_ ?_
  ·intro x hx; cases hx
  ·exact d40_
  ·exact k6_
  ·exact k6_
 ·cases hs
def cRCk : FuncId → Option yp_ := yy_ [(144, sROne), (145, sRTarg), (146, sRGoes)]
theorem cRCk_ok : ∀ f S, cRCk f = some S → zj_ Try.prog f S := zq_ ⟨sROne_ok, sRTarg_ok, sRGoes_ok, trivial⟩
theorem rcheck_lit (P : List Ins) (p1 : Nat) (hok : ∀ x ∈ P, x.ok) : zp_ Try.prog 112 [.sl 1 2 [] 5 0 P.length (some p1)] [.gone, .gone, .ro (.arr P.length 5 (prS P))] (.tup [.int .i64 (checkI P).1, .int .i64 (checkI P).2]) [.gone] := by
 have hgo : ∀ j, j < P.length → ∃ x, P.getD j ⟨0, 0, 0, 0, 0⟩ = x ∧ P[j]? = some x ∧ x.ok := fun j hj => ⟨P[j], by rw [List.getD_eq_getElem?_getD, List.getElem?_eq_getElem hj]; rfl, List.getElem?_eq_getElem hj, hok _ (List.getElem_mem _)⟩
 by_cases h0 : P.length = 0
 ·obtain rfl := List.eq_nil_of_length_eq_zero h0
  have e : checkI [] = (-1, 6) := rfl
  rw [e]
  refine zf_ (fn := Try.f112) 3 55 0 rfl rfl rfl rfl rfl u10_ rfl fun w0 M E hro => ?_
  repeat' (first | refine Ctl.h ?_ | ((with_reducible intro hif); first | (focus (cases hif; done)) | ((try simp only [JH] at hif); try (exfalso; omega))) | ((with_reducible first | apply J22 cRCk_ok za_ | apply J23 fol cRCk_ok za_ | apply J24); (·rfl); (· exact k92_); (try kernel_rfl); try exact xi_) | fail)
  apply At.endsRet za_ (fn := Try.f112) (rs := [.tmp 2, .tmp 3]) Anc.refl hro (lb_ rfl) rfl
  ·exact yq_
  ·exact k4_
  ·exact k5_
  ·rfl
  ·exact k6_
  ·exact k7_
  ·exact fun β => rfl
  ·exact k6_
 by_cases h256 : 256 < P.length
 ·have e : checkI P = (-1, 5) := by unfold checkI; rw [if_neg h0, if_pos h256]
  rw [e]
  refine zf_ (fn := Try.f112) 3 55 0 rfl rfl rfl rfl rfl u10_ rfl fun w0 M E hro => ?_
  repeat' (first | refine Ctl.h ?_ | ((with_reducible intro hif); first | (focus (cases hif; done)) | ((try simp only [JH] at hif); try (exfalso; omega))) | ((with_reducible first | apply J22 cRCk_ok za_ | apply J23 fol cRCk_ok za_ | apply J24); (·rfl); (· exact k93_); (try kernel_rfl); try exact xi_) | fail)
  apply At.endsRet za_ (fn := Try.f112) (rs := [.tmp 2, .tmp 3]) Anc.refl hro (lb_ rfl) rfl
  ·exact yq_
  ·exact k4_
  ·exact k5_
  ·rfl
  ·exact k6_
  ·exact k7_
  ·exact fun β => rfl
  ·exact k6_
 have eC : checkI P = checkK P := by unfold checkI; rw [if_neg h0, if_neg h256]
 rw [eC]
 refine zf_ (fn := Try.f112) 3 55 0 rfl rfl rfl rfl rfl u10_ rfl fun w0 M E hro => ?_
 repeat' (first | refine Ctl.h ?_ | ((with_reducible intro hif); first | (focus (cases hif; done)) | ((try simp only [JH] at hif); try (exfalso; omega))) | ((with_reducible first | apply J22 cRCk_ok za_ | apply J23 fol cRCk_ok za_ | apply J24); (·rfl); (· exact k93_); (try kernel_rfl); try exact xi_) | fail)
 refine WF.loopAt (fun (k : Nat) => k ≤ P.length ∧ ∀ i, i < k → ∀ y, P[i]? = some y → badAt P.length y = 0) (fun (k : Nat) => [(0, .sl 1 2 [] 5 0 P.length (some p1)), (4, .nat .i64 k)]) (fun (k : Nat) => [.gone, .gone, .ro (.arr P.length 5 (prS P))]) (fun (k : Nat) => P.length - k) 0 ⟨Nat.zero_le _, fun i hi => absurd hi (Nat.not_lt_zero i)⟩ ?_ ?_ rfl ?_ ?_ rfl ?_
 ·exact k8_
 ·exact k5_
 ·exact k6_
 ·exact k6_
 rintro k ⟨hk, hB⟩
 by_cases hkl : k < P.length
 ·obtain ⟨x, hx, hx2, hxo⟩ := hgo k hkl
  by_cases he : oneE x = 0
  ·by_cases ht : targB x = true
   ·by_cases hv : (P.length : Int) ≤ targV x
    ·have eb : badAt P.length x = 142 := by unfold badAt; rw [if_neg (fun h => h he), if_pos ⟨ht, hv⟩]
     have e := checkK_bad hB hx2 eb (by decide)
     rw [e]
     repeat' (first | refine Ctl.h ?_ | ((with_reducible intro hif); first | (focus (cases hif; done)) | ((try simp only [JH] at hif); try (exfalso; omega))) | ((with_reducible first | apply J22 cRCk_ok za_ | apply J23 fol cRCk_ok za_ | apply J24); (·rfl); (· exact k95_); (try kernel_rfl); try exact k94_) | fail)
     apply At.endsRet za_ (fn := Try.f112) (rs := [.tmp 2, .tmp 3]) Anc.refl hro (lb_ rfl) rfl
     ·exact yq_
     ·exact k4_
     ·exact k5_
     ·rfl
     ·exact k6_
     ·exact k7_
     ·exact fun β => rfl
     ·exact k6_
    ·have eb : badAt P.length x = 0 := by unfold badAt; rw [if_neg (fun h => h he), if_neg (fun h => hv h.2)]
     repeat' (first | refine Ctl.h ?_ | ((with_reducible intro hif); first | (focus (cases hif; done)) | ((try simp only [JH] at hif); try (exfalso; omega))) | ((with_reducible first | apply J22 cRCk_ok za_ | apply J23 fol cRCk_ok za_ | apply J24); (·rfl); (· exact k95_); (try kernel_rfl); try exact k94_) | fail)
     refine At.next (k + 1) ?_ ?_ ?_ rfl ?_ ?_ rfl
     ·exact k90_
     ·exact k8_
     ·exact k5_
     ·exact k6_
     ·exact k6_
   ·have eb : badAt P.length x = 0 := by unfold badAt; rw [if_neg (fun h => h he), if_neg (fun h => ht h.1)]
    repeat' (first | refine Ctl.h ?_ | ((with_reducible intro hif); first | (focus (cases hif; done)) | ((try simp only [JH] at hif); try (exfalso; omega))) | ((with_reducible first | apply J22 cRCk_ok za_ | apply J23 fol cRCk_ok za_ | apply J24); (·rfl); (· (simp only [push_cast, ↓JP, Nat.reduceAdd, Nat.reduceEqDiff, Nat.reduceLT, Nat.reduceMul, Nat.reduceLeDiff, reduceCtorEq, reduceIte, ↓JK, evm_in1, cRCk, sROne, sRTarg, sRGoes, hkl, hx, he, ht, inR, inN]; rfl)); (try kernel_rfl); try exact k94_) | fail)
    refine At.next (k + 1) ?_ ?_ ?_ rfl ?_ ?_ rfl
    ·exact k90_
    ·exact k8_
    ·exact k5_
    ·exact k6_
    ·exact k6_
  ·have eb : badAt P.length x = oneE x := if_pos he
   have e := checkK_bad hB hx2 eb he
   rw [e]
   repeat' (first | refine Ctl.h ?_ | ((with_reducible intro hif); first | (focus (cases hif; done)) | ((try simp only [JH] at hif); try (exfalso; omega))) | ((with_reducible first | apply J22 cRCk_ok za_ | apply J23 fol cRCk_ok za_ | apply J24); (·rfl); (· (simp only [push_cast, ↓JP, Nat.reduceAdd, Nat.reduceEqDiff, Nat.reduceLT, Nat.reduceMul, Nat.reduceLeDiff, reduceCtorEq, reduceIte, ↓JK, evm_in1, cRCk, sROne, sRTarg, sRGoes, hkl, hx, he, inR, inN]; rfl)); (try kernel_rfl); try exact k94_) | fail)
   apply At.endsRet za_ (fn := Try.f112) (rs := [.tmp 2, .tmp 3]) Anc.refl hro (lb_ rfl) rfl
   ·exact yq_
   ·exact k4_
   ·exact k5_
   ·rfl
   ·exact k6_
   ·exact k7_
   ·exact fun β => rfl
   ·exact k6_
 ·obtain rfl : k = P.length := by omega
  have e := checkK_none (p := P) (fun i hi y hy => hB i hi y hy)
  obtain ⟨x, hx, hx2, hxo⟩ := hgo (P.length - 1) (by omega)
  rw [e, hx]
  have hlm : ((P.length : Int) - 1).toNat = P.length - 1 := by omega
  by_cases hg : goesB x = true
  ·rw [if_pos hg]
   repeat' (first | refine Ctl.h ?_ | ((with_reducible intro hif); first | (focus (cases hif; done)) | ((try simp only [JH] at hif); try (exfalso; omega))) | ((with_reducible first | apply J22 cRCk_ok za_ | apply J23 fol cRCk_ok za_ | apply J24); (·rfl); (· exact k96_); (try kernel_rfl); try exact k94_) | fail)
   apply At.endsRet za_ (fn := Try.f112) (rs := [.tmp 2, .tmp 3]) Anc.refl hro (lb_ rfl) rfl
   ·exact yq_
   ·exact k4_
   ·exact k5_
   ·rfl
   ·exact k6_
   ·exact k7_
   ·exact fun β => rfl
   ·exact k6_
  ·rw [if_neg hg]
   repeat' (first | refine Ctl.h ?_ | ((with_reducible intro hif); first | (focus (cases hif; done)) | ((try simp only [JH] at hif); try (exfalso; omega))) | ((with_reducible first | apply J22 cRCk_ok za_ | apply J23 fol cRCk_ok za_ | apply J24); (·rfl); (· exact k96_); (try kernel_rfl); try exact k94_) | fail)
   apply At.endsRet za_ (fn := Try.f112) (rs := [.tmp 2, .tmp 3]) Anc.refl hro (lb_ rfl) rfl
   ·exact yq_
   ·exact k4_
   ·exact k5_
   ·rfl
   ·exact k6_
   ·exact k7_
   ·exact fun β => rfl
   ·exact k6_
def sRCheck : yp_ := fun args h m => match args with
 | [v1] => match y6_ h 5 (.tup []) v1 with
  | some (c1, n1, f1, r1) => some (c1 ∧ (∀ q, q < n1 → isIns (f1 q) = true) ∧ ((∀ x ∈ (ls zt_ n1 f1), x.ok)), .tup [.int .i64 (checkI (ls zt_ n1 f1)).1, .int .i64 (checkI (ls zt_ n1 f1)).2], r1, [])
  | _ => none
 | _ => none
theorem sRCheck_ok : zj_ Try.prog 112 sRCheck := by
 refine ⟨zi_ (by kernel_rfl), fun args h m c v rd wr hs hm hc w0 M β h' w R hrd hwr hst => ?_⟩
 unfold sRCheck at hs
 split at hs
 ·rename_i v1
  split at hs
  ·rename_i c1 n1 f1 r1 a1
   simp only [Option.some.injEq, Prod.mk.injEq] at hs
   obtain ⟨rfl, rfl, rfl, rfl⟩ := hs
   obtain ⟨k1, g1, y1⟩ := hc
   obtain ⟨A1, p1, d1, e1, t1⟩ := zg_ R a1 k1 (fun i hi => hrd i hi) (by omega)
   refine yl_ (views := [⟨5, (ls zt_ n1 f1).length, prS (ls zt_ n1 f1), A1, p1⟩]) (rcheck_lit (ls zt_ n1 f1) p1 y1) ?_ R hm hwr ?_ ?_ ?_
   ·intro x hx
    simp only [List.mem_cons, List.not_mem_nil, or_false] at hx
    subst hx
    ·exact viewIns t1 e1 g1
   ·exact d30_
   ·exact k6_
   ·exact k6_
  ·cases hs
 ·cases hs
def regsB (r q : Nat → Int) : Bool := r 0 == q 0 && (r 1 == q 1 && (r 2 == q 2 && (r 3 == q 3 && (r 4 == q 4 && (r 5 == q 5 && (r 6 == q 6 && r 7 == q 7))))))
def sameB (a b : Sta) : Bool := a.at_ == b.at_ && (a.ended == b.ended && (regsB a.regs b.regs && (a.cells == b.cells && (a.draws == b.draws && decide (a.sends = b.sends)))))
def cR18 : FuncId → Option yp_ := yy_ []
theorem cR18_ok : ∀ f S, cR18 f = some S → zj_ Try.prog f S := fun f S h => by cases h
theorem regsB_iff {f g : Nat → Int} : regsB f g = true ↔ f 0 = g 0 ∧ f 1 = g 1 ∧ f 2 = g 2 ∧ f 3 = g 3 ∧ f 4 = g 4 ∧ f 5 = g 5 ∧ f 6 = g 6 ∧ f 7 = g 7 := by
 unfold regsB
 simp
theorem rsame_lit (s t : Sta) (p1 p2 p3 p4 : Nat) (hm : s.cells.length ≤ 1000000) (hn : s.sends.length ≤ 1000000) : zp_ Try.prog 68
    [.agg [.int .i64 s.at_, .bool s.ended, .arr 8 1 (fun q => .int .i64 (s.regs q)), .sl 1 2 [] 1 0 s.cells.length (some p1), .int .i64 s.draws, .sl 3 4 [] 3 0 s.sends.length (some p2)],
     .agg [.int .i64 t.at_, .bool t.ended, .arr 8 1 (fun q => .int .i64 (t.regs q)), .sl 5 6 [] 1 0 t.cells.length (some p3), .int .i64 t.draws, .sl 7 8 [] 3 0 t.sends.length (some p4)]]
    [.gone, .gone, .ro (.arr s.cells.length 1 (zo_ s.cells)), .gone, .ro (.arr s.sends.length 3 (zm_ s.sends)), .gone, .ro (.arr t.cells.length 1 (zo_ t.cells)), .gone, .ro (.arr t.sends.length 3 (zm_ t.sends))] (.bool (sameB s t)) [.gone] := by
  refine zf_ (fn := Try.f68) 9 87 0 rfl rfl rfl rfl rfl u2_ rfl fun w0 M E hro => ?_
  obtain ⟨a, e, r, c, d, x⟩ := s
  obtain ⟨a', e', r', c', d', x'⟩ := t
  dsimp only at hm hn hro ⊢
  by_cases H : a = a' ∧ e = e' ∧ regsB r r' = true ∧ d = d' ∧ c.length = c'.length ∧ x.length = x'.length
  · obtain ⟨h1, h2, h3, h4, h5, h6⟩ := H
    obtain ⟨r0, r1, r2, r3, r4, r5, r6, r7⟩ := regsB_iff.1 h3
    subst h1 h2 h4
    rw [h5, h6] at hro
    have hsame : ∀ b, (b = true ↔ c = c' ∧ x = x') → b = sameB ⟨a, e, r, c, d, x⟩ ⟨a, e, r', c', d, x'⟩ := fun b hb => by
      rw [Bool.eq_iff_iff, hb]
      simp [sameB, h3]
    repeat' (first | refine Ctl.h ?_ | ((with_reducible intro hif); first | (focus (cases hif; done)) | ((try simp only [JH] at hif); try (exfalso; omega))) | ((with_reducible first | apply J22 cR18_ok za_ | apply J23 fol cR18_ok za_ | apply J24); (·rfl); (· (simp only [push_cast, ↓JP, Nat.reduceAdd, Nat.reduceEqDiff, Nat.reduceLT, Nat.reduceMul, Nat.reduceLeDiff, reduceCtorEq, reduceIte, ↓JK, h5, h6, r0, r1, r2, r3, r4, r5, r6, r7, eq_self]; rfl)); (try kernel_rfl); try exact xi_) | fail)
    refine WF.loopAt (fun j => j ≤ c'.length ∧ ∀ q, q < j → c.getD q 0 = c'.getD q 0) (fun j => [(2, .ptr 9 []), (3, .ptr 10 []), (5, .nat .i64 j)]) (fun j => [.gone, .gone, .ro (.arr c'.length 1 (zo_ c)), .gone, .ro (.arr x'.length 3 (zm_ x)), .gone, .ro (.arr c'.length 1 (zo_ c')), .gone, .ro (.arr x'.length 3 (zm_ x')), .own 135 (.agg [.int .i64 a, .bool e, .arr 8 1 (fun q => .int .i64 (r q)), .sl 1 2 [] 1 0 c'.length (some p1), .int .i64 d, .sl 3 4 [] 3 0 x'.length (some p2)]) true, .own 135 (.agg [.int .i64 a, .bool e, .arr 8 1 (fun q => .int .i64 (r' q)), .sl 5 6 [] 1 0 c'.length (some p3), .int .i64 d, .sl 7 8 [] 3 0 x'.length (some p4)]) true]) (fun j => c'.length - j) 0 ⟨Nat.zero_le _, fun q hq => absurd hq (Nat.not_lt_zero q)⟩ ?_ ?_ rfl ?_ ?_ rfl ?_
    · exact k8_
    · exact k5_
    · exact k6_
    · exact k6_
    rintro j ⟨hj, heq⟩
    repeat' (first | refine Ctl.h ?_ | ((with_reducible intro hif); first | (focus (cases hif; done)) | ((try simp only [JH] at hif); try (exfalso; omega))) | ((with_reducible first | apply J22 cR18_ok za_ | apply J23 fol cR18_ok za_ | apply J24); (·rfl); (· (simp only [push_cast, ↓JP, Nat.reduceAdd, Nat.reduceEqDiff, Nat.reduceLT, Nat.reduceMul, Nat.reduceLeDiff, reduceCtorEq, reduceIte, ↓JK, h5, h6, r0, r1, r2, r3, r4, r5, r6, r7, eq_self, inN]; rfl)); (try kernel_rfl); try exact k17_) | fail)
    · have hne : c ≠ c' := fun e => hif (by rw [e])
      apply At.endsRet za_ (fn := Try.f68) (rs := [.tmp 4]) Anc.refl hro (lb_ rfl) rfl
      · exact yq_
      · exact k4_
      · exact k5_
      · rfl
      · exact k6_
      · exact k7_
      · rw [← hsame false (by simp [hne])]; exact fun β => rfl
      · exact k6_
    · have hjl : j < c'.length := by assumption
      refine At.next (j + 1) ?_ ?_ ?_ rfl ?_ ?_ rfl
      · refine ⟨⟨by omega, fun q hq' => ?_⟩, by omega⟩; by_cases e : q = j; (rw [e]; exact hif); exact heq q (by omega)
      · exact k8_
      · exact k5_
      · exact k6_
      · exact k6_
    · have hjn : j = c'.length := by omega
      have hcc : c = c' := ext_getD 0 h5 (fun q hq => heq q (by omega))
      refine WF.loopAt (fun k => k ≤ x'.length ∧ ∀ q, q < k → x.getD q ⟨0, 0, 0⟩ = x'.getD q ⟨0, 0, 0⟩) (fun k => [(2, .ptr 9 []), (3, .ptr 10 []), (6, .nat .i64 k)]) (fun k => [.gone, .gone, .ro (.arr c'.length 1 (zo_ c)), .gone, .ro (.arr x'.length 3 (zm_ x)), .gone, .ro (.arr c'.length 1 (zo_ c')), .gone, .ro (.arr x'.length 3 (zm_ x')), .own 135 (.agg [.int .i64 a, .bool e, .arr 8 1 (fun q => .int .i64 (r q)), .sl 1 2 [] 1 0 c'.length (some p1), .int .i64 d, .sl 3 4 [] 3 0 x'.length (some p2)]) true, .own 135 (.agg [.int .i64 a, .bool e, .arr 8 1 (fun q => .int .i64 (r' q)), .sl 5 6 [] 1 0 c'.length (some p3), .int .i64 d, .sl 7 8 [] 3 0 x'.length (some p4)]) true]) (fun k => x'.length - k) 0 ⟨Nat.zero_le _, fun q hq => absurd hq (Nat.not_lt_zero q)⟩ ?_ ?_ rfl ?_ ?_ rfl ?_
      · exact k8_
      · exact k5_
      · exact k6_
      · exact k6_
      rintro k ⟨hk, hxq⟩
      repeat' (first | refine Ctl.h ?_ | ((with_reducible intro hif); first | (focus (cases hif; done)) | ((try simp only [JH] at hif); try (exfalso; omega))) | ((with_reducible first | apply J22 cR18_ok za_ | apply J23 fol cR18_ok za_ | apply J24); (·rfl); (· (simp only [push_cast, ↓JP, Nat.reduceAdd, Nat.reduceEqDiff, Nat.reduceLT, Nat.reduceMul, Nat.reduceLeDiff, reduceCtorEq, reduceIte, ↓JK, h5, h6, r0, r1, r2, r3, r4, r5, r6, r7, eq_self, inN, sndS]; rfl)); (try kernel_rfl); try exact k17_) | fail)
      · have hne : x ≠ x' := by
          rintro rfl
          simp at hif
        apply At.endsRet za_ (fn := Try.f68) (rs := [.tmp 4]) Anc.refl hro (lb_ rfl) rfl
        · exact yq_
        · exact k4_
        · exact k5_
        · rfl
        · exact k6_
        · exact k7_
        · rw [← hsame false (by simp [hne])]; exact fun β => rfl
        · exact k6_
      · have hq : x.getD k ⟨0, 0, 0⟩ = x'.getD k ⟨0, 0, 0⟩ := snd_ext (of_decide_eq_true hif.1) (of_decide_eq_true hif.2.1) (of_decide_eq_true hif.2.2)
        have hkl : k < x'.length := by assumption
        refine At.next (k + 1) ?_ ?_ ?_ rfl ?_ ?_ rfl
        · refine ⟨⟨by omega, fun q hq' => ?_⟩, by omega⟩; by_cases e : q = k; (rw [e]; exact hq); exact hxq q (by omega)
        · exact k8_
        · exact k5_
        · exact k6_
        · exact k6_
      · have hkn : k = x'.length := by omega
        have hxx : x = x' := ext_getD ⟨0, 0, 0⟩ h6 (fun q hq => hxq q (by omega))
        apply At.endsRet za_ (fn := Try.f68) (rs := [.tmp 4]) Anc.refl hro (lb_ rfl) rfl
        · exact yq_
        · exact k4_
        · exact k5_
        · rfl
        · exact k6_
        · exact k7_
        · rw [← hsame true (by simp [hcc, hxx])]; exact fun β => rfl
        · exact k6_
  · have hF : sameB ⟨a, e, r, c, d, x⟩ ⟨a', e', r', c', d', x'⟩ = false := by
      rw [Bool.eq_false_iff]
      intro hs
      simp only [sameB, Bool.and_eq_true, beq_iff_eq, decide_eq_true_eq] at hs
      obtain ⟨q1, q2, q3, q4, q5, q6⟩ := hs
      exact H ⟨q1, q2, q3, q5, by rw [q4], by rw [q6]⟩
    rw [hF]
    repeat' (first | refine Ctl.h ?_ | ((with_reducible intro hif); first | (focus (cases hif; done)) | ((try simp only [JH] at hif); try (exfalso; omega))) | ((with_reducible first | apply J22 cR18_ok za_ | apply J23 fol cR18_ok za_ | apply J24); (·rfl); (· (simp only [push_cast, ↓JP, Nat.reduceAdd, Nat.reduceEqDiff, Nat.reduceLT, Nat.reduceMul, Nat.reduceLeDiff, reduceCtorEq, reduceIte, ↓JK, eq_self]; rfl)); (try kernel_rfl); try exact xi_) | fail)
    · apply At.endsRet za_ (fn := Try.f68) (rs := [.tmp 4]) Anc.refl hro (lb_ rfl) rfl
      · exact yq_
      · exact k4_
      · exact k5_
      · rfl
      · exact k6_
      · exact k7_
      · exact fun β => rfl
      · exact k6_
    · exfalso
      apply H
      have e0 := hif
      simp only [Bool.or_eq_false_iff, Bool.not_eq_false', decide_eq_true_eq, Bool.and_eq_true] at e0
      obtain ⟨⟨⟨⟨⟨q1, q2⟩, ⟨⟨⟨⟨⟨⟨⟨u0, u1⟩, u2⟩, u3⟩, u4⟩, u5⟩, u6⟩, u7⟩⟩, q4⟩, q5⟩, q6⟩ := e0
      exact ⟨q1, eq_of_beq q2, regsB_iff.2 ⟨of_decide_eq_true u0, of_decide_eq_true u1, of_decide_eq_true u2, of_decide_eq_true u3, of_decide_eq_true u4, of_decide_eq_true u5, of_decide_eq_true u6, of_decide_eq_true u7⟩, q4, q5, q6⟩
def sRSame : yp_ := fun args h m => match args with
 | [.agg [v1, .bool v2, .arr 8 1 v3, v4, v5, v6], .agg [v7, .bool v8, .arr 8 1 v9, v10, v11, v12]] => match y6_ h 1 (.tup []) v4, y6_ h 3 (.tup []) v6, y6_ h 1 (.tup []) v10, y6_ h 3 (.tup []) v12 with
  | some (c4, n4, f4, r4), some (c6, n6, f6, r6), some (c10, n10, f10, r10), some (c12, n12, f12, r12) => bif isI .i64 v1 && isI .i64 v5 && isI .i64 v7 && isI .i64 v11 then some (c4 ∧ c6 ∧ c10 ∧ c12 ∧ (∀ q, q < n4 → isI .i64 (f4 q) = true) ∧ (∀ q, q < n6 → isSnd (f6 q) = true) ∧ (∀ q, q < n10 → isI .i64 (f10 q) = true) ∧ (∀ q, q < n12 → isSnd (f12 q) = true) ∧ (∀ q, q < 8 → isI .i64 (v3 q) = true) ∧ (∀ q, q < 8 → isI .i64 (v9 q) = true) ∧ (n4 ≤ 1000000) ∧ (n6 ≤ 1000000), .bool (sameB ⟨(iOf v1), v2, (fun q => iOf (v3 q)), (ls iOf n4 f4), (iOf v5), (ls zn_ n6 f6)⟩ ⟨(iOf v7), v8, (fun q => iOf (v9 q)), (ls iOf n10 f10), (iOf v11), (ls zn_ n12 f12)⟩), r4 ++ r6 ++ r10 ++ r12, []) else none
  | _, _, _, _ => none
 | _ => none
theorem sRSame_ok : zj_ Try.prog 68 sRSame := by
 refine ⟨zi_ (by kernel_rfl), fun args h m c v rd wr hs hm hc w0 M β h' w R hrd hwr hst => ?_⟩
 unfold sRSame at hs
 split at hs
 ·rename_i v1 v2 v3 v4 v5 v6 v7 v8 v9 v10 v11 v12
  split at hs
  ·rename_i c4 n4 f4 r4 c6 n6 f6 r6 c10 n10 f10 r10 c12 n12 f12 r12 a4 a6 a10 a12
   obtain ⟨hb, hs⟩ := zl_ hs
   simp only [Option.some.injEq, Prod.mk.injEq] at hs
   obtain ⟨rfl, rfl, rfl, rfl⟩ := hs
   simp only [Bool.and_eq_true] at hb
   obtain ⟨⟨⟨b1, b5⟩, b7⟩, b11⟩ := hb
   obtain ⟨k4, k6, k10, k12, g4, g6, g10, g12, g3, g9, y1, y2⟩ := hc
   obtain ⟨A4, p4, d4, e4, t4⟩ := zg_ R a4 k4 (fun i hi => hrd i (List.mem_append_left _ (List.mem_append_left _ (List.mem_append_left _ hi)))) (by omega)
   obtain ⟨A6, p6, d6, e6, t6⟩ := zg_ R a6 k6 (fun i hi => hrd i (List.mem_append_left _ (List.mem_append_left _ (List.mem_append_right _ hi)))) (by omega)
   obtain ⟨A10, p10, d10, e10, t10⟩ := zg_ R a10 k10 (fun i hi => hrd i (List.mem_append_left _ (List.mem_append_right _ hi))) (by omega)
   obtain ⟨A12, p12, d12, e12, t12⟩ := zg_ R a12 k12 (fun i hi => hrd i (List.mem_append_right _ hi)) (by omega)
   refine yl_ (views := [⟨1, (ls iOf n4 f4).length, zo_ (ls iOf n4 f4), A4, p4⟩, ⟨3, (ls zn_ n6 f6).length, zm_ (ls zn_ n6 f6), A6, p6⟩, ⟨1, (ls iOf n10 f10).length, zo_ (ls iOf n10 f10), A10, p10⟩, ⟨3, (ls zn_ n12 f12).length, zm_ (ls zn_ n12 f12), A12, p12⟩]) (rsame_lit ⟨(iOf v1), v2, (fun q => iOf (v3 q)), (ls iOf n4 f4), (iOf v5), (ls zn_ n6 f6)⟩ ⟨(iOf v7), v8, (fun q => iOf (v9 q)), (ls iOf n10 f10), (iOf v11), (ls zn_ n12 f12)⟩ p4 p6 p10 p12 (by rw [zc_]; exact y1) (by rw [zc_]; exact y2)) ?_ R hm hwr ?_ ?_ ?_
   ·exact d41_
   ·intro β1 hv
    simp only [Vd, zc_, and_true] at hv
    obtain ⟨z4, z6, z10, z12⟩ := hv
    simp only [denL, z4_, z3_, yd_, zs_, zc_, z4, z6, z10, z12, d4, d6, d10, d12, zd_ b1, zd_ b5, zd_ b7, zd_ b11, ← r8Den (β := β) (β1 := β1) g3, ← r8Den (β := β) (β1 := β1) g9]
   ·exact k6_
   ·exact k6_
  ·cases hs
 ·cases hs
end Go.Proofs.Ytmljmabbopkpiaa.Vm
end
end
section
namespace Go.Proofs.Ytmljmabbopkpiaa.Vm
open Go.RowKit
theorem den_sr {β β' : Env} {s : Sta} {x y x' y' : SV} {e : Int} (hx : x.den β = x'.den β') (hy : y.den β = y'.den β') : (SV.tup [sr s x y, .int .i64 e]).den β = (SV.tup [sr s x' y', .int .i64 e]).den β' := by
 simp only [sr, SV.den, denL, hx, hy]
theorem stable_sr {h : HM} {s : Sta} {x y : SV} {e : Int} (hx : zb_ h x) (hy : zb_ h y) : zb_ h (.tup [sr s x y, .int .i64 e]) := by
 simp only [sr, zb_, ze_, hx, hy, and_self, implies_true]
def sROneE : yp_ := fun args h m => match args with
 | [.agg [v1, v2, v3, v4, v5], .agg [v6, v7, v8, v9, v10], .agg [v11, .bool v12, .arr 8 1 v13, v14, v15, v16]] => match y6_ h 1 (.tup []) v14, y6_ h 3 (.tup []) v16 with
  | some (c14, n14, f14, r14), some (c16, n16, f16, r16) => bif isI .u8 v1 && isI .u8 v2 && isI .u8 v3 && isI .u8 v4 && isI .i64 v5 && isI .u64 v6 && isI .i64 v7 && isI .i64 v8 && isI .i64 v9 && isI .i64 v10 && isI .i64 v11 && isI .i64 v15 then some (c14 ∧ c16 ∧ (∀ q, q < n14 → isI .i64 (f14 q) = true) ∧ (∀ q, q < n16 → isSnd (f16 q) = true) ∧ (∀ q, q < 8 → isI .i64 (v13 q) = true) ∧ (OOk ⟨(iOf v11), v12, (fun q => iOf (v13 q)), (ls iOf n14 f14), (iOf v15), (ls zn_ n16 f16)⟩ ⟨(iOf v6), (iOf v7), (iOf v8), (iOf v9), (iOf v10)⟩ ⟨(iOf v1), (iOf v2), (iOf v3), (iOf v4), (iOf v5)⟩) ∧ (doE ⟨(iOf v11), v12, (fun q => iOf (v13 q)), (ls iOf n14 f14), (iOf v15), (ls zn_ n16 f16)⟩ ⟨(iOf v6), (iOf v7), (iOf v8), (iOf v9), (iOf v10)⟩ ⟨(iOf v1), (iOf v2), (iOf v3), (iOf v4), (iOf v5)⟩ ≠ 0), .tup [ym_, .int .i64 (doE ⟨(iOf v11), v12, (fun q => iOf (v13 q)), (ls iOf n14 f14), (iOf v15), (ls zn_ n16 f16)⟩ ⟨(iOf v6), (iOf v7), (iOf v8), (iOf v9), (iOf v10)⟩ ⟨(iOf v1), (iOf v2), (iOf v3), (iOf v4), (iOf v5)⟩)], r14 ++ r16, []) else none
  | _, _ => none
 | _ => none
theorem sROneE_ok : zj_ Try.prog 107 sROneE := by
 refine ⟨zi_ (by kernel_rfl), fun args h m c v rd wr hs hm hc w0 M β h' w R hrd hwr hst => ?_⟩
 unfold sROneE at hs
 split at hs
 ·rename_i v1 v2 v3 v4 v5 v6 v7 v8 v9 v10 v11 v12 v13 v14 v15 v16
  split at hs
  ·rename_i c14 n14 f14 r14 c16 n16 f16 r16 a14 a16
   obtain ⟨hb, hs⟩ := zl_ hs
   simp only [Option.some.injEq, Prod.mk.injEq] at hs
   obtain ⟨rfl, rfl, rfl, rfl⟩ := hs
   simp only [Bool.and_eq_true] at hb
   obtain ⟨⟨⟨⟨⟨⟨⟨⟨⟨⟨⟨b1, b2⟩, b3⟩, b4⟩, b5⟩, b6⟩, b7⟩, b8⟩, b9⟩, b10⟩, b11⟩, b15⟩ := hb
   obtain ⟨k14, k16, g14, g16, g13, y1, y2⟩ := hc
   obtain ⟨A14, p14, d14, e14, t14⟩ := zg_ R a14 k14 (fun i hi => hrd i (List.mem_append_left _ hi)) (by omega)
   obtain ⟨A16, p16, d16, e16, t16⟩ := zg_ R a16 k16 (fun i hi => hrd i (List.mem_append_right _ hi)) (by omega)
   refine yl_ (views := [⟨1, (ls iOf n14 f14).length, zo_ (ls iOf n14 f14), A14, p14⟩, ⟨3, (ls zn_ n16 f16).length, zm_ (ls zn_ n16 f16), A16, p16⟩]) (oneE_lit ⟨(iOf v11), v12, (fun q => iOf (v13 q)), (ls iOf n14 f14), (iOf v15), (ls zn_ n16 f16)⟩ ⟨(iOf v6), (iOf v7), (iOf v8), (iOf v9), (iOf v10)⟩ ⟨(iOf v1), (iOf v2), (iOf v3), (iOf v4), (iOf v5)⟩ p14 p16 y1 y2) ?_ R hm hwr ?_ ?_ ?_
   ·exact d42_
   ·exact d43_
   ·exact k91_
   ·exact k91_
  ·cases hs
 ·cases hs
def sROneX : yp_ := fun args h m => match args with
 | [.agg [v1, v2, v3, v4, v5], .agg [v6, v7, v8, v9, v10], .agg [v11, .bool v12, .arr 8 1 v13, v14, v15, v16]] => match y6_ h 1 (.tup []) v14, y6_ h 3 (.tup []) v16 with
  | some (c14, n14, f14, r14), some (c16, n16, f16, r16) => bif isI .u8 v1 && isI .u8 v2 && isI .u8 v3 && isI .u8 v4 && isI .i64 v5 && isI .u64 v6 && isI .i64 v7 && isI .i64 v8 && isI .i64 v9 && isI .i64 v10 && isI .i64 v11 && isI .i64 v15 then some (c14 ∧ c16 ∧ (∀ q, q < n14 → isI .i64 (f14 q) = true) ∧ (∀ q, q < n16 → isSnd (f16 q) = true) ∧ (∀ q, q < 8 → isI .i64 (v13 q) = true) ∧ (OOk ⟨iOf v11, v12, fun q => iOf (v13 q), ls iOf n14 f14, iOf v15, ls zn_ n16 f16⟩ ⟨iOf v6, iOf v7, iOf v8, iOf v9, iOf v10⟩ ⟨iOf v1, iOf v2, iOf v3, iOf v4, iOf v5⟩) ∧ (doE ⟨iOf v11, v12, fun q => iOf (v13 q), ls iOf n14 f14, iOf v15, ls zn_ n16 f16⟩ ⟨iOf v6, iOf v7, iOf v8, iOf v9, iOf v10⟩ ⟨iOf v1, iOf v2, iOf v3, iOf v4, iOf v5⟩ = 0) ∧ (iOf v1 ≠ 6) ∧ (iOf v1 ≠ 8), .tup [sr (doS ⟨iOf v11, v12, fun q => iOf (v13 q), ls iOf n14 f14, iOf v15, ls zn_ n16 f16⟩ ⟨iOf v6, iOf v7, iOf v8, iOf v9, iOf v10⟩ ⟨iOf v1, iOf v2, iOf v3, iOf v4, iOf v5⟩) v14 v16, .int .i64 0], r14 ++ r16, []) else none
  | _, _ => none
 | _ => none
theorem sROneX_ok : zj_ Try.prog 107 sROneX := by
 refine ⟨zi_ (by kernel_rfl), fun args h m c v rd wr hs hm hc w0 M β h' w R hrd hwr hst => ?_⟩
 unfold sROneX at hs
 split at hs
 ·rename_i v1 v2 v3 v4 v5 v6 v7 v8 v9 v10 v11 v12 v13 v14 v15 v16
  split at hs
  ·rename_i c14 n14 f14 r14 c16 n16 f16 r16 a14 a16
   obtain ⟨hb, hs⟩ := zl_ hs
   simp only [Option.some.injEq, Prod.mk.injEq] at hs
   obtain ⟨rfl, rfl, rfl, rfl⟩ := hs
   simp only [Bool.and_eq_true] at hb
   obtain ⟨⟨⟨⟨⟨⟨⟨⟨⟨⟨⟨b1, b2⟩, b3⟩, b4⟩, b5⟩, b6⟩, b7⟩, b8⟩, b9⟩, b10⟩, b11⟩, b15⟩ := hb
   obtain ⟨k14, k16, g14, g16, g13, y1, y2, y3, y4⟩ := hc
   have s14 : zb_ h' v14 := by simp only [ze_, zb_] at hst; exact hst.2.2.1.2.2.2.1
   have s16 : zb_ h' v16 := by simp only [ze_, zb_] at hst; exact hst.2.2.1.2.2.2.2.2.1
   obtain ⟨A14, p14, d14, e14, t14⟩ := zg_ R a14 k14 (fun i hi => hrd i (List.mem_append_left _ hi)) (by omega)
   obtain ⟨A16, p16, d16, e16, t16⟩ := zg_ R a16 k16 (fun i hi => hrd i (List.mem_append_right _ hi)) (by omega)
   refine callRoV (v' := .nilp) (views := [⟨1, (ls iOf n14 f14).length, zo_ (ls iOf n14 f14), A14, p14⟩, ⟨3, (ls zn_ n16 f16).length, zm_ (ls zn_ n16 f16), A16, p16⟩]) (oneX_lit ⟨iOf v11, v12, fun q => iOf (v13 q), ls iOf n14 f14, iOf v15, ls zn_ n16 f16⟩ ⟨iOf v6, iOf v7, iOf v8, iOf v9, iOf v10⟩ ⟨iOf v1, iOf v2, iOf v3, iOf v4, iOf v5⟩ p14 p16 y1 y2 y3 y4) ?_ R hm hwr ?_ ?_ ?_ ?_ ?_
   ·exact d42_
   ·exact d43_
   ·exact k91_
   ·exact k91_
   ·intro h2 hb2 hp2
    exact stable_sr (s14.more hb2) (s16.more hb2)
   ·intro β2 β' hv he hbo
    simp only [Vd, zc_, and_true] at hv
    obtain ⟨z14, z16⟩ := hv
    have u14 := (zb_.den hbo s14).symm.trans d14
    have u16 := (zb_.den hbo s16).symm.trans d16
    refine den_sr (by rw [u14]; simp only [csl, zc_]; exact z14) (by rw [u16]; simp only [ssl, zc_]; exact z16)
  ·cases hs
 ·cases hs
def sROne6 : yp_ := fun args h m => match args with
 | [.agg [v1, v2, v3, v4, v5], .agg [v6, v7, v8, v9, v10], .agg [v11, .bool v12, .arr 8 1 v13, v14, v15, v16]] => match y6_ h 1 (.tup []) v14, y6_ h 3 (.tup []) v16 with
  | some (c14, n14, f14, r14), some (c16, n16, f16, r16) => bif isI .u8 v1 && isI .u8 v2 && isI .u8 v3 && isI .u8 v4 && isI .i64 v5 && isI .u64 v6 && isI .i64 v7 && isI .i64 v8 && isI .i64 v9 && isI .i64 v10 && isI .i64 v11 && isI .i64 v15 then some (c14 ∧ c16 ∧ (∀ q, q < n14 → isI .i64 (f14 q) = true) ∧ (∀ q, q < n16 → isSnd (f16 q) = true) ∧ (∀ q, q < 8 → isI .i64 (v13 q) = true) ∧ (OOk ⟨iOf v11, v12, fun q => iOf (v13 q), ls iOf n14 f14, iOf v15, ls zn_ n16 f16⟩ ⟨iOf v6, iOf v7, iOf v8, iOf v9, iOf v10⟩ ⟨iOf v1, iOf v2, iOf v3, iOf v4, iOf v5⟩) ∧ (doE ⟨iOf v11, v12, fun q => iOf (v13 q), ls iOf n14 f14, iOf v15, ls zn_ n16 f16⟩ ⟨iOf v6, iOf v7, iOf v8, iOf v9, iOf v10⟩ ⟨iOf v1, iOf v2, iOf v3, iOf v4, iOf v5⟩ = 0) ∧ (iOf v1 = 6), .tup [sr (doS ⟨iOf v11, v12, fun q => iOf (v13 q), ls iOf n14 f14, iOf v15, ls zn_ n16 f16⟩ ⟨iOf v6, iOf v7, iOf v8, iOf v9, iOf v10⟩ ⟨iOf v1, iOf v2, iOf v3, iOf v4, iOf v5⟩) (.sl m m [] 1 0 (ls iOf n14 f14).length none) v16, .int .i64 0], r14 ++ r16, [(m, .own 2 (.arr (ls iOf n14 f14).length 1 (zo_ (doS ⟨iOf v11, v12, fun q => iOf (v13 q), ls iOf n14 f14, iOf v15, ls zn_ n16 f16⟩ ⟨iOf v6, iOf v7, iOf v8, iOf v9, iOf v10⟩ ⟨iOf v1, iOf v2, iOf v3, iOf v4, iOf v5⟩).cells)) false)]) else none
  | _, _ => none
 | _ => none
theorem sROne6_ok : zj_ Try.prog 107 sROne6 := by
 refine ⟨zi_ (by kernel_rfl), fun args h m c v rd wr hs hm hc w0 M β h' w R hrd hwr hst => ?_⟩
 unfold sROne6 at hs
 split at hs
 ·rename_i v1 v2 v3 v4 v5 v6 v7 v8 v9 v10 v11 v12 v13 v14 v15 v16
  split at hs
  ·rename_i c14 n14 f14 r14 c16 n16 f16 r16 a14 a16
   obtain ⟨hb, hs⟩ := zl_ hs
   simp only [Option.some.injEq, Prod.mk.injEq] at hs
   obtain ⟨rfl, rfl, rfl, rfl⟩ := hs
   simp only [Bool.and_eq_true] at hb
   obtain ⟨⟨⟨⟨⟨⟨⟨⟨⟨⟨⟨b1, b2⟩, b3⟩, b4⟩, b5⟩, b6⟩, b7⟩, b8⟩, b9⟩, b10⟩, b11⟩, b15⟩ := hb
   obtain ⟨k14, k16, g14, g16, g13, y1, y2, y3⟩ := hc
   have s14 : zb_ h' v14 := by simp only [ze_, zb_] at hst; exact hst.2.2.1.2.2.2.1
   have s16 : zb_ h' v16 := by simp only [ze_, zb_] at hst; exact hst.2.2.1.2.2.2.2.2.1
   obtain ⟨A14, p14, d14, e14, t14⟩ := zg_ R a14 k14 (fun i hi => hrd i (List.mem_append_left _ hi)) (by omega)
   obtain ⟨A16, p16, d16, e16, t16⟩ := zg_ R a16 k16 (fun i hi => hrd i (List.mem_append_right _ hi)) (by omega)
   refine callRoV (v' := .sl 5 5 [] 1 0 (ls iOf n14 f14).length none) (views := [⟨1, (ls iOf n14 f14).length, zo_ (ls iOf n14 f14), A14, p14⟩, ⟨3, (ls zn_ n16 f16).length, zm_ (ls zn_ n16 f16), A16, p16⟩]) (one6_lit ⟨iOf v11, v12, fun q => iOf (v13 q), ls iOf n14 f14, iOf v15, ls zn_ n16 f16⟩ ⟨iOf v6, iOf v7, iOf v8, iOf v9, iOf v10⟩ ⟨iOf v1, iOf v2, iOf v3, iOf v4, iOf v5⟩ p14 p16 y1 y2 y3) ?_ R hm hwr ?_ ?_ ?_ ?_ ?_
   ·exact d42_
   ·exact d43_
   ·exact k91_
   ·exact k91_
   ·intro h2 hb2 hp2
    exact stable_sr hp2 (s16.more hb2)
   ·intro β2 β' hv he hbo
    simp only [Vd, zc_, and_true] at hv
    obtain ⟨z14, z16⟩ := hv
    have u14 := (zb_.den hbo s14).symm.trans d14
    have u16 := (zb_.den hbo s16).symm.trans d16
    refine den_sr he (by rw [u16]; simp only [ssl, zc_]; exact z16)
  ·cases hs
 ·cases hs
def sROne8 : yp_ := fun args h m => match args with
 | [.agg [v1, v2, v3, v4, v5], .agg [v6, v7, v8, v9, v10], .agg [v11, .bool v12, .arr 8 1 v13, v14, v15, v16]] => match y6_ h 1 (.tup []) v14, y6_ h 3 (.tup []) v16 with
  | some (c14, n14, f14, r14), some (c16, n16, f16, r16) => bif isI .u8 v1 && isI .u8 v2 && isI .u8 v3 && isI .u8 v4 && isI .i64 v5 && isI .u64 v6 && isI .i64 v7 && isI .i64 v8 && isI .i64 v9 && isI .i64 v10 && isI .i64 v11 && isI .i64 v15 then some (c14 ∧ c16 ∧ (∀ q, q < n14 → isI .i64 (f14 q) = true) ∧ (∀ q, q < n16 → isSnd (f16 q) = true) ∧ (∀ q, q < 8 → isI .i64 (v13 q) = true) ∧ (OOk ⟨iOf v11, v12, fun q => iOf (v13 q), ls iOf n14 f14, iOf v15, ls zn_ n16 f16⟩ ⟨iOf v6, iOf v7, iOf v8, iOf v9, iOf v10⟩ ⟨iOf v1, iOf v2, iOf v3, iOf v4, iOf v5⟩) ∧ (doE ⟨iOf v11, v12, fun q => iOf (v13 q), ls iOf n14 f14, iOf v15, ls zn_ n16 f16⟩ ⟨iOf v6, iOf v7, iOf v8, iOf v9, iOf v10⟩ ⟨iOf v1, iOf v2, iOf v3, iOf v4, iOf v5⟩ = 0) ∧ (iOf v1 = 8), .tup [sr (doS ⟨iOf v11, v12, fun q => iOf (v13 q), ls iOf n14 f14, iOf v15, ls zn_ n16 f16⟩ ⟨iOf v6, iOf v7, iOf v8, iOf v9, iOf v10⟩ ⟨iOf v1, iOf v2, iOf v3, iOf v4, iOf v5⟩) v14 (.sl m m [] 3 0 ((ls zn_ n16 f16).length + 1) none), .int .i64 0], r14 ++ r16, [(m, .own 200 (.arr ((ls zn_ n16 f16).length + 1) 3 (zm_ (doS ⟨iOf v11, v12, fun q => iOf (v13 q), ls iOf n14 f14, iOf v15, ls zn_ n16 f16⟩ ⟨iOf v6, iOf v7, iOf v8, iOf v9, iOf v10⟩ ⟨iOf v1, iOf v2, iOf v3, iOf v4, iOf v5⟩).sends)) false)]) else none
  | _, _ => none
 | _ => none
theorem sROne8_ok : zj_ Try.prog 107 sROne8 := by
 refine ⟨zi_ (by kernel_rfl), fun args h m c v rd wr hs hm hc w0 M β h' w R hrd hwr hst => ?_⟩
 unfold sROne8 at hs
 split at hs
 ·rename_i v1 v2 v3 v4 v5 v6 v7 v8 v9 v10 v11 v12 v13 v14 v15 v16
  split at hs
  ·rename_i c14 n14 f14 r14 c16 n16 f16 r16 a14 a16
   obtain ⟨hb, hs⟩ := zl_ hs
   simp only [Option.some.injEq, Prod.mk.injEq] at hs
   obtain ⟨rfl, rfl, rfl, rfl⟩ := hs
   simp only [Bool.and_eq_true] at hb
   obtain ⟨⟨⟨⟨⟨⟨⟨⟨⟨⟨⟨b1, b2⟩, b3⟩, b4⟩, b5⟩, b6⟩, b7⟩, b8⟩, b9⟩, b10⟩, b11⟩, b15⟩ := hb
   obtain ⟨k14, k16, g14, g16, g13, y1, y2, y3⟩ := hc
   have s14 : zb_ h' v14 := by simp only [ze_, zb_] at hst; exact hst.2.2.1.2.2.2.1
   have s16 : zb_ h' v16 := by simp only [ze_, zb_] at hst; exact hst.2.2.1.2.2.2.2.2.1
   obtain ⟨A14, p14, d14, e14, t14⟩ := zg_ R a14 k14 (fun i hi => hrd i (List.mem_append_left _ hi)) (by omega)
   obtain ⟨A16, p16, d16, e16, t16⟩ := zg_ R a16 k16 (fun i hi => hrd i (List.mem_append_right _ hi)) (by omega)
   refine callRoV (v' := .sl 5 5 [] 3 0 ((ls zn_ n16 f16).length + 1) none) (views := [⟨1, (ls iOf n14 f14).length, zo_ (ls iOf n14 f14), A14, p14⟩, ⟨3, (ls zn_ n16 f16).length, zm_ (ls zn_ n16 f16), A16, p16⟩]) (one8_lit ⟨iOf v11, v12, fun q => iOf (v13 q), ls iOf n14 f14, iOf v15, ls zn_ n16 f16⟩ ⟨iOf v6, iOf v7, iOf v8, iOf v9, iOf v10⟩ ⟨iOf v1, iOf v2, iOf v3, iOf v4, iOf v5⟩ p14 p16 y1 y2 y3) ?_ R hm hwr ?_ ?_ ?_ ?_ ?_
   ·exact d42_
   ·exact d43_
   ·exact k91_
   ·exact k91_
   ·intro h2 hb2 hp2
    exact stable_sr (s14.more hb2) hp2
   ·intro β2 β' hv he hbo
    simp only [Vd, zc_, and_true] at hv
    obtain ⟨z14, z16⟩ := hv
    have u14 := (zb_.den hbo s14).symm.trans d14
    have u16 := (zb_.den hbo s16).symm.trans d16
    refine den_sr (by rw [u14]; simp only [csl, zc_]; exact z14) he
  ·cases hs
 ·cases hs
end Go.Proofs.Ytmljmabbopkpiaa.Vm
end
