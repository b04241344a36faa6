import Derived.Test.YtmljmabbopkpiaaM1
import Derived.Test.YtmljmabbopkpiaaM27
import Derived.Test.YtmljmabbopkpiaaM29
import Derived.Test.YtmljmabbopkpiaaM31
set_option linter.unusedSimpArgs false
set_option linter.unusedVariables false
set_option maxRecDepth 100000
set_option maxHeartbeats 4000000
section
open Go.Proofs.Ytmljmabbopkpiaa.Vm Go.RowKit
attribute [local push_cast] prS zm_ zo_ nav_ins xe_ xd_ xc_ xb_ xa_ nav_snd y9_ y8_ y7_ zu_ z7_ yf_ z5_ ya_ z9_ iOf
section
namespace Go.Proofs.Ytmljmabbopkpiaa.Vm
open Go.RowKit
def cSmI : FuncId → Option yp_ := yy_ [(61, sEqI64), (52, sEqSnd)]
theorem y4_ : ∀ f S, cSmI f = some S → zj_ Try.prog f S := zq_ ⟨sEqI64_ok, sEqSnd_ok, trivial⟩
theorem isame18_lit (s t : Sta) (p1 p2 p3 p4 : Nat) (h1 : s.cells.length ≤ 1000000) (h2 : s.sends.length ≤ 1000000) (h3 : t.cells.length ≤ 1000000) (h4 : t.sends.length ≤ 1000000) : zp_ Try.prog 30 [.agg [.int .i64 s.at_, .bool s.ended, .arr 8 1 (fun q => .int .i64 (s.regs q)), .sl 1 2 [] 1 0 s.cells.length (some p1), .int .i64 s.draws, .sl 3 4 [] 3 0 s.sends.length (some p2)], .agg [.int .i64 t.at_, .bool t.ended, .arr 8 1 (fun q => .int .i64 (t.regs q)), .sl 5 6 [] 1 0 t.cells.length (some p3), .int .i64 t.draws, .sl 7 8 [] 3 0 t.sends.length (some p4)]]
  [.gone, .gone, .ro (.arr s.cells.length 1 (zo_ s.cells)), .gone, .ro (.arr s.sends.length 3 (zm_ s.sends)), .gone, .ro (.arr t.cells.length 1 (zo_ t.cells)), .gone, .ro (.arr t.sends.length 3 (zm_ t.sends))] (.bool (sameB s t)) [.gone] := by
 refine zf_ (fn := Try.f30) 9 45 0 rfl rfl rfl rfl rfl u19_ rfl fun w0 M E hro => ?_
 repeat' (first | refine Ctl.h ?_ | ((with_reducible intro hif); first | (focus (cases hif; done)) | ((try simp only [JH] at hif); try (exfalso; omega))) | ((with_reducible first | apply J22 y4_ za_ | apply J23 fol y4_ za_ | apply J24); (·rfl); (· (simp only [push_cast, ↓JP, Nat.reduceAdd, Nat.reduceEqDiff, Nat.reduceLT, Nat.reduceMul, Nat.reduceLeDiff, reduceCtorEq, reduceIte, ↓JK, JM, JE, cSmI, sEqI64, sEqSnd, inR, inN, ya_, z9_, iOf, zc_]; rfl)); (try kernel_rfl); (try (focus (first | exact True.intro | ((try simp only [JE, zc_]); (repeat' (first | exact True.intro | assumption | apply And.intro | rfl | omega | intro _)); done) | ((try simp only [JS, implies_true, forall_const, yc_, z6_, kndOf, inR, inN]); (repeat' (first | assumption | exact True.intro | omega | apply And.intro)); done))))) | fail)
 apply At.endsRet za_ (fn := Try.f30) (rs := [.tmp 4]) Anc.refl hro (lb_ rfl) rfl
 ·exact yq_
 ·exact k4_
 ·exact k5_
 ·rfl
 ·exact k105_
 ·exact k7_
 ·(intro β; simp only [resS, SV.den, sameB, regsB, eqL]; refine congrArg Value.bool ?_; rw [Bool.eq_iff_iff]; simp only [Bool.and_eq_true, decide_eq_true_eq, beq_iff_eq, and_assoc]; exact ⟨fun ⟨a, b, c0, c1, c2, c3, c4, c5, c6, c7, d, e, f⟩ => ⟨a, b, of_decide_eq_true c0, of_decide_eq_true c1, of_decide_eq_true c2, of_decide_eq_true c3, of_decide_eq_true c4, of_decide_eq_true c5, of_decide_eq_true c6, of_decide_eq_true c7, d, e, f⟩, fun ⟨a, b, c0, c1, c2, c3, c4, c5, c6, c7, d, e, f⟩ => ⟨a, b, decide_eq_true c0, decide_eq_true c1, decide_eq_true c2, decide_eq_true c3, decide_eq_true c4, decide_eq_true c5, decide_eq_true c6, decide_eq_true c7, d, e, f⟩⟩)
 ·exact k105_
structure ZC where
 j : Nat
 l : List Int
structure ZX where
 j : Nat
 l : List Snd
theorem less_iset {t n : Nat} {b : Bool} {σ : Nat → Nat} {l : List Int} {k : Nat} {y : Int} {g : Nat → SV} (hl : l.length = n) (hk : k < n) (hg : ∀ β q, (g q).cl β = [.int .i64 (bif decide (q = k) then y else l.getD q 0)]) : Less (.own t (.arr n 1 g) b) ((HB.own t (.arr n 1 (zo_ (l.set k y))) b).ren σ) :=
 less_arL _ fun β q hq => by rw [hg, getD_setL (by omega)]
theorem getD_setS {l : List Snd} {k q : Nat} {y : Snd} (hk : k < l.length) : (l.set k y).getD q ⟨0, 0, 0⟩ = bif decide (q = k) then y else l.getD q ⟨0, 0, 0⟩ :=  d7_
theorem less_sset {t n : Nat} {b : Bool} {σ : Nat → Nat} {l : List Snd} {k : Nat} {y : Snd} {g : Nat → SV} (hl : l.length = n) (hk : k < n) (hg : ∀ β q, (g q).cl β = (sndS (bif decide (q = k) then y else l.getD q ⟨0, 0, 0⟩)).cl β) : Less (.own t (.arr n 3 g) b) ((HB.own t (.arr n 3 (zm_ (l.set k y))) b).ren σ) := by
 have e : (HB.own t (.arr n 3 (zm_ (l.set k y))) b).ren σ = .own t (.arr n 3 (zm_ (l.set k y))) b := by
  simp only [HB.ren, SV.ren]; rw [sndsS_ren]
 rw [e]
 refine .val (fun β => arrCl fun q hq => ?_) (fun n1 k1 f1 e => by injection e with e1 e2 e3; subst e1 e2; exact ⟨_, rfl⟩) (fun n1 k1 f1 e => by injection e with e1 e2 e3; subst e1 e2; exact ⟨_, rfl⟩)
 rw [hg]
 unfold zm_
 rw [getD_setS (by omega)]
theorem spl_oo (c : List Int) (x : List Snd) (a d : Int) (e : Bool) (r : Nat → Int) (hc : c.length ≤ 1000000) (hx : x.length ≤ 1000000) : zp_ Try.prog 69 [.agg [.int .i64 a, .bool e, .arr 8 1 (fun q => .int .i64 (r q)), .sl 1 1 [] 1 0 c.length none, .int .i64 d, .sl 2 2 [] 3 0 x.length none]] [.gone, .own 2 (.arr c.length 1 (zo_ c)) false, .own 64 (.arr x.length 3 (zm_ x)) false] (.tup []) [.gone, .gone, .gone] := by
 refine zf_ (fn := Try.f69) 3 27 0 rfl rfl rfl rfl rfl u19_ rfl fun w0 M E hro => ?_
 repeat' (first | refine Ctl.h ?_ | ((with_reducible intro hif); first | (focus (cases hif; done)) | ((try simp only [JH] at hif); try (exfalso; omega))) | ((with_reducible first | apply J22 y4_ za_ | apply J23 fol y4_ za_ | apply J24); (·rfl); (· exact k92_); (try kernel_rfl); try exact xi_) | fail)
 refine WF.loopAt (fun (z : ZC) => z.j ≤ c.length ∧ z.l.length = c.length) (fun (z : ZC) => [(1, .ptr 3 []), (6, .nat .i64 c.length), (7, .nat .i64 z.j)]) (fun (z : ZC) => [.gone, .own 2 (.arr c.length 1 (zo_ z.l)) false, .own 64 (.arr x.length 3 (zm_ x)) false, .own 53 (.agg [.int .i64 a, .bool e, .arr 8 1 (fun q => .int .i64 (r q)), .sl 1 1 [] 1 0 c.length none, .int .i64 d, .sl 2 2 [] 3 0 x.length none]) true]) (fun (z : ZC) => c.length - z.j) ⟨0, c⟩ ⟨Nat.zero_le _, rfl⟩ ?_ ?_ rfl ?_ ?_ rfl ?_
 ·exact k8_
 ·exact k5_
 ·exact k105_
 ·exact k105_
 rintro ⟨j, l⟩ ⟨hj, hl⟩
 dsimp only at hj hl ⊢
 by_cases hjl : j < c.length
 ·repeat' (first | refine Ctl.h ?_ | ((with_reducible intro hif); first | (focus (cases hif; done)) | ((try simp only [JH] at hif); try (exfalso; omega))) | ((with_reducible first | apply J22 y4_ za_ | apply J23 fol y4_ za_ | apply J24); (·rfl); (· exact k109_); (try kernel_rfl); try exact k26_) | fail)
  refine At.nextPick [0, 1, 2, 3] ⟨j + 1, l.set j (-77)⟩ ?_ rfl rfl rfl ?_ rfl ?_ ?_ ?_ rfl
  ·exact k106_
  ·exact k107_
  ·exact k105_
  ·exact k22_
  ·exact k105_
 obtain rfl : j = c.length := by omega
 repeat' (first | refine Ctl.h ?_ | ((with_reducible intro hif); first | (focus (cases hif; done)) | ((try simp only [JH] at hif); try (exfalso; omega))) | ((with_reducible first | apply J22 y4_ za_ | apply J23 fol y4_ za_ | apply J24); (·rfl); (· exact k110_); (try kernel_rfl); try exact xi_) | fail)
 refine WF.loopAt (fun (z : ZX) => z.j ≤ x.length ∧ z.l.length = x.length) (fun (z : ZX) => [(1, .ptr 3 []), (17, .nat .i64 x.length), (18, .nat .i64 z.j)]) (fun (z : ZX) => [.gone, .gone, .own 64 (.arr x.length 3 (zm_ z.l)) false, .own 53 (.agg [.int .i64 a, .bool e, .arr 8 1 (fun q => .int .i64 (r q)), .sl 1 1 [] 1 0 c.length none, .int .i64 d, .sl 2 2 [] 3 0 x.length none]) true]) (fun (z : ZX) => x.length - z.j) ⟨0, x⟩ ⟨Nat.zero_le _, rfl⟩ ?_ ?_ rfl ?_ ?_ rfl ?_
 ·exact k8_
 ·exact k5_
 ·exact k105_
 ·exact k105_
 rintro ⟨j, y⟩ ⟨hj2, hl2⟩
 dsimp only at hj2 hl2 ⊢
 by_cases hjl2 : j < x.length
 ·repeat' (first | refine Ctl.h ?_ | ((with_reducible intro hif); first | (focus (cases hif; done)) | ((try simp only [JH] at hif); try (exfalso; omega))) | ((with_reducible first | apply J22 y4_ za_ | apply J23 fol y4_ za_ | apply J24); (·rfl); (· (simp only [push_cast, ↓JP, Nat.reduceAdd, Nat.reduceEqDiff, Nat.reduceLT, Nat.reduceMul, Nat.reduceLeDiff, reduceCtorEq, reduceIte, ↓JK, hjl2, zm_, sndS, inR, inN]; rfl)); (try kernel_rfl); try exact k26_) | fail)
  refine At.nextPick [0, 1, 2, 3] ⟨j + 1, y.set j ⟨-77, 0, 0⟩⟩ ?_ rfl rfl rfl ?_ rfl ?_ ?_ ?_ rfl
  ·exact ⟨⟨hjl2, by rw [List.length_set]; exact hl2⟩, by show x.length - (j + 1) < x.length - j; omega⟩
  ·(repeat' (first | exact trivial | exact .inl rfl | exact .inr (.same _) | exact .inr .loose | exact .inr (.arr (by assumption)) | apply And.intro | (refine .inr (less_sset hl2 hjl2 (fun β q => ?_)); rw [ite_eq]; cases decide (q = j) <;> rfl)))
  ·exact k105_
  ·exact k22_
  ·exact k105_
 obtain rfl : j = x.length := by omega
 repeat' (first | refine Ctl.h ?_ | ((with_reducible intro hif); first | (focus (cases hif; done)) | ((try simp only [JH] at hif); try (exfalso; omega))) | ((with_reducible first | apply J22 y4_ za_ | apply J23 fol y4_ za_ | apply J24); (·rfl); (· (simp only [push_cast, ↓JP, Nat.reduceAdd, Nat.reduceEqDiff, Nat.reduceLT, Nat.reduceMul, Nat.reduceLeDiff, reduceCtorEq, reduceIte, ↓JK, hjl2]; rfl)); (try kernel_rfl); try exact xi_) | fail)
 apply At.endsNormal za_ (fn := Try.f69) (rs := []) Anc.refl hro (lb_ rfl) rfl
 ·exact yq_
 ·exact k4_
 ·exact k5_
 ·rfl
 ·exact k105_
 ·exact k7_
 ·exact fun β => rfl
 ·exact k105_
theorem spl_on (c : List Int) (a d : Int) (e : Bool) (r : Nat → Int) (hc : c.length ≤ 1000000) : zp_ Try.prog 69 [.agg [.int .i64 a, .bool e, .arr 8 1 (fun q => .int .i64 (r q)), .sl 1 1 [] 1 0 c.length none, .int .i64 d, .sl 0 0 [] 0 0 0 (some 0)]] [.gone, .own 2 (.arr c.length 1 (zo_ c)) false] (.tup []) [.gone, .gone] := by
 refine zf_ (fn := Try.f69) 2 27 0 rfl rfl rfl rfl rfl u19_ rfl fun w0 M E hro => ?_
 repeat' (first | refine Ctl.h ?_ | ((with_reducible intro hif); first | (focus (cases hif; done)) | ((try simp only [JH] at hif); try (exfalso; omega))) | ((with_reducible first | apply J22 y4_ za_ | apply J23 fol y4_ za_ | apply J24); (·rfl); (· exact k92_); (try kernel_rfl); try exact xi_) | fail)
 refine WF.loopAt (fun (z : ZC) => z.j ≤ c.length ∧ z.l.length = c.length) (fun (z : ZC) => [(1, .ptr 2 []), (6, .nat .i64 c.length), (7, .nat .i64 z.j)]) (fun (z : ZC) => [.gone, .own 2 (.arr c.length 1 (zo_ z.l)) false, .own 53 (.agg [.int .i64 a, .bool e, .arr 8 1 (fun q => .int .i64 (r q)), .sl 1 1 [] 1 0 c.length none, .int .i64 d, .sl 0 0 [] 0 0 0 (some 0)]) true]) (fun (z : ZC) => c.length - z.j) ⟨0, c⟩ ⟨Nat.zero_le _, rfl⟩ ?_ ?_ rfl ?_ ?_ rfl ?_
 ·exact k8_
 ·exact k5_
 ·exact k105_
 ·exact k105_
 rintro ⟨j, l⟩ ⟨hj, hl⟩
 dsimp only at hj hl ⊢
 by_cases hjl : j < c.length
 ·repeat' (first | refine Ctl.h ?_ | ((with_reducible intro hif); first | (focus (cases hif; done)) | ((try simp only [JH] at hif); try (exfalso; omega))) | ((with_reducible first | apply J22 y4_ za_ | apply J23 fol y4_ za_ | apply J24); (·rfl); (· exact k109_); (try kernel_rfl); try exact k26_) | fail)
  refine At.nextPick [0, 1, 2] ⟨j + 1, l.set j (-77)⟩ ?_ rfl rfl rfl ?_ rfl ?_ ?_ ?_ rfl
  ·exact k106_
  ·exact k107_
  ·exact k105_
  ·exact k22_
  ·exact k105_
 obtain rfl : j = c.length := by omega
 repeat' (first | refine Ctl.h ?_ | ((with_reducible intro hif); first | (focus (cases hif; done)) | ((try simp only [JH] at hif); try (exfalso; omega))) | ((with_reducible first | apply J22 y4_ za_ | apply J23 fol y4_ za_ | apply J24); (·rfl); (· exact k110_); (try kernel_rfl); try exact xi_) | fail)
 refine WF.loopAt (fun (j : Nat) => j = 0) (fun (j : Nat) => [(1, .ptr 2 []), (17, .nat .i64 0), (18, .nat .i64 j)]) (fun (j : Nat) => [.gone, .gone, .own 53 (.agg [.int .i64 a, .bool e, .arr 8 1 (fun q => .int .i64 (r q)), .sl 1 1 [] 1 0 c.length none, .int .i64 d, .sl 0 0 [] 0 0 0 (some 0)]) true]) (fun (j : Nat) => j) 0 rfl ?_ ?_ rfl ?_ ?_ rfl ?_
 ·exact k8_
 ·exact k5_
 ·exact k105_
 ·exact k105_
 rintro j rfl
 repeat' (first | refine Ctl.h ?_ | ((with_reducible intro hif); first | (focus (cases hif; done)) | ((try simp only [JH] at hif); try (exfalso; omega))) | ((with_reducible first | apply J22 y4_ za_ | apply J23 fol y4_ za_ | apply J24); (·rfl); (· exact k92_); (try kernel_rfl); try exact xi_) | fail)
 apply At.endsNormal za_ (fn := Try.f69) (rs := []) Anc.refl hro (lb_ rfl) rfl
 ·exact yq_
 ·exact k4_
 ·exact k5_
 ·rfl
 ·exact k105_
 ·exact k7_
 ·exact fun β => rfl
 ·exact k105_
theorem spl_nn (a d : Int) (e : Bool) (r : Nat → Int) : zp_ Try.prog 69 [.agg [.int .i64 a, .bool e, .arr 8 1 (fun q => .int .i64 (r q)), .sl 0 0 [] 0 0 0 (some 0), .int .i64 d, .sl 0 0 [] 0 0 0 (some 0)]] [.gone] (.tup []) [.gone] := by
 refine zf_ (fn := Try.f69) 1 27 0 rfl rfl rfl rfl rfl u19_ rfl fun w0 M E hro => ?_
 repeat' (first | refine Ctl.h ?_ | ((with_reducible intro hif); first | (focus (cases hif; done)) | ((try simp only [JH] at hif); try (exfalso; omega))) | ((with_reducible first | apply J22 y4_ za_ | apply J23 fol y4_ za_ | apply J24); (·rfl); (· exact k92_); (try kernel_rfl); try exact xi_) | fail)
 refine WF.loopAt (fun (j : Nat) => j = 0) (fun (j : Nat) => [(1, .ptr 1 []), (6, .nat .i64 0), (7, .nat .i64 j)]) (fun (j : Nat) => [.gone, .own 53 (.agg [.int .i64 a, .bool e, .arr 8 1 (fun q => .int .i64 (r q)), .sl 0 0 [] 0 0 0 (some 0), .int .i64 d, .sl 0 0 [] 0 0 0 (some 0)]) true]) (fun (j : Nat) => j) 0 rfl ?_ ?_ rfl ?_ ?_ rfl ?_
 ·exact k8_
 ·exact k5_
 ·exact k105_
 ·exact k105_
 rintro j rfl
 repeat' (first | refine Ctl.h ?_ | ((with_reducible intro hif); first | (focus (cases hif; done)) | ((try simp only [JH] at hif); try (exfalso; omega))) | ((with_reducible first | apply J22 y4_ za_ | apply J23 fol y4_ za_ | apply J24); (·rfl); (· exact k92_); (try kernel_rfl); try exact xi_) | fail)
 refine WF.loopAt (fun (j : Nat) => j = 0) (fun (j : Nat) => [(1, .ptr 1 []), (17, .nat .i64 0), (18, .nat .i64 j)]) (fun (j : Nat) => [.gone, .own 53 (.agg [.int .i64 a, .bool e, .arr 8 1 (fun q => .int .i64 (r q)), .sl 0 0 [] 0 0 0 (some 0), .int .i64 d, .sl 0 0 [] 0 0 0 (some 0)]) true]) (fun (j : Nat) => j) 0 rfl ?_ ?_ rfl ?_ ?_ rfl ?_
 ·exact k8_
 ·exact k5_
 ·exact k105_
 ·exact k105_
 rintro j rfl
 repeat' (first | refine Ctl.h ?_ | ((with_reducible intro hif); first | (focus (cases hif; done)) | ((try simp only [JH] at hif); try (exfalso; omega))) | ((with_reducible first | apply J22 y4_ za_ | apply J23 fol y4_ za_ | apply J24); (·rfl); (· exact k92_); (try kernel_rfl); try exact xi_) | fail)
 apply At.endsNormal za_ (fn := Try.f69) (rs := []) Anc.refl hro (lb_ rfl) rfl
 ·exact yq_
 ·exact k4_
 ·exact k5_
 ·rfl
 ·exact k105_
 ·exact k7_
 ·exact fun β => rfl
 ·exact k105_
def eB (g i n : Nat) : HB := .own 102 (.agg [.ptr g [], .sl i i [] 5 0 n none]) true
def cBg : FuncId → Option yp_ := yy_ [(62, sCl64)]
theorem cBg_ok : ∀ f S, cBg f = some S → zj_ Try.prog f S := zq_ ⟨sCl64_ok, trivial⟩
theorem begin_lit (t s q o y d : Int) (cs : List Int) (p : Nat) (hc : cs.length ≤ 1000000) : zp_ Try.prog 59 [.agg [.agg [.int .i64 t, .int .i64 s, .int .i64 q], .int .i64 o, .int .i64 y], .sl 1 2 [] 1 0 cs.length (some p), .int .i64 d] [.gone, .gone, .ro (.arr cs.length 1 (zo_ cs))]
  (.agg [.int .i64 0, .bool false, .arr 8 1 (fun j => .int .i64 (begR y t s j)), .sl 3 3 [] 1 0 cs.length none, .int .i64 d, .sl 0 0 [] 0 0 0 (some 0)]) [.gone, .gone, .gone, .own 2 (.arr cs.length 1 (zo_ cs)) false] := by
 refine zf_ (fn := Try.f59) 3 20 0 rfl rfl rfl rfl rfl (by simp only [ze_, zb_, hp, zo_, prS, yo_, zm_, sndS, stS, evS, macS, mB, cB, sB, eB, prO, HB.stable]; simp [HB.born]) rfl fun w0 M E hro => ?_
 repeat' (first | refine Ctl.h ?_ | ((with_reducible intro hif); first | (focus (cases hif; done)) | ((try simp only [JH] at hif); try (exfalso; omega))) | ((with_reducible first | apply J22 cBg_ok za_ | apply J23 fol cBg_ok za_ | apply J24); (·rfl); (· (simp only [push_cast, ↓JP, Nat.reduceAdd, Nat.reduceEqDiff, Nat.reduceLT, Nat.reduceMul, Nat.reduceLeDiff, reduceCtorEq, reduceIte, ↓JK, JM, cBg, sCl64, JE, inR, inN]; rfl)); (try kernel_rfl); try exact k26_) | fail)
 apply At.endsPick [0, 1, 2, 5] za_ (fn := Try.f59) (rs := [.cell 6 53]) Anc.refl hro (lb_ rfl) rfl
 ·exact yq_
 ·exact k14_
 ·rfl
 ·rfl
 ·rfl
 ·exact k30_
 ·rfl
 ·exact k108_
 ·exact k7_
 ·exact fun β => rfl
 ·exact k108_
def sBegin : yp_ := fun args h m => match args with
 | [.agg [.agg [v1, v2, v3], v4, v5], v6, v7] => match y6_ h 1 (.tup []) v6 with
  | some (c6, n6, f6, r6) => bif isI .i64 v1 && isI .i64 v2 && isI .i64 v3 && isI .i64 v4 && isI .i64 v5 && isI .i64 v7 then some (c6 ∧ (∀ q, q < n6 → isI .i64 (f6 q) = true) ∧ (n6 ≤ 1000000), .agg [.int .i64 0, .bool false, .arr 8 1 (fun j => .int .i64 (begR (iOf v5) (iOf v1) (iOf v2) j)), .sl m m [] 1 0 (ls iOf n6 f6).length none, .int .i64 (iOf v7), .sl 0 0 [] 0 0 0 (some 0)], r6, [(m, .own 2 (.arr (ls iOf n6 f6).length 1 (zo_ (ls iOf n6 f6))) false)]) else none
  | _ => none
 | _ => none
theorem sBegin_ok : zj_ Try.prog 59 sBegin := by
 refine ⟨zi_ (by kernel_rfl), fun args h m c v rd wr hs hm hc w0 M β h' w R hrd hwr hst => ?_⟩
 unfold sBegin at hs
 split at hs
 ·rename_i v1 v2 v3 v4 v5 v6 v7
  split at hs
  ·rename_i c6 n6 f6 r6 a6
   obtain ⟨hb, hs⟩ := zl_ hs
   simp only [Option.some.injEq, Prod.mk.injEq] at hs
   obtain ⟨rfl, rfl, rfl, rfl⟩ := hs
   simp only [Bool.and_eq_true] at hb
   obtain ⟨⟨⟨⟨⟨b1, b2⟩, b3⟩, b4⟩, b5⟩, b7⟩ := hb
   obtain ⟨k6, g6, y1⟩ := hc
   obtain ⟨A6, p6, d6, e6, t6⟩ := zg_ R a6 k6 (fun i hi => hrd i hi) (by omega)
   refine yl_ (views := [⟨1, (ls iOf n6 f6).length, zo_ (ls iOf n6 f6), A6, p6⟩]) (begin_lit (iOf v1) (iOf v2) (iOf v3) (iOf v4) (iOf v5) (iOf v7) (ls iOf n6 f6) p6 (by rw [zc_]; exact y1)) ?_ R hm hwr ?_ ?_ ?_
   ·intro x hx
    simp only [List.mem_cons, List.not_mem_nil, or_false] at hx
    subst hx
    ·exact yg_ t6 e6 g6
   ·intro β1 hv
    simp only [Vd, zc_, and_true] at hv
    have z6 := hv
    simp only [denL, z4_, z3_, yd_, zs_, zc_, z6, d6, zd_ b1, zd_ b2, zd_ b3, zd_ b4, zd_ b5, zd_ b7]
   ·exact k108_
   ·exact k108_
  ·cases hs
 ·cases hs
end Go.Proofs.Ytmljmabbopkpiaa.Vm
end
end
