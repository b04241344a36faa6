import Derived.Test.YtjliakjbdcplcaaGreatR1
import Derived.Test.YtjliakjbdcplcaaGreatR34
set_option linter.unusedSimpArgs false
set_option linter.unusedVariables false
set_option maxRecDepth 100000
set_option maxHeartbeats 4000000
section
open Go.Proofs.YtjliakjbdcplcaaGreat.Vm Go.RowKit
attribute [local push_cast] prS zm_ i64S xm_ y4_ y3_ y2_ y1_ y0_ xl_ yz_ yy_ yx_ zl_ zz_ z2_ zy_ zq_ zr_ iOf
section
namespace Go.Proofs.YtjliakjbdcplcaaGreat.Vm
open Go.RowKit
theorem Run_bad (P : List Ins) (v : Evi) (t s q o y d f : Int) (cs : List Int) (p1 p2 : Nat) (hP : PG P) (V : VOk v) (hc : cs.length ≤ 1000000) (hE : ropE P v (xn_ y t s cs d) f = 0) (r : RR) (hr : xp_ P v f.toNat (xn_ y t s cs d) Ins0 [] 0 = r) (hb : r.bad ≠ 0) : zp_ Tryz.prog 13 [.sl 1 2 [] 5 0 P.length (some p1), .agg [.int .u64 v.seed, .int .i64 v.process, .int .i64 v.ports, .int .i64 v.look, .int .i64 v.now], .agg [.agg [.int .i64 t, .int .i64 s, .int .i64 q], .int .i64 o, .int .i64 y], .sl 3 4 [] 1 0 cs.length (some p2), .int .i64 d, .int .i64 f]
  [.gone, .gone, .ro (.arr P.length 5 (prS P)), .gone, .ro (.arr cs.length 1 (i64S cs))]
  (.tup [.agg [.nat .i64 r.tr.length, .int .i64 r.at_, .sl 0 0 [] 0 0 0 (some 0), .nat .i64 0, .sl 0 0 [] 0 0 0 (some 0)], .int .i64 r.bad]) [.gone] := by
 have hok := hP.ok
 have hn := hP.len
 have hn' : P.length ≤ 1000000 := by omega
 have hf := (ropE_zero hE).1
 have hO := openE_zero (ropE_zero hE).2
 have hG : SG P (xn_ y t s cs d) := SG.of hO.2.2 (by simp [xn_])
 obtain ⟨s0, hs0⟩ : ∃ s0, xn_ y t s cs d = s0 := ⟨_, rfl⟩
 rw [hs0] at hE hr hG
 have hl0 : ∀ ex, Less (.own 42 (.agg [.nat .i64 0, .nat .i64 0, .sl 0 0 [] 0 0 0 (some 0), .nat .i64 0, .sl 0 0 [] 0 0 0 (some 0)]) ex) (.own 42 (.agg [.nat .i64 0, .int .i64 0, .sl 0 0 [] 0 0 0 (some 0), .nat .i64 0, .sl 0 0 [] 0 0 0 (some 0)]) ex) := fun ex => less_res
 have hl1 := hl0 true
 refine ze_ (fn := Tryz.f13) 5 66 0 rfl rfl rfl rfl rfl u18_ rfl fun w0 M E hro => ?_
 repeat' (first | refine Ctl.h ?_ | ((with_reducible intro hif); first | (focus (cases hif; done)) | ((try simp only [JH] at hif); try (exfalso; omega))) | ((with_reducible first | apply J22 z1_ za_ | apply J23 fol z1_ za_ | apply J24); (·rfl); (· exact k134_); (try kernel_rfl); try exact k133_) | fail)
 with_reducible apply WF.range (fn' := Tryz.f88) 28
 ·exact k126_
 ·exact k12_
 ·rfl
 ·rfl
 ·rfl
 ·rfl
 ·rfl
 ·rfl
 ·rfl
 intro E1 rec tmps after hE1 hrec hcf haft
 repeat' (first | refine Ctl.h ?_ | ((with_reducible intro hif); first | (focus (cases hif; done)) | ((try simp only [JH] at hif); try (exfalso; omega))) | ((with_reducible first | apply J22 z1_ za_ | apply J23 fol z1_ za_ | apply J24); (·rfl); (· exact k135_); (try kernel_rfl); try exact k25_) | fail)
 refine At.pick (L2 := [.gone, .gone, .ro (.arr P.length 5 (prS P)), .gone, .ro (.arr cs.length 1 (i64S cs)), .gone, .gone, .own 42 (.agg [.nat .i64 0, .nat .i64 0, .sl 0 0 [] 0 0 0 (some 0), .nat .i64 0, .sl 0 0 [] 0 0 0 (some 0)]) true, eB 9 12 P.length, mB s0 v Ins0 10 19, cB s0, .gone, prO P, .own 43 (.int .i64 0) true, .own 42 (.agg [.nat .i64 0, .int .i64 0, .sl 0 0 [] 0 0 0 (some 0), .nat .i64 0, .sl 0 0 [] 0 0 0 (some 0)]) true, pbB 8, fbB f, .raw (.deferred (some [])), .raw (.loop (rec .ready none)), sB s0]) (φ2 := [(0, .yl 18), (1, .ptr 15 []), (2, .ptr 16 []), (4, .nat .i64 0)]) [0, 1, 2, 3, 4, 5, 6, 7, 8, 9, 10, 11, 12, 13, 14, 15, 16, 17, 18, 11] rfl rfl rfl ?_ rfl ?_ ?_ ?_ rfl ?_
 ·exact k127_
 ·exact k139_
 ·exact k20_
 ·exact k139_
 refine WF.loopAt (fun (z : RS) => RInv P v f r z) (fun (z : RS) => [(0, .yl 18), (1, .ptr 15 []), (2, .ptr 16 []), (4, .nat .i64 z.k)]) (fun (z : RS) => [.gone, .gone, .ro (.arr P.length 5 (prS P)), .gone, .ro (.arr cs.length 1 (i64S cs)), .gone, .gone, .own 42 (.agg [.nat .i64 0, .nat .i64 0, .sl 0 0 [] 0 0 0 (some 0), .nat .i64 0, .sl 0 0 [] 0 0 0 (some 0)]) true, eB 9 12 P.length, mB z.s v z.x 10 19, cB z.s, .gone, prO P, .own 43 (.int .i64 0) true, .own 42 (.agg [.nat .i64 z.k, .int .i64 z.a, .sl 0 0 [] 0 0 0 (some 0), .nat .i64 0, .sl 0 0 [] 0 0 0 (some 0)]) true, pbB 8, fbB f, .raw (.deferred (some [])), .raw (.loop (rec .ready none)), sB z.s]) (fun (z : RS) => f.toNat - z.k) ⟨0, s0, Ins0, [], 0⟩ ⟨Nat.zero_le _, hG, rfl, hr⟩ ?_ ?_ rfl ?_ ?_ rfl ?_
 ·exact k5_
 ·exact k6_
 ·exact k139_
 ·exact k139_
 rintro ⟨k, ⟨at1, en, rg, ce, dr, se⟩, x, tr, a⟩ ⟨hk, hg, hl, hr1⟩
 dsimp only at hk hg hl hr1 ⊢
 cases en
 ·by_cases hkf : k < f.toNat
  ·have hkf2 : (k : Int) < f := by omega
   by_cases hst : stepE P v ⟨at1, false, rg, ce, dr, se⟩ = 0
   ·repeat' (first | refine Ctl.h ?_ | ((with_reducible intro hif); first | (focus (cases hif; done)) | ((try simp only [JH] at hif); try (exfalso; omega))) | ((with_reducible first | apply J22 z1_ za_ | apply J23 fol z1_ za_ | apply J24); (·rfl); (· exact k136_); (try kernel_rfl); try exact k25_) | fail)
    with_reducible apply WF.split 3 5
    ·rfl
    with_reducible apply At.run z1_ za_
    ·rfl
    ·rfl
    ·rfl
    ·exact k129_
    ·exact k130_
    with_reducible apply At.yield (gr := _)
    ·rfl
    ·rfl
    ·rfl
    ·rfl
    ·rfl
    ·rfl
    ·exact k129_
    ·exact k131_
    ·exact k129_
    ·exact k130_
    ·exact k129_
    ·exact k130_
    ·exact k131_
    ·exact hrec
    ·exact hcf
    ·rfl
    ·rfl
    ·rfl
    intro lb E2 next hE2 hnext
    repeat' (first | refine Ctl.h ?_ | ((with_reducible intro hif); first | (focus (cases hif; done)) | ((try simp only [JH] at hif); try (exfalso; omega))) | ((with_reducible first | apply J22 z1_ za_ | apply J23 fol z1_ za_ | apply J24); (·rfl); (· exact k137_); (try kernel_rfl); try exact k25_) | fail)
    with_reducible apply At.begins hrec
    ·rfl
    with_reducible refine At.code ?_
    repeat' (first | refine Ctl.h ?_ | ((with_reducible intro hif); first | (focus (cases hif; done)) | ((try simp only [JH] at hif); try (exfalso; omega))) | ((with_reducible first | apply J22 z1_ za_ | apply J23 fol z1_ za_ | apply J24); (·rfl); (· exact k137_); (try kernel_rfl); try exact k25_) | fail)
    with_reducible apply At.roundNormal
    ·exact k131_
    apply hnext
    with_reducible apply At.runEnd z1_ za_
    ·rfl
    ·rfl
    ·rfl
    ·exact k129_
    ·exact k130_
    repeat' (first | refine Ctl.h ?_ | ((with_reducible intro hif); first | (focus (cases hif; done)) | ((try simp only [JH] at hif); try (exfalso; omega))) | ((with_reducible first | apply J22 z1_ za_ | apply J23 fol z1_ za_ | apply J24); (·rfl); (· exact k137_); (try kernel_rfl); try exact k25_) | fail)
    refine At.nextPick [0, 1, 2, 3, 4, 5, 6, 7, 8, 9, 10, 11, 12, 13, 14, 15, 16, 17, 18, 20] ⟨k + 1, stepS P v ⟨at1, false, rg, ce, dr, se⟩, stepX P ⟨at1, false, rg, ce, dr, se⟩ x, tr ++ [at1], at1⟩ ?_ rfl rfl rfl ?_ rfl ?_ ?_ ?_ rfl
    ·exact k132_
    ·exact k29_
    ·exact k139_
    ·exact k20_
    ·exact k139_
   ·rw [runA_bad rfl (by omega) hst] at hr1
    subst hr1
    have hn190 := stepE_ne190 P v ⟨at1, false, rg, ce, dr, se⟩
    have hl2 : (tr ++ [at1]).length = k + 1 := by simp [hl]
    repeat' (first | refine Ctl.h ?_ | ((with_reducible intro hif); first | (focus (cases hif; done)) | ((try simp only [JH] at hif); try (exfalso; omega))) | ((with_reducible first | apply J22 z1_ za_ | apply J23 fol z1_ za_ | apply J24); (·rfl); (· exact k136_); (try kernel_rfl); try exact k25_) | fail)
    with_reducible apply WF.split 3 5
    ·rfl
    with_reducible apply At.run z1_ za_
    ·rfl
    ·rfl
    ·rfl
    ·exact k129_
    ·exact k130_
    with_reducible apply At.yield (gr := _)
    ·rfl
    ·rfl
    ·rfl
    ·rfl
    ·rfl
    ·rfl
    ·exact k129_
    ·exact k131_
    ·exact k129_
    ·exact k130_
    ·exact k129_
    ·exact k130_
    ·exact k131_
    ·exact hrec
    ·exact hcf
    ·rfl
    ·rfl
    ·rfl
    intro lb E2 next hE2 hnext
    repeat' (first | refine Ctl.h ?_ | ((with_reducible intro hif); first | (focus (cases hif; done)) | ((try simp only [JH] at hif); try (exfalso; omega))) | ((with_reducible first | apply J22 z1_ za_ | apply J23 fol z1_ za_ | apply J24); (·rfl); (· exact k137_); (try kernel_rfl); try exact k25_) | fail)
    with_reducible apply At.begins hrec
    ·rfl
    with_reducible refine At.code ?_
    repeat' (first | refine Ctl.h ?_ | ((with_reducible intro hif); first | (focus (cases hif; done)) | ((try simp only [JH] at hif); try (exfalso; omega))) | ((with_reducible first | apply J22 z1_ za_ | apply J23 fol z1_ za_ | apply J24); (·rfl); (· (simp only [push_cast, ↓JP, Nat.reduceAdd, Nat.reduceEqDiff, Nat.reduceLT, Nat.reduceMul, Nat.reduceLeDiff, reduceCtorEq, reduceIte, ↓JK, cRun, JM, engP, prP, macP, z8_, memN, eB, prO, pbB, fbB, JE, eEnded, eAt, eStep, eState, inR, inN, hst, hn190]; rfl)); (try kernel_rfl); try exact k25_) | fail)
    with_reducible apply At.roundExit
    ·exact k131_
    apply hnext
    with_reducible apply At.runEnd z1_ za_
    ·rfl
    ·rfl
    ·rfl
    ·exact k129_
    ·exact k130_
    repeat' (first | refine Ctl.h ?_ | ((with_reducible intro hif); first | (focus (cases hif; done)) | ((try simp only [JH] at hif); try (exfalso; omega))) | ((with_reducible first | apply J22 z1_ za_ | apply J23 fol z1_ za_ | apply J24); (·rfl); (· exact k137_); (try kernel_rfl); try exact k25_) | fail)
    with_reducible apply At.itRet .done
    ·rfl
    ·rfl
    ·intro h; cases h
    apply haft
    intro w1 M1 D1 hA
    dsimp only
    repeat' (first | refine Ctl.h ?_ | ((with_reducible intro hif); first | (focus (cases hif; done)) | ((try simp only [JH] at hif); try (exfalso; omega))) | ((with_reducible first | apply J22 z1_ za_ | apply J23 fol z1_ za_ | apply J24); (·rfl); (· exact k137_); (try kernel_rfl); try exact k25_) | fail)
    apply At.endsRet za_ (fn := Tryz.f13) (rs := [.cell 12 42, .tmp 13]) hA hro (lb_ rfl) rfl
    ·exact yq_
    ·exact ys_
    ·exact k6_
    ·rfl
    ·exact k139_
    ·exact zx_
    ·exact fun β => by rw [hl2]; rfl
    ·exact k139_
  ·have e0 : f.toNat - k = 0 := by omega
   have hkf2 : ¬ (k : Int) < f := by omega
   rw [e0, runA_zero rfl] at hr1
   subst hr1
   repeat' (first | refine Ctl.h ?_ | ((with_reducible intro hif); first | (focus (cases hif; done)) | ((try simp only [JH] at hif); try (exfalso; omega))) | ((with_reducible first | apply J22 z1_ za_ | apply J23 fol z1_ za_ | apply J24); (·rfl); (· (simp only [push_cast, ↓JP, Nat.reduceAdd, Nat.reduceEqDiff, Nat.reduceLT, Nat.reduceMul, Nat.reduceLeDiff, reduceCtorEq, reduceIte, ↓JK, cRun, JM, engP, prP, macP, z8_, memN, eB, prO, pbB, fbB, JE, eEnded, eAt, eStep, eState, inR, inN, hkf2]; rfl)); (try kernel_rfl); try exact k25_) | fail)
   with_reducible apply WF.split 3 5
   ·rfl
   with_reducible apply At.run z1_ za_
   ·rfl
   ·rfl
   ·rfl
   ·exact k140_
   ·exact k130_
   with_reducible apply At.yield (gr := _)
   ·rfl
   ·rfl
   ·rfl
   ·rfl
   ·rfl
   ·rfl
   ·exact k140_
   ·exact k141_
   ·exact k140_
   ·exact k130_
   ·exact k140_
   ·exact k130_
   ·exact k141_
   ·exact hrec
   ·exact hcf
   ·rfl
   ·rfl
   ·rfl
   intro lb E2 next hE2 hnext
   repeat' (first | refine Ctl.h ?_ | ((with_reducible intro hif); first | (focus (cases hif; done)) | ((try simp only [JH] at hif); try (exfalso; omega))) | ((with_reducible first | apply J22 z1_ za_ | apply J23 fol z1_ za_ | apply J24); (·rfl); (· exact k143_); (try kernel_rfl); try exact k25_) | fail)
   with_reducible apply At.begins hrec
   ·rfl
   with_reducible refine At.code ?_
   repeat' (first | refine Ctl.h ?_ | ((with_reducible intro hif); first | (focus (cases hif; done)) | ((try simp only [JH] at hif); try (exfalso; omega))) | ((with_reducible first | apply J22 z1_ za_ | apply J23 fol z1_ za_ | apply J24); (·rfl); (· exact k143_); (try kernel_rfl); try exact k25_) | fail)
   with_reducible apply At.roundExit
   ·exact k141_
   apply hnext
   with_reducible apply At.runEnd z1_ za_
   ·rfl
   ·rfl
   ·rfl
   ·exact k140_
   ·exact k130_
   repeat' (first | refine Ctl.h ?_ | ((with_reducible intro hif); first | (focus (cases hif; done)) | ((try simp only [JH] at hif); try (exfalso; omega))) | ((with_reducible first | apply J22 z1_ za_ | apply J23 fol z1_ za_ | apply J24); (·rfl); (· exact k143_); (try kernel_rfl); try exact k25_) | fail)
   with_reducible apply At.itRet .done
   ·rfl
   ·rfl
   ·intro h; cases h
   apply haft
   intro w1 M1 D1 hA
   dsimp only
   repeat' (first | refine Ctl.h ?_ | ((with_reducible intro hif); first | (focus (cases hif; done)) | ((try simp only [JH] at hif); try (exfalso; omega))) | ((with_reducible first | apply J22 z1_ za_ | apply J23 fol z1_ za_ | apply J24); (·rfl); (· exact k143_); (try kernel_rfl); try exact k25_) | fail)
   apply At.endsRet za_ (fn := Tryz.f13) (rs := [.cell 12 42, .tmp 13]) hA hro (lb_ rfl) rfl
   ·exact yq_
   ·exact ys_
   ·exact k6_
   ·rfl
   ·exact k139_
   ·exact zx_
   ·exact fun β => by rw [hl]; rfl
   ·exact k139_
 ·rw [runA_end rfl] at hr1
  rw [← hr1] at hb
  exact absurd rfl hb
def cRej : FuncId → Option yt_ := y6_ [(48, sRoB)]
theorem cRej_ok : ∀ f S, cRej f = some S → zh_ Tryz.prog f S := zn_ ⟨sRoB_ok, trivial⟩
theorem Run_rej (P : List Ins) (v : Evi) (t s q o y d f : Int) (cs : List Int) (p1 p2 : Nat) (hok : ∀ x ∈ P, x.ok) (hn : P.length ≤ 1000000) (hc : cs.length ≤ 1000000) (hE : ropE P v (xn_ y t s cs d) f ≠ 0) : zp_ Tryz.prog 13 [.sl 1 2 [] 5 0 P.length (some p1), .agg [.int .u64 v.seed, .int .i64 v.process, .int .i64 v.ports, .int .i64 v.look, .int .i64 v.now], .agg [.agg [.int .i64 t, .int .i64 s, .int .i64 q], .int .i64 o, .int .i64 y], .sl 3 4 [] 1 0 cs.length (some p2), .int .i64 d, .int .i64 f]
  [.gone, .gone, .ro (.arr P.length 5 (prS P)), .gone, .ro (.arr cs.length 1 (i64S cs))]
  (.tup [.agg [.nat .i64 0, .int .i64 0, .sl 0 0 [] 0 0 0 (some 0), .nat .i64 0, .sl 0 0 [] 0 0 0 (some 0)], .int .i64 (ropE P v (xn_ y t s cs d) f)]) [.gone] := by
 obtain ⟨s0, hs0⟩ : ∃ s0, xn_ y t s cs d = s0 := ⟨_, rfl⟩
 rw [hs0] at hE ⊢
 refine ze_ (fn := Tryz.f13) 5 66 0 rfl rfl rfl rfl rfl u18_ rfl fun w0 M E hro => ?_
 repeat' (first | refine Ctl.h ?_ | ((with_reducible intro hif); first | (focus (cases hif; done)) | ((try simp only [JH] at hif); try (exfalso; omega))) | ((with_reducible first | apply J22 cRej_ok za_ | apply J23 fol cRej_ok za_ | apply J24); (·rfl); (· (simp only [push_cast, ↓JP, Nat.reduceAdd, Nat.reduceEqDiff, Nat.reduceLT, Nat.reduceMul, Nat.reduceLeDiff, reduceCtorEq, reduceIte, ↓JK, cRej, sRoB, JE, hs0, inR, inN, hE]; rfl)); (try kernel_rfl); (try (focus (first | exact True.intro | ((try simp only [JS, implies_true, forall_const, yd_, z9_, kndOf, inR, inN]); (first | first | omega | exact ⟨hok, hn, hc⟩ | (repeat' (first | assumption | exact True.intro | omega | apply And.intro))); done))))) | fail)
 apply At.endsRet za_ (fn := Tryz.f13) (rs := [.cell 12 42, .tmp 13]) Anc.refl hro (lb_ rfl) rfl
 ·exact yq_
 ·exact ys_
 ·exact k6_
 ·rfl
 ·exact k139_
 ·exact zx_
 ·exact fun β => rfl
 ·exact k139_
theorem runO_good {P : List Ins} {v : Evi} {s : Sta} {f : Int} (h : (runO P v s f).bad = 0) : ropE P v s f = 0 := by
 by_cases q : ropE P v s f = 0
 ·exact q
 ·unfold runO at h
  rw [if_neg q] at h
  exact absurd h q
theorem pg_of {P : List Ins} {v : Evi} {s : Sta} {f : Int} (hok : ∀ x ∈ P, x.ok) (h : ropE P v s f = 0) : PG P ∧ VOk v :=
 have q := openE_zero (ropE_zero h).2
 ⟨⟨hok, q.1⟩, VOk.of q.2.1⟩
theorem RunB_lit (P : List Ins) (v : Evi) (t s q o y d f : Int) (cs : List Int) (p1 p2 : Nat) (hok : ∀ x ∈ P, x.ok) (hn : P.length ≤ 1000000) (hc : cs.length ≤ 1000000) (hb : (runO P v (xn_ y t s cs d) f).bad ≠ 0) : zp_ Tryz.prog 13 [.sl 1 2 [] 5 0 P.length (some p1), .agg [.int .u64 v.seed, .int .i64 v.process, .int .i64 v.ports, .int .i64 v.look, .int .i64 v.now], .agg [.agg [.int .i64 t, .int .i64 s, .int .i64 q], .int .i64 o, .int .i64 y], .sl 3 4 [] 1 0 cs.length (some p2), .int .i64 d, .int .i64 f]
  [.gone, .gone, .ro (.arr P.length 5 (prS P)), .gone, .ro (.arr cs.length 1 (i64S cs))]
  (.tup [.agg [.nat .i64 (runO P v (xn_ y t s cs d) f).tr.length, .int .i64 (runO P v (xn_ y t s cs d) f).at_, .sl 0 0 [] 0 0 0 (some 0), .nat .i64 0, .sl 0 0 [] 0 0 0 (some 0)], .int .i64 (runO P v (xn_ y t s cs d) f).bad]) [.gone] := by
 by_cases hE : ropE P v (xn_ y t s cs d) f = 0
 ·have e : runO P v (xn_ y t s cs d) f = xp_ P v f.toNat (xn_ y t s cs d) Ins0 [] 0 := by unfold runO; rw [if_pos hE]
  obtain ⟨hP, V⟩ := pg_of hok hE
  rw [e] at hb ⊢
  exact Run_bad P v t s q o y d f cs p1 p2 hP V hc hE _ rfl hb
 ·have e : runO P v (xn_ y t s cs d) f = ⟨[], 0, ropE P v (xn_ y t s cs d) f, zeroSt, Ins0⟩ := by unfold runO; rw [if_neg hE]
  rw [e]
  exact Run_rej P v t s q o y d f cs p1 p2 hok hn hc hE
theorem RunG_lit (P : List Ins) (v : Evi) (t s q o y d f : Int) (cs : List Int) (p1 p2 : Nat) (hok : ∀ x ∈ P, x.ok) (hc : cs.length ≤ 1000000) (hb : (runO P v (xn_ y t s cs d) f).bad = 0) : zp_ Tryz.prog 13 [.sl 1 2 [] 5 0 P.length (some p1), .agg [.int .u64 v.seed, .int .i64 v.process, .int .i64 v.ports, .int .i64 v.look, .int .i64 v.now], .agg [.agg [.int .i64 t, .int .i64 s, .int .i64 q], .int .i64 o, .int .i64 y], .sl 3 4 [] 1 0 cs.length (some p2), .int .i64 d, .int .i64 f]
  [.gone, .gone, .ro (.arr P.length 5 (prS P)), .gone, .ro (.arr cs.length 1 (i64S cs))]
  (.tup [.agg [.nat .i64 (runO P v (xn_ y t s cs d) f).tr.length, .int .i64 (runO P v (xn_ y t s cs d) f).at_, .sl 5 5 [] 1 0 (runO P v (xn_ y t s cs d) f).s.cells.length none, .int .i64 (runO P v (xn_ y t s cs d) f).s.draws, .sl 6 6 [] 3 0 (runO P v (xn_ y t s cs d) f).s.sends.length none], .int .i64 0]) [.gone, .gone, .gone, .gone, .gone, cB (runO P v (xn_ y t s cs d) f).s, sB (runO P v (xn_ y t s cs d) f).s] := by
 have hE := runO_good hb
 have e : runO P v (xn_ y t s cs d) f = xp_ P v f.toNat (xn_ y t s cs d) Ins0 [] 0 := by unfold runO; rw [if_pos hE]
 obtain ⟨hP, V⟩ := pg_of hok hE
 rw [e] at hb ⊢
 exact Run_good P v t s q o y d f cs p1 p2 hP V hc hE _ rfl hb
def sRunB : yt_ := fun args h m => match args with
 | [v1, .agg [v2, v3, v4, v5, v6], .agg [.agg [v7, v8, v9], v10, v11], v12, v13, v14] => match xv_ h 5 (.tup []) v1, xv_ h 1 (.tup []) v12 with
  | some (c1, n1, f1, r1), some (c12, n12, f12, r12) => bif isI .u64 v2 && isI .i64 v3 && isI .i64 v4 && isI .i64 v5 && isI .i64 v6 && isI .i64 v7 && isI .i64 v8 && isI .i64 v9 && isI .i64 v10 && isI .i64 v11 && isI .i64 v13 && isI .i64 v14 then some (c1 ∧ c12 ∧ (∀ q, q < n1 → isIns (f1 q) = true) ∧ (∀ q, q < n12 → isI .i64 (f12 q) = true) ∧ ((∀ x ∈ (ls zo_ n1 f1), x.ok)) ∧ (n1 ≤ 1000000) ∧ (n12 ≤ 1000000) ∧ ((runO (ls zo_ n1 f1) ⟨(iOf v2), (iOf v3), (iOf v4), (iOf v5), (iOf v6)⟩ (xn_ (iOf v11) (iOf v7) (iOf v8) (ls iOf n12 f12) (iOf v13)) (iOf v14)).bad ≠ 0), .tup [.agg [.nat .i64 (runO (ls zo_ n1 f1) ⟨(iOf v2), (iOf v3), (iOf v4), (iOf v5), (iOf v6)⟩ (xn_ (iOf v11) (iOf v7) (iOf v8) (ls iOf n12 f12) (iOf v13)) (iOf v14)).tr.length, .int .i64 (runO (ls zo_ n1 f1) ⟨(iOf v2), (iOf v3), (iOf v4), (iOf v5), (iOf v6)⟩ (xn_ (iOf v11) (iOf v7) (iOf v8) (ls iOf n12 f12) (iOf v13)) (iOf v14)).at_, .sl 0 0 [] 0 0 0 (some 0), .nat .i64 0, .sl 0 0 [] 0 0 0 (some 0)], .int .i64 (runO (ls zo_ n1 f1) ⟨(iOf v2), (iOf v3), (iOf v4), (iOf v5), (iOf v6)⟩ (xn_ (iOf v11) (iOf v7) (iOf v8) (ls iOf n12 f12) (iOf v13)) (iOf v14)).bad], r1 ++ r12, []) else none
  | _, _ => none
 | _ => none
theorem sRunB_ok : zh_ Tryz.prog 13 sRunB := by
 refine ⟨zf_ (by kernel_rfl), fun args h m c v rd wr hs hm hc w0 M β h' w R hrd hwr hst => ?_⟩
 unfold sRunB at hs
 split at hs
 ·rename_i v1 v2 v3 v4 v5 v6 v7 v8 v9 v10 v11 v12 v13 v14
  split at hs
  ·rename_i c1 n1 f1 r1 c12 n12 f12 r12 a1 a12
   obtain ⟨hb, hs⟩ := zj_ hs
   simp only [Option.some.injEq, Prod.mk.injEq] at hs
   obtain ⟨rfl, rfl, rfl, rfl⟩ := hs
   simp only [Bool.and_eq_true] at hb
   obtain ⟨⟨⟨⟨⟨⟨⟨⟨⟨⟨⟨b2, b3⟩, b4⟩, b5⟩, b6⟩, b7⟩, b8⟩, b9⟩, b10⟩, b11⟩, b13⟩, b14⟩ := hb
   obtain ⟨k1, k12, g1, g12, y1, y2, y3, y4⟩ := hc
   obtain ⟨A1, p1, d1, e1, t1⟩ := zi_ R a1 k1 (fun i hi => hrd i (List.mem_append_left _ hi)) (by omega)
   obtain ⟨A12, p12, d12, e12, t12⟩ := zi_ R a12 k12 (fun i hi => hrd i (List.mem_append_right _ hi)) (by omega)
   refine ym_ (views := [⟨5, (ls zo_ n1 f1).length, prS (ls zo_ n1 f1), A1, p1⟩, ⟨1, (ls iOf n12 f12).length, i64S (ls iOf n12 f12), A12, p12⟩]) (RunB_lit (ls zo_ n1 f1) ⟨(iOf v2), (iOf v3), (iOf v4), (iOf v5), (iOf v6)⟩ (iOf v7) (iOf v8) (iOf v9) (iOf v10) (iOf v11) (iOf v13) (iOf v14) (ls iOf n12 f12) p1 p12 y1 (by rw [zb_]; exact y2) (by rw [zb_]; exact y3) y4) ?_ R hm hwr ?_ ?_ ?_
   ·exact d43_
   ·exact d45_
   ·exact k139_
   ·exact k139_
  ·cases hs
 ·cases hs
def sRunG : yt_ := fun args h m => match args with
 | [v1, .agg [v2, v3, v4, v5, v6], .agg [.agg [v7, v8, v9], v10, v11], v12, v13, v14] => match xv_ h 5 (.tup []) v1, xv_ h 1 (.tup []) v12 with
  | some (c1, n1, f1, r1), some (c12, n12, f12, r12) => bif isI .u64 v2 && isI .i64 v3 && isI .i64 v4 && isI .i64 v5 && isI .i64 v6 && isI .i64 v7 && isI .i64 v8 && isI .i64 v9 && isI .i64 v10 && isI .i64 v11 && isI .i64 v13 && isI .i64 v14 then some (c1 ∧ c12 ∧ (∀ q, q < n1 → isIns (f1 q) = true) ∧ (∀ q, q < n12 → isI .i64 (f12 q) = true) ∧ ((∀ x ∈ (ls zo_ n1 f1), x.ok)) ∧ (n1 ≤ 1000000) ∧ (n12 ≤ 1000000) ∧ ((runO (ls zo_ n1 f1) ⟨(iOf v2), (iOf v3), (iOf v4), (iOf v5), (iOf v6)⟩ (xn_ (iOf v11) (iOf v7) (iOf v8) (ls iOf n12 f12) (iOf v13)) (iOf v14)).bad = 0), .tup [.agg [.nat .i64 (runO (ls zo_ n1 f1) ⟨(iOf v2), (iOf v3), (iOf v4), (iOf v5), (iOf v6)⟩ (xn_ (iOf v11) (iOf v7) (iOf v8) (ls iOf n12 f12) (iOf v13)) (iOf v14)).tr.length, .int .i64 (runO (ls zo_ n1 f1) ⟨(iOf v2), (iOf v3), (iOf v4), (iOf v5), (iOf v6)⟩ (xn_ (iOf v11) (iOf v7) (iOf v8) (ls iOf n12 f12) (iOf v13)) (iOf v14)).at_, .sl m m [] 1 0 (runO (ls zo_ n1 f1) ⟨(iOf v2), (iOf v3), (iOf v4), (iOf v5), (iOf v6)⟩ (xn_ (iOf v11) (iOf v7) (iOf v8) (ls iOf n12 f12) (iOf v13)) (iOf v14)).s.cells.length none, .int .i64 (runO (ls zo_ n1 f1) ⟨(iOf v2), (iOf v3), (iOf v4), (iOf v5), (iOf v6)⟩ (xn_ (iOf v11) (iOf v7) (iOf v8) (ls iOf n12 f12) (iOf v13)) (iOf v14)).s.draws, .sl (m + 1) (m + 1) [] 3 0 (runO (ls zo_ n1 f1) ⟨(iOf v2), (iOf v3), (iOf v4), (iOf v5), (iOf v6)⟩ (xn_ (iOf v11) (iOf v7) (iOf v8) (ls iOf n12 f12) (iOf v13)) (iOf v14)).s.sends.length none], .int .i64 0], r1 ++ r12, [(m, cB (runO (ls zo_ n1 f1) ⟨(iOf v2), (iOf v3), (iOf v4), (iOf v5), (iOf v6)⟩ (xn_ (iOf v11) (iOf v7) (iOf v8) (ls iOf n12 f12) (iOf v13)) (iOf v14)).s), (m + 1, sB (runO (ls zo_ n1 f1) ⟨(iOf v2), (iOf v3), (iOf v4), (iOf v5), (iOf v6)⟩ (xn_ (iOf v11) (iOf v7) (iOf v8) (ls iOf n12 f12) (iOf v13)) (iOf v14)).s)]) else none
  | _, _ => none
 | _ => none
theorem sRunG_ok : zh_ Tryz.prog 13 sRunG := by
 refine ⟨zf_ (by kernel_rfl), fun args h m c v rd wr hs hm hc w0 M β h' w R hrd hwr hst => ?_⟩
 unfold sRunG at hs
 split at hs
 ·rename_i v1 v2 v3 v4 v5 v6 v7 v8 v9 v10 v11 v12 v13 v14
  split at hs
  ·rename_i c1 n1 f1 r1 c12 n12 f12 r12 a1 a12
   obtain ⟨hb, hs⟩ := zj_ hs
   simp only [Option.some.injEq, Prod.mk.injEq] at hs
   obtain ⟨rfl, rfl, rfl, rfl⟩ := hs
   simp only [Bool.and_eq_true] at hb
   obtain ⟨⟨⟨⟨⟨⟨⟨⟨⟨⟨⟨b2, b3⟩, b4⟩, b5⟩, b6⟩, b7⟩, b8⟩, b9⟩, b10⟩, b11⟩, b13⟩, b14⟩ := hb
   obtain ⟨k1, k12, g1, g12, y1, y2, y3, y4⟩ := hc
   obtain ⟨A1, p1, d1, e1, t1⟩ := zi_ R a1 k1 (fun i hi => hrd i (List.mem_append_left _ hi)) (by omega)
   obtain ⟨A12, p12, d12, e12, t12⟩ := zi_ R a12 k12 (fun i hi => hrd i (List.mem_append_right _ hi)) (by omega)
   refine ym_ (views := [⟨5, (ls zo_ n1 f1).length, prS (ls zo_ n1 f1), A1, p1⟩, ⟨1, (ls iOf n12 f12).length, i64S (ls iOf n12 f12), A12, p12⟩]) (RunG_lit (ls zo_ n1 f1) ⟨(iOf v2), (iOf v3), (iOf v4), (iOf v5), (iOf v6)⟩ (iOf v7) (iOf v8) (iOf v9) (iOf v10) (iOf v11) (iOf v13) (iOf v14) (ls iOf n12 f12) p1 p12 y1 (by rw [zb_]; exact y3) y4) ?_ R hm hwr ?_ ?_ ?_
   ·exact d43_
   ·exact d45_
   ·exact k139_
   ·exact k139_
  ·cases hs
 ·cases hs
end Go.Proofs.YtjliakjbdcplcaaGreat.Vm
end
section
namespace Go.Proofs.YtjliakjbdcplcaaGreat.Vm
open Go.RowKit
attribute [local push_cast] prS zm_ i64S xm_ y4_ y3_ y2_ y1_ y0_ xl_ yz_ yy_ yx_ zl_ zz_ z2_ zy_ zq_ zr_ iOf JE inR inN
end Go.Proofs.YtjliakjbdcplcaaGreat.Vm
end
section
namespace Go.Proofs.YtjliakjbdcplcaaGreat.Vm
open Go.RowKit
def rvS (e a b c u : Nat) (w : Bool) : SV := .agg [.ptr e [], .fn 83 [.ptr a [], .ptr b [], .ptr c []], .nat .i64 u, .bool w]
def rB (e a b c u : Nat) (w : Bool) : HB := .own 52 (rvS e a b c u w) true
theorem rnone_lit (u : Nat) (w : Bool) : zp_ Tryz.prog 51 [.ptr 1 []] [.gone, rB 2 3 4 5 u w, .gone, .gone, .gone, .gone] (.bool false) [.gone, rB 2 3 4 5 u w, .gone, .gone, .gone, .gone] := by
 refine ze_ (fn := Tryz.f51) 6 12 0 rfl rfl rfl rfl rfl u19_ rfl fun w0 M E hro => ?_
 repeat' (first | refine Ctl.h ?_ | ((with_reducible intro hif); first | (focus (cases hif; done)) | ((try simp only [JH] at hif); try (exfalso; omega))) | ((with_reducible first | apply J22 zs_ za_ | apply J23 fol zs_ za_ | apply J24); (·rfl); (· (simp only [push_cast, ↓JP, Nat.reduceAdd, Nat.reduceEqDiff, Nat.reduceLT, Nat.reduceMul, Nat.reduceLeDiff, reduceCtorEq, reduceIte, ↓JK, rB, rvS, inR, inN]; rfl)); (try kernel_rfl); try exact k25_) | fail)
 apply At.endsPick [0, 1, 2, 3, 4, 5] za_ (fn := Tryz.f51) (rs := [.tmp 2]) Anc.refl hro (lb_ rfl) rfl
 ·exact yq_
 ·exact k12_
 ·rfl
 ·rfl
 ·rfl
 ·exact k29_
 ·rfl
 ·exact k142_
 ·exact zx_
 ·exact fun β => rfl
 ·exact k142_
end Go.Proofs.YtjliakjbdcplcaaGreat.Vm
end
end
