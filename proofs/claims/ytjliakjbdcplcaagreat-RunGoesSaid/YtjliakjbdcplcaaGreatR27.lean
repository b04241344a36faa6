import Derived.Test.YtjliakjbdcplcaaGreatR1
import Derived.Test.YtjliakjbdcplcaaGreatR26
set_option linter.unusedSimpArgs false
set_option linter.unusedVariables false
set_option maxRecDepth 100000
set_option maxHeartbeats 4000000
section
namespace Go.Proofs.YtjliakjbdcplcaaGreat.Vm
open Go.RowKit
attribute [local push_cast] prS zm_ i64S xm_ y4_ y3_ y2_ y1_ y0_ xl_ yz_ yy_ yx_ zl_ zz_ z2_ zy_ zq_ zr_ iOf JM cM1 rS mS macP aF bF cF putF jumpIfF sApply sDraw JE inR inN
theorem snd_app {l : List Snd} {y : Snd} {q : Nat} (hq : q < l.length + 1) (z : SV) (β : Env) : (SV.ite (decide (q < l.length)) (sndS (l.getD q ⟨0, 0, 0⟩)) ([sndS y].getD (q - l.length) z)).cl β = ((l ++ [y]).getD q ⟨0, 0, 0⟩).cells := by
 rw [xf_]
 by_cases h : q < l.length
 ·simp only [h, decide_true, cond_true, List.getD_eq_getElem?_getD, List.getElem?_append_left h]
  rw [isSnd_cl (z2_ _), zy_]
 ·obtain rfl : q = l.length := by omega
  simp only [Nat.lt_irrefl, decide_false, cond_false, Nat.sub_self, List.getD_eq_getElem?_getD, List.getElem?_append_right (Nat.le_refl _), List.getElem?_cons_zero, Option.getD_some]
  rw [isSnd_cl (z2_ _), zy_]
theorem m_send : zh_ Tryz.prog 169 (mS (kF 8 true)) := mS_ok (by kernel_rfl) fun ar s v x cond val s' x' mv hF hc => by
 unfold kF at hF
 split at hF
 ·cases hF
  obtain ⟨ho, R, V, S⟩ := hc
  obtain ⟨o0, o1, a0, a1, b0, b1, c0, c1, n0, n1⟩ := R.ok
  have ha := R.a
  have hb := R.b
  have hcc := R.c
  have s0 := S.a0
  have s1 := S.a1
  have d0 := S.d0
  have d1 := S.d1
  have sc := S.c1
  have sn := S.n1
  have v0 := V.p0
  have v1 := V.p1
  have v2 := V.t0
  have v3 := V.t1
  have v4 := V.o0
  have v5 := V.l0
  by_cases q0 : v.ports ≤ x.n
  ·have hE : doE s v x = 188 := by simp [doE, sendE, ho, q0]
   have hS : doS s v x = s := doS_bad (by rw [hE]; decide)
   rw [hE, hS]
   refine ⟨fun _ => rfl, fun _ => trivial, fun _ _ => rfl, fun _ _ _ => trivial, ?_⟩
   refine ze_ (fn := Tryz.f169) 4 72 0 rfl rfl rfl rfl rfl u11_ rfl fun w0 M E hro => ?_
   repeat' (first | refine Ctl.h ?_ | ((with_reducible intro hif); first | (focus (cases hif; done)) | ((try simp only [JH] at hif); try (exfalso; omega))) | ((with_reducible first | apply J22 xa_ za_ | apply J23 fol xa_ za_ | apply J24); (·rfl); (· (simp only [push_cast, ↓JP, Nat.reduceAdd, Nat.reduceEqDiff, Nat.reduceLT, Nat.reduceMul, Nat.reduceLeDiff, reduceCtorEq, reduceIte, ↓JK, Bool.cond_decide, q0]; rfl)); (try kernel_rfl); try exact y5_) | fail)
   apply At.endsPick [0, 1, 2, 3, 3] za_ (fn := Tryz.f169) (rs := [.tmp 2]) Anc.refl hro (lb_ rfl) rfl
   ·exact yq_
   ·exact k12_
   ·rfl
   ·rfl
   ·rfl
   ·exact k90_
   ·rfl
   ·exact y8_
   ·exact zx_
   ·exact fun β => rfl
   ·exact y8_
  by_cases q1 : s.regs x.a.toNat < v.look
  ·have hE : doE s v x = 189 := by simp [doE, sendE, ho, q0, q1]
   have hS : doS s v x = s := doS_bad (by rw [hE]; decide)
   rw [hE, hS]
   refine ⟨fun _ => rfl, fun _ => trivial, fun _ _ => rfl, fun _ _ _ => trivial, ?_⟩
   refine ze_ (fn := Tryz.f169) 4 72 0 rfl rfl rfl rfl rfl u11_ rfl fun w0 M E hro => ?_
   repeat' (first | refine Ctl.h ?_ | ((with_reducible intro hif); first | (focus (cases hif; done)) | ((try simp only [JH] at hif); try (exfalso; omega))) | ((with_reducible first | apply J22 xa_ za_ | apply J23 fol xa_ za_ | apply J24); (·rfl); (· (simp only [push_cast, ↓JP, Nat.reduceAdd, Nat.reduceEqDiff, Nat.reduceLT, Nat.reduceMul, Nat.reduceLeDiff, reduceCtorEq, reduceIte, ↓JK, Bool.cond_decide, q0, q1]; rfl)); (try kernel_rfl); try exact y5_) | fail)
   apply At.endsPick [0, 1, 2, 3, 3] za_ (fn := Tryz.f169) (rs := [.tmp 2]) Anc.refl hro (lb_ rfl) rfl
   ·exact yq_
   ·exact k12_
   ·rfl
   ·rfl
   ·rfl
   ·exact k90_
   ·rfl
   ·exact y8_
   ·exact zx_
   ·exact fun β => rfl
   ·exact y8_
  by_cases q2 : 281474976710656 - v.now < s.regs x.a.toNat
  ·have hE : doE s v x = 1800 := by simp [doE, sendE, ho, q0, q1, q2]
   have hS : doS s v x = s := doS_bad (by rw [hE]; decide)
   rw [hE, hS]
   refine ⟨fun _ => rfl, fun _ => trivial, fun _ _ => rfl, fun _ _ _ => trivial, ?_⟩
   refine ze_ (fn := Tryz.f169) 4 72 0 rfl rfl rfl rfl rfl u11_ rfl fun w0 M E hro => ?_
   repeat' (first | refine Ctl.h ?_ | ((with_reducible intro hif); first | (focus (cases hif; done)) | ((try simp only [JH] at hif); try (exfalso; omega))) | ((with_reducible first | apply J22 xa_ za_ | apply J23 fol xa_ za_ | apply J24); (·rfl); (· (simp only [push_cast, ↓JP, Nat.reduceAdd, Nat.reduceEqDiff, Nat.reduceLT, Nat.reduceMul, Nat.reduceLeDiff, reduceCtorEq, reduceIte, ↓JK, Bool.cond_decide, q0, q1, q2]; rfl)); (try kernel_rfl); try exact y5_) | fail)
   apply At.endsPick [0, 1, 2, 3, 3] za_ (fn := Tryz.f169) (rs := [.tmp 2]) Anc.refl hro (lb_ rfl) rfl
   ·exact yq_
   ·exact k12_
   ·rfl
   ·rfl
   ·rfl
   ·exact k90_
   ·rfl
   ·exact y8_
   ·exact zx_
   ·exact fun β => rfl
   ·exact y8_
  by_cases q3 : 256 ≤ s.sends.length
  ·have hE : doE s v x = 1801 := by simp [doE, sendE, ho, q0, q1, q2, q3]
   have hS : doS s v x = s := doS_bad (by rw [hE]; decide)
   rw [hE, hS]
   refine ⟨fun _ => rfl, fun _ => trivial, fun _ _ => rfl, fun _ _ _ => trivial, ?_⟩
   refine ze_ (fn := Tryz.f169) 4 72 0 rfl rfl rfl rfl rfl u11_ rfl fun w0 M E hro => ?_
   repeat' (first | refine Ctl.h ?_ | ((with_reducible intro hif); first | (focus (cases hif; done)) | ((try simp only [JH] at hif); try (exfalso; omega))) | ((with_reducible first | apply J22 xa_ za_ | apply J23 fol xa_ za_ | apply J24); (·rfl); (· exact k91_); (try kernel_rfl); try exact y5_) | fail)
   apply At.endsPick [0, 1, 2, 3, 3] za_ (fn := Tryz.f169) (rs := [.tmp 2]) Anc.refl hro (lb_ rfl) rfl
   ·exact yq_
   ·exact k12_
   ·rfl
   ·rfl
   ·rfl
   ·exact k90_
   ·rfl
   ·exact y8_
   ·exact zx_
   ·exact fun β => rfl
   ·exact y8_
  have hE : doE s v x = 0 := by simp [doE, sendE, ho, q0, q1, q2, q3]
  have hS : doS s v x = { s with at_ := s.at_ + 1, sends := s.sends ++ [⟨x.n, s.regs x.a.toNat, s.regs x.b.toNat⟩] } := by simp [doS, hE, ho]
  rw [hE, hS]
  refine ⟨fun _ => rfl, fun _ => trivial, fun _ _ => rfl, fun _ _ _ => trivial, ?_⟩
  have hx := R.snd ho
  have hY : ∀ σ, Less (.own 125 (.arr (s.sends.length + 1) 3 fun q => SV.ite (decide (q < s.sends.length)) (sndS (s.sends.getD q ⟨0, 0, 0⟩)) ([SV.agg [.int .i64 x.n, .int .i64 (s.regs x.a.toNat), .int .i64 (s.regs x.b.toNat)]].getD (q - s.sends.length) (.agg [.nat .i64 0, .nat .i64 0, .nat .i64 0]))) false) ((HB.own 125 (.arr (s.sends ++ [(⟨x.n, s.regs x.a.toNat, s.regs x.b.toNat⟩ : Snd)]).length 3 (zm_ (s.sends ++ [(⟨x.n, s.regs x.a.toNat, s.regs x.b.toNat⟩ : Snd)]))) false).ren σ) := fun σ => less_snd s.sends ⟨x.n, s.regs x.a.toNat, s.regs x.b.toNat⟩ rfl fun q hq β => snd_app (y := ⟨x.n, s.regs x.a.toNat, s.regs x.b.toNat⟩) hq _ β
  refine ze_ (fn := Tryz.f169) 4 72 0 rfl rfl rfl rfl rfl u11_ rfl fun w0 M E hro => ?_
  repeat' (first | refine Ctl.h ?_ | ((with_reducible intro hif); first | (focus (cases hif; done)) | ((try simp only [JH] at hif); try (exfalso; omega))) | ((with_reducible first | apply J22 xa_ za_ | apply J23 fol xa_ za_ | apply J24); (·rfl); (· exact k91_); (try kernel_rfl); try exact y5_) | fail)
  apply At.endsPick [0, 1, 2, 3, 5] za_ (fn := Tryz.f169) (rs := [.tmp 2]) Anc.refl hro (lb_ rfl) rfl
  ·exact yq_
  ·exact k12_
  ·rfl
  ·rfl
  ·rfl
  ·exact k90_
  ·rfl
  ·exact y8_
  ·exact zx_
  ·exact fun β => rfl
  ·exact y8_
 ·cases hF
end Go.Proofs.YtjliakjbdcplcaaGreat.Vm
end
