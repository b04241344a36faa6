import Derived.WalkKit
import Derived.WalkSpells
import Derived.WalkLawsBesides
import Derived.Lib.Hide
import Derived.Deep.QuietTactic
import Derived.BigQuiet
import Derived.Deep.Draws
import Derived.Deep.AppendLies
import Derived.Maps.AppendAt
import Derived.Test.YtmljmabbopkpiaaRows
import Derived.ProofKit
import Derived.OpenShut
import Derived.WideKeyArgs
section
namespace Go.Proofs.Ytmljmabbopkpiaa.Vm
theorem d3_ {P : Prop} (h : P := by
 rename_i y hy
 split at hs
 ·rename_i y' hy'
  injection hs with hs; subst hs
  simp only [zb_]
  refine z2_.2 fun z hz => ?_
  rcases mem_set_of hz with rfl | hz
  ·exact zb_.of_setp (z2_.1 hv y (List.mem_of_getElem? hy)) hx hy'
  ·exact z2_.1 hv z hz
 ·cases hs) : P := h
theorem d5_ {P : Prop} (h : P := by
 split at h
 ·split at h
  ·injection h with h; subst h; exact ⟨fun n k f h => (by cases h), rfl⟩
  ·cases h
 ·cases h) : P := h
theorem d6_ {P : Prop} (h : P := by
 rename_i c' u he
 simp only [Option.some.injEq, Prod.mk.injEq] at ho
 obtain ⟨rfl, rfl, rfl⟩ := ho
 obtain ⟨h1, h2⟩ := X.ev he hc
 exact ⟨h1, by simp [execOp, h2]⟩) : P := h
theorem d7_ {P : Prop} (h : P := by
 have e1 : (wrs h' [(m, HB.gone)] m).born = true := by show (upd h' m _ m).born = true; rw [zl_]; rfl
 have e2 : (wrs h' [(m, HB.gone)] i).born = true := by show (upd h' m _ i).born = true; rw [zy_ him]; exact h1.2
 exact ⟨e1, e2⟩) : P := h
theorem d8_ {P : Prop} (h : P := by
 rw [hjm, hm0, hy4]
 cases A with
 | none => rfl
 | some ad => exact run_firstCells_some w k 0 ad n2 C [] (by simp) (fun j u hj => by cases hj)) : P := h
theorem d9_ {P : Prop} (h : P := by
 obtain ⟨B, hB2⟩ : ∃ B, a.eval x = .slice B 0 (max 0 (cp.getD (β z).2)) := ⟨_, by rw [h2]; rfl⟩
 rw [hy4] at hfirst
 have hz : zk_ β k 0 g = [] := rfl
 rw [hz] at hfirst
 cases B with
 | none => simp [execOp, resolve, invoke, builtin, hB2, hy4, Builtin.copy_, run_underlying hdd, Builtin.lenOf, yp_ hie, hes, hfirst, goInt, hmin]
 | some ad => simp [execOp, resolve, invoke, builtin, hB2, hy4, Builtin.copy_, run_underlying hdd, Builtin.lenOf, yp_ hie, hes, hfirst, goInt, hmin, storeCells]) : P := h
theorem d10_ {P : Prop} (h : P := by
 rw [look_push, hd1] at hv
 rw [hpe, put_get hsz hd2]
 by_cases h : o.dst = some t
 ·simp only [h, if_true, Option.some.injEq] at hv ⊢
  subst hv
  exact ⟨k4, k5⟩
 ·simp only [h, if_false] at hv ⊢
  obtain ⟨h1, h2⟩ := F t v hv
  exact ⟨h1.more k2, by rw [h2]; exact h1.den k1⟩) : P := h
theorem d11_ {P : Prop} (h : P := by
 simp only [h, if_true, Option.some.injEq] at hv ⊢
 subst hv
 exact ⟨k4, k5⟩) : P := h
theorem d12_ {P : Prop} (h : P := by
 simp only [h, if_false] at hv ⊢
 obtain ⟨h1, h2⟩ := F t v hv
 exact ⟨h1.more k2, by rw [h2]; exact h1.den k1⟩) : P := h
theorem d13_ {P : Prop} (h : P := by
 obtain ⟨k1, k2, k3, k4⟩ := k1 r hr
 refine ⟨k1, fun ⟨i, a', hm, ha, e⟩ => ?_, (R.frame r k2 k3).trans k4⟩
 rcases R.own i a' hm ha with h' | h'
 ·omega
 ·exact k3 (by rw [← e]; exact h')) : P := h
theorem d14_ {P : Prop} (h : P := by
 have hlt : i < L1.length := by
  rcases Nat.lt_or_ge i L1.length with h' | h'
  ·exact h'
  ·rw [yh_ h'] at hb; cases hb
 rw [hrn i hi, hm _ (by omega) (by omega)]
 rfl) : P := h
theorem d15_ {P : Prop} (h : P := by
 simp only [idTo, List.all_eq_true] at hid
 have e := Nat.eq_of_beq_eq_true (hid i (List.mem_range.2 hi))
 show β (l.getD i 0) = E i
 rw [e]; exact hE i hi) : P := h
theorem d16_ {P : Prop} (h : P := by
 intro β1 hv
 simp only [Vd, zg_, and_true] at hv
 have z1 := hv
 simp only [denL, aggDen, intDen, natDen, yl_, zg_, z1, d1, zz_ b2]) : P := h
theorem d17_ {P : Prop} (h : P := by
 have hu : updF F (k + 1) f = none := by unfold updF; rw [hJ]; simp [hsm]
 with_reducible apply WF.split 6 2
 ·rfl
 with_reducible apply At.run zd_ za_
 ·rfl
 ·rfl
 ·rfl
 ·exact k25_
 ·exact k26_
 with_reducible apply At.yield (gr := _)
 ·rfl
 ·rfl
 ·rfl
 ·rfl
 ·rfl
 ·rfl
 ·exact k25_
 ·exact k27_
 ·exact k25_
 ·exact k26_
 ·exact k25_
 ·exact k26_
 ·exact k27_
 ·exact hrec
 ·exact hcf
 ·rfl
 ·rfl
 ·rfl
 intro lb E2 next hE2 hnext
 repeat' (first | refine Ctl.h ?_ | ((with_reducible intro hif); first | (focus (cases hif; done)) | ((try simp only [JH] at hif); try (exfalso; omega))) | ((with_reducible first | apply J22 zd_ za_ | apply J23 fol zd_ za_ | apply J24); (·rfl); (· exact k37_); (try kernel_rfl); try exact k36_) | fail)
 with_reducible apply At.begins hrec
 ·rfl
 with_reducible refine At.code ?_
 repeat' (first | refine Ctl.h ?_ | ((with_reducible intro hif); first | (focus (cases hif; done)) | ((try simp only [JH] at hif); try (exfalso; omega))) | ((with_reducible first | apply J22 zd_ za_ | apply J23 fol zd_ za_ | apply J24); (·rfl); (· exact k37_); (try kernel_rfl); try exact k36_) | fail)
 with_reducible apply At.roundNormal
 ·exact k27_
 apply hnext
 with_reducible apply At.runEnd zd_ za_
 ·rfl
 ·rfl
 ·rfl
 ·exact k25_
 ·exact k26_
 repeat' (first | refine Ctl.h ?_ | ((with_reducible intro hif); first | (focus (cases hif; done)) | ((try simp only [JH] at hif); try (exfalso; omega))) | ((with_reducible first | apply J22 zd_ za_ | apply J23 fol zd_ za_ | apply J24); (·rfl); (· exact k37_); (try kernel_rfl); try exact k36_) | fail)
 refine At.join () ?_ ?_ ?_ rfl ?_ ?_ rfl
 ·exact fun _ => hu
 ·exact k3_
 ·exact k4_
 ·exact zh_
 ·exact zh_) : P := h
theorem d18_ {P : Prop} (h : P := by
 have hu : updF F T f = none := by unfold updF; rw [hJ]; simp [hsm]
 with_reducible apply WF.split 3 0
 ·rfl
 with_reducible apply At.run zd_ za_
 ·rfl
 ·rfl
 ·rfl
 ·exact k29_
 ·exact k26_
 with_reducible apply At.yield (gr := _)
 ·rfl
 ·rfl
 ·rfl
 ·rfl
 ·rfl
 ·rfl
 ·exact k29_
 ·exact k30_
 ·exact k29_
 ·exact k26_
 ·exact k29_
 ·exact k26_
 ·exact k30_
 ·exact hrec
 ·exact hcf
 ·rfl
 ·rfl
 ·rfl
 intro lb E2 next hE2 hnext
 repeat' (first | refine Ctl.h ?_ | ((with_reducible intro hif); first | (focus (cases hif; done)) | ((try simp only [JH] at hif); try (exfalso; omega))) | ((with_reducible first | apply J22 zd_ za_ | apply J23 fol zd_ za_ | apply J24); (·rfl); (· exact k38_); (try kernel_rfl); try exact k36_) | fail)
 with_reducible apply At.begins hrec
 ·rfl
 with_reducible refine At.code ?_
 repeat' (first | refine Ctl.h ?_ | ((with_reducible intro hif); first | (focus (cases hif; done)) | ((try simp only [JH] at hif); try (exfalso; omega))) | ((with_reducible first | apply J22 zd_ za_ | apply J23 fol zd_ za_ | apply J24); (·rfl); (· exact k38_); (try kernel_rfl); try exact k36_) | fail)
 with_reducible apply At.roundNormal
 ·exact k30_
 apply hnext
 with_reducible apply At.runEnd zd_ za_
 ·rfl
 ·rfl
 ·rfl
 ·exact k29_
 ·exact k26_
 repeat' (first | refine Ctl.h ?_ | ((with_reducible intro hif); first | (focus (cases hif; done)) | ((try simp only [JH] at hif); try (exfalso; omega))) | ((with_reducible first | apply J22 zd_ za_ | apply J23 fol zd_ za_ | apply J24); (·rfl); (· exact k38_); (try kernel_rfl); try exact k36_) | fail)
 have hs0 : scanY F (z7_ x k (zv_ F k)) = none := by rw [zh]; exact scanE_0 h1 (fun _ => by rw [hTn]; exact hu)
 with_reducible apply At.itNormal .ready
 ·rfl
 ·rfl
 ·intro h; cases h
 apply haft
 intro w1 M1 D1 hA
 dsimp only
 repeat' (first | refine Ctl.h ?_ | ((with_reducible intro hif); first | (focus (cases hif; done)) | ((try simp only [JH] at hif); try (exfalso; omega))) | ((with_reducible first | apply J22 zd_ za_ | apply J23 fol zd_ za_ | apply J24); (·rfl); (· exact k34_); (try kernel_rfl); try exact k11_) | fail)
 refine At.nextB hA [0, 1, 2, 3, 4] (k + 1) ?_ rfl rfl rfl ?_ rfl ?_ ?_ ?_ rfl
 ·exact k22_
 ·exact k23_
 ·exact zh_
 ·exact k24_
 ·exact zh_) : P := h
theorem d19_ {P : Prop} (h : P := by
 have : mdN s x k = targV x := by rw [hT]; simp [mdN, q, z]
 rw [this]
 cases hi : (f.regs x.a.toNat).is_
 ·simp [z7_, q, hi]; exact emit_to ht
 ·simp [z7_, q, hi, hA hi, z]; exact emit_to rfl) : P := h
theorem d20_ {P : Prop} (h : P := by
 have : mdN s x k = k + 1 := by simp [mdN, q, z]
 rw [this]
 cases hi : (f.regs x.a.toNat).is_
 ·simp [z7_, q, hi]; exact emit_go hg
 ·simp [z7_, q, hi, hA hi, z]; exact emit_go rfl) : P := h
theorem d21_ {P : Prop} (h : P := by
 have hE : mdE lp ll s x = false := by simp [mdE, q, hqA, hqB, hqC]
 have hT : mdT lp ll s x at_ = 0 := by simp [mdT, hE]
 have hS : mdR lp ll o s x = s := by simp [mdR, hE]
 rw [hE, hT, hS]
 refine z3_ (fn := Try.f37) 5 200 0 rfl rfl rfl rfl rfl u3_ rfl fun w0 M E hro => ?_
 repeat' (first | refine Ctl.h ?_ | ((with_reducible intro hif); first | (focus (cases hif; done)) | ((try simp only [JH] at hif); try (exfalso; omega))) | ((with_reducible first | apply J22 z0_ za_ | apply J23 fol z0_ za_ | apply J24); (·rfl); (· exact k52_); (try kernel_rfl); try exact k9_) | fail)
 apply At.endsPick [0, 1, 2, 3, 4] za_ (fn := Try.f37) (rs := [.tmp 8, .tmp 9]) Anc.refl hro (lb_ rfl) rfl
 ·exact k49_
 ·exact k21_
 ·rfl
 ·rfl
 ·rfl
 ·exact k50_
 ·rfl
 ·exact k51_
 ·exact k8_
 ·exact fun β => rfl
 ·exact k51_) : P := h
theorem d22_ {P : Prop} (h : P := by
 have h9 : ¬ (0 ≤ B ∧ B < (s.cells.length : Int)) := by omega
 have hE : mdE lp ll s x = false := by simp [mdE, q, hqA, hqB, hqC]; omega
 have hT : mdT lp ll s x at_ = 0 := by simp [mdT, hE]
 have hS : mdR lp ll o s x = s := by simp [mdR, hE]
 rw [hE, hT, hS]
 refine z3_ (fn := Try.f37) 5 200 0 rfl rfl rfl rfl rfl u3_ rfl fun w0 M E hro => ?_
 repeat' (first | refine Ctl.h ?_ | ((with_reducible intro hif); first | (focus (cases hif; done)) | ((try simp only [JH] at hif); try (exfalso; omega))) | ((with_reducible first | apply J22 z0_ za_ | apply J23 fol z0_ za_ | apply J24); (·rfl); (· exact k53_); (try kernel_rfl); try exact k9_) | fail)
 apply At.endsPick [0, 1, 2, 3, 4] za_ (fn := Try.f37) (rs := [.tmp 8, .tmp 9]) Anc.refl hro (lb_ rfl) rfl
 ·exact k49_
 ·exact k21_
 ·rfl
 ·rfl
 ·rfl
 ·exact k50_
 ·rfl
 ·exact k51_
 ·exact k8_
 ·exact fun β => rfl
 ·exact k51_) : P := h
theorem d23_ {P : Prop} (h : P := by
 have h9 : ¬ (0 ≤ B ∧ B < (s.cells.length : Int)) := by omega
 have hE : mdE lp ll s x = false := by simp [mdE, q, hqA, hqB, hqC]; omega
 have hT : mdT lp ll s x at_ = 0 := by simp [mdT, hE]
 have hS : mdR lp ll o s x = s := by simp [mdR, hE]
 rw [hE, hT, hS]
 refine z3_ (fn := Try.f37) 5 200 0 rfl rfl rfl rfl rfl u3_ rfl fun w0 M E hro => ?_
 repeat' (first | refine Ctl.h ?_ | ((with_reducible intro hif); first | (focus (cases hif; done)) | ((try simp only [JH] at hif); try (exfalso; omega))) | ((with_reducible first | apply J22 z0_ za_ | apply J23 fol z0_ za_ | apply J24); (·rfl); (· exact k54_); (try kernel_rfl); try exact k9_) | fail)
 apply At.endsPick [0, 1, 2, 3, 4] za_ (fn := Try.f37) (rs := [.tmp 8, .tmp 9]) Anc.refl hro (lb_ rfl) rfl
 ·exact k49_
 ·exact k21_
 ·rfl
 ·rfl
 ·rfl
 ·exact k50_
 ·rfl
 ·exact k51_
 ·exact k8_
 ·exact fun β => rfl
 ·exact k51_) : P := h
theorem d24_ {P : Prop} (h : P := by
 have hE : mdE lp ll s x = false := by simp [mdE, q, hqA, hqB, hqC]; omega
 have hT : mdT lp ll s x at_ = 0 := by simp [mdT, hE]
 have hS : mdR lp ll o s x = s := by simp [mdR, hE]
 rw [hE, hT, hS]
 refine z3_ (fn := Try.f37) 5 200 0 rfl rfl rfl rfl rfl u3_ rfl fun w0 M E hro => ?_
 repeat' (first | refine Ctl.h ?_ | ((with_reducible intro hif); first | (focus (cases hif; done)) | ((try simp only [JH] at hif); try (exfalso; omega))) | ((with_reducible first | apply J22 z0_ za_ | apply J23 fol z0_ za_ | apply J24); (·rfl); (· exact k53_); (try kernel_rfl); try exact k9_) | fail)
 apply At.endsPick [0, 1, 2, 3, 4] za_ (fn := Try.f37) (rs := [.tmp 8, .tmp 9]) Anc.refl hro (lb_ rfl) rfl
 ·exact k49_
 ·exact k21_
 ·rfl
 ·rfl
 ·rfl
 ·exact k50_
 ·rfl
 ·exact k51_
 ·exact k8_
 ·exact fun β => rfl
 ·exact k51_) : P := h
theorem d25_ {P : Prop} (h : P := by
 have hE : mdE lp ll s x = true := by simp [mdE, q, hqA, hqB, hqC, h1]
 have hT : mdT lp ll s x at_ = x.n := by simp [mdT, hE, mdN, q, hqA, hqB, hqC, h1]
 have hS : mdR lp ll o s x = s := by simp [mdR, hE, mdS, q, hqA, hqB, hqC, h1]
 rw [hE, hT, hS]
 refine z3_ (fn := Try.f37) 5 200 0 rfl rfl rfl rfl rfl u3_ rfl fun w0 M E hro => ?_
 repeat' (first | refine Ctl.h ?_ | ((with_reducible intro hif); first | (focus (cases hif; done)) | ((try simp only [JH] at hif); try (exfalso; omega))) | ((with_reducible first | apply J22 z0_ za_ | apply J23 fol z0_ za_ | apply J24); (·rfl); (· exact k53_); (try kernel_rfl); try exact k9_) | fail)
 apply At.endsPick [0, 1, 2, 3, 4] za_ (fn := Try.f37) (rs := [.tmp 8, .tmp 9]) Anc.refl hro (lb_ rfl) rfl
 ·exact k49_
 ·exact k21_
 ·rfl
 ·rfl
 ·rfl
 ·exact k50_
 ·rfl
 ·exact k51_
 ·exact k8_
 ·exact fun β => rfl
 ·exact k51_) : P := h
theorem d26_ {P : Prop} (h : P := by
 have hE : mdE lp ll s x = true := by simp [mdE, q, hqA, hqB, hqC, h1]
 have hT : mdT lp ll s x at_ = at_ + 1 := by simp [mdT, hE, mdN, q, hqA, hqB, hqC, h1]
 have hS : mdR lp ll o s x = s := by simp [mdR, hE, mdS, q, hqA, hqB, hqC, h1]
 rw [hE, hT, hS]
 refine z3_ (fn := Try.f37) 5 200 0 rfl rfl rfl rfl rfl u3_ rfl fun w0 M E hro => ?_
 repeat' (first | refine Ctl.h ?_ | ((with_reducible intro hif); first | (focus (cases hif; done)) | ((try simp only [JH] at hif); try (exfalso; omega))) | ((with_reducible first | apply J22 z0_ za_ | apply J23 fol z0_ za_ | apply J24); (·rfl); (· exact k53_); (try kernel_rfl); try exact k9_) | fail)
 apply At.endsPick [0, 1, 2, 3, 4] za_ (fn := Try.f37) (rs := [.tmp 8, .tmp 9]) Anc.refl hro (lb_ rfl) rfl
 ·exact k49_
 ·exact k21_
 ·rfl
 ·rfl
 ·rfl
 ·exact k50_
 ·rfl
 ·exact k51_
 ·exact k8_
 ·exact fun β => rfl
 ·exact k51_) : P := h
theorem d27_ {P : Prop} (h : P := by
 intro x hx
 simp only [List.mem_cons, List.not_mem_nil, or_false] at hx
 subst hx
 ·exact viewIns t1 e1 g1) : P := h
theorem d28_ {P : Prop} (h : P := by
 intro β1 hv
 simp only [Vd, zg_, and_true] at hv
 have z1 := hv
 simp only [denL, aggDen, intDen, natDen, yl_, zg_, z1, d1]) : P := h
theorem d29_ {P : Prop} (h : P := by
 obtain ⟨x, hX⟩ : ∃ x, xs.getD k ⟨0, 0, 0, 0, 0⟩ = x := ⟨_, rfl⟩
 have hR := right_at hx hc hkl
 rw [hX] at hR
 have hok := hR.ok
 have ha8 := hR.a
 have hb8 := hR.b
 have hc8 := hR.c
 by_cases he : whyE c p l x (zv_ F k) = 0
 ·have e : ya_ xs F c p l (k + 1) = Dk := by unfold ya_; rw [hD, hX, if_neg (fun h => h he), List.append_nil]
  repeat' (first | refine Ctl.h ?_ | ((with_reducible intro hif); first | (focus (cases hif; done)) | ((try simp only [JH] at hif); try (exfalso; omega))) | ((with_reducible first | apply J22 ze_ za_ | apply J23 fol ze_ za_ | apply J24); (·rfl); (· exact k67_); (try kernel_rfl); try exact k11_) | fail)
  have e4 : Less (.own 79 (nilOr Dk 10) true) (.own 79 (nilOr (ya_ xs F c p l (k + 1)) 10) true) := by rw [e]; exact .same _
  have e5 : Less (.own 3 (.arr Dk.length 1 (i64S Dk)) false) (.own 3 (.arr (ya_ xs F c p l (k + 1)).length 1 (i64S (ya_ xs F c p l (k + 1)))) false) := by rw [e]; exact .same _
  refine At.next (k + 1) ?_ ?_ ?_ rfl ?_ ?_ rfl
  ·omega
  ·exact k3_
  ·exact k4_
  ·exact k59_
  ·exact k59_
 ·have e : ya_ xs F c p l (k + 1) = Dk ++ [(k : Int)] := by unfold ya_; rw [hD, hX, if_pos he]
  have ht : whyE c p l x (zv_ F k) = 0 ↔ False := ⟨he, False.elim⟩
  cases hDe : Dk.isEmpty
  ·rw [nilOr_f hDe]
   repeat' (first | refine Ctl.h ?_ | ((with_reducible intro hif); first | (focus (cases hif; done)) | ((try simp only [JH] at hif); try (exfalso; omega))) | ((with_reducible first | apply J22 ze_ za_ | apply J23 fol ze_ za_ | apply J24); (·rfl); (· exact k67_); (try kernel_rfl); try exact k11_) | fail)
   with_reducible apply WF.split 6 2
   ·rfl
   with_reducible apply At.run ze_ za_
   ·rfl
   ·rfl
   ·rfl
   ·exact k60_
   ·exact k61_
   with_reducible apply At.yield (gr := _)
   ·rfl
   ·rfl
   ·rfl
   ·rfl
   ·rfl
   ·rfl
   ·exact k60_
   ·exact k62_
   ·exact k60_
   ·exact k61_
   ·exact k60_
   ·exact k61_
   ·exact k62_
   ·exact hrec
   ·exact hcf
   ·rfl
   ·rfl
   ·rfl
   intro lb E2 next hE2 hnext
   repeat' (first | refine Ctl.h ?_ | ((with_reducible intro hif); first | (focus (cases hif; done)) | ((try simp only [JH] at hif); try (exfalso; omega))) | ((with_reducible first | apply J22 ze_ za_ | apply J23 fol ze_ za_ | apply J24); (·rfl); (· exact k68_); (try kernel_rfl); try exact k11_) | fail)
   with_reducible apply At.begins hrec
   ·rfl
   with_reducible refine At.code ?_
   repeat' (first | refine Ctl.h ?_ | ((with_reducible intro hif); first | (focus (cases hif; done)) | ((try simp only [JH] at hif); try (exfalso; omega))) | ((with_reducible first | apply J22 ze_ za_ | apply J23 fol ze_ za_ | apply J24); (·rfl); (· exact k69_); (try kernel_rfl); try exact k11_) | fail)
   with_reducible apply At.roundNormal
   ·exact k62_
   apply hnext
   with_reducible apply At.runEnd ze_ za_
   ·rfl
   ·rfl
   ·rfl
   ·exact k60_
   ·exact k61_
   repeat' (first | refine Ctl.h ?_ | ((with_reducible intro hif); first | (focus (cases hif; done)) | ((try simp only [JH] at hif); try (exfalso; omega))) | ((with_reducible first | apply J22 ze_ za_ | apply J23 fol ze_ za_ | apply J24); (·rfl); (· exact k68_); (try kernel_rfl); try exact k11_) | fail)
   have hA1 : ∀ g : Nat → SV, (∀ q, q < Dk.length + 1 → g q = SV.ite (decide (q < Dk.length)) (.int .i64 (Dk.getD q 0)) ([SV.nat .i64 k].getD (q - Dk.length) (.nat .i64 0))) → ∀ σ, Less (.own 3 (.arr (Dk.length + 1) 1 g) false) ((HB.own 3 (.arr (Dk ++ [(k : Int)]).length 1 (i64S (Dk ++ [(k : Int)]))) false).ren σ) := fun g hg σ => less_app Dk k fun q hq β => by
    rw [hg q hq, ite_eq]
    by_cases h : q < Dk.length
    ·simp only [h, decide_true, cond_true, List.getD_eq_getElem?_getD, List.getElem?_append_left h]; rfl
    ·obtain rfl : q = Dk.length := by omega
     simp only [Nat.lt_irrefl, decide_false, cond_false, Nat.sub_self, List.getD_eq_getElem?_getD, List.getElem?_append_right (Nat.le_refl _), List.getElem?_cons_zero, Option.getD_some]; rfl
   refine At.nextPick [0, 1, 2, 3, 4, 5, 6, 7, 8, 9, 13] (k + 1) ?_ rfl rfl rfl ?_ rfl ?_ ?_ ?_ rfl
   ·omega
   ·exact k63_
   ·exact k59_
   ·exact k24_
   ·exact k59_
  ·rw [nilOr_t hDe]
   have hDz : Dk = [] := by simpa using hDe
   subst hDz
   repeat' (first | refine Ctl.h ?_ | ((with_reducible intro hif); first | (focus (cases hif; done)) | ((try simp only [JH] at hif); try (exfalso; omega))) | ((with_reducible first | apply J22 ze_ za_ | apply J23 fol ze_ za_ | apply J24); (·rfl); (· exact k67_); (try kernel_rfl); try exact k11_) | fail)
   with_reducible apply WF.split 6 2
   ·rfl
   with_reducible apply At.run ze_ za_
   ·rfl
   ·rfl
   ·rfl
   ·exact k60_
   ·exact k61_
   with_reducible apply At.yield (gr := _)
   ·rfl
   ·rfl
   ·rfl
   ·rfl
   ·rfl
   ·rfl
   ·exact k60_
   ·exact k62_
   ·exact k60_
   ·exact k61_
   ·exact k60_
   ·exact k61_
   ·exact k62_
   ·exact hrec
   ·exact hcf
   ·rfl
   ·rfl
   ·rfl
   intro lb E2 next hE2 hnext
   repeat' (first | refine Ctl.h ?_ | ((with_reducible intro hif); first | (focus (cases hif; done)) | ((try simp only [JH] at hif); try (exfalso; omega))) | ((with_reducible first | apply J22 ze_ za_ | apply J23 fol ze_ za_ | apply J24); (·rfl); (· exact k68_); (try kernel_rfl); try exact k11_) | fail)
   with_reducible apply At.begins hrec
   ·rfl
   with_reducible refine At.code ?_
   repeat' (first | refine Ctl.h ?_ | ((with_reducible intro hif); first | (focus (cases hif; done)) | ((try simp only [JH] at hif); try (exfalso; omega))) | ((with_reducible first | apply J22 ze_ za_ | apply J23 fol ze_ za_ | apply J24); (·rfl); (· exact k69_); (try kernel_rfl); try exact k11_) | fail)
   with_reducible apply At.roundNormal
   ·exact k62_
   apply hnext
   with_reducible apply At.runEnd ze_ za_
   ·rfl
   ·rfl
   ·rfl
   ·exact k60_
   ·exact k61_
   repeat' (first | refine Ctl.h ?_ | ((with_reducible intro hif); first | (focus (cases hif; done)) | ((try simp only [JH] at hif); try (exfalso; omega))) | ((with_reducible first | apply J22 ze_ za_ | apply J23 fol ze_ za_ | apply J24); (·rfl); (· exact k68_); (try kernel_rfl); try exact k11_) | fail)
   have hA1 : ∀ g : Nat → SV, (∀ q, q < 0 + 1 → g q = [SV.nat .i64 k].getD q (.nat .i64 0)) → ∀ σ, Less (.own 3 (.arr (0 + 1) 1 g) false) ((HB.own 3 (.arr ([] ++ [(k : Int)]).length 1 (i64S ([] ++ [(k : Int)]))) false).ren σ) := fun g hg σ => less_app [] k fun q hq β => by
    rw [hg q hq]
    obtain rfl : q = 0 := by simp at hq; omega
    rfl
   refine At.nextPick [0, 1, 2, 3, 4, 5, 6, 7, 8, 9, 13] (k + 1) ?_ rfl rfl rfl ?_ rfl ?_ ?_ ?_ rfl
   ·omega
   ·exact k63_
   ·exact k59_
   ·exact k24_
   ·exact k59_) : P := h
theorem d35_ {P : Prop} (h : P := by
 intro β1 hv
 simp only [Vd, zg_, and_true] at hv
 have z1 := hv
 simp only [denL, aggDen, intDen, natDen, yl_, zg_, z1, d1, zz_ b2, zz_ b3, zz_ b4]) : P := h
end Go.Proofs.Ytmljmabbopkpiaa.Vm
end
section
namespace Go.Proofs.Ytmljmabbopkpiaa.Vm
theorem lb_ {m n : Nat} (h : Nat.ble m n = true) : m ≤ n := Nat.le_of_ble_eq_true h
end Go.Proofs.Ytmljmabbopkpiaa.Vm
end
set_option linter.unusedSimpArgs false
set_option linter.unusedVariables false
section
namespace Go.Proofs.Ytmljmabbopkpiaa.Vm
theorem u1_ {P : Prop} (h : P := by simp only [zc_, zb_, hp]; simp [HB.born]) : P := h
theorem u2_ {P : Prop} (h : P := by (repeat' (first | exact trivial | exact rfl | assumption | apply zb_.ite | apply And.intro | intro _ | (simp only [zb_, zc_, i64S, prS, insS, sndsS, sndS]; done)))) : P := h
theorem u3_ {P : Prop} (h : P := by simp only [zc_, zb_, hp, i64S, prS, insS, sndsS, sndS, mdS_, kS, kaS, ftS, ftsS]; simp [HB.born, mdB, mcB]) : P := h
theorem k1_ {P : Prop} (h : P := by rw [List.length_append, clL_length, ho, hl]; rfl) : P := h
theorem k2_ {P : Prop} (h : P := by rw [zy_ hj]; exact HB.stable_more (R.st j) born) : P := h
theorem k3_ {P : Prop} (h : P := by ((repeat' (first | exact trivial | apply And.intro)) <;> (first | rfl | (simp only [look, cond_true, cond_false]; done)))) : P := h
theorem k4_ {P : Prop} (h : P := by (repeat' (first | exact trivial | exact .same _ | exact .dead _ | exact .gone rfl | exact .loose | assumption | exact .arr (by assumption) | apply And.intro))) : P := h
theorem k5_ {P : Prop} (h : P := by (repeat' (first | exact trivial | exact rfl | assumption | apply zb_.ite | apply And.intro | intro _ | (simp only [zb_, zc_, i64S, prS, insS, sndsS, sndS]; done)))) : P := h
theorem k6_ {P : Prop} (h : P := by simp only [push_cast, ↓JP, Nat.reduceAdd, Nat.reduceEqDiff, Nat.reduceLT, Nat.reduceMul, Nat.reduceLeDiff, reduceCtorEq, reduceIte, resV, resV1]; rfl) : P := h
theorem k7_ {P : Prop} (h : P := by (first | trivial | (simp only [and_self]; done))) : P := h
theorem k8_ {P : Prop} (h : P := by (repeat' (first | exact trivial | exact .inl rfl | exact .inr rfl | exact rfl | apply And.intro))) : P := h
theorem k9_ {P : Prop} (h : P := by (first | exact True.intro | ((try simp only [JS, implies_true, forall_const, z4_, ye_, kndOf]); (repeat' (first | assumption | exact True.intro | omega | apply And.intro)); done))) : P := h
theorem k10_ {P : Prop} (h : P := by (simp only [push_cast, ↓JP, Nat.reduceAdd, Nat.reduceEqDiff, Nat.reduceLT, Nat.reduceMul, Nat.reduceLeDiff, reduceCtorEq, reduceIte]; rfl)) : P := h
theorem k11_ {P : Prop} (h : P := by (first | exact True.intro | ((try simp only [JS, implies_true, forall_const, z4_, ye_, kndOf, inN]); (repeat' (first | assumption | exact True.intro | omega | apply And.intro)); done))) : P := h
theorem k12_ {P : Prop} (h : P := by simp only [push_cast, ↓JP, Nat.reduceAdd, Nat.reduceEqDiff, Nat.reduceLT, Nat.reduceMul, Nat.reduceLeDiff, reduceCtorEq, reduceIte, ↓JK, ↓JF, resV, resV1]; rfl) : P := h
theorem zh_ {P : Prop} (h : P := by (repeat' (first | exact trivial | exact rfl | assumption | apply zb_.ite | apply And.intro | intro _ | (simp only [zb_, zc_, i64S, prS, insS, sndsS, sndS, kS, kaS, ftS, ftsS]; done)))) : P := h
theorem k14_ {P : Prop} (h : P := by (first | exact True.intro | ((try simp only [JS, implies_true, forall_const, z4_, ye_, kndOf, inN, inR]); (repeat' (first | assumption | exact True.intro | omega | apply And.intro)); done))) : P := h
theorem k15_ {P : Prop} (h : P := by (simp only [push_cast, ↓JP, Nat.reduceAdd, Nat.reduceEqDiff, Nat.reduceLT, Nat.reduceMul, Nat.reduceLeDiff, reduceCtorEq, reduceIte, ↓JK, ↓JF, cRes, sDiv, sApply, h3, h4, h32, hdv, hb1, hc1, ↓kn_eqZ, inN, inR]; rfl)) : P := h
theorem k16_ {P : Prop} (h : P := by (simp only [push_cast, ↓JP, Nat.reduceAdd, Nat.reduceEqDiff, Nat.reduceLT, Nat.reduceMul, Nat.reduceLeDiff, reduceCtorEq, reduceIte, ↓JK, ↓JF, cRes, sDiv, sApply, h3, h4, h32, hdv, hb1, hc1, ↓kn_eqZ, inN, inR, hn0]; rfl)) : P := h
theorem k17_ {P : Prop} (h : P := by (simp only [push_cast, ↓JP, Nat.reduceAdd, Nat.reduceEqDiff, Nat.reduceLT, Nat.reduceMul, Nat.reduceLeDiff, reduceCtorEq, reduceIte, ↓JK, ↓JF]; rfl)) : P := h
theorem k18_ {P : Prop} (h : P := by rename_i q; intro hf hc; obtain ⟨q1, q2, q3, q4⟩ := hc; exact ⟨by omega, by omega, by omega, fun t => by omega, by omega⟩) : P := h
theorem k19_ {P : Prop} (h : P := by rename_i q; intro hf hc; obtain ⟨q1, q2, q3, q4, q5⟩ := hc; exact ⟨by omega, by omega, by omega, fun t => by omega, by omega⟩) : P := h
theorem k20_ {P : Prop} (h : P := by simp only [push_cast, ↓JP, Nat.reduceAdd, Nat.reduceEqDiff, Nat.reduceLT, Nat.reduceMul, Nat.reduceLeDiff, reduceCtorEq, reduceIte, ↓JK, ↓JF]; rfl) : P := h
theorem k21_ {P : Prop} (h : P := by (focus (first | exact True.intro | ((try simp only [JS, implies_true, forall_const, z4_, ye_, kndOf]); (repeat' (first | assumption | exact True.intro | omega | apply And.intro)); done)))) : P := h
theorem k22_ {P : Prop} (h : P := by exact ⟨⟨hkl, scan_next hsc hre hX hs0⟩, by omega⟩) : P := h
theorem k23_ {P : Prop} (h : P := by (repeat' (first | exact trivial | exact .inl rfl | exact .inr (.same _) | exact .inr .loose | exact .inr (.arr (by assumption)) | apply And.intro))) : P := h
theorem k24_ {P : Prop} (h : P := by (repeat' (first | exact trivial | exact ⟨_, rfl, fun β => rfl⟩ | apply And.intro))) : P := h
theorem k25_ {P : Prop} (h : P := by simp only [push_cast, ↓JP, Nat.reduceAdd, Nat.reduceEqDiff, Nat.reduceLT, Nat.reduceMul, Nat.reduceLeDiff, reduceCtorEq, reduceIte, ↓JK, ↓JF, noDefer, List.drop_zero, List.drop_succ_cons, cFa, sGoes, yc_, yg_, sMeet, sHands, hX, inN, inR, ftsS, ↓zw_, ↓zt_, ft_eq, hrT, hsm, hTl]; rfl) : P := h
theorem k26_ {P : Prop} (h : P := by (focus (first | exact True.intro | ((try simp only [JS, implies_true, forall_const, z4_, ye_, kndOf, inN, inR]); (repeat' (first | assumption | exact True.intro | omega | apply And.intro)); done)))) : P := h
theorem k27_ {P : Prop} (h : P := by first | rfl | (simp only [push_cast, ↓JP, Nat.reduceAdd, Nat.reduceEqDiff, Nat.reduceLT, Nat.reduceMul, Nat.reduceLeDiff, reduceCtorEq, reduceIte, ↓JK, ↓JF, noDefer, List.drop_zero, List.drop_succ_cons, cFa, sGoes, yc_, yg_, sMeet, sHands, hX, inN, inR, ftsS, ↓zw_, ↓zt_, ft_eq, hrT, hsm, hTl]; done)) : P := h
theorem k28_ {P : Prop} (h : P := by exact ⟨⟨hlt.2.trans hFl, iter_next hs1 hlt.1 hm hFm⟩, hlt.1⟩) : P := h
theorem k29_ {P : Prop} (h : P := by simp only [push_cast, ↓JP, Nat.reduceAdd, Nat.reduceEqDiff, Nat.reduceLT, Nat.reduceMul, Nat.reduceLeDiff, reduceCtorEq, reduceIte, ↓JK, ↓JF, noDefer, List.drop_zero, List.drop_succ_cons, cFa, sGoes, yc_, yg_, sMeet, sHands, hX, inN, inR, ftsS, ↓zw_, ↓zt_, ft_eq, hTn, Int.toNat_natCast, hrT, hsm, hTl]; rfl) : P := h
theorem k30_ {P : Prop} (h : P := by first | rfl | (simp only [push_cast, ↓JP, Nat.reduceAdd, Nat.reduceEqDiff, Nat.reduceLT, Nat.reduceMul, Nat.reduceLeDiff, reduceCtorEq, reduceIte, ↓JK, ↓JF, noDefer, List.drop_zero, List.drop_succ_cons, cFa, sGoes, yc_, yg_, sMeet, sHands, hX, inN, inR, ftsS, ↓zw_, ↓zt_, ft_eq, hTn, Int.toNat_natCast, hrT, hsm, hTl]; done)) : P := h
theorem k31_ {P : Prop} (h : P := by (simp only [push_cast, ↓JP, Nat.reduceAdd, Nat.reduceEqDiff, Nat.reduceLT, Nat.reduceMul, Nat.reduceLeDiff, reduceCtorEq, reduceIte, ↓JK, ↓JF, cFa, sGoes, yc_, yg_, sMeet, sHands, hX, inN, inR, ftsS, ↓zw_, ↓zt_, ft_eq, h, hG10, hT10, hk1, hk0]; rfl)) : P := h
theorem k32_ {P : Prop} (h : P := by (simp only [push_cast, ↓JP, Nat.reduceAdd, Nat.reduceEqDiff, Nat.reduceLT, Nat.reduceMul, Nat.reduceLeDiff, reduceCtorEq, reduceIte, ↓JK, ↓JF, cFa, sGoes, yc_, yg_, sMeet, sHands, hX, inN, inR, ftsS, ↓zw_, ↓zt_, ft_eq, h, hG11, hT11, hk1, hk0]; rfl)) : P := h
theorem k33_ {P : Prop} (h : P := by (simp only [push_cast, ↓JP, Nat.reduceAdd, Nat.reduceEqDiff, Nat.reduceLT, Nat.reduceMul, Nat.reduceLeDiff, reduceCtorEq, reduceIte, ↓JK, ↓JF, cFa, sGoes, yc_, yg_, sMeet, sHands, hX, inN, inR, ftsS, ↓zw_, ↓zt_, ft_eq, n3, n4, n5, n7, n6, n8, n10, n11, h32, hG12, hT12, hr2]; rfl)) : P := h
theorem k34_ {P : Prop} (h : P := by (simp only [push_cast, ↓JP, Nat.reduceAdd, Nat.reduceEqDiff, Nat.reduceLT, Nat.reduceMul, Nat.reduceLeDiff, reduceCtorEq, reduceIte, ↓JK, ↓JF, inN]; rfl)) : P := h
theorem k35_ {P : Prop} (h : P := by (simp only [push_cast, ↓JP, Nat.reduceAdd, Nat.reduceEqDiff, Nat.reduceLT, Nat.reduceMul, Nat.reduceLeDiff, reduceCtorEq, reduceIte, ↓JK, ↓JF, cFa, sGoes, yc_, yg_, sMeet, sHands, hX, inN, inR, ftsS, ↓zw_, ↓zt_, ft_eq]; rfl)) : P := h
theorem k36_ {P : Prop} (h : P := by (first | exact True.intro | ((simp only [true_and, and_true, and_self, Nat.zero_add, ↓zw_, ↓zt_]; (repeat' (first | assumption | exact True.intro | omega | apply And.intro))); done) | ((try simp only [JS, implies_true, forall_const, z4_, ye_, kndOf, inN, inR]); (repeat' (first | assumption | exact True.intro | omega | apply And.intro)); done))) : P := h
theorem k37_ {P : Prop} (h : P := by (simp only [push_cast, ↓JP, Nat.reduceAdd, Nat.reduceEqDiff, Nat.reduceLT, Nat.reduceMul, Nat.reduceLeDiff, reduceCtorEq, reduceIte, ↓JK, ↓JF, cFa, sGoes, yc_, yg_, sMeet, sHands, hX, inN, inR, ftsS, ↓zw_, ↓zt_, ft_eq, hrT, hsm, hTl]; rfl)) : P := h
theorem k38_ {P : Prop} (h : P := by (simp only [push_cast, ↓JP, Nat.reduceAdd, Nat.reduceEqDiff, Nat.reduceLT, Nat.reduceMul, Nat.reduceLeDiff, reduceCtorEq, reduceIte, ↓JK, ↓JF, cFa, sGoes, yc_, yg_, sMeet, sHands, hX, inN, inR, ftsS, ↓zw_, ↓zt_, ft_eq, hTn, Int.toNat_natCast, hrT, hsm, hTl]; rfl)) : P := h
theorem k39_ {P : Prop} (h : P := by (simp only [push_cast, ↓JP, Nat.reduceAdd, Nat.reduceEqDiff, Nat.reduceLT, Nat.reduceMul, Nat.reduceLeDiff, reduceCtorEq, reduceIte, ↓JK, ↓JF, inN, inR, h0, h1, h2, h3, h4, h5]; rfl)) : P := h
theorem k40_ {P : Prop} (h : P := by (first | exact True.intro | ((try simp only [JS, implies_true, forall_const, z4_, ye_, kndOf]); (first | exact ⟨fun q _ => rfl, hx, hl⟩ | (repeat' (first | assumption | exact True.intro | omega | apply And.intro))); done))) : P := h
theorem k41_ {P : Prop} (h : P := by (simp only [push_cast, ↓JP, Nat.reduceAdd, Nat.reduceEqDiff, Nat.reduceLT, Nat.reduceMul, Nat.reduceLeDiff, reduceCtorEq, reduceIte, ↓JK, ↓JF, cFits, sCheck, sRight17, ls_prS, ls_prS', ls_prS2, h1, h2]; rfl)) : P := h
theorem k42_ {P : Prop} (h : P := by (simp only [push_cast, ↓JP, Nat.reduceAdd, Nat.reduceEqDiff, Nat.reduceLT, Nat.reduceMul, Nat.reduceLeDiff, reduceCtorEq, reduceIte, ↓JK, ↓JF, cWhy, sDiv, ↓kn_eqZ, inN, inR, hre, h5, q1, q2, q3, q4]; rfl)) : P := h
theorem k43_ {P : Prop} (h : P := by (simp only [push_cast, ↓JP, Nat.reduceAdd, Nat.reduceEqDiff, Nat.reduceLT, Nat.reduceMul, Nat.reduceLeDiff, reduceCtorEq, reduceIte, ↓JK, ↓JF, cWhy, sDiv, ↓kn_eqZ, inN, inR, hre, h6, q1, q2, q3, q4]; rfl)) : P := h
theorem k44_ {P : Prop} (h : P := by (simp only [push_cast, ↓JP, Nat.reduceAdd, Nat.reduceEqDiff, Nat.reduceLT, Nat.reduceMul, Nat.reduceLeDiff, reduceCtorEq, reduceIte, ↓JK, ↓JF, cWhy, sDiv, ↓kn_eqZ, inN, inR, hre, h8, hd, q1, q2, q3]; rfl)) : P := h
theorem k45_ {P : Prop} (h : P := by (simp only [push_cast, ↓JP, Nat.reduceAdd, Nat.reduceEqDiff, Nat.reduceLT, Nat.reduceMul, Nat.reduceLeDiff, reduceCtorEq, reduceIte, ↓JK, ↓JF, cWhy, sDiv, ↓kn_eqZ, inN, inR, hre, h7, hd, q2, q3]; rfl)) : P := h
theorem k46_ {P : Prop} (h : P := by (simp only [push_cast, ↓JP, Nat.reduceAdd, Nat.reduceEqDiff, Nat.reduceLT, Nat.reduceMul, Nat.reduceLeDiff, reduceCtorEq, reduceIte, ↓JK, ↓JF, cWhy, sDiv, ↓kn_eqZ, inN, inR, hre, h2, h5, h6, h8, h7, hd, q1, q2]; rfl)) : P := h
theorem k47_ {P : Prop} (h : P := by simp only [mdN, z7_, q]; exact emit_go hg) : P := h
theorem k48_ {P : Prop} (h : P := by rw [show (mdS o s x).regs = s.regs by simp [mdS, q]]; exact hf) : P := h
theorem k49_ {P : Prop} (h : P := by simp only [push_cast, ↓JP, Nat.reduceAdd, Nat.reduceEqDiff, Nat.reduceLT, Nat.reduceMul, Nat.reduceLeDiff, reduceCtorEq, reduceIte, ↓JK, resV, resV1]; rfl) : P := h
theorem k50_ {P : Prop} (h : P := by (repeat' (first | exact trivial | exact .inl rfl | exact .inr (.same _) | exact .inr .loose | exact .inr (.arr (by assumption)) | apply And.intro | (exact .inr (.same _)) | (refine .inr (less_md _ ?_ ?_ ?_ ?_ ?_ ?_) <;> first | rfl | (intro q _ β; rfl) | (intro q _ β; simp only [MS.put]; rfl) | omega | simp) | (refine .inr (less_set17 _ _ _ ?_ ?_) <;> first | rfl | (intro q _ β; rfl) | omega | simp)))) : P := h
theorem k51_ {P : Prop} (h : P := by (repeat' (first | exact trivial | exact rfl | assumption | apply zb_.ite | apply And.intro | intro _ | (simp only [zb_, zc_, i64S, prS, insS, sndsS, sndS, mdS_, kS, kaS, ftS, ftsS]; done)))) : P := h
theorem k52_ {P : Prop} (h : P := by (simp only [push_cast, ↓JP, Nat.reduceAdd, Nat.reduceEqDiff, Nat.reduceLT, Nat.reduceMul, Nat.reduceLeDiff, reduceCtorEq, reduceIte, ↓JK, JD, Bool.cond_decide, Int.add_zero, eq_self, cMd, q, ta, tb, tc, hqA, hqB, hqC]; rfl)) : P := h
theorem k53_ {P : Prop} (h : P := by (simp only [push_cast, ↓JP, Nat.reduceAdd, Nat.reduceEqDiff, Nat.reduceLT, Nat.reduceMul, Nat.reduceLeDiff, reduceCtorEq, reduceIte, ↓JK, JD, Bool.cond_decide, Int.add_zero, eq_self, cMd, q, ta, tb, tc, hqA, hqB, hqC, h1]; rfl)) : P := h
theorem k54_ {P : Prop} (h : P := by (simp only [push_cast, ↓JP, Nat.reduceAdd, Nat.reduceEqDiff, Nat.reduceLT, Nat.reduceMul, Nat.reduceLeDiff, reduceCtorEq, reduceIte, ↓JK, JD, Bool.cond_decide, Int.add_zero, eq_self, cMd, q, ta, tb, tc, hqA, hqB, hqC, h1, h2]; rfl)) : P := h
theorem k55_ {P : Prop} (h : P := by (simp only [push_cast, ↓JP, Nat.reduceAdd, Nat.reduceEqDiff, Nat.reduceLT, Nat.reduceMul, Nat.reduceLeDiff, reduceCtorEq, reduceIte, ↓JK, JD, Bool.cond_decide, Int.add_zero, eq_self, cMd, q, ta, tb, tc, hqA, hqB, hqC, h1, n1, n2, n3, n4, n5, n6, n7, n8, n9, n10, n11, n32, m32]; rfl)) : P := h
theorem k56_ {P : Prop} (h : P := by (repeat' (first | exact trivial | exact .inl rfl | exact .inr (.same _) | exact .inr .loose | exact .inr (.arr (by assumption)) | apply And.intro | (rw [e1, e2]; exact .inr (.same _))))) : P := h
theorem k57_ {P : Prop} (h : P := by (simp only [push_cast, ↓JP, Nat.reduceAdd, Nat.reduceEqDiff, Nat.reduceLT, Nat.reduceMul, Nat.reduceLeDiff, reduceCtorEq, reduceIte, ↓JK, ↓JF, cLst, ftsS, hX, inN, inR, hkl, hre, h5, q1, q2, q3]; rfl)) : P := h
theorem k58_ {P : Prop} (h : P := by (simp only [push_cast, ↓JP, Nat.reduceAdd, Nat.reduceEqDiff, Nat.reduceLT, Nat.reduceMul, Nat.reduceLeDiff, reduceCtorEq, reduceIte, ↓JK, ↓JF, cLst, ftsS, hX, inN, inR, hkl, hre, h6, q1, q2, q3]; rfl)) : P := h
theorem k59_ {P : Prop} (h : P := by (repeat' (first | exact trivial | exact rfl | assumption | apply zb_.ite | exact nilOr_st rfl rfl | apply And.intro | intro _ | (simp only [zb_, zc_, i64S, prS, insS, sndsS, sndS, kS, kaS, ftS, ftsS]; done)))) : P := h
theorem k60_ {P : Prop} (h : P := by simp only [push_cast, ↓JP, Nat.reduceAdd, Nat.reduceEqDiff, Nat.reduceLT, Nat.reduceMul, Nat.reduceLeDiff, reduceCtorEq, reduceIte, ↓JK, ↓JF, noDefer, List.drop_zero, List.drop_succ_cons, cWys, inN, he]; rfl) : P := h
theorem k61_ {P : Prop} (h : P := by (focus (first | exact True.intro | ((try simp only [JS, implies_true, forall_const, z4_, ye_, kndOf, inN]); (repeat' (first | assumption | exact True.intro | omega | apply And.intro)); done)))) : P := h
theorem k62_ {P : Prop} (h : P := by first | rfl | (simp only [push_cast, ↓JP, Nat.reduceAdd, Nat.reduceEqDiff, Nat.reduceLT, Nat.reduceMul, Nat.reduceLeDiff, reduceCtorEq, reduceIte, ↓JK, ↓JF, noDefer, List.drop_zero, List.drop_succ_cons, cWys, inN, he]; done)) : P := h
theorem k63_ {P : Prop} (h : P := by (repeat' (first | exact trivial | exact .inl rfl | exact .inr (.same _) | exact .inr .loose | exact .inr (.arr (by assumption)) | apply And.intro | (rw [e]; exact .inr (hA1 _ (fun q _ => rfl) _)) | (rw [e]; refine .inr (less_nil ?_ ?_ ?_) <;> first | rfl | simp)))) : P := h
theorem k64_ {P : Prop} (h : P := by (first | exact True.intro | ((try simp only [JS, implies_true, forall_const, z4_, ye_, kndOf]); (first | exact ⟨fun q _ => rfl, hx, by omega⟩ | (repeat' (first | assumption | exact True.intro | omega | apply And.intro))); done))) : P := h
theorem k65_ {P : Prop} (h : P := by (simp only [push_cast, ↓JP, Nat.reduceAdd, Nat.reduceEqDiff, Nat.reduceLT, Nat.reduceMul, Nat.reduceLeDiff, reduceCtorEq, reduceIte, ↓JK, ↓JF, cWys, sFits, sWhys, ls_prS, ls_prS', ls_prS2, hfit]; rfl)) : P := h
theorem k66_ {P : Prop} (h : P := by (simp only [push_cast, ↓JP, Nat.reduceAdd, Nat.reduceEqDiff, Nat.reduceLT, Nat.reduceMul, Nat.reduceLeDiff, reduceCtorEq, reduceIte, ↓JK, ↓JF, cWys, sFactsI, ls_prS, ls_prS', ls_prS2, hc, ← hF]; rfl)) : P := h
theorem k67_ {P : Prop} (h : P := by (simp only [push_cast, ↓JP, Nat.reduceAdd, Nat.reduceEqDiff, Nat.reduceLT, Nat.reduceMul, Nat.reduceLeDiff, reduceCtorEq, reduceIte, ↓JK, ↓JF, cWys, sWhyL, ftsS, hX, inN, hkl, he]; rfl)) : P := h
theorem k68_ {P : Prop} (h : P := by (simp only [push_cast, ↓JP, Nat.reduceAdd, Nat.reduceEqDiff, Nat.reduceLT, Nat.reduceMul, Nat.reduceLeDiff, reduceCtorEq, reduceIte, ↓JK, ↓JF, cWys, inN, he]; rfl)) : P := h
theorem k69_ {P : Prop} (h : P := by (simp only [push_cast, ↓JP, Nat.reduceAdd, Nat.reduceEqDiff, Nat.reduceLT, Nat.reduceMul, Nat.reduceLeDiff, reduceCtorEq, reduceIte, ↓JK, ↓JF, cWys, inN, he, Nat.sub_zero]; rfl)) : P := h
theorem k70_ {P : Prop} (h : P := by (simp only [push_cast, ↓JP, Nat.reduceAdd, Nat.reduceEqDiff, Nat.reduceLT, Nat.reduceMul, Nat.reduceLeDiff, reduceCtorEq, reduceIte, ↓JK, ↓JF, cWys, inN]; rfl)) : P := h
theorem k71_ {P : Prop} (h : P := by simp only [push_cast, ↓JP, Nat.reduceAdd, Nat.reduceEqDiff, Nat.reduceLT, Nat.reduceMul, Nat.reduceLeDiff, reduceCtorEq, reduceIte, ↓JK, ↓JF, noDefer, List.drop_zero, List.drop_succ_cons, cWys, inN, hf, h176]; rfl) : P := h
theorem k72_ {P : Prop} (h : P := by first | rfl | (simp only [push_cast, ↓JP, Nat.reduceAdd, Nat.reduceEqDiff, Nat.reduceLT, Nat.reduceMul, Nat.reduceLeDiff, reduceCtorEq, reduceIte, ↓JK, ↓JF, noDefer, List.drop_zero, List.drop_succ_cons, cWys, inN, hf, h176]; done)) : P := h
theorem k73_ {P : Prop} (h : P := by simp only [push_cast, ↓JP, Nat.reduceAdd, Nat.reduceEqDiff, Nat.reduceLT, Nat.reduceMul, Nat.reduceLeDiff, reduceCtorEq, reduceIte, ↓JK, ↓JF, noDefer, List.drop_zero, List.drop_succ_cons, cWys, inN, he, hf]; rfl) : P := h
theorem k74_ {P : Prop} (h : P := by first | rfl | (simp only [push_cast, ↓JP, Nat.reduceAdd, Nat.reduceEqDiff, Nat.reduceLT, Nat.reduceMul, Nat.reduceLeDiff, reduceCtorEq, reduceIte, ↓JK, ↓JF, noDefer, List.drop_zero, List.drop_succ_cons, cWys, inN, he, hf]; done)) : P := h
theorem k75_ {P : Prop} (h : P := by (simp only [push_cast, ↓JP, Nat.reduceAdd, Nat.reduceEqDiff, Nat.reduceLT, Nat.reduceMul, Nat.reduceLeDiff, reduceCtorEq, reduceIte, ↓JK, ↓JF, cWys, inN, hf]; rfl)) : P := h
theorem k76_ {P : Prop} (h : P := by (simp only [push_cast, ↓JP, Nat.reduceAdd, Nat.reduceEqDiff, Nat.reduceLT, Nat.reduceMul, Nat.reduceLeDiff, reduceCtorEq, reduceIte, ↓JK, ↓JF, cWys, inN, he, hf]; rfl)) : P := h
theorem k77_ {P : Prop} (h : P := by exact yq_ (show _ ∧ _ ∧ _ ∧ _ by dsimp only; omega)) : P := h
theorem k78_ {P : Prop} (h : P := by exact yq_ (show _ ∧ _ ∧ _ ∧ _ ∧ _ by dsimp only; omega)) : P := h
theorem k79_ {P : Prop} (h : P := by (repeat' (first | exact trivial | exact rfl | assumption | apply zb_.ite | apply And.intro | intro _ | (simp only [zb_, zc_, i64S, prS, insS, sndsS, sndS, mdS_, mdB, mcB, kS, kaS, ftS, ftsS]; done)))) : P := h
theorem k80_ {P : Prop} (h : P := by (first | exact True.intro | ((repeat' (first | exact True.intro | assumption | omega | exact fun q _ => rfl | apply And.intro | intro _)); done) | ((try simp only [JS, implies_true, forall_const, z4_, ye_, kndOf]); (repeat' (first | assumption | exact True.intro | omega | apply And.intro)); done))) : P := h
theorem k81_ {P : Prop} (h : P := by (simp only [push_cast, ↓JP, Nat.reduceAdd, Nat.reduceEqDiff, Nat.reduceLT, Nat.reduceMul, Nat.reduceLeDiff, reduceCtorEq, reduceIte, ↓JK, ↓JF, cL5, ms_eta, ← hp, ← hF, hc, hpp, hl, hD, lsI5, Int.add_zero, eq_self, Int.toNat_natCast]; rfl)) : P := h
theorem k82_ {P : Prop} (h : P := by (simp only [push_cast, ↓JP, Nat.reduceAdd, Nat.reduceEqDiff, Nat.reduceLT, Nat.reduceMul, Nat.reduceLeDiff, reduceCtorEq, reduceIte, ↓JK, ↓JF, cL5, ms_eta, ← hp, ← hF, hc, hpp, hl, hD, lsI5, Int.add_zero, eq_self, Int.toNat_natCast, ftsS, hr8, hi, hq]; rfl)) : P := h
end Go.Proofs.Ytmljmabbopkpiaa.Vm
end
section
namespace Go.Proofs.Ytmljmabbopkpiaa
open Go.RowKit
structure Ins where
 op : Int
 a : Int
 b : Int
 c : Int
 n : Int
deriving DecidableEq
def Ins.cells (i : Ins) : List Value := [.int .u8 i.op, .int .u8 i.a, .int .u8 i.b, .int .u8 i.c, .int .i64 i.n]
def Ins.v (i : Ins) : Value := .agg #[.int .u8 i.op, .int .u8 i.a, .int .u8 i.b, .int .u8 i.c, .int .i64 i.n]
structure Ins.ok (i : Ins) : Prop where
 op0 : 0 ≤ i.op
 op1 : i.op ≤ 255
 a0 : 0 ≤ i.a
 a1 : i.a ≤ 255
 b0 : 0 ≤ i.b
 b1 : i.b ≤ 255
 c0 : 0 ≤ i.c
 c1 : i.c ≤ 255
 n0 : -9223372036854775808 ≤ i.n
 n1 : i.n ≤ 9223372036854775807
def yi_ (op : Int) : Nat :=
 if 32 < op ∧ op ≤ 49 then 1
 else if op = 1 ∨ op = 2 then 2
 else if op = 3 then 3
 else if 4 ≤ op ∧ op ≤ 7 then 4
 else if op = 8 then 5
 else if op = 9 then 6
 else if op = 10 ∨ op = 11 then 7
 else 0
def formS : Nat → ByteArray
 | 1 => ⟨#[114, 114, 114]⟩
 | 3 => ⟨#[114, 110]⟩
 | 4 => ⟨#[114, 114]⟩
 | 5 => ⟨#[114, 114, 112]⟩
 | 6 => ⟨#[116]⟩
 | 7 => ⟨#[114, 116]⟩
 | _ => ⟨#[]⟩
def yr_ (k : Nat) (a b c n : Int) : Prop :=
 match k with
 | 1 => a < 8 ∧ b < 8 ∧ c < 8 ∧ n = 0
 | 2 => a = 0 ∧ b = 0 ∧ c = 0 ∧ n = 0
 | 3 => a < 8 ∧ b = 0 ∧ c = 0
 | 4 => a < 8 ∧ b < 8 ∧ c = 0 ∧ n = 0
 | 5 => a < 8 ∧ b < 8 ∧ c = 0 ∧ 0 ≤ n ∧ n < 16
 | 6 => a = 0 ∧ b = 0 ∧ c = 0 ∧ 0 ≤ n ∧ n < 256
 | 7 => a < 8 ∧ b = 0 ∧ c = 0 ∧ 0 ≤ n ∧ n < 256
 | _ => False
instance (k : Nat) (a b c n : Int) : Decidable (yr_ k a b c n) := by
 unfold yr_; split <;> infer_instance
def oneK (k : Nat) (a b c n : Int) : Int := if yr_ k a b c n then 0 else 141
theorem yq_ {k : Nat} {a b c n : Int} (h : yr_ k a b c n) : oneK k a b c n = 0 := if_pos h
theorem z9_ {k : Nat} {a b c n : Int} (h : ¬ yr_ k a b c n) : oneK k a b c n = 141 := if_neg h
theorem ret_i64 {a b : Int} (h : a = b) : Ending.returned (.int .i64 a) = .returned (.int .i64 b) := by rw [h]
def oneE (i : Ins) : Int := if yi_ i.op = 0 then 140 else oneK (yi_ i.op) i.a i.b i.c i.n
section
variable {w1 W W' : World}
theorem preD : Below w1.heap.size w1 w1.drew ∧ ∀ b o, b < w1.heap.size → w1.drew.cell? ⟨b, o, none⟩ = w1.cell? ⟨b, o, none⟩ := ⟨(Below.refl _ _).drew, fun _ _ _ => rfl⟩
theorem preR : Below w1.heap.size w1 w1 ∧ ∀ b o, b < w1.heap.size → w1.cell? ⟨b, o, none⟩ = w1.cell? ⟨b, o, none⟩ := ⟨Below.refl _ _, fun _ _ _ => rfl⟩
theorem preE (h : Below w1.heap.size w1 W ∧ ∀ b o, b < w1.heap.size → W.cell? ⟨b, o, none⟩ = w1.cell? ⟨b, o, none⟩) : Below w1.heap.size w1 W.drew ∧ ∀ b o, b < w1.heap.size → W.drew.cell? ⟨b, o, none⟩ = w1.cell? ⟨b, o, none⟩ := ⟨h.1.drew, h.2⟩
theorem preOf (h : Below w1.heap.size w1 W) : Below w1.heap.size w1 W ∧ ∀ b o, b < w1.heap.size → W.cell? ⟨b, o, none⟩ = w1.cell? ⟨b, o, none⟩ := ⟨h, fun b o hb => h.cell (p := ⟨b, o, none⟩) hb⟩
theorem preA (h : Below w1.heap.size w1 W ∧ ∀ b o, b < w1.heap.size → W.cell? ⟨b, o, none⟩ = w1.cell? ⟨b, o, none⟩) (x : Obj) : Below w1.heap.size w1 (W.alloc x) ∧ ∀ b o, b < w1.heap.size → (W.alloc x).cell? ⟨b, o, none⟩ = w1.cell? ⟨b, o, none⟩ := preOf (h.1.alloc h.1.size x)
theorem preS (h : Below w1.heap.size w1 W ∧ ∀ b o, b < w1.heap.size → W.cell? ⟨b, o, none⟩ = w1.cell? ⟨b, o, none⟩) {q : Addr} (hq : w1.heap.size ≤ q.block) (v : Value) : Below w1.heap.size w1 (W.setCell q v) ∧ ∀ b o, b < w1.heap.size → (W.setCell q v).cell? ⟨b, o, none⟩ = w1.cell? ⟨b, o, none⟩ := preOf (h.1.setCell hq v)
theorem preB (h : Below w1.heap.size w1 W ∧ ∀ b o, b < w1.heap.size → W.cell? ⟨b, o, none⟩ = w1.cell? ⟨b, o, none⟩) (hb : Below W.heap.size W W') : Below w1.heap.size w1 W' ∧ ∀ b o, b < w1.heap.size → W'.cell? ⟨b, o, none⟩ = w1.cell? ⟨b, o, none⟩ := preOf (h.1.trans (hb.mono h.1.size))
end
theorem bcell {W w1 : World} (hb : Below W.heap.size W w1) : (∀ b o, b < W.heap.size → w1.cell? ⟨b, o, none⟩ = W.cell? ⟨b, o, none⟩) ∧ (∀ b o, b < W.heap.size → w1.frozen? ⟨b, o, none⟩ = W.frozen? ⟨b, o, none⟩) :=
 ⟨fun b o h => hb.cell (p := ⟨b, o, none⟩) h, fun b o h => hb.frozen (p := ⟨b, o, none⟩) h⟩
section
variable {P : Program}
theorem iter_setCell (W : World) (s : ByteArray) (p g i : Nat) (v : Value) (h : g < W.heap.size) : (W.iter s p).setCell ⟨g, i, none⟩ v = (W.setCell ⟨g, i, none⟩ v).iter s p := World.setCell_alloc_past _ _ _ _ h
theorem iter_cell (W : World) (s : ByteArray) (p g i : Nat) (h : g < W.heap.size) : (W.iter s p).cell? ⟨g, i, none⟩ = W.cell? ⟨g, i, none⟩ := World.cell?_alloc_past _ _ _ h
theorem iter_frozen (W : World) (s : ByteArray) (p g i : Nat) (h : g < W.heap.size) : (W.iter s p).frozen? ⟨g, i, none⟩ = W.frozen? ⟨g, i, none⟩ := World.frozen?_alloc_past _ _ _ h
theorem next_at (W : World) (s : ByteArray) (p q n : Nat) (z : Int) (ty : TypeId) (hn : n = W.heap.size) (h : p < s.size) (ha : (s[p]'h).toNat < 128) (hz : ((s[p]'h).toNat : Int) = z) (hq : q = p + 1) :
  (Instr.next (.pointer (some ⟨n, 0, none⟩)) true ty).run P (W.iter s p) = .ok (.tuple #[.bool true, .int .i64 p, .int .i32 z]) (W.iter s q) := by
 subst hn; subst hz; subst hq; exact run_next_ascii W s p ty h ha
theorem next_end (W : World) (s : ByteArray) (p n : Nat) (ty : TypeId) (hn : n = W.heap.size) (h : ¬ p < s.size) :
  (Instr.next (.pointer (some ⟨n, 0, none⟩)) true ty).run P (W.iter s p) = .ok (.tuple #[.bool false]) (W.iter s p) := by
 subst hn; exact run_next_end W s p ty h
end
theorem ite_okB (x a : Int) (r : Bool) (w : World) : (if x = a then Result.ok r w else Result.ok false w) = Result.ok (x == a && r) w := by
 by_cases h : x = a <;> simp [h]
theorem below_setRow {B : Nat} {a w : World} (h : Below B a w) {g : Nat} (hg : B ≤ g) (cs : Array Value) : Below B a (w.setRow g cs) :=
 h.trans ⟨rfl, rfl, rfl, by simp, fun k hk => by
  simp only [World.setRow, Array.getElem?_modify]
  rw [if_neg (by omega)]⟩
end Go.Proofs.Ytmljmabbopkpiaa
end
section
namespace Go.Proofs.Ytmljmabbopkpiaa
open Go.ChangeShapes Go.WideShapes Go.ChangeAt Go.RowKit
theorem ownKnob_ : ownKnob Try.prog.godebug = none := by kernel_rfl
theorem laid_ : laidOutB Try.prog = true := by kernel_rfl
theorem again_all {H : Type} {enc : TypeId × Value → H} {W W' : World} {sp : Nat → Bool} : ∀ {ts : List TypeId} {vs : List Value} {ds : List (DataW H)} {ps : List MemPlace}, (∀ t ∈ ts, Try.prog.readableRec t = true ∧ t < Try.prog.types.size) →
  DataW.TrodAll enc Try.prog W 0 (fun _ => true) true ts vs ds ps → (∀ p ∈ ps, W.sameAt W' p) → (∀ p ∈ ps, sp p.block = true) → DataW.TrodAll enc Try.prog W' 0 sp true ts vs ds ps
 | [], vs, ds, ps, _, h, _, _ => by
  obtain ⟨rfl, rfl, rfl⟩ := trodAll_nil h
  exact trodAll_mk0
 | t :: ts, vs, ds, ps, ht, h, hsame, hs => by
  obtain ⟨v, vs', d, ds', p, p', rfl, rfl, rfl, h1, h2⟩ := trodAll_cons h
  have htt := ht t (.head _)
  exact trodAll_cons_mk (WideElems.Trod_stays laid_ htt.1 htt.2 h1 (fun q hq => hsame q (List.mem_append_left _ hq)) (fun q hq => hs q (List.mem_append_left _ hq)))
   (again_all (fun u hu => ht u (.tail _ hu)) h2 (fun q hq => hsame q (List.mem_append_right _ hq)) (fun q hq => hs q (List.mem_append_right _ hq)))
theorem law_post {H : Type} {enc : TypeId × Value → H} {f : Func} {s : ChangeSpec} {W W' : World} {args : Array Value} {ds gs : List (DataW H)} {before : List MemPlace}
  (hW : DataW.Whole enc Try.prog f.params.toList s.vars false W args.toList ds gs before) (hv : s.vars = []) (hr : f.resultTypes = #[4])
  (hts : ∀ t ∈ f.params.toList, Try.prog.readableRec t = true ∧ t < Try.prog.types.size)
  (hfn : (s.fn H (ds ++ gs)).results = [.lit (.bool true)] ∧ (s.fn H (ds ++ gs)).args = ds ∧ (s.fn H (ds ++ gs)).vars = []) (hb : Below W.heap.size W W') :
  s.post enc Try.prog f false true false false W args (.bool true) W' := by
 have hlt : ∀ x ∈ before, x.block < W.heap.size := fun x hx => hW.lt x hx
 have hW' := hW
 obtain ⟨p, q, hA, hV, rfl, hfz, hnd⟩ := hW
 rw [hv] at hV
 obtain ⟨rfl, rfl⟩ := trodVars_none hV
 have hsame : ∀ x ∈ p, W.sameAt W' x := fun x hx => by
  have hl := hlt x (List.mem_append_left _ hx)
  cases x with
  | cell b off => exact hb.cell (p := ⟨b, off, none⟩) hl
  | map b => exact hb.block b hl
 refine ⟨ds, [], p ++ [], [], p, [], hW', ?_, ?_, ?_, hb.frame _, fun h => by cases h⟩
 ·rw [hr, hfn.1]
  exact trodAll_mk1 (shut_bool Try.underlying4 _)
 ·rw [hfn.2.1]
  exact again_all hts hA hsame (fun x hx => by simpa using hlt x (List.mem_append_left _ hx))
 ·rw [hv, hfn.2.2]
  rfl
end Go.Proofs.Ytmljmabbopkpiaa
end
