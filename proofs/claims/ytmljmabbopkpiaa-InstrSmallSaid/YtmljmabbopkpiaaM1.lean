import Derived.WalkKit
import Derived.WalkSpells
import Derived.WalkLawsBesides
import Derived.Lib.Hide
import Derived.Deep.QuietTactic
import Derived.BigQuiet
import Derived.Deep.Draws
import Derived.Deep.AppendLies
import Derived.Maps.AppendAt
import Derived.Test.YtmljmabbopkpiaaRows
import Derived.ProofKit
import Derived.OpenShut
import Derived.WideKeyArgs
section
namespace Go.Proofs.Ytmljmabbopkpiaa.Vm
theorem d13_ {P : Prop} (h : P := by
 rename_i y hy
 split at hs
 ·rename_i y' hy'
  injection hs with hs; subst hs
  simp only [zb_]
  refine yr_.2 fun z hz => ?_
  rcases mem_set_of hz with rfl | hz
  ·exact zb_.of_setp (yr_.1 hv y (List.mem_of_getElem? hy)) hx hy'
  ·exact yr_.1 hv z hz
 ·cases hs) : P := h
theorem d15_ {P : Prop} (h : P := by
 split at h
 ·split at h
  ·injection h with h; subst h; exact ⟨fun n k f h => (by cases h), rfl⟩
  ·cases h
 ·cases h) : P := h
theorem d16_ {P : Prop} (h : P := by
 rename_i c' u he
 simp only [Option.some.injEq, Prod.mk.injEq] at ho
 obtain ⟨rfl, rfl, rfl⟩ := ho
 obtain ⟨h1, h2⟩ := X.ev he hc
 exact ⟨h1, by simp [execOp, h2]⟩) : P := h
theorem d17_ {P : Prop} (h : P := by
 have e1 : (wrs h' [(m, HB.gone)] m).born = true := by show (upd h' m _ m).born = true; rw [zr_]; rfl
 have e2 : (wrs h' [(m, HB.gone)] i).born = true := by show (upd h' m _ i).born = true; rw [z8_ him]; exact h1.2
 exact ⟨e1, e2⟩) : P := h
theorem d18_ {P : Prop} (h : P := by
 rw [hjm, hm0, hy4]
 cases A with
 | none => rfl
 | some ad => exact run_firstCells_some w k 0 ad n2 C [] (by simp) (fun j u hj => by cases hj)) : P := h
theorem d19_ {P : Prop} (h : P := by
 obtain ⟨B, hB2⟩ : ∃ B, a.eval x = .slice B 0 (max 0 (cp.getD (β z).2)) := ⟨_, by rw [h2]; rfl⟩
 rw [hy4] at hfirst
 have hz : zw_ β k 0 g = [] := rfl
 rw [hz] at hfirst
 cases B with
 | none => simp [execOp, resolve, invoke, builtin, hB2, hy4, Builtin.copy_, run_underlying hdd, Builtin.lenOf, xl_ hie, hes, hfirst, goInt, hmin]
 | some ad => simp [execOp, resolve, invoke, builtin, hB2, hy4, Builtin.copy_, run_underlying hdd, Builtin.lenOf, xl_ hie, hes, hfirst, goInt, hmin, storeCells]) : P := h
theorem d20_ {P : Prop} (h : P := by
 rw [look_push, hd1] at hv
 rw [hpe, put_get hsz hd2]
 by_cases h : o.dst = some t
 ·simp only [h, if_true, Option.some.injEq] at hv ⊢
  subst hv
  exact ⟨k4, k5⟩
 ·simp only [h, if_false] at hv ⊢
  obtain ⟨h1, h2⟩ := F t v hv
  exact ⟨h1.more k2, by rw [h2]; exact h1.den k1⟩) : P := h
theorem d21_ {P : Prop} (h : P := by
 simp only [h, if_true, Option.some.injEq] at hv ⊢
 subst hv
 exact ⟨k4, k5⟩) : P := h
theorem d22_ {P : Prop} (h : P := by
 simp only [h, if_false] at hv ⊢
 obtain ⟨h1, h2⟩ := F t v hv
 exact ⟨h1.more k2, by rw [h2]; exact h1.den k1⟩) : P := h
theorem d23_ {P : Prop} (h : P := by
 obtain ⟨k1, k2, k3, k4⟩ := k1 r hr
 refine ⟨k1, fun ⟨i, a', hm, ha, e⟩ => ?_, (R.frame r k2 k3).trans k4⟩
 rcases R.own i a' hm ha with h' | h'
 ·omega
 ·exact k3 (by rw [← e]; exact h')) : P := h
theorem d24_ {P : Prop} (h : P := by
 have hlt : i < L1.length := by
  rcases Nat.lt_or_ge i L1.length with h' | h'
  ·exact h'
  ·rw [y1_ h'] at hb; cases hb
 rw [hrn i hi, hm _ (by omega) (by omega)]
 rfl) : P := h
theorem d25_ {P : Prop} (h : P := by
 simp only [idTo, List.all_eq_true] at hid
 have e := Nat.eq_of_beq_eq_true (hid i (List.mem_range.2 hi))
 show β (l.getD i 0) = E i
 rw [e]; exact hE i hi) : P := h
theorem d26_ {P : Prop} (h : P := by
 intro β1 hv
 simp only [Vd, zc_, and_true] at hv
 obtain ⟨z1, z2⟩ := hv
 simp only [denL, z4_, z3_, yd_, zs_, zc_, z1, z2, d1, d2]) : P := h
theorem d27_ {P : Prop} (h : P := by
 intro β1 hv
 simp only [denL, z4_, z3_, yd_, zs_, zc_, zd_ b1]) : P := h
theorem d28_ {P : Prop} (h : P := by
 intro x hx
 simp only [List.mem_cons, List.not_mem_nil, or_false] at hx
 rcases hx with rfl | rfl
 ·exact yg_ t1 e1 g1
 ·exact yg_ t2 e2 g2) : P := h
theorem d29_ {P : Prop} (h : P := by
 intro x hx
 simp only [List.mem_cons, List.not_mem_nil, or_false] at hx
 subst hx
 ·exact yg_ t1 e1 g1) : P := h
theorem d30_ {P : Prop} (h : P := by
 intro β1 hv
 simp only [Vd, zc_, and_true] at hv
 have z1 := hv
 simp only [denL, z4_, z3_, yd_, zs_, zc_, z1, d1]) : P := h
theorem d31_ {P : Prop} (h : P := by
 refine zf_ (fn := Try.f164) 1 4 0 rfl rfl rfl rfl rfl u4_ rfl fun w0 M E hro => ?_
 repeat' (first | refine Ctl.h ?_ | ((with_reducible intro hif); first | (focus (cases hif; done)) | ((try simp only [JH] at hif); try (exfalso; omega))) | ((with_reducible first | apply J22 zx_ za_ | apply J23 fol zx_ za_ | apply J24); (·rfl); (· exact k16_); (try kernel_rfl); try exact xi_) | fail)
 apply At.endsRet za_ (fn := Try.f164) (rs := [.tmp 2]) Anc.refl hro (lb_ rfl) rfl
 ·exact k3_
 ·exact k4_
 ·exact k5_
 ·rfl
 ·exact k28_
 ·exact k7_
 ·exact fun β => rfl
 ·exact k28_) : P := h
theorem d32_ {P : Prop} (h : P := by
 rw [show (if ((decide (a < 0)) != (decide (b < 0))) = true then -D else D) = D by simp [h1, h2]]
 refine zf_ (fn := Try.f131) 1 196 0 rfl rfl rfl rfl rfl u3_ rfl fun w0 M E hro => ?_
 repeat' (first | refine Ctl.h ?_ | ((with_reducible intro hif); first | (focus (cases hif; done)) | ((try simp only [JH] at hif); try (exfalso; omega))) | ((with_reducible first | apply J22 zk_ za_ | apply J23 fol zk_ za_ | apply J24); (·rfl); (· exact k45_); (try kernel_rfl); try exact k42_) | fail)
 apply At.endsRet za_ (fn := Try.f131) (rs := [.tmp 6, .tmp 7]) Anc.refl hro (lb_ rfl) rfl
 ·exact k3_
 ·exact k4_
 ·exact k5_
 ·rfl
 ·exact yh_
 ·exact k7_
 ·exact fun β => rfl
 ·exact yh_) : P := h
theorem d33_ {P : Prop} (h : P := by
 rw [show (if ((decide (a < 0)) != (decide (b < 0))) = true then -D else D) = -D by simp [h1, h2]]
 refine zf_ (fn := Try.f131) 1 196 0 rfl rfl rfl rfl rfl u3_ rfl fun w0 M E hro => ?_
 repeat' (first | refine Ctl.h ?_ | ((with_reducible intro hif); first | (focus (cases hif; done)) | ((try simp only [JH] at hif); try (exfalso; omega))) | ((with_reducible first | apply J22 zk_ za_ | apply J23 fol zk_ za_ | apply J24); (·rfl); (· exact k45_); (try kernel_rfl); try exact k42_) | fail)
 apply At.endsRet za_ (fn := Try.f131) (rs := [.tmp 6, .tmp 7]) Anc.refl hro (lb_ rfl) rfl
 ·exact k3_
 ·exact k4_
 ·exact k5_
 ·rfl
 ·exact yh_
 ·exact k7_
 ·exact fun β => rfl
 ·exact yh_) : P := h
theorem d34_ {P : Prop} (h : P := by
 intro x hx
 simp only [List.mem_cons, List.not_mem_nil, or_false] at hx
 subst hx
 ·exact viewU64 t1 e1 g1) : P := h
theorem d35_ {P : Prop} (h : P := by
 refine zf_ (fn := Try.f170) 4 24 0 rfl rfl rfl rfl rfl u7_ rfl fun w0 M E hro => ?_
 repeat' (first | refine Ctl.h ?_ | ((with_reducible intro hif); first | (focus (cases hif; done)) | ((try simp only [JH] at hif); try (exfalso; omega))) | ((with_reducible first | apply J22 cM0_ok za_ | apply J23 fol cM0_ok za_ | apply J24); (·rfl); (· exact k71_); (try kernel_rfl); try exact k26_) | fail)
 apply At.endsRet za_ (fn := Try.f170) (rs := [.tmp 4]) Anc.refl hro (lb_ rfl) rfl
 ·exact yq_
 ·exact k4_
 ·exact k5_
 ·rfl
 ·exact yv_
 ·exact k7_
 ·exact fun β => rfl
 ·exact yv_) : P := h
theorem d36_ {P : Prop} (h : P := by
 intro x hx
 simp only [List.mem_cons, List.not_mem_nil, or_false] at hx
 rcases hx with rfl | rfl
 ·exact yg_ t4 e4 g4
 ·exact y3_ t6 e6 g6) : P := h
theorem d37_ {P : Prop} (h : P := by
 repeat' (first | refine Ctl.h ?_ | ((with_reducible intro hif); first | (focus (cases hif; done)) | ((try simp only [JH] at hif); try (exfalso; omega))) | ((with_reducible first | apply J22 xg_ za_ | apply J23 fol xg_ za_ | apply J24); (·rfl); (· exact k85_); (try kernel_rfl); try exact xi_) | fail)
 apply At.endsPick [0, 1, 2, 3, 3] za_ (fn := Try.f111) (rs := [.tmp 2]) Anc.refl hro (lb_ rfl) rfl
 ·exact yq_
 ·exact k14_
 ·rfl
 ·rfl
 ·rfl
 ·exact k83_
 ·rfl
 ·exact yv_
 ·exact k7_
 ·exact fun β => rfl
 ·exact yv_) : P := h
theorem d38_ {P : Prop} (h : P := by
 intro x hx
 simp only [List.mem_cons, List.not_mem_nil, or_false] at hx
 rcases hx with rfl | rfl | rfl
 ·exact viewIns t1 e1 g1
 ·exact yg_ t10 e10 g10
 ·exact y3_ t12 e12 g12) : P := h
theorem d39_ {P : Prop} (h : P := by
 intro β1 hv
 simp only [Vd, zc_, and_true] at hv
 obtain ⟨z1, z10, z12⟩ := hv
 simp only [denL, z4_, z3_, yd_, zs_, zc_, z1, z10, z12, d1, d10, d12, zd_ b2, zd_ b3, zd_ b4, zd_ b5, zd_ b6, zd_ b7, zd_ b11, ← r8Den (β := β) (β1 := β1) g9]) : P := h
theorem d40_ {P : Prop} (h : P := by
 intro β1 hv
 simp only [denL, z4_, z3_, yd_, zs_, zc_, den_insOf b1, den_insS]) : P := h
theorem d41_ {P : Prop} (h : P := by
 intro x hx
 simp only [List.mem_cons, List.not_mem_nil, or_false] at hx
 rcases hx with rfl | rfl | rfl | rfl
 ·exact yg_ t4 e4 g4
 ·exact y3_ t6 e6 g6
 ·exact yg_ t10 e10 g10
 ·exact y3_ t12 e12 g12) : P := h
theorem d42_ {P : Prop} (h : P := by
 intro x hx
 simp only [List.mem_cons, List.not_mem_nil, or_false] at hx
 rcases hx with rfl | rfl
 ·exact yg_ t14 e14 g14
 ·exact y3_ t16 e16 g16) : P := h
theorem d43_ {P : Prop} (h : P := by
 intro β1 hv
 simp only [Vd, zc_, and_true] at hv
 obtain ⟨z14, z16⟩ := hv
 simp only [denL, z4_, z3_, yd_, zs_, zc_, yo_, evS, sr, csl, ssl, z14, z16, d14, d16, zd_ b1, zd_ b2, zd_ b3, zd_ b4, zd_ b5, zd_ b6, zd_ b7, zd_ b8, zd_ b9, zd_ b10, zd_ b11, zd_ b15, ← r8Den (β := β) (β1 := β1) g13]) : P := h
theorem d44_ {P : Prop} (h : P := by
 intro β1 hv
 simp only [Vd, zc_, and_true] at hv
 obtain ⟨z1, z10, z12⟩ := hv
 simp only [denL, z4_, z3_, yd_, zs_, zc_, yo_, evS, sr, csl, ssl, z1, z10, z12, d1, d10, d12, zd_ b2, zd_ b3, zd_ b4, zd_ b5, zd_ b6, zd_ b7, zd_ b11, ← r8Den (β := β) (β1 := β1) g9]) : P := h
end Go.Proofs.Ytmljmabbopkpiaa.Vm
end
section
namespace Go.Proofs.Ytmljmabbopkpiaa.Vm
theorem d1_ {P : Prop} (h : P := by
 rw [List.getD_eq_getElem?_getD, List.getElem?_eq_getElem hk, List.take_add_one, List.getElem?_eq_getElem hk]; rfl) : P := h
theorem d4_ {P : Prop} (h : P := by
 have l1 := yb_ X
 have l2 := yb_ Y
 by_cases h0 : b = 0
 ·refine zf_ (fn := Try.f131) 1 196 0 rfl rfl rfl rfl rfl u3_ rfl fun w0 M E hro => ?_
  repeat' (first | refine Ctl.h ?_ | ((with_reducible intro hif); first | (focus (cases hif; done)) | ((try simp only [JH] at hif); try (exfalso; omega))) | ((with_reducible first | apply J22 zk_ za_ | apply J23 fol zk_ za_ | apply J24); (·rfl); (· exact k43_); (try kernel_rfl); try exact k42_) | fail)
  apply At.endsRet za_ (fn := Try.f131) (rs := [.tmp 6, .tmp 7]) Anc.refl hro (lb_ rfl) rfl
  ·exact k3_
  ·exact k4_
  ·exact k5_
  ·rfl
  ·exact yh_
  ·exact k7_
  ·exact fun β => rfl
  ·exact yh_
 ·refine zf_ (fn := Try.f131) 1 196 0 rfl rfl rfl rfl rfl u3_ rfl fun w0 M E hro => ?_
  repeat' (first | refine Ctl.h ?_ | ((with_reducible intro hif); first | (focus (cases hif; done)) | ((try simp only [JH] at hif); try (exfalso; omega))) | ((with_reducible first | apply J22 zk_ za_ | apply J23 fol zk_ za_ | apply J24); (·rfl); (· exact k44_); (try kernel_rfl); try exact k42_) | fail)
  apply At.endsRet za_ (fn := Try.f131) (rs := [.tmp 6, .tmp 7]) Anc.refl hro (lb_ rfl) rfl
  ·exact k3_
  ·exact k4_
  ·exact k5_
  ·rfl
  ·exact yh_
  ·exact k7_
  ·exact fun β => rfl
  ·exact yh_) : P := h
theorem d5_ {P : Prop} (h : P := by
 have l1 := yb_ X
 have l2 := yb_ Y
 by_cases h0 : b = 0
 ·refine zf_ (fn := Try.f131) 1 196 0 rfl rfl rfl rfl rfl u3_ rfl fun w0 M E hro => ?_
  repeat' (first | refine Ctl.h ?_ | ((with_reducible intro hif); first | (focus (cases hif; done)) | ((try simp only [JH] at hif); try (exfalso; omega))) | ((with_reducible first | apply J22 zk_ za_ | apply J23 fol zk_ za_ | apply J24); (·rfl); (· exact k47_); (try kernel_rfl); try exact k42_) | fail)
  apply At.endsRet za_ (fn := Try.f131) (rs := [.tmp 6, .tmp 7]) Anc.refl hro (lb_ rfl) rfl
  ·exact k3_
  ·exact k4_
  ·exact k5_
  ·rfl
  ·exact yh_
  ·exact k7_
  ·exact fun β => rfl
  ·exact yh_
 ·refine zf_ (fn := Try.f131) 1 196 0 rfl rfl rfl rfl rfl u3_ rfl fun w0 M E hro => ?_
  repeat' (first | refine Ctl.h ?_ | ((with_reducible intro hif); first | (focus (cases hif; done)) | ((try simp only [JH] at hif); try (exfalso; omega))) | ((with_reducible first | apply J22 zk_ za_ | apply J23 fol zk_ za_ | apply J24); (·rfl); (· exact k48_); (try kernel_rfl); try exact k42_) | fail)
  apply At.endsRet za_ (fn := Try.f131) (rs := [.tmp 6, .tmp 7]) Anc.refl hro (lb_ rfl) rfl
  ·exact k3_
  ·exact k4_
  ·exact k5_
  ·rfl
  ·exact yh_
  ·exact k7_
  ·exact fun β => rfl
  ·exact yh_) : P := h
theorem d6_ {P : Prop} (h : P := by
 have l1 := yb_ X
 have l2 := yb_ Y
 by_cases h0 : b = 0
 ·by_cases h1 : a < b
  ·rw [if_pos h1]
   refine zf_ (fn := Try.f131) 1 196 0 rfl rfl rfl rfl rfl u3_ rfl fun w0 M E hro => ?_
   repeat' (first | refine Ctl.h ?_ | ((with_reducible intro hif); first | (focus (cases hif; done)) | ((try simp only [JH] at hif); try (exfalso; omega))) | ((with_reducible first | apply J22 zk_ za_ | apply J23 fol zk_ za_ | apply J24); (·rfl); (· exact k51_); (try kernel_rfl); try exact k42_) | fail)
   apply At.endsRet za_ (fn := Try.f131) (rs := [.tmp 6, .tmp 7]) Anc.refl hro (lb_ rfl) rfl
   ·exact k3_
   ·exact k4_
   ·exact k5_
   ·rfl
   ·exact yh_
   ·exact k7_
   ·exact fun β => rfl
   ·exact yh_
  ·rw [if_neg h1]
   refine zf_ (fn := Try.f131) 1 196 0 rfl rfl rfl rfl rfl u3_ rfl fun w0 M E hro => ?_
   repeat' (first | refine Ctl.h ?_ | ((with_reducible intro hif); first | (focus (cases hif; done)) | ((try simp only [JH] at hif); try (exfalso; omega))) | ((with_reducible first | apply J22 zk_ za_ | apply J23 fol zk_ za_ | apply J24); (·rfl); (· exact k51_); (try kernel_rfl); try exact k42_) | fail)
   apply At.endsRet za_ (fn := Try.f131) (rs := [.tmp 6, .tmp 7]) Anc.refl hro (lb_ rfl) rfl
   ·exact k3_
   ·exact k4_
   ·exact k5_
   ·rfl
   ·exact yh_
   ·exact k7_
   ·exact fun β => rfl
   ·exact yh_
 ·by_cases h1 : a < b
  ·rw [if_pos h1]
   refine zf_ (fn := Try.f131) 1 196 0 rfl rfl rfl rfl rfl u3_ rfl fun w0 M E hro => ?_
   repeat' (first | refine Ctl.h ?_ | ((with_reducible intro hif); first | (focus (cases hif; done)) | ((try simp only [JH] at hif); try (exfalso; omega))) | ((with_reducible first | apply J22 zk_ za_ | apply J23 fol zk_ za_ | apply J24); (·rfl); (· exact k46_); (try kernel_rfl); try exact k42_) | fail)
   apply At.endsRet za_ (fn := Try.f131) (rs := [.tmp 6, .tmp 7]) Anc.refl hro (lb_ rfl) rfl
   ·exact k3_
   ·exact k4_
   ·exact k5_
   ·rfl
   ·exact yh_
   ·exact k7_
   ·exact fun β => rfl
   ·exact yh_
  ·rw [if_neg h1]
   refine zf_ (fn := Try.f131) 1 196 0 rfl rfl rfl rfl rfl u3_ rfl fun w0 M E hro => ?_
   repeat' (first | refine Ctl.h ?_ | ((with_reducible intro hif); first | (focus (cases hif; done)) | ((try simp only [JH] at hif); try (exfalso; omega))) | ((with_reducible first | apply J22 zk_ za_ | apply J23 fol zk_ za_ | apply J24); (·rfl); (· exact k46_); (try kernel_rfl); try exact k42_) | fail)
   apply At.endsRet za_ (fn := Try.f131) (rs := [.tmp 6, .tmp 7]) Anc.refl hro (lb_ rfl) rfl
   ·exact k3_
   ·exact k4_
   ·exact k5_
   ·rfl
   ·exact yh_
   ·exact k7_
   ·exact fun β => rfl
   ·exact yh_) : P := h
theorem d7_ {P : Prop} (h : P := by
 rw [List.getD_eq_getElem?_getD, List.getElem?_set, List.getD_eq_getElem?_getD]
 by_cases h : q = k
 ·subst h; simp [hk]
 ·have h' : ¬ k = q := fun e => h e.symm
  simp [h, h']) : P := h
theorem d8_ {P : Prop} (h : P := by
 have ⟨⟨o0, o1, a0, a1, b0, b1, c0, c1, n0, n1⟩, a2, b2, c2, at0, at1, dr0, dr1, ⟨ga0, ga1⟩, ⟨gb0, gb1⟩, ⟨gc0, gc1⟩, hb, hcl, tm0, tm1, pr0, pr1⟩ := K.all
 simp only [oneL, sr, csl, ssl, evS, yo_, ym_, nilS, List.cons_append, List.nil_append]
 refine zf_ (fn := Try.f107) 5 190 0 rfl rfl rfl rfl rfl u6_ rfl fun w0 M E hro => ?_
 repeat' (first | refine Ctl.h ?_ | ((with_reducible intro hif); first | (focus (cases hif; done)) | ((try simp only [JH] at hif); try (exfalso; omega))) | ((with_reducible first | apply J22 z2_ za_ | apply J23 fol z2_ za_ | apply J24); (·rfl); (· exact k62_); (try kernel_rfl); try exact k61_) | fail)
 apply At.endsRet za_ (fn := Try.f107) (rs := [.cell 6 135, .tmp 7]) Anc.refl hro (lb_ rfl) rfl
 ·exact yq_
 ·exact k4_
 ·exact k5_
 ·rfl
 ·exact k59_
 ·exact k7_
 ·exact k60_
 ·exact k59_) : P := h
theorem d9_ {P : Prop} (h : P := by
 have ⟨⟨o0, o1, a0, a1, b0, b1, c0, c1, n0, n1⟩, a2, b2, c2, at0, at1, dr0, dr1, ⟨ga0, ga1⟩, ⟨gb0, gb1⟩, ⟨gc0, gc1⟩, hb, hcl, tm0, tm1, pr0, pr1⟩ := K.all
 simp only [oneL, sr, csl, ssl, evS, yo_, ym_, nilS, List.cons_append, List.nil_append]
 refine zf_ (fn := Try.f107) 5 190 0 rfl rfl rfl rfl rfl u6_ rfl fun w0 M E hro => ?_
 repeat' (first | refine Ctl.h ?_ | ((with_reducible intro hif); first | (focus (cases hif; done)) | ((try simp only [JH] at hif); try (exfalso; omega))) | ((with_reducible first | apply J22 z2_ za_ | apply J23 fol z2_ za_ | apply J24); (·rfl); (· exact k63_); (try kernel_rfl); try exact k61_) | fail)
 apply At.endsRet za_ (fn := Try.f107) (rs := [.cell 6 135, .tmp 7]) Anc.refl hro (lb_ rfl) rfl
 ·exact yq_
 ·exact k4_
 ·exact k5_
 ·rfl
 ·exact k59_
 ·exact k7_
 ·(intro β; rfl)
 ·exact k59_) : P := h
theorem d10_ {P : Prop} (h : P := by
 have ⟨⟨o0, o1, a0, a1, b0, b1, c0, c1, n0, n1⟩, a2, b2, c2, at0, at1, dr0, dr1, ⟨ga0, ga1⟩, ⟨gb0, gb1⟩, ⟨gc0, gc1⟩, hb, hcl, tm0, tm1, pr0, pr1⟩ := K.all
 simp only [oneL, sr, csl, ssl, evS, yo_, ym_, nilS, List.cons_append, List.nil_append]
 refine zf_ (fn := Try.f107) 5 190 0 rfl rfl rfl rfl rfl u6_ rfl fun w0 M E hro => ?_
 repeat' (first | refine Ctl.h ?_ | ((with_reducible intro hif); first | (focus (cases hif; done)) | ((try simp only [JH] at hif); try (exfalso; omega))) | ((with_reducible first | apply J22 z2_ za_ | apply J23 fol z2_ za_ | apply J24); (·rfl); (· exact k64_); (try kernel_rfl); try exact k61_) | fail)
 apply At.endsRet za_ (fn := Try.f107) (rs := [.cell 6 135, .tmp 7]) Anc.refl hro (lb_ rfl) rfl
 ·exact yq_
 ·exact k4_
 ·exact k5_
 ·rfl
 ·exact k59_
 ·exact k7_
 ·(intro β; rfl)
 ·exact k59_) : P := h
theorem d11_ {P : Prop} (h : P := by
 have ⟨⟨o0, o1, a0, a1, b0, b1, c0, c1, n0, n1⟩, a2, b2, c2, at0, at1, dr0, dr1, ⟨ga0, ga1⟩, ⟨gb0, gb1⟩, ⟨gc0, gc1⟩, hb, hcl, tm0, tm1, pr0, pr1⟩ := K.all
 simp only [oneL, sr, csl, ssl, evS, yo_, ym_, nilS, List.cons_append, List.nil_append]
 refine zf_ (fn := Try.f107) 5 190 0 rfl rfl rfl rfl rfl u6_ rfl fun w0 M E hro => ?_
 repeat' (first | refine Ctl.h ?_ | ((with_reducible intro hif); first | (focus (cases hif; done)) | ((try simp only [JH] at hif); try (exfalso; omega))) | ((with_reducible first | apply J22 z2_ za_ | apply J23 fol z2_ za_ | apply J24); (·rfl); (· exact k65_); (try kernel_rfl); try exact k61_) | fail)
 apply At.endsRet za_ (fn := Try.f107) (rs := [.cell 6 135, .tmp 7]) Anc.refl hro (lb_ rfl) rfl
 ·exact yq_
 ·exact k4_
 ·exact k5_
 ·rfl
 ·exact k59_
 ·exact k7_
 ·(intro β; rfl)
 ·exact k59_) : P := h
theorem d12_ {P : Prop} (h : P := by
 have ⟨⟨o0, o1, a0, a1, b0, b1, c0, c1, n0, n1⟩, a2, b2, c2, at0, at1, dr0, dr1, ⟨ga0, ga1⟩, ⟨gb0, gb1⟩, ⟨gc0, gc1⟩, hb, hcl, tm0, tm1, pr0, pr1⟩ := K.all
 simp only [oneL, sr, csl, ssl, evS, yo_, ym_, nilS, List.cons_append, List.nil_append]
 refine zf_ (fn := Try.f107) 5 190 0 rfl rfl rfl rfl rfl u6_ rfl fun w0 M E hro => ?_
 repeat' (first | refine Ctl.h ?_ | ((with_reducible intro hif); first | (focus (cases hif; done)) | ((try simp only [JH] at hif); try (exfalso; omega))) | ((with_reducible first | apply J22 z2_ za_ | apply J23 fol z2_ za_ | apply J24); (·rfl); (· exact k65_); (try kernel_rfl); try exact k61_) | fail)
 apply At.endsRet za_ (fn := Try.f107) (rs := [.cell 6 135, .tmp 7]) Anc.refl hro (lb_ rfl) rfl
 ·exact yq_
 ·exact k4_
 ·exact k5_
 ·rfl
 ·exact k59_
 ·exact k7_
 ·exact k60_
 ·exact k59_) : P := h
end Go.Proofs.Ytmljmabbopkpiaa.Vm
end
section
namespace Go.Proofs.Ytmljmabbopkpiaa.Vm
theorem lb_ {m n : Nat} (h : Nat.ble m n = true) : m ≤ n := Nat.le_of_ble_eq_true h
end Go.Proofs.Ytmljmabbopkpiaa.Vm
end
set_option linter.unusedSimpArgs false
set_option linter.unusedVariables false
section
namespace Go.Proofs.Ytmljmabbopkpiaa.Vm
theorem u1_ {P : Prop} (h : P := by first | exact ⟨_, rfl, fun β _ _ => rfl⟩ | exact ⟨_, rfl, fun β _ _ => by rw [carry_zero1]⟩) : P := h
theorem u2_ {P : Prop} (h : P := by simp only [ze_, zb_, hp]; simp [HB.born]) : P := h
theorem u3_ {P : Prop} (h : P := by simp only [ze_, zb_, hp, zo_, bO, HB.stable]; simp [HB.born]) : P := h
theorem u4_ {P : Prop} (h : P := by simp only [ze_, zb_, hp, zo_, bO, upS, HB.stable]; simp [HB.born]) : P := h
theorem u5_ {P : Prop} (h : P := by simp only [ze_, zb_, hp, zo_, u64S, HB.stable]; simp [HB.born]) : P := h
theorem u6_ {P : Prop} (h : P := by simp only [ze_, zb_, hp, zo_, prS, yo_, zm_, sndS, evS, sr, csl, ssl]; simp [HB.born]) : P := h
theorem u7_ {P : Prop} (h : P := by simp only [ze_, zb_, hp, zo_, prS, yo_, zm_, sndS, stS, evS, macS]; simp [HB.born, mB, cB, sB]) : P := h
theorem u8_ {P : Prop} (h : P := by simp only [ze_, zb_, hp, zo_, prS, yo_, zm_, sndS, stS, evS, macS]; simp [HB.born]) : P := h
theorem u9_ {P : Prop} (h : P := by simp only [ze_, zb_, hp, zo_, prS, yo_, zm_, sndS, stS, evS, macS, mB, cB, sB, HB.stable]; simp [HB.born]) : P := h
theorem u10_ {P : Prop} (h : P := by simp only [ze_, zb_, hp, zo_, prS, yo_, zm_, sndS]; simp [HB.born]) : P := h
theorem u11_ {P : Prop} (h : P := by simp only [ze_, zb_, hp, zo_, prS, yo_, zm_, sndS, evS, sr]; simp [HB.born]) : P := h
theorem u12_ {P : Prop} (h : P := by rw [Evi.rightB]; exact decide_eq_false (by omega)) : P := h
theorem u13_ {P : Prop} (h : P := by rw [Evi.rightB, decide_eq_true (by omega)]; decide) : P := h
theorem u14_ {P : Prop} (h : P := by rw [Sta.rightB]; exact decide_eq_false (by omega)) : P := h
theorem u15_ {P : Prop} (h : P := by show List.length (ls _ _ _) ≤ _; rw [zc_]; exact y3) : P := h
theorem u16_ {P : Prop} (h : P := by simp only [ze_, zb_, hp, zo_, prS, yo_, zm_, sndS, stS, evS, macS, mB, cB, sB, sr, csl, ssl, ym_, nilS, HB.stable]; simp [HB.born]) : P := h
theorem u17_ {P : Prop} (h : P := by show List.length (ls _ _ _) ≤ _; rw [zc_]; exact y4) : P := h
theorem u18_ {P : Prop} (h : P := by simp only [ze_, zb_, hp, zo_, prS, yo_, zm_, sndS, evS, sr, csl, ssl, ym_, nilS, prR, HB.stable]; simp [HB.born]) : P := h
theorem u19_ {P : Prop} (h : P := by simp only [ze_, zb_, hp, zo_, prS, yo_, zm_, sndS, stS, evS, cB, sB, sr, csl, ssl, ym_, nilS, HB.stable]; simp [HB.born]) : P := h
theorem u20_ {P : Prop} (h : P := by simp only [ze_, zb_, hp, zo_, prS, yo_, zm_, sndS, stS, evS, cB, sB, prO, sr, csl, ssl, ym_, nilS, HB.stable]; simp [HB.born]) : P := h
theorem u21_ {P : Prop} (h : P := by simp only [ze_, zb_, hp, zo_, prS, yo_, zm_, sndS, stS, evS, cB, sB, prO, prT, cRf, sRf, sr, csl, ssl, ym_, nilS, HB.stable]; simp [HB.born]) : P := h
theorem u22_ {P : Prop} (h : P := by simp only [ze_, zb_, hp, zo_, prS, yo_, zm_, sndS, stS, evS, macS, zE, zEB, ym_, nilS, HB.stable]; simp [HB.born, zEB, zE]) : P := h
theorem k1_ {P : Prop} (h : P := by rw [List.length_append, clL_length, ho, hl]; rfl) : P := h
theorem k2_ {P : Prop} (h : P := by rw [z8_ hj]; exact HB.stable_more (R.st j) born) : P := h
theorem k3_ {P : Prop} (h : P := by simp only [push_cast, ↓JP, Nat.reduceAdd, Nat.reduceEqDiff, Nat.reduceLT, Nat.reduceMul, Nat.reduceLeDiff, reduceCtorEq, reduceIte, resV, resV1]; rfl) : P := h
theorem k4_ {P : Prop} (h : P := by (first | trivial | (simp only [and_self]; done))) : P := h
theorem k5_ {P : Prop} (h : P := by (repeat' (first | exact trivial | exact .same _ | exact .dead _ | exact .gone rfl | exact .loose | assumption | exact .arr (by assumption) | apply And.intro))) : P := h
theorem k6_ {P : Prop} (h : P := by (repeat' (first | exact trivial | exact rfl | assumption | apply zb_.ite | apply And.intro | intro _ | (simp only [zb_, ze_, zo_, prS, yo_, zm_, sndS]; done)))) : P := h
theorem k7_ {P : Prop} (h : P := by (repeat' (first | exact trivial | exact .inl rfl | exact .inr rfl | exact rfl | apply And.intro))) : P := h
theorem k8_ {P : Prop} (h : P := by ((repeat' (first | exact trivial | apply And.intro)) <;> (first | rfl | (simp only [look, cond_true, cond_false]; done)))) : P := h
theorem k9_ {P : Prop} (h : P := by refine ⟨⟨by omega, fun q hq' => ?_⟩, by omega⟩; by_cases e : q = j; (rw [e]; exact hq); exact heq q (by omega)) : P := h
theorem yh_ {P : Prop} (h : P := by (repeat' (first | exact trivial | exact rfl | assumption | apply zb_.ite | apply And.intro | intro _ | (simp only [zb_, ze_, zo_, bO, HB.stable]; done)))) : P := h
theorem k11_ {P : Prop} (h : P := by exact ⟨⟨by dsimp only; omega, by dsimp only; exact hA', by dsimp only; omega, by dsimp only; omega⟩, by dsimp only; omega⟩) : P := h
theorem k12_ {P : Prop} (h : P := by (repeat' (first | exact trivial | exact .inl rfl | exact .inr (.same _) | exact .inr .loose | exact .inr (.arr (by assumption)) | apply And.intro | (exact .inr (less_apB _ _ hTl hU rfl (fun β => rfl)))))) : P := h
theorem k13_ {P : Prop} (h : P := by (repeat' (first | exact trivial | exact ⟨_, rfl, fun β => rfl⟩ | apply And.intro | exact ⟨_, rfl, hden⟩))) : P := h
theorem k14_ {P : Prop} (h : P := by (focus (first | exact True.intro | ((try simp only [JS, implies_true, forall_const, yc_, z6_, kndOf]); (repeat' (first | assumption | exact True.intro | omega | apply And.intro)); done)))) : P := h
theorem xi_ {P : Prop} (h : P := by (first | exact True.intro | ((try simp only [JS, implies_true, forall_const, yc_, z6_, kndOf]); (repeat' (first | assumption | exact True.intro | omega | apply And.intro)); done))) : P := h
theorem k16_ {P : Prop} (h : P := by (simp only [push_cast, ↓JP, Nat.reduceAdd, Nat.reduceEqDiff, Nat.reduceLT, Nat.reduceMul, Nat.reduceLeDiff, reduceCtorEq, reduceIte]; rfl)) : P := h
theorem k17_ {P : Prop} (h : P := by (first | exact True.intro | ((try simp only [JS, implies_true, forall_const, yc_, z6_, kndOf, inN]); (repeat' (first | assumption | exact True.intro | omega | apply And.intro)); done))) : P := h
theorem k18_ {P : Prop} (h : P := by (first | exact True.intro | ((repeat' (first | exact True.intro | apply And.intro | omega | exact (tdB (by omega) (by omega)).1 | exact (tdB (by omega) (by omega)).2 | decide)); done) | ((try simp only [JS, implies_true, forall_const, yc_, z6_, kndOf, inR, inN]); (repeat' (first | assumption | exact True.intro | omega | apply And.intro)); done))) : P := h
theorem k19_ {P : Prop} (h : P := by (simp only [push_cast, ↓JP, Nat.reduceAdd, Nat.reduceEqDiff, Nat.reduceLT, Nat.reduceMul, Nat.reduceLeDiff, reduceCtorEq, reduceIte, hjl]; rfl)) : P := h
theorem k20_ {P : Prop} (h : P := by refine ⟨u1_, u1_, u1_, ⟨_, rfl, fun β h0 hx => (nilB_cl h0 (show β 5 = (none, 0) from hx) 1).symm⟩, u1_, trivial⟩) : P := h
theorem k21_ {P : Prop} (h : P := by (repeat' (first | exact trivial | exact .inl rfl | exact .inr (.same _) | exact .inr .loose | exact .inr (.arr (by assumption)) | apply And.intro | (simp only [bO, hlZ, hTk]; exact .inr (.same _))))) : P := h
theorem k22_ {P : Prop} (h : P := by (repeat' (first | exact trivial | exact ⟨_, rfl, fun β => rfl⟩ | apply And.intro))) : P := h
theorem k23_ {P : Prop} (h : P := by ((repeat' (first | exact trivial | apply And.intro)) <;> (first | rfl | (rw [hz0]; rfl)))) : P := h
theorem k24_ {P : Prop} (h : P := by (simp only [push_cast, ↓JP, Nat.reduceAdd, Nat.reduceEqDiff, Nat.reduceLT, Nat.reduceMul, Nat.reduceLeDiff, reduceCtorEq, reduceIte, hjl, hx, hy, zo_, inR, inN, List.all_cons, List.all_nil]; rfl)) : P := h
theorem k25_ {P : Prop} (h : P := by (first | exact True.intro | ((repeat' (first | exact True.intro | apply And.intro | omega | decide)); done) | ((try simp only [JS, implies_true, forall_const, yc_, z6_, kndOf, inR, inN]); (repeat' (first | assumption | exact True.intro | omega | apply And.intro)); done))) : P := h
theorem k26_ {P : Prop} (h : P := by (first | exact True.intro | ((try simp only [JS, implies_true, forall_const, yc_, z6_, kndOf, inR, inN]); (repeat' (first | assumption | exact True.intro | omega | apply And.intro)); done))) : P := h
theorem k27_ {P : Prop} (h : P := by (first | exact True.intro | ((repeat' (first | exact True.intro | apply And.intro | omega | decide | (simp only [IntKind.bits]; omega) | (simp only [inN]; omega))); done) | ((try simp only [JS, implies_true, forall_const, yc_, z6_, kndOf, inR, inN]); (repeat' (first | assumption | exact True.intro | omega | apply And.intro)); done))) : P := h
theorem k28_ {P : Prop} (h : P := by (repeat' (first | exact trivial | exact rfl | assumption | apply zb_.ite | apply And.intro | intro _ | (simp only [zb_, ze_, zo_, bO, upS, HB.stable]; done)))) : P := h
theorem k29_ {P : Prop} (h : P := by simp only [if_true, BitVec.getLsbD_not, BitVec.getLsbD_ushiftRight, BitVec.getLsbD_allOnes, hi, decide_true, decide_false, Bool.true_and, Nat.add_comm n i, h, Bool.not_true, Bool.not_false, Bool.or_false, Bool.or_true]) : P := h
theorem k30_ {P : Prop} (h : P := by (repeat' (first | exact trivial | exact .inl rfl | exact .inr (.same _) | exact .inr .loose | exact .inr (.arr (by assumption)) | apply And.intro))) : P := h
theorem k31_ {P : Prop} (h : P := by refine ⟨⟨hkl, fun q h1 h2 => ?_⟩, by omega⟩; by_cases e : q = 63 - k; (rw [e, b1, b2]); exact hq q (by omega) h2) : P := h
theorem k32_ {P : Prop} (h : P := by (repeat' (first | exact trivial | exact .inl rfl | exact .inr (.same _) | exact .inr .loose | exact .inr (.arr (by assumption)) | apply And.intro | (rw [e]; exact .inr (.same _))))) : P := h
theorem k33_ {P : Prop} (h : P := by (repeat' (first | exact trivial | exact ⟨_, rfl, fun β => rfl⟩ | apply And.intro | (rw [e]; exact ⟨_, rfl, fun β => rfl⟩)))) : P := h
theorem k34_ {P : Prop} (h : P := by (simp only [push_cast, ↓JP, Nat.reduceAdd, Nat.reduceEqDiff, Nat.reduceLT, Nat.reduceMul, Nat.reduceLeDiff, reduceCtorEq, reduceIte, hk0, hkt, hx, hy, zo_, inR, inN]; rfl)) : P := h
theorem k35_ {P : Prop} (h : P := by (simp only [push_cast, ↓JP, Nat.reduceAdd, Nat.reduceEqDiff, Nat.reduceLT, Nat.reduceMul, Nat.reduceLeDiff, reduceCtorEq, reduceIte, hk0]; rfl)) : P := h
theorem k36_ {P : Prop} (h : P := by (first | exact True.intro | ((try simp only [and_self, true_and, and_true, implies_true, forall_const, xm_, xj_, ls_i64B, ls_zB, zc_, vb_bl, Nat.zero_add, iOf]); (repeat' (first | exact True.intro | apply And.intro | rfl | omega | assumption | (exact .inl rfl) | (exact .inr rfl) | decide | intro _)); done) | ((try simp only [JS, implies_true, forall_const, yc_, z6_, kndOf, inR, inN]); (repeat' (first | assumption | exact True.intro | omega | apply And.intro)); done))) : P := h
theorem k37_ {P : Prop} (h : P := by (repeat' (first | exact trivial | exact rfl | assumption | exact hst _ _ | exact hst1 _ _ | exact hst2 _ _ | apply zb_.ite | apply And.intro | intro _ | (simp only [zb_, ze_, zo_, bO, HB.stable]; done)))) : P := h
theorem k38_ {P : Prop} (h : P := by (repeat' (first | exact trivial | exact .inl rfl | exact .inr (.same _) | exact .inr .loose | exact .inr (.arr (by assumption)) | apply And.intro | (exact .inr (less_q1 _ k hkl eq rfl (fun β => rfl))) | (rw [eR2]; exact .inr (.same _))))) : P := h
theorem k39_ {P : Prop} (h : P := by (repeat' (first | exact trivial | exact ⟨_, rfl, fun β => rfl⟩ | apply And.intro | (first | exact ⟨_, rfl, hden⟩ | (rw [eR2]; exact ⟨_, rfl, fun β => rfl⟩))))) : P := h
theorem k40_ {P : Prop} (h : P := by (first | exact True.intro | ((try simp only [and_self, true_and, and_true, implies_true, forall_const, xm_, xj_, ls_i64B, ls_i64U, ls_zB, zc_, vb_bl, it_one, hR1, hR1u, Nat.zero_add, iOf]); (repeat' (first | exact True.intro | apply And.intro | rfl | omega | assumption | (exact .inl rfl) | (exact .inr rfl) | decide | intro _)); done) | ((try simp only [JS, implies_true, forall_const, yc_, z6_, kndOf, inR, inN]); (repeat' (first | assumption | exact True.intro | omega | apply And.intro)); done))) : P := h
theorem k41_ {P : Prop} (h : P := by (simp only [push_cast, ↓JP, Nat.reduceAdd, Nat.reduceEqDiff, Nat.reduceLT, Nat.reduceMul, Nat.reduceLeDiff, reduceCtorEq, reduceIte, cDiv, sRUp, sRSum, sRNot, sRLess, bO, hk0, hkt, hx, ht1, hlt, hR1, hR1u, ya_, z9_, iOf, xj_, xm_, ls_i64B, ls_i64U, vb_bl, sumV_sub, ed, zo_, qS_size, it_one, Int.toNat_natCast, nat_one_i, inR, inN]; rfl)) : P := h
theorem k42_ {P : Prop} (h : P := by (first | exact True.intro | ((try simp only [and_self, true_and, and_true, implies_true, forall_const, xm_, xj_, ls_i64B, ls_i64U, ls_zB, zc_, vb_bl, Nat.zero_add, iOf, hn0, hn1, hq]); (repeat' (first | exact True.intro | apply And.intro | rfl | omega | assumption | (exact .inl rfl) | (exact .inr rfl) | decide | intro _)); done) | ((try simp only [JS, implies_true, forall_const, yc_, z6_, kndOf]); (repeat' (first | assumption | exact True.intro | omega | apply And.intro)); done))) : P := h
theorem k43_ {P : Prop} (h : P := by (simp only [push_cast, ↓JP, Nat.reduceAdd, Nat.reduceEqDiff, Nat.reduceLT, Nat.reduceMul, Nat.reduceLeDiff, reduceCtorEq, reduceIte, cApp, hX, hY, hP, hQ, hQm, hQd, hy0, hy1, hy2, hy3, hy4, hy5, hn, ed, ed0, Int.cast_ofNat_Int, (eq_true h0)]; rfl)) : P := h
theorem k44_ {P : Prop} (h : P := by (simp only [push_cast, ↓JP, Nat.reduceAdd, Nat.reduceEqDiff, Nat.reduceLT, Nat.reduceMul, Nat.reduceLeDiff, reduceCtorEq, reduceIte, cApp, hX, hY, hP, hQ, hQm, hQd, hy0, hy1, hy2, hy3, hy4, hy5, hn, ed, ed0, Int.cast_ofNat_Int, h0]; rfl)) : P := h
theorem k45_ {P : Prop} (h : P := by (simp only [push_cast, ↓JP, Nat.reduceAdd, Nat.reduceEqDiff, Nat.reduceLT, Nat.reduceMul, Nat.reduceLeDiff, reduceCtorEq, reduceIte, cApp, hX, hY, hP, hQ, hQm, hQd, hy0, hy1, hy2, hy3, hy4, hy5, hn, ed, ed0, Int.cast_ofNat_Int, h0, h1, h2, bne_self_eq_false, Bool.bne_true, Bool.bne_false, Bool.true_bne, Bool.false_bne]; rfl)) : P := h
theorem k46_ {P : Prop} (h : P := by (simp only [push_cast, ↓JP, Nat.reduceAdd, Nat.reduceEqDiff, Nat.reduceLT, Nat.reduceMul, Nat.reduceLeDiff, reduceCtorEq, reduceIte, hX, hY, hP, hQ, hQm, hQd, hy0, hy1, hy2, hy3, hy4, hy5, hn, Int.cast_ofNat_Int, h0, h1]; rfl)) : P := h
theorem k47_ {P : Prop} (h : P := by (simp only [push_cast, ↓JP, Nat.reduceAdd, Nat.reduceEqDiff, Nat.reduceLT, Nat.reduceMul, Nat.reduceLeDiff, reduceCtorEq, reduceIte, hX, hY, hP, hQ, hQm, hQd, hy0, hy1, hy2, hy3, hy4, hy5, hn, Int.cast_ofNat_Int, (eq_true h0)]; rfl)) : P := h
theorem k48_ {P : Prop} (h : P := by (simp only [push_cast, ↓JP, Nat.reduceAdd, Nat.reduceEqDiff, Nat.reduceLT, Nat.reduceMul, Nat.reduceLeDiff, reduceCtorEq, reduceIte, hX, hY, hP, hQ, hQm, hQd, hy0, hy1, hy2, hy3, hy4, hy5, hn, Int.cast_ofNat_Int, h0]; rfl)) : P := h
theorem k49_ {P : Prop} (h : P := by (simp only [push_cast, ↓JP, Nat.reduceAdd, Nat.reduceEqDiff, Nat.reduceLT, Nat.reduceMul, Nat.reduceLeDiff, reduceCtorEq, reduceIte, hX, hY, hP, hQ, hQm, hQd, hy0, hy1, hy2, hy3, hy4, hy5, hn, Int.cast_ofNat_Int, (eq_true h0), h6]; rfl)) : P := h
theorem k50_ {P : Prop} (h : P := by (simp only [push_cast, ↓JP, Nat.reduceAdd, Nat.reduceEqDiff, Nat.reduceLT, Nat.reduceMul, Nat.reduceLeDiff, reduceCtorEq, reduceIte, hX, hY, hP, hQ, hQm, hQd, hy0, hy1, hy2, hy3, hy4, hy5, hn, Int.cast_ofNat_Int, h0, h6]; rfl)) : P := h
theorem k51_ {P : Prop} (h : P := by (simp only [push_cast, ↓JP, Nat.reduceAdd, Nat.reduceEqDiff, Nat.reduceLT, Nat.reduceMul, Nat.reduceLeDiff, reduceCtorEq, reduceIte, hX, hY, hP, hQ, hQm, hQd, hy0, hy1, hy2, hy3, hy4, hy5, hn, Int.cast_ofNat_Int, (eq_true h0), h1]; rfl)) : P := h
theorem k52_ {P : Prop} (h : P := by (repeat' (first | exact trivial | exact rfl | assumption | apply zb_.ite | apply And.intro | intro _ | (simp only [zb_, ze_, zo_]; done)))) : P := h
theorem k53_ {P : Prop} (h : P := by ((repeat' (first | exact trivial | apply And.intro)) <;> (first | rfl | (first | rfl | (rw [hmn]; rfl))))) : P := h
theorem k54_ {P : Prop} (h : P := by (repeat' (first | exact trivial | exact rfl | assumption | apply zb_.ite | apply And.intro | intro _ | (simp only [zb_, ze_, zo_, u64S, HB.stable]; done)))) : P := h
theorem k55_ {P : Prop} (h : P := by (first | exact True.intro | ((repeat' (first | exact True.intro | apply And.intro | rfl | omega | decide | intro _)); done) | ((try simp only [JS, implies_true, forall_const, yc_, z6_, kndOf, inR, inN]); (repeat' (first | assumption | exact True.intro | omega | apply And.intro)); done))) : P := h
theorem k56_ {P : Prop} (h : P := by rename_i q; intro hf hc; obtain ⟨q1, q2, q3, q4⟩ := hc; exact ⟨by omega, by omega, by omega, fun t => by omega, by omega⟩) : P := h
theorem k57_ {P : Prop} (h : P := by rename_i q; intro hf hc; obtain ⟨q1, q2, q3, q4, q5⟩ := hc; exact ⟨by omega, by omega, by omega, fun t => by omega, by omega⟩) : P := h
theorem yq_ {P : Prop} (h : P := by simp only [push_cast, ↓JP, Nat.reduceAdd, Nat.reduceEqDiff, Nat.reduceLT, Nat.reduceMul, Nat.reduceLeDiff, reduceCtorEq, reduceIte, ↓JK, resV, resV1]; rfl) : P := h
theorem k59_ {P : Prop} (h : P := by (repeat' (first | exact trivial | exact rfl | assumption | apply zb_.ite | apply And.intro | intro _ | (simp only [zb_, ze_, zo_, prS, yo_, zm_, sndS, evS, sr, csl, ssl]; done)))) : P := h
theorem k60_ {P : Prop} (h : P := by (intro β; refine st_den ?_ ?_ (fun q hq => ?_) ?_ ?_ ?_ ?_; all_goals first | rfl | (by_cases hq2 : q = x.a.toNat; (try rw [ite_eq]); (simp only [hq2, decide_true, cond_true, Sta.put, if_true]; try rfl); (try rw [ite_eq]); (simp only [hq2, decide_false, cond_false, Sta.put, if_false]; try rfl)))) : P := h
theorem k61_ {P : Prop} (h : P := by (first | exact True.intro | ((repeat' (first | exact True.intro | apply And.intro | rfl | omega | assumption | decide | (simp only [List.length_append, List.length_set, List.length_cons, List.length_nil]; omega) | intro _)); done) | ((try simp only [JS, implies_true, forall_const, yc_, z6_, kndOf]); (repeat' (first | assumption | exact True.intro | omega | apply And.intro)); done))) : P := h
theorem k62_ {P : Prop} (h : P := by (simp only [push_cast, ↓JP, Nat.reduceAdd, Nat.reduceEqDiff, Nat.reduceLT, Nat.reduceMul, Nat.reduceLeDiff, reduceCtorEq, reduceIte, ↓JK, cOne, sr, csl, ssl, oneL, Int.cast_ofNat_Int, ho]; rfl)) : P := h
theorem k63_ {P : Prop} (h : P := by (simp only [push_cast, ↓JP, Nat.reduceAdd, Nat.reduceEqDiff, Nat.reduceLT, Nat.reduceMul, Nat.reduceLeDiff, reduceCtorEq, reduceIte, ↓JK, cOne, sr, csl, ssl, oneL, Int.cast_ofNat_Int, ho, h1]; rfl)) : P := h
theorem k64_ {P : Prop} (h : P := by (simp only [push_cast, ↓JP, Nat.reduceAdd, Nat.reduceEqDiff, Nat.reduceLT, Nat.reduceMul, Nat.reduceLeDiff, reduceCtorEq, reduceIte, ↓JK, cOne, sr, csl, ssl, oneL, Int.cast_ofNat_Int, ho, h1, h2]; rfl)) : P := h
theorem k65_ {P : Prop} (h : P := by (simp only [push_cast, ↓JP, Nat.reduceAdd, Nat.reduceEqDiff, Nat.reduceLT, Nat.reduceMul, Nat.reduceLeDiff, reduceCtorEq, reduceIte, ↓JK, Int.cast_ofNat_Int, ho, h1]; rfl)) : P := h
theorem k66_ {P : Prop} (h : P := by (simp only [push_cast, ↓JP, Nat.reduceAdd, Nat.reduceEqDiff, Nat.reduceLT, Nat.reduceMul, Nat.reduceLeDiff, reduceCtorEq, reduceIte, ↓JK, Int.cast_ofNat_Int, ho, h1, h2, h3, h4]; rfl)) : P := h
theorem k67_ {P : Prop} (h : P := by (simp only [push_cast, ↓JP, Nat.reduceAdd, Nat.reduceEqDiff, Nat.reduceLT, Nat.reduceMul, Nat.reduceLeDiff, reduceCtorEq, reduceIte, ↓JK, Int.cast_ofNat_Int, ho, (show ¬ x.op = 1 by omega), (show ¬ x.op = 2 by omega), (show ¬ x.op = 3 by omega), (show ¬ x.op = 4 by omega), (show ¬ x.op = 5 by omega), (show ¬ x.op = 6 by omega), (show ¬ x.op = 7 by omega), (show ¬ x.op = 8 by omega), (show ¬ x.op = 9 by omega), (show ¬ x.op = 10 by omega), (show ¬ x.op = 11 by omega), h1]; rfl)) : P := h
theorem yv_ {P : Prop} (h : P := by (repeat' (first | exact trivial | exact rfl | assumption | apply zb_.ite | apply And.intro | intro _ | (simp only [zb_, ze_, zo_, prS, yo_, zm_, sndS, stS, evS, macS]; done)))) : P := h
theorem k69_ {P : Prop} (h : P := by (first | exact True.intro | ((try simp only [JS, implies_true, forall_const, yc_, z6_, kndOf, inR]); (repeat' (first | assumption | exact True.intro | omega | apply And.intro)); done))) : P := h
theorem k70_ {P : Prop} (h : P := by (simp only [push_cast, ↓JP, Nat.reduceAdd, Nat.reduceEqDiff, Nat.reduceLT, Nat.reduceMul, Nat.reduceLeDiff, reduceCtorEq, reduceIte, ↓JK, JM, inR]; rfl)) : P := h
theorem k71_ {P : Prop} (h : P := by (simp only [push_cast, ↓JP, Nat.reduceAdd, Nat.reduceEqDiff, Nat.reduceLT, Nat.reduceMul, Nat.reduceLeDiff, reduceCtorEq, reduceIte, ↓JK, JM, inR, inN, Bool.cond_decide]; rfl)) : P := h
theorem k72_ {P : Prop} (h : P := by (repeat' (first | exact trivial | exact .inl rfl | exact .inr (.same _) | exact .inr .loose | exact .inr (.arr (by assumption)) | apply And.intro | (exact .inr (.same _)) | (refine .inr (less_mac _ _ _ ?_ ?_ ?_ ?_ ?_ ?_ ?_ ?_) <;> first | rfl | (intro q _ β; rfl) | omega | simp) | (refine .inr (less_set _ _ _ ?_ ?_) <;> first | rfl | (intro q _ β; rfl) | omega | simp)))) : P := h
theorem k73_ {P : Prop} (h : P := by (simp only [push_cast, ↓JP, Nat.reduceAdd, Nat.reduceEqDiff, Nat.reduceLT, Nat.reduceMul, Nat.reduceLeDiff, reduceCtorEq, reduceIte, ↓JK, cM1, sApply, sDraw, JE, Bool.cond_decide]; rfl)) : P := h
theorem k74_ {P : Prop} (h : P := by (simp only [push_cast, ↓JP, Nat.reduceAdd, Nat.reduceEqDiff, Nat.reduceLT, Nat.reduceMul, Nat.reduceLeDiff, reduceCtorEq, reduceIte, ↓JK, cM1, sApply, sDraw, JE, Bool.cond_decide, decide_eq_true_eq]; rfl)) : P := h
theorem k75_ {P : Prop} (h : P := by (simp only [push_cast, ↓JP, Nat.reduceAdd, Nat.reduceEqDiff, Nat.reduceLT, Nat.reduceMul, Nat.reduceLeDiff, reduceCtorEq, reduceIte, ↓JK, cM1, sApply, sDraw, JE, Bool.cond_decide, h1, h2]; rfl)) : P := h
theorem k76_ {P : Prop} (h : P := by (simp only [push_cast, ↓JP, Nat.reduceAdd, Nat.reduceEqDiff, Nat.reduceLT, Nat.reduceMul, Nat.reduceLeDiff, reduceCtorEq, reduceIte, ↓JK, cM1, sApply, sDraw, JE, Bool.cond_decide, hw]; rfl)) : P := h
theorem k77_ {P : Prop} (h : P := by (simp only [push_cast, ↓JP, Nat.reduceAdd, Nat.reduceEqDiff, Nat.reduceLT, Nat.reduceMul, Nat.reduceLeDiff, reduceCtorEq, reduceIte, ↓JK, cM1, sApply, sDraw, JE, Bool.cond_decide, q0, q1]; rfl)) : P := h
theorem k78_ {P : Prop} (h : P := by (first | exact True.intro | ((try simp only [JS, implies_true, forall_const, yc_, z6_, kndOf]); (first | first | omega | exact ⟨R, S⟩ | (repeat' (first | assumption | exact True.intro | omega | apply And.intro))); done))) : P := h
theorem k79_ {P : Prop} (h : P := by (simp only [push_cast, ↓JP, Nat.reduceAdd, Nat.reduceEqDiff, Nat.reduceLT, Nat.reduceMul, Nat.reduceLeDiff, reduceCtorEq, reduceIte, ↓JK, cM2, sApply, sDraw, JE, Bool.cond_decide, cellF, hcb]; rfl)) : P := h
theorem k80_ {P : Prop} (h : P := by (repeat' (first | exact trivial | exact .inl rfl | exact .inr (.same _) | exact .inr .loose | exact .inr (.arr (by assumption)) | apply And.intro | (exact .inr (.same _)) | (refine .inr (less_mac _ _ _ ?_ ?_ ?_ ?_ ?_ ?_ ?_ ?_) <;> first | rfl | (intro q _ β; rfl) | omega | simp) | (refine .inr (less_set _ _ _ ?_ ?_) <;> first | rfl | (intro q _ β; rfl) | omega | simp) | (exact .inr (hY _))))) : P := h
theorem k81_ {P : Prop} (h : P := by (simp only [push_cast, ↓JP, Nat.reduceAdd, Nat.reduceEqDiff, Nat.reduceLT, Nat.reduceMul, Nat.reduceLeDiff, reduceCtorEq, reduceIte, ↓JK, JM, JE, inR, inN]; rfl)) : P := h
theorem k82_ {P : Prop} (h : P := by (simp only [push_cast, ↓JP, Nat.reduceAdd, Nat.reduceEqDiff, Nat.reduceLT, Nat.reduceMul, Nat.reduceLeDiff, reduceCtorEq, reduceIte, ↓JK, Bool.cond_decide, q0, q1, q2, q3]; rfl)) : P := h
theorem k83_ {P : Prop} (h : P := by (repeat' (first | exact trivial | exact .inl rfl | exact .inr (.same _) | exact .inr .loose | exact .inr (.arr (by assumption)) | apply And.intro | (exact .inr (.same _)) | (refine .inr (less_mac _ _ _ ?_ ?_ ?_ ?_ ?_ ?_ ?_ ?_) <;> first | rfl | (intro q _ β; rfl) | omega | simp)))) : P := h
theorem k84_ {P : Prop} (h : P := by (simp only [push_cast, ↓JP, Nat.reduceAdd, Nat.reduceEqDiff, Nat.reduceLT, Nat.reduceMul, Nat.reduceLeDiff, reduceCtorEq, reduceIte, ↓JK, cD, Bool.cond_decide, kindF_0, kindF_1, kindF_2, kindF_3, kindF_4, kindF_5, kindF_6, kindF_7, kindF_8, kindF_9, kindF_10]; rfl)) : P := h
theorem k85_ {P : Prop} (h : P := by (simp only [push_cast, ↓JP, Nat.reduceAdd, Nat.reduceEqDiff, Nat.reduceLT, Nat.reduceMul, Nat.reduceLeDiff, reduceCtorEq, reduceIte, ↓JK, cD, Bool.cond_decide, kindF_0, kindF_1, kindF_2, kindF_3, kindF_4, kindF_5, kindF_6, kindF_7, kindF_8, kindF_9, kindF_10, ho]; rfl)) : P := h
theorem k86_ {P : Prop} (h : P := by (repeat' (first | exact trivial | exact rfl | assumption | apply zb_.ite | apply And.intro | intro _ | (simp only [zb_, ze_, zo_, prS, yo_, zm_, sndS, stS, evS, macS, mB, cB, sB, HB.stable]; done)))) : P := h
theorem k87_ {P : Prop} (h : P := by (first | exact True.intro | ((try simp only [JS, implies_true, forall_const, yc_, z6_, kndOf, inR, inN]); (first | first | omega | exact ⟨hP, hn⟩ | (repeat' (first | assumption | exact True.intro | omega | apply And.intro))); done))) : P := h
theorem k88_ {P : Prop} (h : P := by (simp only [push_cast, ↓JP, Nat.reduceAdd, Nat.reduceEqDiff, Nat.reduceLT, Nat.reduceMul, Nat.reduceLeDiff, reduceCtorEq, reduceIte, ↓JK, JM, cOp, sCheck, sVRight, sSRight, sCopied, JE, inR, inN, q1, q2, q3]; rfl)) : P := h
theorem k89_ {P : Prop} (h : P := by (simp only [push_cast, ↓JP, Nat.reduceAdd, Nat.reduceEqDiff, Nat.reduceLT, Nat.reduceMul, Nat.reduceLeDiff, reduceCtorEq, reduceIte, hjl, hc, inR, inN]; rfl)) : P := h
theorem k90_ {P : Prop} (h : P := by refine ⟨⟨hkl, fun i hi y hy => ?_⟩, by omega⟩; by_cases h : i = k; (subst h; rw [hx2] at hy; cases hy; exact eb); exact hB i (by omega) y hy) : P := h
theorem k91_ {P : Prop} (h : P := by (repeat' (first | exact trivial | exact rfl | assumption | apply zb_.ite | apply And.intro | intro _ | (simp only [zb_, ze_, zo_, prS, yo_, zm_, sndS, evS, sr, csl, ssl, ym_, nilS]; done)))) : P := h
theorem k92_ {P : Prop} (h : P := by (simp only [push_cast, ↓JP, Nat.reduceAdd, Nat.reduceEqDiff, Nat.reduceLT, Nat.reduceMul, Nat.reduceLeDiff, reduceCtorEq, reduceIte, ↓JK]; rfl)) : P := h
theorem k93_ {P : Prop} (h : P := by (simp only [push_cast, ↓JP, Nat.reduceAdd, Nat.reduceEqDiff, Nat.reduceLT, Nat.reduceMul, Nat.reduceLeDiff, reduceCtorEq, reduceIte, ↓JK, h0, h256]; rfl)) : P := h
theorem k94_ {P : Prop} (h : P := by (first | exact True.intro | ((try simp only [JS, implies_true, forall_const, yc_, z6_, kndOf, inR, inN]); (first | first | omega | assumption | (repeat' (first | assumption | exact True.intro | omega | apply And.intro))); done))) : P := h
theorem k95_ {P : Prop} (h : P := by (simp only [push_cast, ↓JP, Nat.reduceAdd, Nat.reduceEqDiff, Nat.reduceLT, Nat.reduceMul, Nat.reduceLeDiff, reduceCtorEq, reduceIte, ↓JK, evm_in1, cRCk, sROne, sRTarg, sRGoes, hkl, hx, he, ht, hv, inR, inN]; rfl)) : P := h
theorem k96_ {P : Prop} (h : P := by (simp only [push_cast, ↓JP, Nat.reduceAdd, Nat.reduceEqDiff, Nat.reduceLT, Nat.reduceMul, Nat.reduceLeDiff, reduceCtorEq, reduceIte, ↓JK, evm_in1, cRCk, sROne, sRTarg, sRGoes, hkl, hx, hg, hlm, inR, inN]; rfl)) : P := h
theorem k97_ {P : Prop} (h : P := by (repeat' (first | exact trivial | exact rfl | assumption | apply zb_.ite | apply And.intro | intro _ | (simp only [zb_, ze_, zo_, prS, yo_, zm_, sndS, evS, sr]; done)))) : P := h
theorem k98_ {P : Prop} (h : P := by (first | exact True.intro | ((try simp only [lsI_raw]); (repeat' (first | exact True.intro | apply And.intro | rfl | omega | assumption | decide | (exact fun q hq => rfl) | intro _)); done) | ((try simp only [JS, implies_true, forall_const, yc_, z6_, kndOf]); (repeat' (first | assumption | exact True.intro | omega | apply And.intro)); done))) : P := h
theorem k99_ {P : Prop} (h : P := by (simp only [push_cast, ↓JP, Nat.reduceAdd, Nat.reduceEqDiff, Nat.reduceLT, Nat.reduceMul, Nat.reduceLeDiff, reduceCtorEq, reduceIte, ↓JK, cRt, lsI_raw, Int.cast_ofNat_Int, (eq_true h0), h1, h2, h3, h4, h5, h6, h7, h8, h9, h10, h11]; rfl)) : P := h
theorem k100_ {P : Prop} (h : P := by (repeat' (first | exact trivial | exact rfl | assumption | apply zb_.ite | apply And.intro | intro _ | (simp only [zb_, ze_, zo_, prS, yo_, zm_, sndS, stS, evS, macS, mB, cB, sB, sr, csl, ssl, ym_, nilS, HB.stable]; done)))) : P := h
theorem k101_ {P : Prop} (h : P := by (simp only [push_cast, ↓JP, Nat.reduceAdd, Nat.reduceEqDiff, Nat.reduceLT, Nat.reduceMul, Nat.reduceLeDiff, reduceCtorEq, reduceIte, ↓JK, JM, prR, cSt, mS, macP, doF, JE, inR, inN, Bool.cond_decide]; rfl)) : P := h
theorem k102_ {P : Prop} (h : P := by (first | exact True.intro | ((try simp only [JE, zc_]); (repeat' (first | exact True.intro | exact hok | exact hPG | exact hV | exact hSG | assumption | apply And.intro | rfl | omega | decide | intro _)); done) | ((try simp only [JS, implies_true, forall_const, yc_, z6_, kndOf, inR, inN]); (repeat' (first | assumption | exact True.intro | omega | apply And.intro)); done))) : P := h
theorem k103_ {P : Prop} (h : P := by (repeat' (first | exact trivial | exact rfl | assumption | apply zb_.ite | apply And.intro | intro _ | (simp only [zb_, ze_, zo_, prS, yo_, zm_, sndS, evS, sr, csl, ssl, ym_, nilS, prR, HB.stable]; done)))) : P := h
theorem k104_ {P : Prop} (h : P := by (first | exact True.intro | ((try simp only [lsI_U, JE, zc_]); (repeat' (first | exact True.intro | exact hok | exact hK | exact hE | apply And.intro | rfl | omega | assumption | decide | intro _)); done) | ((try simp only [JS, implies_true, forall_const, yc_, z6_, kndOf]); (repeat' (first | assumption | exact True.intro | omega | apply And.intro)); done))) : P := h
theorem k105_ {P : Prop} (h : P := by (repeat' (first | exact trivial | exact rfl | assumption | apply zb_.ite | apply And.intro | intro _ | (simp only [zb_, ze_, zo_, prS, yo_, zm_, sndS, stS, evS, cB, sB, sr, csl, ssl, ym_, nilS, HB.stable]; done)))) : P := h
theorem k106_ {P : Prop} (h : P := by exact ⟨⟨hjl, by rw [List.length_set]; exact hl⟩, by show c.length - (j + 1) < c.length - j; omega⟩) : P := h
theorem k107_ {P : Prop} (h : P := by (repeat' (first | exact trivial | exact .inl rfl | exact .inr (.same _) | exact .inr .loose | exact .inr (.arr (by assumption)) | apply And.intro | (exact .inr (less_iset hl hjl (fun β q => rfl)))))) : P := h
theorem k108_ {P : Prop} (h : P := by (repeat' (first | exact trivial | exact rfl | assumption | apply zb_.ite | apply And.intro | intro _ | (simp only [zb_, ze_, zo_, prS, yo_, zm_, sndS, stS, evS, macS, mB, cB, sB, eB, prO, HB.stable]; done)))) : P := h
theorem k109_ {P : Prop} (h : P := by (simp only [push_cast, ↓JP, Nat.reduceAdd, Nat.reduceEqDiff, Nat.reduceLT, Nat.reduceMul, Nat.reduceLeDiff, reduceCtorEq, reduceIte, ↓JK, hjl, zo_, inR, inN]; rfl)) : P := h
theorem k110_ {P : Prop} (h : P := by (simp only [push_cast, ↓JP, Nat.reduceAdd, Nat.reduceEqDiff, Nat.reduceLT, Nat.reduceMul, Nat.reduceLeDiff, reduceCtorEq, reduceIte, ↓JK, hjl]; rfl)) : P := h
theorem k111_ {P : Prop} (h : P := by (repeat' (first | exact trivial | exact rfl | assumption | apply zb_.ite | apply And.intro | intro _ | (simp only [zb_, ze_, zo_, prS, yo_, zm_, sndS, stS, evS, cB, sB, prO, sr, csl, ssl, ym_, nilS, HB.stable]; done)))) : P := h
theorem k112_ {P : Prop} (h : P := by (repeat' (first | exact trivial | exact rfl | assumption | apply zb_.ite | apply And.intro | intro _ | (simp only [zb_, ze_, zo_, prS, yo_, zm_, sndS, prT, HB.stable]; done)))) : P := h
theorem k113_ {P : Prop} (h : P := by (repeat' (first | exact trivial | exact .inl rfl | exact .inr (.same _) | exact .inr .loose | exact .inr (.arr (by assumption)) | apply And.intro | (exact .inr (.same _))))) : P := h
theorem k114_ {P : Prop} (h : P := by (repeat' (first | exact trivial | exact rfl | assumption | apply zb_.ite | apply And.intro | intro _ | (simp only [zb_, ze_, zo_, prS, yo_, zm_, sndS, prT, cRf, sRf, sr, HB.stable]; done)))) : P := h
theorem k115_ {P : Prop} (h : P := by (first | exact True.intro | ((try simp only [JE, ins_eta2, ls_two, insOf_agg, ys_, iOf, zc_, Int.cast_ofNat_Int, List.getD_cons_zero, List.getD_cons_succ]); (repeat' (first | exact True.intro | assumption | exact h2 | apply And.intro | rfl | omega | decide | (intro q hq; (rcases q with _ | _ | q) <;> first | rfl | (exfalso; omega)) | intro _)); done) | ((try simp only [JS, implies_true, forall_const, yc_, z6_, kndOf, inR, inN]); (repeat' (first | assumption | exact True.intro | omega | apply And.intro)); done))) : P := h
theorem k116_ {P : Prop} (h : P := by (simp only [push_cast, ↓JP, Nat.reduceAdd, Nat.reduceEqDiff, Nat.reduceLT, Nat.reduceMul, Nat.reduceLeDiff, reduceCtorEq, reduceIte, ↓JK, hjl, List.take_length]; rfl)) : P := h
theorem k117_ {P : Prop} (h : P := by (repeat' (first | exact trivial | exact rfl | assumption | exact hst _ _ | exact hst1 _ _ | exact hst2 _ _ | apply zb_.ite | apply And.intro | intro _ | (simp only [zb_, ze_, zo_, prS, yo_, zm_, sndS, stS, evS, cB, sB, prO, prT, cRf, sRf, sr, csl, ssl, ym_, nilS, HB.stable]; done)))) : P := h
theorem k118_ {P : Prop} (h : P := by (first | exact True.intro | ((try simp only [JE, iOf, zc_, ls_nil, ys_]); (repeat' (first | exact True.intro | exact hok | exact hg | assumption | apply And.intro | rfl | omega | decide | intro _)); done) | ((try simp only [JS, implies_true, forall_const, yc_, z6_, kndOf]); (repeat' (first | assumption | exact True.intro | omega | apply And.intro)); done))) : P := h
theorem k119_ {P : Prop} (h : P := by (repeat' (first | exact trivial | exact rfl | assumption | apply zb_.ite | apply And.intro | intro _ | (simp only [zb_, ze_, zo_, prS, yo_, zm_, sndS, stS, evS, macS, zE, zEB, ym_, nilS, HB.stable]; done)))) : P := h
theorem k120_ {P : Prop} (h : P := by simp only [push_cast, ↓JP, Nat.reduceAdd, Nat.reduceEqDiff, Nat.reduceLT, Nat.reduceMul, Nat.reduceLeDiff, reduceCtorEq, reduceIte, ↓JK, resV, resV1, zSt]; rfl) : P := h
theorem k121_ {P : Prop} (h : P := by (simp only [push_cast, ↓JP, Nat.reduceAdd, Nat.reduceEqDiff, Nat.reduceLT, Nat.reduceMul, Nat.reduceLeDiff, reduceCtorEq, reduceIte, ↓JK, cNl, sNone, sNil, nodupN, memN, zEB, zE, zSt, inR, inN]; rfl)) : P := h
theorem k122_ {P : Prop} (h : P := by (repeat' (first | exact trivial | exact rfl | assumption | apply zb_.ite | apply And.intro | intro _ | (simp only [zb_, ze_, oddF, zo_, prS, yo_, zm_, sndS, stS, evS, cB, sB, sr, csl, ssl, ym_, nilS, HB.stable]; done)))) : P := h
theorem k123_ {P : Prop} (h : P := by simp only [push_cast, ↓JP, Nat.reduceAdd, Nat.reduceEqDiff, Nat.reduceLT, Nat.reduceMul, Nat.reduceLeDiff, reduceCtorEq, reduceIte, ↓JK, noDefer, List.drop_zero, List.drop_succ_cons, inR, inN, List.all_cons, List.all_nil]; rfl) : P := h
theorem k124_ {P : Prop} (h : P := by (first | exact True.intro | ((try simp only [JS, implies_true, forall_const, yc_, z6_, kndOf, inR, inN]); (first | first | omega | decide | (repeat' (first | assumption | exact True.intro | omega | apply And.intro))); done))) : P := h
theorem k125_ {P : Prop} (h : P := by (simp only [push_cast, ↓JP, Nat.reduceAdd, Nat.reduceEqDiff, Nat.reduceLT, Nat.reduceMul, Nat.reduceLeDiff, reduceCtorEq, reduceIte, ↓JK, inR, inN, List.all_cons, List.all_nil]; rfl)) : P := h
theorem k126_ {P : Prop} (h : P := by (simp only [push_cast, ↓JP, Nat.reduceAdd, Nat.reduceEqDiff, Nat.reduceLT, Nat.reduceMul, Nat.reduceLeDiff, reduceCtorEq, reduceIte, ↓JK, inR, inN]; rfl)) : P := h
theorem k127_ {P : Prop} (h : P := by (first | exact True.intro | ((repeat' (first | exact True.intro | exact hP4 | exact hP3 | exact hR5 | exact hRn | exact hI3 | assumption | apply And.intro | rfl | contradiction | omega | decide | intro _)); done) | ((try simp only [JS, implies_true, forall_const, yc_, z6_, kndOf, inR, inN]); (repeat' (first | assumption | exact True.intro | omega | apply And.intro)); done))) : P := h
theorem k128_ {P : Prop} (h : P := by (simp only [push_cast, ↓JP, Nat.reduceAdd, Nat.reduceEqDiff, Nat.reduceLT, Nat.reduceMul, Nat.reduceLeDiff, reduceCtorEq, reduceIte, ↓JK, cLm, oddF, sTells18, hlsP, xj_, xm_, inR, inN, iOf, ya_, z9_, List.all_cons, List.all_nil]; rfl)) : P := h
theorem yz_ {P : Prop} (h : P := by (repeat' (first | exact trivial | exact rfl | assumption | apply zb_.ite | apply And.intro | intro _ | (simp only [zb_, ze_, engF, zo_, prS, yo_, zm_, sndS, stS, evS, cB, sB, sr, csl, ssl, ym_, nilS, zE, zEB, HB.stable]; done)))) : P := h
theorem k130_ {P : Prop} (h : P := by (first | exact True.intro | ((try simp only [JS, implies_true, forall_const, yc_, z6_, kndOf]); (first | first | omega | decide | (repeat' (first | assumption | exact True.intro | omega | apply And.intro))); done))) : P := h
theorem k131_ {P : Prop} (h : P := by (simp only [push_cast, ↓JP, Nat.reduceAdd, Nat.reduceEqDiff, Nat.reduceLT, Nat.reduceMul, Nat.reduceLeDiff, reduceCtorEq, reduceIte, ↓JK, cSm, sForm18, sLim18, JF18, List.all_cons, List.all_nil]; rfl)) : P := h
theorem k132_ {P : Prop} (h : P := by (first | exact True.intro | ((repeat' (first | exact True.intro | assumption | exact ok2 hokI hokH | exact gd2 rfl rfl | exact gd4 rfl rfl rfl rfl | exact fun q _ => isI_ite rfl (isI_ite rfl (isI_ite rfl (isI_ite rfl rfl))) | exact fun q => R_ite two_R (R_ite (hR _) (R_ite (hR _) (R_ite (hR _) zero_R))) | apply And.intro | rfl | contradiction | omega | decide | intro _)); done) | ((try simp only [JS, implies_true, forall_const, yc_, z6_, kndOf]); (repeat' (first | assumption | exact True.intro | omega | apply And.intro)); done))) : P := h
theorem k133_ {P : Prop} (h : P := by (simp only [push_cast, ↓JP, Nat.reduceAdd, Nat.reduceEqDiff, Nat.reduceLT, Nat.reduceMul, Nat.reduceLeDiff, reduceCtorEq, reduceIte, ↓JK, cSm, sForm18, sLim18, JF18, List.all_cons, List.all_nil, engF, zE, zSt]; rfl)) : P := h
theorem k134_ {P : Prop} (h : P := by (simp only [push_cast, ↓JP, Nat.reduceAdd, Nat.reduceEqDiff, Nat.reduceLT, Nat.reduceMul, Nat.reduceLeDiff, reduceCtorEq, reduceIte, ↓JK, cSm, sForm18, sLim18, JF18, List.all_cons, List.all_nil, hk2, hw8, hf]; rfl)) : P := h
theorem k135_ {P : Prop} (h : P := by (simp only [push_cast, ↓JP, Nat.reduceAdd, Nat.reduceEqDiff, Nat.reduceLT, Nat.reduceMul, Nat.reduceLeDiff, reduceCtorEq, reduceIte, ↓JK, cSm, sForm18, sLim18, JF18, List.all_cons, List.all_nil, hw2, hw8]; rfl)) : P := h
end Go.Proofs.Ytmljmabbopkpiaa.Vm
end
section
namespace Go.Proofs.Ytmljmabbopkpiaa
open Go.RowKit
structure Ins where
 op : Int
 a : Int
 b : Int
 c : Int
 n : Int
deriving DecidableEq
def Ins.cells (i : Ins) : List Value := [.int .u8 i.op, .int .u8 i.a, .int .u8 i.b, .int .u8 i.c, .int .i64 i.n]
def Ins.v (i : Ins) : Value := .agg #[.int .u8 i.op, .int .u8 i.a, .int .u8 i.b, .int .u8 i.c, .int .i64 i.n]
structure Ins.ok (i : Ins) : Prop where
 op0 : 0 ≤ i.op
 op1 : i.op ≤ 255
 a0 : 0 ≤ i.a
 a1 : i.a ≤ 255
 b0 : 0 ≤ i.b
 b1 : i.b ≤ 255
 c0 : 0 ≤ i.c
 c1 : i.c ≤ 255
 n0 : -9223372036854775808 ≤ i.n
 n1 : i.n ≤ 9223372036854775807
def y0_ (op : Int) : Nat :=
 if 32 < op ∧ op ≤ 49 then 1
 else if op = 1 ∨ op = 2 then 2
 else if op = 3 then 3
 else if 4 ≤ op ∧ op ≤ 7 then 4
 else if op = 8 then 5
 else if op = 9 then 6
 else if op = 10 ∨ op = 11 then 7
 else 0
def z1_ : Nat → ByteArray
 | 1 => ⟨#[114, 114, 114]⟩
 | 3 => ⟨#[114, 110]⟩
 | 4 => ⟨#[114, 114]⟩
 | 5 => ⟨#[114, 114, 112]⟩
 | 6 => ⟨#[116]⟩
 | 7 => ⟨#[114, 116]⟩
 | _ => ⟨#[]⟩
def xh_ (k : Nat) (a b c n : Int) : Prop :=
 match k with
 | 1 => a < 8 ∧ b < 8 ∧ c < 8 ∧ n = 0
 | 2 => a = 0 ∧ b = 0 ∧ c = 0 ∧ n = 0
 | 3 => a < 8 ∧ b = 0 ∧ c = 0
 | 4 => a < 8 ∧ b < 8 ∧ c = 0 ∧ n = 0
 | 5 => a < 8 ∧ b < 8 ∧ c = 0 ∧ 0 ≤ n ∧ n < 16
 | 6 => a = 0 ∧ b = 0 ∧ c = 0 ∧ 0 ≤ n ∧ n < 256
 | 7 => a < 8 ∧ b = 0 ∧ c = 0 ∧ 0 ≤ n ∧ n < 256
 | _ => False
instance (k : Nat) (a b c n : Int) : Decidable (xh_ k a b c n) := by
 unfold xh_; split <;> infer_instance
def oneK (k : Nat) (a b c n : Int) : Int := if xh_ k a b c n then 0 else 141
theorem oneK_pos {k : Nat} {a b c n : Int} (h : xh_ k a b c n) : oneK k a b c n = 0 := if_pos h
theorem yt_ {k : Nat} {a b c n : Int} (h : ¬ xh_ k a b c n) : oneK k a b c n = 141 := if_neg h
theorem ret_i64 {a b : Int} (h : a = b) : Ending.returned (.int .i64 a) = .returned (.int .i64 b) := by rw [h]
def oneE (i : Ins) : Int := if y0_ i.op = 0 then 140 else oneK (y0_ i.op) i.a i.b i.c i.n
section
variable {w1 W W' : World}
theorem preD : Below w1.heap.size w1 w1.drew ∧ ∀ b o, b < w1.heap.size → w1.drew.cell? ⟨b, o, none⟩ = w1.cell? ⟨b, o, none⟩ := ⟨(Below.refl _ _).drew, fun _ _ _ => rfl⟩
theorem preR : Below w1.heap.size w1 w1 ∧ ∀ b o, b < w1.heap.size → w1.cell? ⟨b, o, none⟩ = w1.cell? ⟨b, o, none⟩ := ⟨Below.refl _ _, fun _ _ _ => rfl⟩
theorem preE (h : Below w1.heap.size w1 W ∧ ∀ b o, b < w1.heap.size → W.cell? ⟨b, o, none⟩ = w1.cell? ⟨b, o, none⟩) : Below w1.heap.size w1 W.drew ∧ ∀ b o, b < w1.heap.size → W.drew.cell? ⟨b, o, none⟩ = w1.cell? ⟨b, o, none⟩ := ⟨h.1.drew, h.2⟩
theorem preOf (h : Below w1.heap.size w1 W) : Below w1.heap.size w1 W ∧ ∀ b o, b < w1.heap.size → W.cell? ⟨b, o, none⟩ = w1.cell? ⟨b, o, none⟩ := ⟨h, fun b o hb => h.cell (p := ⟨b, o, none⟩) hb⟩
theorem preA (h : Below w1.heap.size w1 W ∧ ∀ b o, b < w1.heap.size → W.cell? ⟨b, o, none⟩ = w1.cell? ⟨b, o, none⟩) (x : Obj) : Below w1.heap.size w1 (W.alloc x) ∧ ∀ b o, b < w1.heap.size → (W.alloc x).cell? ⟨b, o, none⟩ = w1.cell? ⟨b, o, none⟩ := preOf (h.1.alloc h.1.size x)
theorem preS (h : Below w1.heap.size w1 W ∧ ∀ b o, b < w1.heap.size → W.cell? ⟨b, o, none⟩ = w1.cell? ⟨b, o, none⟩) {q : Addr} (hq : w1.heap.size ≤ q.block) (v : Value) : Below w1.heap.size w1 (W.setCell q v) ∧ ∀ b o, b < w1.heap.size → (W.setCell q v).cell? ⟨b, o, none⟩ = w1.cell? ⟨b, o, none⟩ := preOf (h.1.setCell hq v)
theorem preB (h : Below w1.heap.size w1 W ∧ ∀ b o, b < w1.heap.size → W.cell? ⟨b, o, none⟩ = w1.cell? ⟨b, o, none⟩) (hb : Below W.heap.size W W') : Below w1.heap.size w1 W' ∧ ∀ b o, b < w1.heap.size → W'.cell? ⟨b, o, none⟩ = w1.cell? ⟨b, o, none⟩ := preOf (h.1.trans (hb.mono h.1.size))
end
theorem bcell {W w1 : World} (hb : Below W.heap.size W w1) : (∀ b o, b < W.heap.size → w1.cell? ⟨b, o, none⟩ = W.cell? ⟨b, o, none⟩) ∧ (∀ b o, b < W.heap.size → w1.frozen? ⟨b, o, none⟩ = W.frozen? ⟨b, o, none⟩) :=
 ⟨fun b o h => hb.cell (p := ⟨b, o, none⟩) h, fun b o h => hb.frozen (p := ⟨b, o, none⟩) h⟩
section
variable {P : Program}
theorem iter_setCell (W : World) (s : ByteArray) (p g i : Nat) (v : Value) (h : g < W.heap.size) : (W.iter s p).setCell ⟨g, i, none⟩ v = (W.setCell ⟨g, i, none⟩ v).iter s p := World.setCell_alloc_past _ _ _ _ h
theorem iter_cell (W : World) (s : ByteArray) (p g i : Nat) (h : g < W.heap.size) : (W.iter s p).cell? ⟨g, i, none⟩ = W.cell? ⟨g, i, none⟩ := World.cell?_alloc_past _ _ _ h
theorem iter_frozen (W : World) (s : ByteArray) (p g i : Nat) (h : g < W.heap.size) : (W.iter s p).frozen? ⟨g, i, none⟩ = W.frozen? ⟨g, i, none⟩ := World.frozen?_alloc_past _ _ _ h
theorem next_at (W : World) (s : ByteArray) (p q n : Nat) (z : Int) (ty : TypeId) (hn : n = W.heap.size) (h : p < s.size) (ha : (s[p]'h).toNat < 128) (hz : ((s[p]'h).toNat : Int) = z) (hq : q = p + 1) :
  (Instr.next (.pointer (some ⟨n, 0, none⟩)) true ty).run P (W.iter s p) = .ok (.tuple #[.bool true, .int .i64 p, .int .i32 z]) (W.iter s q) := by
 subst hn; subst hz; subst hq; exact run_next_ascii W s p ty h ha
theorem next_end (W : World) (s : ByteArray) (p n : Nat) (ty : TypeId) (hn : n = W.heap.size) (h : ¬ p < s.size) :
  (Instr.next (.pointer (some ⟨n, 0, none⟩)) true ty).run P (W.iter s p) = .ok (.tuple #[.bool false]) (W.iter s p) := by
 subst hn; exact run_next_end W s p ty h
end
theorem ite_okB (x a : Int) (r : Bool) (w : World) : (if x = a then Result.ok r w else Result.ok false w) = Result.ok (x == a && r) w := by
 by_cases h : x = a <;> simp [h]
theorem below_setRow {B : Nat} {a w : World} (h : Below B a w) {g : Nat} (hg : B ≤ g) (cs : Array Value) : Below B a (w.setRow g cs) :=
 h.trans ⟨rfl, rfl, rfl, by simp, fun k hk => by
  simp only [World.setRow, Array.getElem?_modify]
  rw [if_neg (by omega)]⟩
end Go.Proofs.Ytmljmabbopkpiaa
end
section
namespace Go.Proofs.Ytmljmabbopkpiaa
open Go.ChangeShapes Go.WideShapes Go.ChangeAt Go.RowKit
theorem ownKnob_ : ownKnob Try.prog.godebug = none := by kernel_rfl
theorem laid_ : laidOutB Try.prog = true := by kernel_rfl
theorem again_all {H : Type} {enc : TypeId × Value → H} {W W' : World} {sp : Nat → Bool} : ∀ {ts : List TypeId} {vs : List Value} {ds : List (DataW H)} {ps : List MemPlace}, (∀ t ∈ ts, Try.prog.readableRec t = true ∧ t < Try.prog.types.size) →
  DataW.TrodAll enc Try.prog W 0 (fun _ => true) true ts vs ds ps → (∀ p ∈ ps, W.sameAt W' p) → (∀ p ∈ ps, sp p.block = true) → DataW.TrodAll enc Try.prog W' 0 sp true ts vs ds ps
 | [], vs, ds, ps, _, h, _, _ => by
  obtain ⟨rfl, rfl, rfl⟩ := trodAll_nil h
  exact trodAll_mk0
 | t :: ts, vs, ds, ps, ht, h, hsame, hs => by
  obtain ⟨v, vs', d, ds', p, p', rfl, rfl, rfl, h1, h2⟩ := trodAll_cons h
  have htt := ht t (.head _)
  exact trodAll_cons_mk (WideElems.Trod_stays laid_ htt.1 htt.2 h1 (fun q hq => hsame q (List.mem_append_left _ hq)) (fun q hq => hs q (List.mem_append_left _ hq)))
   (again_all (fun u hu => ht u (.tail _ hu)) h2 (fun q hq => hsame q (List.mem_append_right _ hq)) (fun q hq => hs q (List.mem_append_right _ hq)))
theorem law_post {H : Type} {enc : TypeId × Value → H} {f : Func} {s : ChangeSpec} {W W' : World} {args : Array Value} {ds gs : List (DataW H)} {before : List MemPlace}
  (hW : DataW.Whole enc Try.prog f.params.toList s.vars false W args.toList ds gs before) (hv : s.vars = []) (hr : f.resultTypes = #[4])
  (hts : ∀ t ∈ f.params.toList, Try.prog.readableRec t = true ∧ t < Try.prog.types.size)
  (hfn : (s.fn H (ds ++ gs)).results = [.lit (.bool true)] ∧ (s.fn H (ds ++ gs)).args = ds ∧ (s.fn H (ds ++ gs)).vars = []) (hb : Below W.heap.size W W') :
  s.post enc Try.prog f false true false false W args (.bool true) W' := by
 have hlt : ∀ x ∈ before, x.block < W.heap.size := fun x hx => hW.lt x hx
 have hW' := hW
 obtain ⟨p, q, hA, hV, rfl, hfz, hnd⟩ := hW
 rw [hv] at hV
 obtain ⟨rfl, rfl⟩ := trodVars_none hV
 have hsame : ∀ x ∈ p, W.sameAt W' x := fun x hx => by
  have hl := hlt x (List.mem_append_left _ hx)
  cases x with
  | cell b off => exact hb.cell (p := ⟨b, off, none⟩) hl
  | map b => exact hb.block b hl
 refine ⟨ds, [], p ++ [], [], p, [], hW', ?_, ?_, ?_, hb.frame _, fun h => by cases h⟩
 ·rw [hr, hfn.1]
  exact trodAll_mk1 (shut_bool Try.underlying4 _)
 ·rw [hfn.2.1]
  exact again_all hts hA hsame (fun x hx => by simpa using hlt x (List.mem_append_left _ hx))
 ·rw [hv, hfn.2.2]
  rfl
end Go.Proofs.Ytmljmabbopkpiaa
end
