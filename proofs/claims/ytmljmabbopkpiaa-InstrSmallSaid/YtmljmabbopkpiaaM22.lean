import Derived.Test.YtmljmabbopkpiaaM1
import Derived.Test.YtmljmabbopkpiaaM8
import Derived.Test.YtmljmabbopkpiaaM21
import Derived.Test.YtmljmabbopkpiaaChecked
import Derived.ProofKit
import Derived.Deep.Slices
set_option linter.unusedSimpArgs false
set_option linter.unusedVariables false
set_option maxRecDepth 100000
set_option maxHeartbeats 4000000
section
namespace Go.Proofs.Ytmljmabbopkpiaa.Vm
open Go.RowKit
attribute [local push_cast] prS zm_ zo_ nav_ins xe_ xd_ xc_ xb_ xa_ nav_snd y9_ y8_ y7_ zu_ z7_ yf_ z5_ ya_ z9_ iOf cOne sRVal sRBel sRAp sr csl ssl evS yo_ oneL nat_one_i inR inN
theorem one7e1 (s : Sta) (v : Evi) (x : Ins) (p1 p2 : Nat) (K : OOk s v x) (ho : x.op = 7) (h1 : s.regs x.b.toNat < 1) : zp_ Try.prog 107 [yo_ x, evS v, sr s (csl s p1) (ssl s p2)] (oneL s) (.tup [ym_, .int .i64 186]) ([.gone]) :=  d11_
theorem one7e2 (s : Sta) (v : Evi) (x : Ins) (p1 p2 : Nat) (K : OOk s v x) (ho : x.op = 7) (h1 : ¬ s.regs x.b.toNat < 1) (h2 : s.draws = 1099511627776) : zp_ Try.prog 107 [yo_ x, evS v, sr s (csl s p1) (ssl s p2)] (oneL s) (.tup [ym_, .int .i64 187]) ([.gone]) := by
 have ⟨⟨o0, o1, a0, a1, b0, b1, c0, c1, n0, n1⟩, a2, b2, c2, at0, at1, dr0, dr1, ⟨ga0, ga1⟩, ⟨gb0, gb1⟩, ⟨gc0, gc1⟩, hb, hcl, tm0, tm1, pr0, pr1⟩ := K.all
 simp only [oneL, sr, csl, ssl, evS, yo_, ym_, nilS, List.cons_append, List.nil_append]
 refine zf_ (fn := Try.f107) 5 190 0 rfl rfl rfl rfl rfl u6_ rfl fun w0 M E hro => ?_
 repeat' (first | refine Ctl.h ?_ | ((with_reducible intro hif); first | (focus (cases hif; done)) | ((try simp only [JH] at hif); try (exfalso; omega))) | ((with_reducible first | apply J22 z2_ za_ | apply J23 fol z2_ za_ | apply J24); (·rfl); (· (simp only [push_cast, ↓JP, Nat.reduceAdd, Nat.reduceEqDiff, Nat.reduceLT, Nat.reduceMul, Nat.reduceLeDiff, reduceCtorEq, reduceIte, ↓JK, Int.cast_ofNat_Int, ho, h1, (eq_true h2)]; rfl)); (try kernel_rfl); try exact k61_) | fail)
 apply At.endsRet za_ (fn := Try.f107) (rs := [.cell 6 135, .tmp 7]) Anc.refl hro (lb_ rfl) rfl
 ·exact yq_
 ·exact k4_
 ·exact k5_
 ·rfl
 ·exact k59_
 ·exact k7_
 ·(intro β; rfl)
 ·exact k59_
theorem one7 (s : Sta) (v : Evi) (x : Ins) (p1 p2 : Nat) (K : OOk s v x) (ho : x.op = 7) (h1 : ¬ s.regs x.b.toNat < 1) (h2 : ¬ s.draws = 1099511627776) : zp_ Try.prog 107 [yo_ x, evS v, sr s (csl s p1) (ssl s p2)] (oneL s) (.tup [sr { s.put x.a.toNat (drawI v.seed v.process s.draws (s.regs x.b.toNat)) with draws := s.draws + 1 } (csl s p1) (ssl s p2), .int .i64 0]) (oneL s) := by
 have ⟨⟨o0, o1, a0, a1, b0, b1, c0, c1, n0, n1⟩, a2, b2, c2, at0, at1, dr0, dr1, ⟨ga0, ga1⟩, ⟨gb0, gb1⟩, ⟨gc0, gc1⟩, hb, hcl, tm0, tm1, pr0, pr1⟩ := K.all
 obtain ⟨Y, hY⟩ : ∃ Y, valueI v.seed v.process s.draws = Y := ⟨_, rfl⟩
 have hyb := valueI_bd v.seed v.process s.draws
 rw [hY] at hyb
 have hD : drawI v.seed v.process s.draws (s.regs x.b.toNat) = belowI Y (s.regs x.b.toNat) := by rw [drawI, hY]
 rw [hD]
 simp only [oneL, sr, csl, ssl, evS, yo_, ym_, nilS, List.cons_append, List.nil_append]
 refine zf_ (fn := Try.f107) 5 190 0 rfl rfl rfl rfl rfl u6_ rfl fun w0 M E hro => ?_
 repeat' (first | refine Ctl.h ?_ | ((with_reducible intro hif); first | (focus (cases hif; done)) | ((try simp only [JH] at hif); try (exfalso; omega))) | ((with_reducible first | apply J22 z2_ za_ | apply J23 fol z2_ za_ | apply J24); (·rfl); (· (simp only [push_cast, ↓JP, Nat.reduceAdd, Nat.reduceEqDiff, Nat.reduceLT, Nat.reduceMul, Nat.reduceLeDiff, reduceCtorEq, reduceIte, ↓JK, Int.cast_ofNat_Int, ho, h1, h2, hY]; rfl)); (try kernel_rfl); try exact k61_) | fail)
 apply At.endsRet za_ (fn := Try.f107) (rs := [.cell 6 135, .tmp 7]) Anc.refl hro (lb_ rfl) rfl
 ·exact yq_
 ·exact k4_
 ·exact k5_
 ·rfl
 ·exact k59_
 ·exact k7_
 ·exact k60_
 ·exact k59_
theorem one8e1 (s : Sta) (v : Evi) (x : Ins) (p1 p2 : Nat) (K : OOk s v x) (ho : x.op = 8) (h1 : v.ports ≤ x.n) : zp_ Try.prog 107 [yo_ x, evS v, sr s (csl s p1) (ssl s p2)] (oneL s) (.tup [ym_, .int .i64 188]) ([.gone]) :=  d11_
theorem one8e2 (s : Sta) (v : Evi) (x : Ins) (p1 p2 : Nat) (K : OOk s v x) (ho : x.op = 8) (h1 : ¬ v.ports ≤ x.n) (h2 : s.regs x.a.toNat < v.look) : zp_ Try.prog 107 [yo_ x, evS v, sr s (csl s p1) (ssl s p2)] (oneL s) (.tup [ym_, .int .i64 189]) ([.gone]) := by
 have ⟨⟨o0, o1, a0, a1, b0, b1, c0, c1, n0, n1⟩, a2, b2, c2, at0, at1, dr0, dr1, ⟨ga0, ga1⟩, ⟨gb0, gb1⟩, ⟨gc0, gc1⟩, hb, hcl, tm0, tm1, pr0, pr1⟩ := K.all
 simp only [oneL, sr, csl, ssl, evS, yo_, ym_, nilS, List.cons_append, List.nil_append]
 refine zf_ (fn := Try.f107) 5 190 0 rfl rfl rfl rfl rfl u6_ rfl fun w0 M E hro => ?_
 repeat' (first | refine Ctl.h ?_ | ((with_reducible intro hif); first | (focus (cases hif; done)) | ((try simp only [JH] at hif); try (exfalso; omega))) | ((with_reducible first | apply J22 z2_ za_ | apply J23 fol z2_ za_ | apply J24); (·rfl); (· (simp only [push_cast, ↓JP, Nat.reduceAdd, Nat.reduceEqDiff, Nat.reduceLT, Nat.reduceMul, Nat.reduceLeDiff, reduceCtorEq, reduceIte, ↓JK, Int.cast_ofNat_Int, ho, h1, h2]; rfl)); (try kernel_rfl); try exact k61_) | fail)
 apply At.endsRet za_ (fn := Try.f107) (rs := [.cell 6 135, .tmp 7]) Anc.refl hro (lb_ rfl) rfl
 ·exact yq_
 ·exact k4_
 ·exact k5_
 ·rfl
 ·exact k59_
 ·exact k7_
 ·(intro β; rfl)
 ·exact k59_
theorem one8e3 (s : Sta) (v : Evi) (x : Ins) (p1 p2 : Nat) (K : OOk s v x) (ho : x.op = 8) (h1 : ¬ v.ports ≤ x.n) (h2 : ¬ s.regs x.a.toNat < v.look) (h3 : 281474976710656 - v.now < s.regs x.a.toNat) : zp_ Try.prog 107 [yo_ x, evS v, sr s (csl s p1) (ssl s p2)] (oneL s) (.tup [ym_, .int .i64 1800]) ([.gone]) := by
 have ⟨⟨o0, o1, a0, a1, b0, b1, c0, c1, n0, n1⟩, a2, b2, c2, at0, at1, dr0, dr1, ⟨ga0, ga1⟩, ⟨gb0, gb1⟩, ⟨gc0, gc1⟩, hb, hcl, tm0, tm1, pr0, pr1⟩ := K.all
 simp only [oneL, sr, csl, ssl, evS, yo_, ym_, nilS, List.cons_append, List.nil_append]
 refine zf_ (fn := Try.f107) 5 190 0 rfl rfl rfl rfl rfl u6_ rfl fun w0 M E hro => ?_
 repeat' (first | refine Ctl.h ?_ | ((with_reducible intro hif); first | (focus (cases hif; done)) | ((try simp only [JH] at hif); try (exfalso; omega))) | ((with_reducible first | apply J22 z2_ za_ | apply J23 fol z2_ za_ | apply J24); (·rfl); (· (simp only [push_cast, ↓JP, Nat.reduceAdd, Nat.reduceEqDiff, Nat.reduceLT, Nat.reduceMul, Nat.reduceLeDiff, reduceCtorEq, reduceIte, ↓JK, Int.cast_ofNat_Int, ho, h1, h2, h3]; rfl)); (try kernel_rfl); try exact k61_) | fail)
 apply At.endsRet za_ (fn := Try.f107) (rs := [.cell 6 135, .tmp 7]) Anc.refl hro (lb_ rfl) rfl
 ·exact yq_
 ·exact k4_
 ·exact k5_
 ·rfl
 ·exact k59_
 ·exact k7_
 ·(intro β; rfl)
 ·exact k59_
theorem one8e4 (s : Sta) (v : Evi) (x : Ins) (p1 p2 : Nat) (K : OOk s v x) (ho : x.op = 8) (h1 : ¬ v.ports ≤ x.n) (h2 : ¬ s.regs x.a.toNat < v.look) (h3 : ¬ 281474976710656 - v.now < s.regs x.a.toNat) (h4 : 256 ≤ s.sends.length) : zp_ Try.prog 107 [yo_ x, evS v, sr s (csl s p1) (ssl s p2)] (oneL s) (.tup [ym_, .int .i64 1801]) ([.gone]) := by
 have ⟨⟨o0, o1, a0, a1, b0, b1, c0, c1, n0, n1⟩, a2, b2, c2, at0, at1, dr0, dr1, ⟨ga0, ga1⟩, ⟨gb0, gb1⟩, ⟨gc0, gc1⟩, hb, hcl, tm0, tm1, pr0, pr1⟩ := K.all
 simp only [oneL, sr, csl, ssl, evS, yo_, ym_, nilS, List.cons_append, List.nil_append]
 refine zf_ (fn := Try.f107) 5 190 0 rfl rfl rfl rfl rfl u6_ rfl fun w0 M E hro => ?_
 repeat' (first | refine Ctl.h ?_ | ((with_reducible intro hif); first | (focus (cases hif; done)) | ((try simp only [JH] at hif); try (exfalso; omega))) | ((with_reducible first | apply J22 z2_ za_ | apply J23 fol z2_ za_ | apply J24); (·rfl); (· exact k66_); (try kernel_rfl); try exact k61_) | fail)
 apply At.endsRet za_ (fn := Try.f107) (rs := [.cell 6 135, .tmp 7]) Anc.refl hro (lb_ rfl) rfl
 ·exact yq_
 ·exact k4_
 ·exact k5_
 ·rfl
 ·exact k59_
 ·exact k7_
 ·(intro β; rfl)
 ·exact k59_
theorem one8 (s : Sta) (v : Evi) (x : Ins) (p1 p2 : Nat) (K : OOk s v x) (ho : x.op = 8) (h1 : ¬ v.ports ≤ x.n) (h2 : ¬ s.regs x.a.toNat < v.look) (h3 : ¬ 281474976710656 - v.now < s.regs x.a.toNat) (h4 : ¬ 256 ≤ s.sends.length) : zp_ Try.prog 107 [yo_ x, evS v, sr s (csl s p1) (ssl s p2)] (oneL s) (.tup [sr { s with at_ := s.at_ + 1, sends := s.sends ++ [⟨x.n, s.regs x.a.toNat, s.regs x.b.toNat⟩] } (csl s p1) (.sl 5 5 [] 3 0 (s.sends.length + 1) none), .int .i64 0]) (oneL s ++ [.own 200 (.arr (s.sends.length + 1) 3 (zm_ (s.sends ++ [⟨x.n, s.regs x.a.toNat, s.regs x.b.toNat⟩]))) false]) := by
 have ⟨⟨o0, o1, a0, a1, b0, b1, c0, c1, n0, n1⟩, a2, b2, c2, at0, at1, dr0, dr1, ⟨ga0, ga1⟩, ⟨gb0, gb1⟩, ⟨gc0, gc1⟩, hb, hcl, tm0, tm1, pr0, pr1⟩ := K.all
 simp only [oneL, sr, csl, ssl, evS, yo_, ym_, nilS, List.cons_append, List.nil_append]
 refine zf_ (fn := Try.f107) 5 190 0 rfl rfl rfl rfl rfl u6_ rfl fun w0 M E hro => ?_
 repeat' (first | refine Ctl.h ?_ | ((with_reducible intro hif); first | (focus (cases hif; done)) | ((try simp only [JH] at hif); try (exfalso; omega))) | ((with_reducible first | apply J22 z2_ za_ | apply J23 fol z2_ za_ | apply J24); (·rfl); (· exact k66_); (try kernel_rfl); try exact k61_) | fail)
 apply At.endsPick [0, 1, 2, 3, 4, 12] za_ (fn := Try.f107) (rs := [.cell 6 135, .tmp 7]) Anc.refl hro (lb_ rfl) rfl
 ·exact yq_
 ·exact k14_
 ·rfl
 ·rfl
 ·rfl
 ·(repeat' (first | exact trivial | exact .inl rfl | exact .inr (.same _) | exact .inr .loose | exact .inr (.arr (by assumption)) | apply And.intro | (exact .inr (less_sap (y := ⟨x.n, s.regs x.a.toNat, s.regs x.b.toNat⟩) _))))
 ·rfl
 ·exact k59_
 ·exact k7_
 ·exact k60_
 ·exact k59_
theorem one9 (s : Sta) (v : Evi) (x : Ins) (p1 p2 : Nat) (K : OOk s v x) (ho : x.op = 9) : zp_ Try.prog 107 [yo_ x, evS v, sr s (csl s p1) (ssl s p2)] (oneL s) (.tup [sr { s with at_ := x.n } (csl s p1) (ssl s p2), .int .i64 0]) (oneL s) := by
 have ⟨⟨o0, o1, a0, a1, b0, b1, c0, c1, n0, n1⟩, a2, b2, c2, at0, at1, dr0, dr1, ⟨ga0, ga1⟩, ⟨gb0, gb1⟩, ⟨gc0, gc1⟩, hb, hcl, tm0, tm1, pr0, pr1⟩ := K.all
 simp only [oneL, sr, csl, ssl, evS, yo_, ym_, nilS, List.cons_append, List.nil_append]
 refine zf_ (fn := Try.f107) 5 190 0 rfl rfl rfl rfl rfl u6_ rfl fun w0 M E hro => ?_
 repeat' (first | refine Ctl.h ?_ | ((with_reducible intro hif); first | (focus (cases hif; done)) | ((try simp only [JH] at hif); try (exfalso; omega))) | ((with_reducible first | apply J22 z2_ za_ | apply J23 fol z2_ za_ | apply J24); (·rfl); (· (simp only [push_cast, ↓JP, Nat.reduceAdd, Nat.reduceEqDiff, Nat.reduceLT, Nat.reduceMul, Nat.reduceLeDiff, reduceCtorEq, reduceIte, ↓JK, Int.cast_ofNat_Int, ho]; rfl)); (try kernel_rfl); try exact k61_) | fail)
 apply At.endsRet za_ (fn := Try.f107) (rs := [.cell 6 135, .tmp 7]) Anc.refl hro (lb_ rfl) rfl
 ·exact yq_
 ·exact k4_
 ·exact k5_
 ·rfl
 ·exact k59_
 ·exact k7_
 ·exact k60_
 ·exact k59_
theorem one10a (s : Sta) (v : Evi) (x : Ins) (p1 p2 : Nat) (K : OOk s v x) (ho : x.op = 10) (h1 : s.regs x.a.toNat = 0) : zp_ Try.prog 107 [yo_ x, evS v, sr s (csl s p1) (ssl s p2)] (oneL s) (.tup [sr { s with at_ := x.n } (csl s p1) (ssl s p2), .int .i64 0]) (oneL s) := by
 have ⟨⟨o0, o1, a0, a1, b0, b1, c0, c1, n0, n1⟩, a2, b2, c2, at0, at1, dr0, dr1, ⟨ga0, ga1⟩, ⟨gb0, gb1⟩, ⟨gc0, gc1⟩, hb, hcl, tm0, tm1, pr0, pr1⟩ := K.all
 simp only [oneL, sr, csl, ssl, evS, yo_, ym_, nilS, List.cons_append, List.nil_append]
 refine zf_ (fn := Try.f107) 5 190 0 rfl rfl rfl rfl rfl u6_ rfl fun w0 M E hro => ?_
 repeat' (first | refine Ctl.h ?_ | ((with_reducible intro hif); first | (focus (cases hif; done)) | ((try simp only [JH] at hif); try (exfalso; omega))) | ((with_reducible first | apply J22 z2_ za_ | apply J23 fol z2_ za_ | apply J24); (·rfl); (· (simp only [push_cast, ↓JP, Nat.reduceAdd, Nat.reduceEqDiff, Nat.reduceLT, Nat.reduceMul, Nat.reduceLeDiff, reduceCtorEq, reduceIte, ↓JK, Int.cast_ofNat_Int, ho, (eq_true h1)]; rfl)); (try kernel_rfl); try exact k61_) | fail)
 apply At.endsRet za_ (fn := Try.f107) (rs := [.cell 6 135, .tmp 7]) Anc.refl hro (lb_ rfl) rfl
 ·exact yq_
 ·exact k4_
 ·exact k5_
 ·rfl
 ·exact k59_
 ·exact k7_
 ·exact k60_
 ·exact k59_
theorem one10b (s : Sta) (v : Evi) (x : Ins) (p1 p2 : Nat) (K : OOk s v x) (ho : x.op = 10) (h1 : ¬ s.regs x.a.toNat = 0) : zp_ Try.prog 107 [yo_ x, evS v, sr s (csl s p1) (ssl s p2)] (oneL s) (.tup [sr { s with at_ := s.at_ + 1 } (csl s p1) (ssl s p2), .int .i64 0]) (oneL s) :=  d12_
theorem one11a (s : Sta) (v : Evi) (x : Ins) (p1 p2 : Nat) (K : OOk s v x) (ho : x.op = 11) (h1 : s.regs x.a.toNat < 0) : zp_ Try.prog 107 [yo_ x, evS v, sr s (csl s p1) (ssl s p2)] (oneL s) (.tup [sr { s with at_ := x.n } (csl s p1) (ssl s p2), .int .i64 0]) (oneL s) :=  d12_
theorem one11b (s : Sta) (v : Evi) (x : Ins) (p1 p2 : Nat) (K : OOk s v x) (ho : x.op = 11) (h1 : ¬ s.regs x.a.toNat < 0) : zp_ Try.prog 107 [yo_ x, evS v, sr s (csl s p1) (ssl s p2)] (oneL s) (.tup [sr { s with at_ := s.at_ + 1 } (csl s p1) (ssl s p2), .int .i64 0]) (oneL s) :=  d12_
theorem one33e (s : Sta) (v : Evi) (x : Ins) (p1 p2 : Nat) (K : OOk s v x) (ho : 33 ≤ x.op) (ho2 : x.op ≤ 49) (h1 : ¬ yk_ (x.op - 32) (s.regs x.c.toNat) = 0) : zp_ Try.prog 107 [yo_ x, evS v, sr s (csl s p1) (ssl s p2)] (oneL s) (.tup [ym_, .int .i64 (yk_ (x.op - 32) (s.regs x.c.toNat))]) ([.gone]) := by
 have ⟨⟨o0, o1, a0, a1, b0, b1, c0, c1, n0, n1⟩, a2, b2, c2, at0, at1, dr0, dr1, ⟨ga0, ga1⟩, ⟨gb0, gb1⟩, ⟨gc0, gc1⟩, hb, hcl, tm0, tm1, pr0, pr1⟩ := K.all
 simp only [oneL, sr, csl, ssl, evS, yo_, ym_, nilS, List.cons_append, List.nil_append]
 refine zf_ (fn := Try.f107) 5 190 0 rfl rfl rfl rfl rfl u6_ rfl fun w0 M E hro => ?_
 repeat' (first | refine Ctl.h ?_ | ((with_reducible intro hif); first | (focus (cases hif; done)) | ((try simp only [JH] at hif); try (exfalso; omega))) | ((with_reducible first | apply J22 z2_ za_ | apply J23 fol z2_ za_ | apply J24); (·rfl); (· exact k67_); (try kernel_rfl); try exact k61_) | fail)
 apply At.endsRet za_ (fn := Try.f107) (rs := [.cell 6 135, .tmp 7]) Anc.refl hro (lb_ rfl) rfl
 ·exact yq_
 ·exact k4_
 ·exact k5_
 ·rfl
 ·exact k59_
 ·exact k7_
 ·(intro β; rfl)
 ·exact k59_
theorem one33 (s : Sta) (v : Evi) (x : Ins) (p1 p2 : Nat) (K : OOk s v x) (ho : 33 ≤ x.op) (ho2 : x.op ≤ 49) (h1 : yk_ (x.op - 32) (s.regs x.c.toNat) = 0) : zp_ Try.prog 107 [yo_ x, evS v, sr s (csl s p1) (ssl s p2)] (oneL s) (.tup [sr (s.put x.a.toNat (yn_ (x.op - 32) (s.regs x.b.toNat) (s.regs x.c.toNat))) (csl s p1) (ssl s p2), .int .i64 0]) (oneL s) := by
 have ⟨⟨o0, o1, a0, a1, b0, b1, c0, c1, n0, n1⟩, a2, b2, c2, at0, at1, dr0, dr1, ⟨ga0, ga1⟩, ⟨gb0, gb1⟩, ⟨gc0, gc1⟩, hb, hcl, tm0, tm1, pr0, pr1⟩ := K.all
 simp only [oneL, sr, csl, ssl, evS, yo_, ym_, nilS, List.cons_append, List.nil_append]
 refine zf_ (fn := Try.f107) 5 190 0 rfl rfl rfl rfl rfl u6_ rfl fun w0 M E hro => ?_
 repeat' (first | refine Ctl.h ?_ | ((with_reducible intro hif); first | (focus (cases hif; done)) | ((try simp only [JH] at hif); try (exfalso; omega))) | ((with_reducible first | apply J22 z2_ za_ | apply J23 fol z2_ za_ | apply J24); (·rfl); (· exact k67_); (try kernel_rfl); try exact k61_) | fail)
 apply At.endsRet za_ (fn := Try.f107) (rs := [.cell 6 135, .tmp 7]) Anc.refl hro (lb_ rfl) rfl
 ·exact yq_
 ·exact k4_
 ·exact k5_
 ·rfl
 ·exact k59_
 ·exact k7_
 ·exact k60_
 ·exact k59_
end Go.Proofs.Ytmljmabbopkpiaa.Vm
end
section
namespace Go.Proofs.Ytmljmabbopkpiaa.Vm
open Go.RowKit
theorem oneE_lit (s : Sta) (v : Evi) (x : Ins) (p1 p2 : Nat) (K : OOk s v x) (hE : doE s v x ≠ 0) : zp_ Try.prog 107 [yo_ x, evS v, sr s (csl s p1) (ssl s p2)] (oneL s) (.tup [ym_, .int .i64 (doE s v x)]) [.gone] := by
 rcases K.kr.cls with ho | ho | ho | ho | ho | ho | ho | ho | ho | ho | ho | ⟨ho, ho2⟩
 ·exact absurd (by simp [doE, ho]) hE
 ·rw [show doE s v x = 184 by simp [doE, ho]]; exact one2 s v x p1 p2 K ho
 ·exact absurd (by simp [doE, ho]) hE
 ·exact absurd (by simp [doE, ho]) hE
 ·by_cases h1 : s.regs x.b.toNat < 0
  ·rw [show doE s v x = 185 by simp [doE, ho, h1]]; exact one5e1 s v x p1 p2 K ho h1
  by_cases h2 : (s.cells.length : Int) ≤ s.regs x.b.toNat
  ·rw [show doE s v x = 185 by simp [doE, ho, h2]]; exact one5e2 s v x p1 p2 K ho h1 h2
  exact absurd (by simp only [doE, ho, h1, h2, or_self, if_false]; simp) hE
 ·by_cases h1 : s.regs x.b.toNat < 0
  ·rw [show doE s v x = 185 by simp [doE, ho, h1]]; exact one6e1 s v x p1 p2 K ho h1
  by_cases h2 : (s.cells.length : Int) ≤ s.regs x.b.toNat
  ·rw [show doE s v x = 185 by simp [doE, ho, h2]]; exact one6e2 s v x p1 p2 K ho h1 h2
  exact absurd (by simp only [doE, ho, h1, h2, or_self, if_false]; simp) hE
 ·by_cases h1 : s.regs x.b.toNat < 1
  ·rw [show doE s v x = 186 by simp [doE, ho, h1]]; exact one7e1 s v x p1 p2 K ho h1
  by_cases h2 : s.draws = 1099511627776
  ·rw [show doE s v x = 187 by simp only [doE, ho, h1, h2, if_true, if_false]; simp]; exact one7e2 s v x p1 p2 K ho h1 h2
  exact absurd (by simp only [doE, ho, h1, h2, if_false]; simp) hE
 ·have hd : doE s v x = sendE s v x := by simp [doE, ho]
  rw [hd] at hE ⊢
  by_cases h1 : v.ports ≤ x.n
  ·rw [show sendE s v x = 188 by simp only [sendE, h1, if_true, if_false]]; exact one8e1 s v x p1 p2 K ho h1
  by_cases h2 : s.regs x.a.toNat < v.look
  ·rw [show sendE s v x = 189 by simp only [sendE, h1, h2, if_true, if_false]]; exact one8e2 s v x p1 p2 K ho h1 h2
  by_cases h3 : 281474976710656 - v.now < s.regs x.a.toNat
  ·rw [show sendE s v x = 1800 by simp only [sendE, h1, h2, h3, if_true, if_false]]; exact one8e3 s v x p1 p2 K ho h1 h2 h3
  by_cases h4 : 256 ≤ s.sends.length
  ·rw [show sendE s v x = 1801 by simp only [sendE, h1, h2, h3, h4, if_true, if_false]]; exact one8e4 s v x p1 p2 K ho h1 h2 h3 h4
  exact absurd (by simp only [sendE, h1, h2, h3, h4, if_false]) hE
 ·exact absurd (by simp [doE, ho]) hE
 ·exact absurd (by simp [doE, ho]) hE
 ·exact absurd (by simp [doE, ho]) hE
 ·have hn : ∀ k : Int, k ≤ 11 → ¬ x.op = k := fun k hk => by omega
  have hd : doE s v x = yk_ (x.op - 32) (s.regs x.c.toNat) := by simp only [doE, hn 2 (by decide), hn 5 (by decide), hn 6 (by decide), hn 7 (by decide), hn 8 (by decide), show ¬ x.op < 32 by omega, if_false, or_self]
  rw [hd] at hE ⊢
  exact one33e s v x p1 p2 K ho ho2 hE
theorem one6_lit (s : Sta) (v : Evi) (x : Ins) (p1 p2 : Nat) (K : OOk s v x) (hE : doE s v x = 0) (ho : x.op = 6) : zp_ Try.prog 107 [yo_ x, evS v, sr s (csl s p1) (ssl s p2)] (oneL s) (.tup [sr (doS s v x) (.sl 5 5 [] 1 0 s.cells.length none) (ssl s p2), .int .i64 0]) (oneL s ++ [.own 2 (.arr s.cells.length 1 (zo_ (doS s v x).cells)) false]) := by
 have h1 : ¬ s.regs x.b.toNat < 0 := fun h => by simp [doE, ho, h] at hE
 have h2 : ¬ (s.cells.length : Int) ≤ s.regs x.b.toNat := fun h => by simp [doE, ho, h] at hE
 have e : doS s v x = { s with cells := s.cells.set (s.regs x.b.toNat).toNat (s.regs x.a.toNat), at_ := s.at_ + 1 } := by
  rw [doS, hE]; simp [ho]
 rw [e]
 exact one6 s v x p1 p2 K ho h1 h2
theorem one8_lit (s : Sta) (v : Evi) (x : Ins) (p1 p2 : Nat) (K : OOk s v x) (hE : doE s v x = 0) (ho : x.op = 8) : zp_ Try.prog 107 [yo_ x, evS v, sr s (csl s p1) (ssl s p2)] (oneL s) (.tup [sr (doS s v x) (csl s p1) (.sl 5 5 [] 3 0 (s.sends.length + 1) none), .int .i64 0]) (oneL s ++ [.own 200 (.arr (s.sends.length + 1) 3 (zm_ (doS s v x).sends)) false]) := by
 have e : doS s v x = { s with at_ := s.at_ + 1, sends := s.sends ++ [⟨x.n, s.regs x.a.toNat, s.regs x.b.toNat⟩] } := by
  rw [doS, hE]; simp [ho]
 rw [e]
 have hd : doE s v x = sendE s v x := by simp [doE, ho]
 rw [hd] at hE
 have h1 : ¬ v.ports ≤ x.n := fun h => by simp only [sendE, h, if_true, if_false] at hE; exact absurd hE (by decide)
 have h2 : ¬ s.regs x.a.toNat < v.look := fun h => by simp only [sendE, h1, h, if_true, if_false] at hE; exact absurd hE (by decide)
 have h3 : ¬ 281474976710656 - v.now < s.regs x.a.toNat := fun h => by simp only [sendE, h1, h2, h, if_true, if_false] at hE; exact absurd hE (by decide)
 have h4 : ¬ 256 ≤ s.sends.length := fun h => by simp only [sendE, h1, h2, h3, h, if_true, if_false] at hE; exact absurd hE (by decide)
 exact one8 s v x p1 p2 K ho h1 h2 h3 h4
theorem oneX_lit (s : Sta) (v : Evi) (x : Ins) (p1 p2 : Nat) (K : OOk s v x) (hE : doE s v x = 0) (h6 : x.op ≠ 6) (h8 : x.op ≠ 8) : zp_ Try.prog 107 [yo_ x, evS v, sr s (csl s p1) (ssl s p2)] (oneL s) (.tup [sr (doS s v x) (csl s p1) (ssl s p2), .int .i64 0]) (oneL s) := by
 rcases K.kr.cls with ho | ho | ho | ho | ho | ho | ho | ho | ho | ho | ho | ⟨ho, ho2⟩
 ·rw [show doS s v x = { s with ended := true } by rw [doS, hE]; simp [ho]]; exact one1 s v x p1 p2 K ho
 ·exact absurd hE (by simp [doE, ho])
 ·rw [show doS s v x = s.put x.a.toNat x.n by rw [doS, hE]; simp [ho]]; exact one3 s v x p1 p2 K ho
 ·rw [show doS s v x = s.put x.a.toNat (s.regs x.b.toNat) by rw [doS, hE]; simp [ho]]; exact one4 s v x p1 p2 K ho
 ·have h1 : ¬ s.regs x.b.toNat < 0 := fun h => by simp [doE, ho, h] at hE
  have h2 : ¬ (s.cells.length : Int) ≤ s.regs x.b.toNat := fun h => by simp [doE, ho, h] at hE
  rw [show doS s v x = s.put x.a.toNat (s.cells.getD (s.regs x.b.toNat).toNat 0) by rw [doS, hE]; simp [ho]]; exact one5 s v x p1 p2 K ho h1 h2
 ·exact absurd ho h6
 ·have h1 : ¬ s.regs x.b.toNat < 1 := fun h => by simp [doE, ho, h] at hE
  have h2 : ¬ s.draws = 1099511627776 := fun h => by simp only [doE, ho, h1, h, if_true, if_false] at hE; simp at hE
  rw [show doS s v x = { s.put x.a.toNat (drawI v.seed v.process s.draws (s.regs x.b.toNat)) with draws := s.draws + 1 } by rw [doS, hE]; simp [ho]]; exact one7 s v x p1 p2 K ho h1 h2
 ·exact absurd ho h8
 ·rw [show doS s v x = { s with at_ := x.n } by rw [doS, hE]; simp [ho]]; exact one9 s v x p1 p2 K ho
 ·by_cases h1 : s.regs x.a.toNat = 0
  ·rw [show doS s v x = { s with at_ := x.n } by rw [doS, hE]; simp [ho, h1]]; exact one10a s v x p1 p2 K ho h1
  ·rw [show doS s v x = { s with at_ := s.at_ + 1 } by rw [doS, hE]; simp [ho, h1]]; exact one10b s v x p1 p2 K ho h1
 ·by_cases h1 : s.regs x.a.toNat < 0
  ·rw [show doS s v x = { s with at_ := x.n } by rw [doS, hE]; simp [ho, h1]]; exact one11a s v x p1 p2 K ho h1
  ·rw [show doS s v x = { s with at_ := s.at_ + 1 } by rw [doS, hE]; simp [ho, h1]]; exact one11b s v x p1 p2 K ho h1
 ·have hn : ∀ k : Int, k ≤ 11 → ¬ x.op = k := fun k hk => by omega
  have hd : doE s v x = yk_ (x.op - 32) (s.regs x.c.toNat) := by simp only [doE, hn 2 (by decide), hn 5 (by decide), hn 6 (by decide), hn 7 (by decide), hn 8 (by decide), show ¬ x.op < 32 by omega, if_false, or_self]
  rw [show doS s v x = s.put x.a.toNat (yn_ (x.op - 32) (s.regs x.b.toNat) (s.regs x.c.toNat)) by rw [doS, hE]; simp only [hn 1 (by decide), hn 3 (by decide), hn 4 (by decide), hn 5 (by decide), hn 6 (by decide), hn 7 (by decide), hn 8 (by decide), hn 9 (by decide), hn 10 (by decide), hn 11 (by decide), if_false]; simp]
  exact one33 s v x p1 p2 K ho ho2 (by rw [← hd]; exact hE)
theorem bI_R (b : Bool) : R64 (bI b) := by cases b <;> (constructor <;> decide)
theorem zero_R : R64 0 := by constructor <;> decide
theorem applyV_R (op a b : Int) (ha : R64 a) (hb : R64 b) : R64 (yn_ op a b) := by
 by_cases h0 : yk_ op b = 0
 ·have hop : op = 1 ∨ op = 2 ∨ op = 3 ∨ op = 4 ∨ op = 5 ∨ op = 6 ∨ op = 7 ∨ op = 8 ∨ op = 9 ∨ op = 10 ∨ op = 11 ∨ op = 12 ∨ op = 13 ∨ op = 14 ∨ op = 15 ∨ op = 16 ∨ op = 17 := by
   by_cases h : op < 1 ∨ 17 < op
   ·rw [yk_, if_pos h] at h0; exact absurd h0 (by decide)
   ·omega
  have hz : 4 ≤ op → op ≤ 6 → ¬ b = 0 := by
   intro x y z
   rw [yk_, if_neg (by omega), if_pos ⟨z, x, y⟩] at h0
   exact absurd h0 (by decide)
  rcases hop with h | h | h | h | h | h | h | h | h | h | h | h | h | h | h | h | h <;> subst h
  ·rw [apV1 a b ha hb]; exact toInt_R _
  ·rw [apV2 a b ha hb]; exact toInt_R _
  ·rw [apV3 a b ha hb]; exact toInt_R _
  ·rw [apV4 a b ha hb (hz (by decide) (by decide))]; exact toInt_R _
  ·rw [apV5 a b ha hb (hz (by decide) (by decide))]; exact toInt_R _
  ·rw [apV6 a b ha hb (hz (by decide) (by decide))]; exact toInt_R _
  ·rw [apV7 a b ha hb]; exact toInt_R _
  ·rw [apV8 a b ha hb]; exact toInt_R _
  ·rw [apV9 a b ha hb]; exact toInt_R _
  ·rw [apV10 a b ha hb]; exact toInt_R _
  ·rw [apV11 a b ha hb]; exact toInt_R _
  ·rw [apV12 a b ha hb]; exact toInt_R _
  ·rw [apV13 a b ha hb]; exact bI_R _
  ·rw [apV14 a b ha hb]; exact bI_R _
  ·rw [apV15 a b ha hb]; exact bI_R _
  ·rw [apV16 a b ha hb]; split <;> assumption
  ·rw [apV17 a b ha hb]; split <;> assumption
 ·rw [yn_, if_neg h0]; exact zero_R
theorem put_R {s : Sta} {k : Nat} {y : Int} (hs : ∀ q, R64 (s.regs q)) (hy : R64 y) (q : Nat) : R64 ((s.put k y).regs q) := by
 show R64 (if q = k then y else s.regs q)
 split
 ·exact hy
 ·exact hs q
def CR (s : Sta) : Prop := ∀ k, R64 (s.cells.getD k 0)
theorem doS_R {s : Sta} {v : Evi} {x : Ins} (K : OOk s v x) (hc : CR s) : (∀ q, R64 ((doS s v x).regs q)) ∧ CR (doS s v x) := by
 have hs : ∀ q, R64 (s.regs q) := K.g
 have hn : R64 x.n := ⟨K.n0, K.n1⟩
 by_cases hE : doE s v x = 0
 ·unfold doS
  rw [if_neg (by simp [hE])]
  by_cases h1 : x.op = 1
  ·rw [if_pos h1]; exact ⟨hs, hc⟩
  rw [if_neg h1]
  by_cases h3 : x.op = 3
  ·rw [if_pos h3]; exact ⟨put_R hs hn, hc⟩
  rw [if_neg h3]
  by_cases h4 : x.op = 4
  ·rw [if_pos h4]; exact ⟨put_R hs (hs _), hc⟩
  rw [if_neg h4]
  by_cases h5 : x.op = 5
  ·rw [if_pos h5]; exact ⟨put_R hs (hc _), hc⟩
  rw [if_neg h5]
  by_cases h6 : x.op = 6
  ·rw [if_pos h6]
   refine ⟨hs, fun k => ?_⟩
   show R64 ((s.cells.set _ _).getD k 0)
   rw [List.getD_eq_getElem?_getD, List.getElem?_set]
   split
   ·split
    ·exact hs _
    ·exact zero_R
   ·rw [← List.getD_eq_getElem?_getD]; exact hc k
  rw [if_neg h6]
  by_cases h7 : x.op = 7
  ·rw [if_pos h7]
   have hb : ¬ s.regs x.b.toNat < 1 := fun h => by simp [doE, h7, h] at hE
   have hd := drawI_bd v.seed v.process s.draws (s.regs x.b.toNat) (by omega) (hs x.b.toNat).2
   have hb2 := (hs x.b.toNat).2
   refine ⟨fun q => ?_, hc⟩
   exact put_R (s := s) hs ⟨by omega, by omega⟩ q
  rw [if_neg h7]
  by_cases h8 : x.op = 8
  ·rw [if_pos h8]; exact ⟨hs, hc⟩
  rw [if_neg h8]
  by_cases h9 : x.op = 9
  ·rw [if_pos h9]; exact ⟨hs, hc⟩
  rw [if_neg h9]
  by_cases h10 : x.op = 10
  ·rw [if_pos h10]; exact ⟨hs, hc⟩
  rw [if_neg h10]
  by_cases h11 : x.op = 11
  ·rw [if_pos h11]; exact ⟨hs, hc⟩
  rw [if_neg h11]
  exact ⟨put_R hs (applyV_R _ _ _ (hs _) (hs _)), hc⟩
 ·rw [doS_bad hE]; exact ⟨hs, hc⟩
end Go.Proofs.Ytmljmabbopkpiaa.Vm
end
section
namespace Go.Proofs.Ytmljmabbopkpiaa
open Go.ChangeShapes Go.WideShapes Go.ChangeAt Go.RowKit Go.Deep
structure St18 (w : World) (s : Vm.Sta) (A : Option Addr) (l c : Nat) (B : Option Addr) (l2 c2 : Nat) : Prop where
 g : ∀ q, Vm.R64 (s.regs q)
 cw : Vm.CR s
 lc : l ≤ c
 cm : c ≤ 9223372036854775807
 lc2 : l2 ≤ c2
 cm2 : c2 ≤ 9223372036854775807
 rA : yx_ w w.heap.size 1 A l (int64s s.cells)
 rB : yx_ w w.heap.size 3 B l2 (sndsV s.sends)
namespace Vm
end Vm
namespace Vm
theorem law_of_lit17 {f : FuncId} {args : List SV} {L0 L1 : List HB} {W : World} {β : Env} (H : zp_ Try.prog f args L0 (.bool true) L1) (R : Rep W (fun _ => False) β (hp L0) W) :
  Calls Try.prog f (denL β args).toArray W fun e W' => e = .returned (.bool true) ∧ Below W.heap.size W W' :=
 (H W _ β W R).mono fun e W' ⟨β', _, R', _, he⟩ => ⟨he, R'.os, R'.tape, R'.output, R'.size, fun k hk => R'.frame k hk id⟩
end Vm
end Go.Proofs.Ytmljmabbopkpiaa
end
