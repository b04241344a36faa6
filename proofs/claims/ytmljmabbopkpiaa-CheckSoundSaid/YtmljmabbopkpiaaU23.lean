import Derived.Test.YtmljmabbopkpiaaU1
import Derived.Test.YtmljmabbopkpiaaU21
set_option linter.unusedSimpArgs false
set_option linter.unusedVariables false
set_option maxRecDepth 100000
set_option maxHeartbeats 4000000
section
namespace Go.Proofs.Ytmljmabbopkpiaa.Vm
open Go.RowKit
attribute [local push_cast] eqB eqBL allB prS sndsS i64S nav_ins nav_ins0 nav_ins1 nav_ins2 nav_ins3 nav_ins4 nav_snd nav_snd0 nav_snd1 nav_snd2 isIns_insS ym_ isSnd_sndS sndOf_sndS isI_int isI_nat iOf nav_k nav_k0 nav_k1 nav_ka nav_kai nav_ft nav_ft0 nav_ft1 isKn_kS knOf_kS isKa_kaS kaOf_kaS isFt_ftS ftOf_ftS setp_ka setp_ftk setp_ftr setp_fti evm_ins evm_snd evm_k evm_ka evm_ft
theorem Doomed_litU (xs : List Ins) (p1 : Nat) (c p l : Int) (hx : ∀ x ∈ xs, x.ok) (hc : (z6_ xs).2 = 0) (hl : limB c p l = true) : LitOk Try.prog 34 [.sl 1 2 [] 5 0 xs.length (some p1), .agg [.int .i64 c, .int .i64 p, .int .i64 l]] [.gone, .gone, .ro (.arr xs.length 5 (prS xs))]
  (.tup [.sl 3 3 [] 1 0 (ya_ xs (zo_ xs) c p l xs.length).length none, .int .i64 0]) [.gone, .gone, .gone, .own 3 (.arr (ya_ xs (zo_ xs) c p l xs.length).length 1 (i64S (ya_ xs (zo_ xs) c p l xs.length))) false] := by
 refine z3_ (fn := Try.f34) 3 25 0 rfl rfl rfl rfl rfl u1_ rfl fun w0 M E hro => ?_
 have hl6 : xs.length ≤ 256 := (right_last' hc).2.1
 have hfit : fitE xs c p l = 0 := by unfold fitE; rw [if_pos hc, if_pos hl]
 obtain ⟨F, hF⟩ : ∃ F, F = zo_ xs := ⟨_, rfl⟩
 rw [← hF]
 repeat' (first | refine Ctl.h ?_ | ((with_reducible intro hif); first | (focus (cases hif; done)) | ((try simp only [JH] at hif); try (exfalso; omega))) | ((with_reducible first | apply J22 ze_ za_ | apply J23 fol ze_ za_ | apply J24); (·rfl); (· exact k65_); (try kernel_rfl); try exact k64_) | fail)
 with_reducible apply WF.range (fn' := Try.f117) 32
 ·exact k20_
 ·exact k21_
 ·rfl
 ·rfl
 ·rfl
 ·rfl
 ·rfl
 ·rfl
 ·rfl
 intro E1 rec tmps after hE1 hrec hcf haft
 repeat' (first | refine Ctl.h ?_ | ((with_reducible intro hif); first | (focus (cases hif; done)) | ((try simp only [JH] at hif); try (exfalso; omega))) | ((with_reducible first | apply J22 ze_ za_ | apply J23 fol ze_ za_ | apply J24); (·rfl); (· exact k66_); (try kernel_rfl); try exact k9_) | fail)
 refine WF.empty 3 1 (i64S []) (fun _ q => i64S_stable q) ?_
 refine WF.loopAt (fun k => k ≤ xs.length) (fun k => [(0, .yl 8), (1, .ptr 6 []), (2, .ptr 5 []), (8, .sl 9 9 [] 17 0 xs.length none), (9, .nat .i64 xs.length), (10, .nat .i64 k)]) (fun k => [.gone, .gone, .ro (.arr xs.length 5 (prS xs)), .gone, .own 79 (nilOr (ya_ xs F c p l k) 10) true, .own 31 (.agg [.int .i64 c, .int .i64 p, .int .i64 l]) true, .own 25 (.sl 1 2 [] 5 0 xs.length (some p1)) true, .raw (.deferred (some [])), .raw (.loop (rec .ready none)), .own 44 (.arr xs.length 17 (ftsS F)) false, .own 3 (.arr (ya_ xs F c p l k).length 1 (i64S (ya_ xs F c p l k))) false]) (fun k => xs.length - k) 0 (Nat.zero_le _) ?_ ?_ rfl ?_ ?_ rfl ?_
 ·exact k3_
 ·exact k4_
 ·exact k59_
 ·exact k59_
 ·intro k hk
  obtain ⟨Dk, hD⟩ : ∃ Dk, ya_ xs F c p l k = Dk := ⟨_, rfl⟩
  rw [hD]
  have hDl : Dk.length ≤ 256 := by have := doom_len xs F c p l k; rw [hD] at this; omega
  by_cases hkl : k < xs.length
  ·exact d29_
  ·obtain rfl : k = xs.length := by omega
   cases hDe : Dk.isEmpty
   ·rw [nilOr_f hDe]
    repeat' (first | refine Ctl.h ?_ | ((with_reducible intro hif); first | (focus (cases hif; done)) | ((try simp only [JH] at hif); try (exfalso; omega))) | ((with_reducible first | apply J22 ze_ za_ | apply J23 fol ze_ za_ | apply J24); (·rfl); (· exact k70_); (try kernel_rfl); try exact k11_) | fail)
    with_reducible apply At.itNormal .ready
    ·rfl
    ·rfl
    ·intro h; cases h
    apply haft
    intro w1 M1 D1 hA
    dsimp only
    rw [hD]
    repeat' (first | refine Ctl.h ?_ | ((with_reducible intro hif); first | (focus (cases hif; done)) | ((try simp only [JH] at hif); try (exfalso; omega))) | ((with_reducible first | apply J22 ze_ za_ | apply J23 fol ze_ za_ | apply J24); (·rfl); (· exact k70_); (try kernel_rfl); try exact k11_) | fail)
    apply At.endsPick [0, 1, 2, 10] za_ (fn := Try.f34) (rs := [.tmp 4, .tmp 5]) hA hro (lb_ rfl) rfl
    ·exact k12_
    ·exact k21_
    ·rfl
    ·rfl
    ·rfl
    ·exact k23_
    ·rfl
    ·exact k59_
    ·exact k8_
    ·exact fun β => rfl
    ·exact k59_
   ·rw [nilOr_t hDe]
    have hDz : Dk = [] := by simpa using hDe
    subst hDz
    repeat' (first | refine Ctl.h ?_ | ((with_reducible intro hif); first | (focus (cases hif; done)) | ((try simp only [JH] at hif); try (exfalso; omega))) | ((with_reducible first | apply J22 ze_ za_ | apply J23 fol ze_ za_ | apply J24); (·rfl); (· exact k70_); (try kernel_rfl); try exact k11_) | fail)
    with_reducible apply At.itNormal .ready
    ·rfl
    ·rfl
    ·intro h; cases h
    apply haft
    intro w1 M1 D1 hA
    dsimp only
    rw [hD]
    repeat' (first | refine Ctl.h ?_ | ((with_reducible intro hif); first | (focus (cases hif; done)) | ((try simp only [JH] at hif); try (exfalso; omega))) | ((with_reducible first | apply J22 ze_ za_ | apply J23 fol ze_ za_ | apply J24); (·rfl); (· exact k70_); (try kernel_rfl); try exact k11_) | fail)
    refine At.nil 4 3 1 (i64S []) rfl (fun h q => i64S_stable q) ?_
    apply At.endsPick [0, 1, 2, 11] za_ (fn := Try.f34) (rs := [.tmp 4, .tmp 5]) hA hro (lb_ rfl) rfl
    ·exact k12_
    ·exact k21_
    ·rfl
    ·rfl
    ·rfl
    ·(repeat' (first | exact trivial | exact .inl rfl | exact .inr (.same _) | exact .inr .loose | exact .inr (.arr (by assumption)) | apply And.intro | exact .inr (.arr fun q hq => absurd hq (Nat.not_lt_zero q))))
    ·rfl
    ·exact k59_
    ·exact k8_
    ·exact fun β => rfl
    ·exact k59_
def sDoomU : Spec := fun args h m => match args with
 | [v1, .agg [v2, v3, v4]] => match srcV h 5 (.tup []) v1 with
  | some (c1, n1, f1, r1) => bif isI .i64 v2 && isI .i64 v3 && isI .i64 v4 then some (c1 ∧ (∀ q, q < n1 → isIns (f1 q) = true) ∧ ((∀ x ∈ (ls zf_ n1 f1), x.ok)) ∧ ((z6_ (ls zf_ n1 f1)).2 = 0) ∧ (limB (iOf v2) (iOf v3) (iOf v4) = true), .tup [.sl m m [] 1 0 (ya_ (ls zf_ n1 f1) (zo_ (ls zf_ n1 f1)) (iOf v2) (iOf v3) (iOf v4) (ls zf_ n1 f1).length).length none, .int .i64 0], r1, [(m, .own 3 (.arr (ya_ (ls zf_ n1 f1) (zo_ (ls zf_ n1 f1)) (iOf v2) (iOf v3) (iOf v4) (ls zf_ n1 f1).length).length 1 (i64S (ya_ (ls zf_ n1 f1) (zo_ (ls zf_ n1 f1)) (iOf v2) (iOf v3) (iOf v4) (ls zf_ n1 f1).length))) false)]) else none
  | _ => none
 | _ => none
theorem sDoomU_ok : zs_ Try.prog 34 sDoomU := by
 refine ⟨zq_ (by kernel_rfl), fun args h m c v rd wr hs hm hc w0 M β h' w R hrd hwr hst => ?_⟩
 unfold sDoomU at hs
 split at hs
 ·rename_i v1 v2 v3 v4
  split at hs
  ·rename_i c1 n1 f1 r1 a1
   obtain ⟨hb, hs⟩ := zm_ hs
   simp only [Option.some.injEq, Prod.mk.injEq] at hs
   obtain ⟨rfl, rfl, rfl, rfl⟩ := hs
   simp only [Bool.and_eq_true] at hb
   obtain ⟨⟨b2, b3⟩, b4⟩ := hb
   obtain ⟨k1, g1, y1, y2, y3⟩ := hc
   obtain ⟨A1, p1, d1, e1, t1⟩ := yk_ R a1 k1 (fun i hi => hrd i hi) (by omega)
   refine callRo (views := [⟨5, (ls zf_ n1 f1).length, prS (ls zf_ n1 f1), A1, p1⟩]) (Doomed_litU (ls zf_ n1 f1) p1 (iOf v2) (iOf v3) (iOf v4) y1 y2 y3) ?_ R hm hwr ?_ ?_ ?_
   ·exact d27_
   ·exact d35_
   ·exact k59_
   ·exact k59_
  ·cases hs
 ·cases hs
end Go.Proofs.Ytmljmabbopkpiaa.Vm
end
section
namespace Go.Proofs.Ytmljmabbopkpiaa.Vm
theorem doom_mem (xs : List Ins) (F : List Ft) (c p l v : Int) : ∀ k, v ∈ ya_ xs F c p l k ↔ ∃ j, j < k ∧ (j : Int) = v ∧ whyK xs F c p l j ≠ 0
 | 0 => by simp [ya_]
 | k + 1 => by
  have ih := doom_mem xs F c p l v k
  show v ∈ ya_ xs F c p l k ++ (if whyE c p l (xs.getD k ⟨0, 0, 0, 0, 0⟩) (zv_ F k) ≠ 0 then [(k : Int)] else []) ↔ _
  rw [List.mem_append, ih]
  constructor
  ·rintro (⟨j, h1, h2⟩ | h)
   ·exact ⟨j, by omega, h2⟩
   ·split at h
    ·rename_i hw
     exact ⟨k, by omega, (List.mem_singleton.1 h).symm, hw⟩
    ·cases h
  ·rintro ⟨j, h1, h2, h3⟩
   by_cases hj : j = k
   ·subst hj
    right
    rw [if_pos (show whyE c p l (xs.getD j ⟨0, 0, 0, 0, 0⟩) (zv_ F j) ≠ 0 from h3)]
    exact List.mem_singleton.2 h2.symm
   ·exact .inl ⟨j, by omega, h2, h3⟩
end Go.Proofs.Ytmljmabbopkpiaa.Vm
end
