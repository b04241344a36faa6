import Derived.Test.YtmljmabbopkpiaaU1
import Derived.Test.YtmljmabbopkpiaaU17
import Derived.Test.YtmljmabbopkpiaaU19
set_option linter.unusedSimpArgs false
set_option linter.unusedVariables false
set_option maxRecDepth 100000
set_option maxHeartbeats 4000000
section
namespace Go.Proofs.Ytmljmabbopkpiaa.Vm
open Go.RowKit
attribute [local push_cast] eqB eqBL allB prS sndsS i64S nav_ins nav_ins0 nav_ins1 nav_ins2 nav_ins3 nav_ins4 nav_snd nav_snd0 nav_snd1 nav_snd2 isIns_insS ym_ isSnd_sndS sndOf_sndS isI_int isI_nat iOf nav_k nav_k0 nav_k1 nav_ka nav_kai nav_ft nav_ft0 nav_ft1 isKn_kS knOf_kS isKa_kaS kaOf_kaS isFt_ftS ftOf_ftS setp_ka setp_ftk setp_ftr setp_fti evm_ins evm_snd evm_k evm_ka evm_ft
theorem whys_lit (n p : Nat) (a b c : Int) : LitOk Try.prog 83 [.agg [.int .i64 a, .int .i64 b, .int .i64 c], .sl 1 2 [] 5 0 n (some p)] [.gone, .gone, .gone] (.fn 117 [.ptr 4 [], .ptr 3 []]) [.gone, .gone, .gone, .own 31 (.agg [.int .i64 a, .int .i64 b, .int .i64 c]) true, .own 25 (.sl 1 2 [] 5 0 n (some p)) true] := by
 refine z3_ (fn := Try.f83) 3 6 0 rfl rfl rfl rfl rfl u1_ rfl fun w0 M E hro => ?_
 repeat' (first | refine Ctl.h ?_ | ((with_reducible intro hif); first | (focus (cases hif; done)) | ((try simp only [JH] at hif); try (exfalso; omega))) | ((with_reducible first | apply J22 z5_ za_ | apply J23 fol z5_ za_ | apply J24); (·rfl); (· exact k17_); (try kernel_rfl); try exact k9_) | fail)
 apply At.endsRet za_ (fn := Try.f83) (rs := [.tmp 4]) Anc.refl hro (lb_ rfl) rfl
 ·exact k12_
 ·exact k7_
 ·exact k4_
 ·rfl
 ·exact k59_
 ·exact k8_
 ·exact fun β => rfl
 ·exact k59_
def sWhys : Spec := fun args h m => match args with
 | [.agg [.int .i64 a, .int .i64 b, .int .i64 c], .sl z i [] 5 0 n (some p)] => bif (h z).born && (h i).born then some (True, .fn 117 [.ptr (m + 1) [], .ptr m []], [z, i], [(m, .own 31 (.agg [.int .i64 a, .int .i64 b, .int .i64 c]) true), (m + 1, .own 25 (.sl z i [] 5 0 n (some p)) true)]) else none
 | _ => none
theorem sWhys_ok : zs_ Try.prog 83 sWhys := by
 refine ⟨zq_ (by kernel_rfl), fun args h m c v rd wr hs hm hc w0 M β h' w R hrd hwr hst => ?_⟩
 unfold sWhys at hs
 split at hs
 ·rename_i a b c z i n p
  obtain ⟨hb, hs2⟩ := zm_ hs
  clear hs
  simp only [Bool.and_eq_true] at hb
  obtain ⟨hz, hi⟩ := hb
  simp only [Option.some.injEq, Prod.mk.injEq] at hs2
  obtain ⟨rfl, rfl, rfl, rfl⟩ := hs2
  have ei : h' i = h i := hrd i (by simp)
  have ez : h' z = h z := hrd z (by simp)
  have C := callG (L1 := [.gone, .gone, .gone, .own 31 (.agg [.int .i64 a, .int .i64 b, .int .i64 c]) true, .own 25 (.sl 1 2 [] 5 0 n (some p)) true]) (h := h) (m := m) [0, z, i] (whys_lit n p a b c) R rfl (by simp) rfl rfl rfl
   ⟨.gone (by rw [R.nil0]; rfl), .gone (by rw [ez]; exact hz), .gone (by rw [ei]; exact hi), trivial⟩ hm (by simpa [newB, rhoL, HB.ren, SV.ren, renL] using hwr) (by simp)
   (by simp [yb_, HB.stable]) (by simp [zc_, zb_, hp, HB.born]) (by simp [NewL, HB.stable, zb_, zc_, HB.isRo, hG, hp, HB.born]) (by simp [zb_, zc_, hG, hp, HB.born])
  have e0 : renL (rhoL [0, z, i] m) [SV.agg [.int .i64 a, .int .i64 b, .int .i64 c], .sl 1 2 [] 5 0 n (some p)] = [.agg [.int .i64 a, .int .i64 b, .int .i64 c], .sl z i [] 5 0 n (some p)] := by simp [renL, SV.ren, rhoL]
  rw [e0] at C
  refine C.mono fun e w' he => ?_
  simpa [newB, rhoL, HB.ren, SV.ren, renL] using he
 ·cases hs
def cWys : FuncId → Option Spec := look2 [(56, sFactsI), (57, sFits), (58, sWhyL), (83, sWhys)]
theorem ze_ : ∀ f S, cWys f = some S → zs_ Try.prog f S := allOk_spec ⟨sFactsI_ok, sFits_ok, sWhyL_ok, sWhys_ok, trivial⟩
def ya_ (xs : List Ins) (F : List Ft) (c p l : Int) : Nat → List Int
 | 0 => []
 | k + 1 => ya_ xs F c p l k ++ (if whyE c p l (xs.getD k ⟨0, 0, 0, 0, 0⟩) (zv_ F k) ≠ 0 then [(k : Int)] else [])
theorem doom_len (xs : List Ins) (F : List Ft) (c p l : Int) : ∀ k, (ya_ xs F c p l k).length ≤ k
 | 0 => by simp [ya_]
 | k + 1 => by
  have := doom_len xs F c p l k
  unfold ya_
  split <;> simp <;> omega
theorem Doomed_lit (xs : List Ins) (p1 : Nat) (c p l : Int) (hx : ∀ x ∈ xs, x.ok) (hc : (z6_ xs).2 = 0) (hl : limB c p l = true) : LitOk Try.prog 34 [.sl 1 2 [] 5 0 xs.length (some p1), .agg [.int .i64 c, .int .i64 p, .int .i64 l]] [.gone, .gone, .ro (.arr xs.length 5 (prS xs))]
  (.tup [nilOr (ya_ xs (zo_ xs) c p l xs.length) 3, .int .i64 0]) [.gone, .gone, .gone, .own 3 (.arr (ya_ xs (zo_ xs) c p l xs.length).length 1 (i64S (ya_ xs (zo_ xs) c p l xs.length))) false] := by
 refine z3_ (fn := Try.f34) 3 25 0 rfl rfl rfl rfl rfl u1_ rfl fun w0 M E hro => ?_
 have hl6 : xs.length ≤ 256 := (right_last' hc).2.1
 have hfit : fitE xs c p l = 0 := by unfold fitE; rw [if_pos hc, if_pos hl]
 obtain ⟨F, hF⟩ : ∃ F, F = zo_ xs := ⟨_, rfl⟩
 rw [← hF]
 repeat' (first | refine Ctl.h ?_ | ((with_reducible intro hif); first | (focus (cases hif; done)) | ((try simp only [JH] at hif); try (exfalso; omega))) | ((with_reducible first | apply J22 ze_ za_ | apply J23 fol ze_ za_ | apply J24); (·rfl); (· exact k65_); (try kernel_rfl); try exact k64_) | fail)
 with_reducible apply WF.range (fn' := Try.f117) 32
 ·exact k20_
 ·exact k21_
 ·rfl
 ·rfl
 ·rfl
 ·rfl
 ·rfl
 ·rfl
 ·rfl
 intro E1 rec tmps after hE1 hrec hcf haft
 repeat' (first | refine Ctl.h ?_ | ((with_reducible intro hif); first | (focus (cases hif; done)) | ((try simp only [JH] at hif); try (exfalso; omega))) | ((with_reducible first | apply J22 ze_ za_ | apply J23 fol ze_ za_ | apply J24); (·rfl); (· exact k66_); (try kernel_rfl); try exact k9_) | fail)
 refine WF.empty 3 1 (i64S []) (fun _ q => i64S_stable q) ?_
 refine WF.loopAt (fun k => k ≤ xs.length) (fun k => [(0, .yl 8), (1, .ptr 6 []), (2, .ptr 5 []), (8, .sl 9 9 [] 17 0 xs.length none), (9, .nat .i64 xs.length), (10, .nat .i64 k)]) (fun k => [.gone, .gone, .ro (.arr xs.length 5 (prS xs)), .gone, .own 79 (nilOr (ya_ xs F c p l k) 10) true, .own 31 (.agg [.int .i64 c, .int .i64 p, .int .i64 l]) true, .own 25 (.sl 1 2 [] 5 0 xs.length (some p1)) true, .raw (.deferred (some [])), .raw (.loop (rec .ready none)), .own 44 (.arr xs.length 17 (ftsS F)) false, .own 3 (.arr (ya_ xs F c p l k).length 1 (i64S (ya_ xs F c p l k))) false]) (fun k => xs.length - k) 0 (Nat.zero_le _) ?_ ?_ rfl ?_ ?_ rfl ?_
 ·exact k3_
 ·exact k4_
 ·exact k59_
 ·exact k59_
 ·intro k hk
  obtain ⟨Dk, hD⟩ : ∃ Dk, ya_ xs F c p l k = Dk := ⟨_, rfl⟩
  rw [hD]
  have hDl : Dk.length ≤ 256 := by have := doom_len xs F c p l k; rw [hD] at this; omega
  by_cases hkl : k < xs.length
  ·exact d29_
  ·obtain rfl : k = xs.length := by omega
   cases hDe : Dk.isEmpty
   ·rw [nilOr_f hDe]
    repeat' (first | refine Ctl.h ?_ | ((with_reducible intro hif); first | (focus (cases hif; done)) | ((try simp only [JH] at hif); try (exfalso; omega))) | ((with_reducible first | apply J22 ze_ za_ | apply J23 fol ze_ za_ | apply J24); (·rfl); (· exact k70_); (try kernel_rfl); try exact k11_) | fail)
    with_reducible apply At.itNormal .ready
    ·rfl
    ·rfl
    ·intro h; cases h
    apply haft
    intro w1 M1 D1 hA
    dsimp only
    rw [hD, nilOr_f hDe]
    repeat' (first | refine Ctl.h ?_ | ((with_reducible intro hif); first | (focus (cases hif; done)) | ((try simp only [JH] at hif); try (exfalso; omega))) | ((with_reducible first | apply J22 ze_ za_ | apply J23 fol ze_ za_ | apply J24); (·rfl); (· exact k70_); (try kernel_rfl); try exact k11_) | fail)
    apply At.endsPick [0, 1, 2, 10] za_ (fn := Try.f34) (rs := [.tmp 4, .tmp 5]) hA hro (lb_ rfl) rfl
    ·exact k12_
    ·exact k21_
    ·rfl
    ·rfl
    ·rfl
    ·exact k23_
    ·rfl
    ·exact k59_
    ·exact k8_
    ·exact fun β => rfl
    ·exact k59_
   ·rw [nilOr_t hDe]
    repeat' (first | refine Ctl.h ?_ | ((with_reducible intro hif); first | (focus (cases hif; done)) | ((try simp only [JH] at hif); try (exfalso; omega))) | ((with_reducible first | apply J22 ze_ za_ | apply J23 fol ze_ za_ | apply J24); (·rfl); (· exact k70_); (try kernel_rfl); try exact k11_) | fail)
    with_reducible apply At.itNormal .ready
    ·rfl
    ·rfl
    ·intro h; cases h
    apply haft
    intro w1 M1 D1 hA
    dsimp only
    rw [hD, nilOr_t hDe]
    repeat' (first | refine Ctl.h ?_ | ((with_reducible intro hif); first | (focus (cases hif; done)) | ((try simp only [JH] at hif); try (exfalso; omega))) | ((with_reducible first | apply J22 ze_ za_ | apply J23 fol ze_ za_ | apply J24); (·rfl); (· exact k70_); (try kernel_rfl); try exact k11_) | fail)
    apply At.endsPick [0, 1, 2, 10] za_ (fn := Try.f34) (rs := [.tmp 4, .tmp 5]) hA hro (lb_ rfl) rfl
    ·exact k12_
    ·exact k21_
    ·rfl
    ·rfl
    ·rfl
    ·exact k23_
    ·rfl
    ·exact k59_
    ·exact k8_
    ·exact fun β => rfl
    ·exact k59_
end Go.Proofs.Ytmljmabbopkpiaa.Vm
end
