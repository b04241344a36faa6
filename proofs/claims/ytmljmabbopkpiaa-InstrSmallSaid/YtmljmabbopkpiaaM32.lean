import Derived.Test.YtmljmabbopkpiaaM1
import Derived.Test.YtmljmabbopkpiaaM31
set_option linter.unusedSimpArgs false
set_option linter.unusedVariables false
set_option maxRecDepth 100000
set_option maxHeartbeats 4000000
section
namespace Go.Proofs.Ytmljmabbopkpiaa.Vm
open Go.RowKit
attribute [local push_cast] prS zm_ zo_ nav_ins xe_ xd_ xc_ xb_ xa_ nav_snd y9_ y8_ y7_ zu_ z7_ yf_ z5_ ya_ z9_ iOf JE sRt18 sr evS yo_ ym_ nilS zc_ inR inN
theorem lsI_U (P : List Ins) : ls zt_ P.length (fun q => SV.agg [.int .u8 (P.getD q ⟨0, 0, 0, 0, 0⟩).op, .int .u8 (P.getD q ⟨0, 0, 0, 0, 0⟩).a, .int .u8 (P.getD q ⟨0, 0, 0, 0, 0⟩).b, .int .u8 (P.getD q ⟨0, 0, 0, 0, 0⟩).c, .int .i64 (P.getD q ⟨0, 0, 0, 0, 0⟩).n]) = P := ls_prS P
theorem ins_eta' (x : Ins) : Ins.mk x.op x.a x.b x.c x.n = x := rfl
def cRdE : FuncId → Option yp_ := yy_ [(90, sRt18), (107, sROneE)]
theorem cRdE_ok : ∀ f S, cRdE f = some S → zj_ Try.prog f S := zq_ ⟨sRt18_ok, sROneE_ok, trivial⟩
def cRdX : FuncId → Option yp_ := yy_ [(90, sRt18), (107, sROneX)]
theorem cRdX_ok : ∀ f S, cRdX f = some S → zj_ Try.prog f S := zq_ ⟨sRt18_ok, sROneX_ok, trivial⟩
def cRd6 : FuncId → Option yp_ := yy_ [(90, sRt18), (107, sROne6)]
theorem cRd6_ok : ∀ f S, cRd6 f = some S → zj_ Try.prog f S := zq_ ⟨sRt18_ok, sROne6_ok, trivial⟩
def cRd8 : FuncId → Option yp_ := yy_ [(90, sRt18), (107, sROne8)]
theorem cRd8_ok : ∀ f S, cRd8 f = some S → zj_ Try.prog f S := zq_ ⟨sRt18_ok, sROne8_ok, trivial⟩
theorem ook_of {P : List Ins} {v : Evi} {s : Sta} (hok : ∀ x ∈ P, x.ok) (hs : s.sends.length ≤ 1000) (hg : ∀ q, R64 (s.regs q)) (hO : y2_ P v s = 0) : OOk s v (insAt P s.at_) ∧ 0 ≤ s.at_ ∧ s.at_ < P.length := by
 have q := openE_zero hO
 have hP : PG P := ⟨hok, q.1⟩
 have hS := SG.of q.2.2 (by omega : s.sends.length ≤ 1000000)
 have R := hS.ri hP
 have ⟨o0, o1, a0, a1, b0, b1, c0, c1, n0, n1⟩ := R.ok
 exact ⟨⟨R, VOk.of q.2.1, hS.sok hP, hg, n0, n1, hs⟩, hS.a0, hS.a1⟩
theorem goE_zero {P : List Ins} {v : Evi} {s : Sta} (hE : goE P v s = 0) : y2_ P v s = 0 ∧ s.ended = false ∧ doE s v (insAt P s.at_) = 0 := by
 have hO : y2_ P v s = 0 := by
  unfold goE at hE
  split at hE
  ·assumption
  ·exact hE
 have hS : stepE P v s = 0 := by unfold goE at hE; rwa [if_pos hO] at hE
 have he : s.ended = false := by
  cases h : s.ended
  ·rfl
  ·unfold stepE at hS; rw [if_pos h] at hS; cases hS
 exact ⟨hO, he, by rwa [stepE_of he] at hS⟩
theorem rdo_bad (P : List Ins) (v : Evi) (s : Sta) (p1 p2 p3 : Nat) (hok : ∀ x ∈ P, x.ok) (hn : P.length ≤ 1000000) (hc : s.cells.length ≤ 1000000) (hs : s.sends.length ≤ 1000) (hg : ∀ q, R64 (s.regs q)) (hG : goE P v s ≠ 0) : zp_ Try.prog 66 [.sl 1 2 [] 5 0 P.length (some p1), evS v, sr s (.sl 3 4 [] 1 0 s.cells.length (some p2)) (.sl 5 6 [] 3 0 s.sends.length (some p3))] [.gone, .gone, .ro (.arr P.length 5 (prS P)), .gone, .ro (.arr s.cells.length 1 (zo_ s.cells)), .gone, .ro (.arr s.sends.length 3 (zm_ s.sends))] (.tup [ym_, .int .i64 (goE P v s)]) [.gone] := by
 simp only [ym_, nilS, evS, sr]
 by_cases hO : y2_ P v s = 0
 case neg =>
  rw [show goE P v s = y2_ P v s from if_neg hO]
  have hE : True := trivial
  have hK : True := trivial
  refine zf_ (fn := Try.f66) 7 30 0 rfl rfl rfl rfl rfl u18_ rfl fun w0 M E hro => ?_
  repeat' (first | refine Ctl.h ?_ | ((with_reducible intro hif); first | (focus (cases hif; done)) | ((try simp only [JH] at hif); try (exfalso; omega))) | ((with_reducible first | apply J22 cRdE_ok za_ | apply J23 fol cRdE_ok za_ | apply J24); (·rfl); (· (simp only [push_cast, ↓JP, Nat.reduceAdd, Nat.reduceEqDiff, Nat.reduceLT, Nat.reduceMul, Nat.reduceLeDiff, reduceCtorEq, reduceIte, ↓JK, cRdE, sROneE, lsI_U, ins_eta', Int.cast_ofNat_Int, hO]; rfl)); (try kernel_rfl); try exact k104_) | fail)
  apply At.endsRet za_ (fn := Try.f66) (rs := [.cell 6 135, .tmp 7]) Anc.refl hro (lb_ rfl) rfl
  ·exact yq_
  ·exact k4_
  ·exact k5_
  ·rfl
  ·exact k103_
  ·exact k7_
  ·exact fun β => rfl
  ·exact k103_
 obtain ⟨hK, a0, a1⟩ := ook_of hok hs hg hO
 rw [show goE P v s = stepE P v s from if_pos hO] at hG ⊢
 obtain ⟨xi, hxi⟩ : ∃ xi, insAt P s.at_ = xi := ⟨_, rfl⟩
 have hx : P.getD s.at_.toNat ⟨0, 0, 0, 0, 0⟩ = xi := hxi
 rw [hxi] at hK
 obtain ⟨at1, en, rg, ce, dr, se⟩ := s
 dsimp only at hc hs hg a0 a1 hx hxi
 cases en
 ·rw [stepE_of rfl] at hG ⊢
  dsimp only at hG ⊢
  rw [hxi] at hG ⊢
  have hE := hG
  refine zf_ (fn := Try.f66) 7 30 0 rfl rfl rfl rfl rfl u18_ rfl fun w0 M E hro => ?_
  repeat' (first | refine Ctl.h ?_ | ((with_reducible intro hif); first | (focus (cases hif; done)) | ((try simp only [JH] at hif); try (exfalso; omega))) | ((with_reducible first | apply J22 cRdE_ok za_ | apply J23 fol cRdE_ok za_ | apply J24); (·rfl); (· (simp only [push_cast, ↓JP, Nat.reduceAdd, Nat.reduceEqDiff, Nat.reduceLT, Nat.reduceMul, Nat.reduceLeDiff, reduceCtorEq, reduceIte, ↓JK, cRdE, sROneE, lsI_U, ins_eta', Int.cast_ofNat_Int, hx, a0, a1, (eq_true hO), hE]; rfl)); (try kernel_rfl); try exact k104_) | fail)
  apply At.endsRet za_ (fn := Try.f66) (rs := [.cell 6 135, .tmp 7]) Anc.refl hro (lb_ rfl) rfl
  ·exact yq_
  ·exact k4_
  ·exact k5_
  ·rfl
  ·exact k103_
  ·exact k7_
  ·exact fun β => rfl
  ·exact k103_
 ·rw [show stepE P v ⟨at1, true, rg, ce, dr, se⟩ = 183 from rfl]
  have hE : True := trivial
  refine zf_ (fn := Try.f66) 7 30 0 rfl rfl rfl rfl rfl u18_ rfl fun w0 M E hro => ?_
  repeat' (first | refine Ctl.h ?_ | ((with_reducible intro hif); first | (focus (cases hif; done)) | ((try simp only [JH] at hif); try (exfalso; omega))) | ((with_reducible first | apply J22 cRdE_ok za_ | apply J23 fol cRdE_ok za_ | apply J24); (·rfl); (· (simp only [push_cast, ↓JP, Nat.reduceAdd, Nat.reduceEqDiff, Nat.reduceLT, Nat.reduceMul, Nat.reduceLeDiff, reduceCtorEq, reduceIte, ↓JK, cRdE, sROneE, lsI_U, ins_eta', Int.cast_ofNat_Int, hx, a0, a1, (eq_true hO)]; rfl)); (try kernel_rfl); try exact k104_) | fail)
  apply At.endsRet za_ (fn := Try.f66) (rs := [.cell 6 135, .tmp 7]) Anc.refl hro (lb_ rfl) rfl
  ·exact yq_
  ·exact k4_
  ·exact k5_
  ·rfl
  ·exact k103_
  ·exact k7_
  ·exact fun β => rfl
  ·exact k103_
theorem rdo_x (P : List Ins) (v : Evi) (s : Sta) (p1 p2 p3 : Nat) (hok : ∀ x ∈ P, x.ok) (hn : P.length ≤ 1000000) (hc : s.cells.length ≤ 1000000) (hs : s.sends.length ≤ 1000) (hg : ∀ q, R64 (s.regs q)) (hG : goE P v s = 0) (h6 : (insAt P s.at_).op ≠ 6) (h8 : (insAt P s.at_).op ≠ 8) : zp_ Try.prog 66 [.sl 1 2 [] 5 0 P.length (some p1), evS v, sr s (.sl 3 4 [] 1 0 s.cells.length (some p2)) (.sl 5 6 [] 3 0 s.sends.length (some p3))] [.gone, .gone, .ro (.arr P.length 5 (prS P)), .gone, .ro (.arr s.cells.length 1 (zo_ s.cells)), .gone, .ro (.arr s.sends.length 3 (zm_ s.sends))] (.tup [sr (yw_ P v s) (.sl 3 4 [] 1 0 s.cells.length (some p2)) (.sl 5 6 [] 3 0 s.sends.length (some p3)), .int .i64 0]) [.gone, .gone, .gone, .gone, .gone, .gone, .gone] := by
 obtain ⟨hO, he, hE⟩ := goE_zero hG
 obtain ⟨hK, a0, a1⟩ := ook_of hok hs hg hO
 rw [stepS_of he]
 obtain ⟨xi, hxi⟩ : ∃ xi, insAt P s.at_ = xi := ⟨_, rfl⟩
 have hx : P.getD s.at_.toNat ⟨0, 0, 0, 0, 0⟩ = xi := hxi
 rw [hxi] at hK hE h6 h8 ⊢
 obtain ⟨at1, en, rg, ce, dr, se⟩ := s
 dsimp only at he hc hs hg a0 a1 hx
 subst he
 simp only [evS, sr]
 refine zf_ (fn := Try.f66) 7 30 0 rfl rfl rfl rfl rfl u18_ rfl fun w0 M E hro => ?_
 repeat' (first | refine Ctl.h ?_ | ((with_reducible intro hif); first | (focus (cases hif; done)) | ((try simp only [JH] at hif); try (exfalso; omega))) | ((with_reducible first | apply J22 cRdX_ok za_ | apply J23 fol cRdX_ok za_ | apply J24); (·rfl); (· (simp only [push_cast, ↓JP, Nat.reduceAdd, Nat.reduceEqDiff, Nat.reduceLT, Nat.reduceMul, Nat.reduceLeDiff, reduceCtorEq, reduceIte, ↓JK, cRdX, sROneX, lsI_U, ins_eta', Int.cast_ofNat_Int, hx, a0, a1, (eq_true hO), (eq_true hE), h6, h8]; rfl)); (try kernel_rfl); try exact k104_) | fail)
 apply At.endsRet za_ (fn := Try.f66) (rs := [.cell 6 135, .tmp 7]) Anc.refl hro (lb_ rfl) rfl
 ·exact yq_
 ·exact k4_
 ·exact k5_
 ·rfl
 ·exact k103_
 ·exact k7_
 ·exact fun β => rfl
 ·exact k103_
theorem rdo_6 (P : List Ins) (v : Evi) (s : Sta) (p1 p2 p3 : Nat) (hok : ∀ x ∈ P, x.ok) (hn : P.length ≤ 1000000) (hc : s.cells.length ≤ 1000000) (hs : s.sends.length ≤ 1000) (hg : ∀ q, R64 (s.regs q)) (hG : goE P v s = 0) (h6 : (insAt P s.at_).op = 6) : zp_ Try.prog 66 [.sl 1 2 [] 5 0 P.length (some p1), evS v, sr s (.sl 3 4 [] 1 0 s.cells.length (some p2)) (.sl 5 6 [] 3 0 s.sends.length (some p3))] [.gone, .gone, .ro (.arr P.length 5 (prS P)), .gone, .ro (.arr s.cells.length 1 (zo_ s.cells)), .gone, .ro (.arr s.sends.length 3 (zm_ s.sends))] (.tup [sr (yw_ P v s) (.sl 7 7 [] 1 0 s.cells.length none) (.sl 5 6 [] 3 0 s.sends.length (some p3)), .int .i64 0]) [.gone, .gone, .gone, .gone, .gone, .gone, .gone, .own 2 (.arr s.cells.length 1 (zo_ (yw_ P v s).cells)) false] := by
 obtain ⟨hO, he, hE⟩ := goE_zero hG
 obtain ⟨hK, a0, a1⟩ := ook_of hok hs hg hO
 rw [stepS_of he]
 obtain ⟨xi, hxi⟩ : ∃ xi, insAt P s.at_ = xi := ⟨_, rfl⟩
 have hx : P.getD s.at_.toNat ⟨0, 0, 0, 0, 0⟩ = xi := hxi
 rw [hxi] at hK hE h6 ⊢
 obtain ⟨at1, en, rg, ce, dr, se⟩ := s
 dsimp only at he hc hs hg a0 a1 hx
 subst he
 simp only [evS, sr]
 refine zf_ (fn := Try.f66) 7 30 0 rfl rfl rfl rfl rfl u18_ rfl fun w0 M E hro => ?_
 repeat' (first | refine Ctl.h ?_ | ((with_reducible intro hif); first | (focus (cases hif; done)) | ((try simp only [JH] at hif); try (exfalso; omega))) | ((with_reducible first | apply J22 cRd6_ok za_ | apply J23 fol cRd6_ok za_ | apply J24); (·rfl); (· (simp only [push_cast, ↓JP, Nat.reduceAdd, Nat.reduceEqDiff, Nat.reduceLT, Nat.reduceMul, Nat.reduceLeDiff, reduceCtorEq, reduceIte, ↓JK, cRd6, sROne6, lsI_U, ins_eta', Int.cast_ofNat_Int, hx, a0, a1, (eq_true hO), (eq_true hE), (eq_true h6)]; rfl)); (try kernel_rfl); try exact k104_) | fail)
 apply At.endsPick [0, 1, 2, 3, 4, 5, 6, 10] za_ (fn := Try.f66) (rs := [.cell 6 135, .tmp 7]) Anc.refl hro (lb_ rfl) rfl
 ·exact yq_
 ·exact k14_
 ·rfl
 ·rfl
 ·rfl
 ·exact k30_
 ·rfl
 ·exact k103_
 ·exact k7_
 ·exact fun β => rfl
 ·exact k103_
theorem rdo_8 (P : List Ins) (v : Evi) (s : Sta) (p1 p2 p3 : Nat) (hok : ∀ x ∈ P, x.ok) (hn : P.length ≤ 1000000) (hc : s.cells.length ≤ 1000000) (hs : s.sends.length ≤ 1000) (hg : ∀ q, R64 (s.regs q)) (hG : goE P v s = 0) (h8 : (insAt P s.at_).op = 8) : zp_ Try.prog 66 [.sl 1 2 [] 5 0 P.length (some p1), evS v, sr s (.sl 3 4 [] 1 0 s.cells.length (some p2)) (.sl 5 6 [] 3 0 s.sends.length (some p3))] [.gone, .gone, .ro (.arr P.length 5 (prS P)), .gone, .ro (.arr s.cells.length 1 (zo_ s.cells)), .gone, .ro (.arr s.sends.length 3 (zm_ s.sends))] (.tup [sr (yw_ P v s) (.sl 3 4 [] 1 0 s.cells.length (some p2)) (.sl 7 7 [] 3 0 (s.sends.length + 1) none), .int .i64 0]) [.gone, .gone, .gone, .gone, .gone, .gone, .gone, .own 200 (.arr (s.sends.length + 1) 3 (zm_ (yw_ P v s).sends)) false] := by
 obtain ⟨hO, he, hE⟩ := goE_zero hG
 obtain ⟨hK, a0, a1⟩ := ook_of hok hs hg hO
 rw [stepS_of he]
 obtain ⟨xi, hxi⟩ : ∃ xi, insAt P s.at_ = xi := ⟨_, rfl⟩
 have hx : P.getD s.at_.toNat ⟨0, 0, 0, 0, 0⟩ = xi := hxi
 rw [hxi] at hK hE h8 ⊢
 obtain ⟨at1, en, rg, ce, dr, se⟩ := s
 dsimp only at he hc hs hg a0 a1 hx
 subst he
 simp only [evS, sr]
 refine zf_ (fn := Try.f66) 7 30 0 rfl rfl rfl rfl rfl u18_ rfl fun w0 M E hro => ?_
 repeat' (first | refine Ctl.h ?_ | ((with_reducible intro hif); first | (focus (cases hif; done)) | ((try simp only [JH] at hif); try (exfalso; omega))) | ((with_reducible first | apply J22 cRd8_ok za_ | apply J23 fol cRd8_ok za_ | apply J24); (·rfl); (· (simp only [push_cast, ↓JP, Nat.reduceAdd, Nat.reduceEqDiff, Nat.reduceLT, Nat.reduceMul, Nat.reduceLeDiff, reduceCtorEq, reduceIte, ↓JK, cRd8, sROne8, lsI_U, ins_eta', Int.cast_ofNat_Int, hx, a0, a1, (eq_true hO), (eq_true hE), (eq_true h8)]; rfl)); (try kernel_rfl); try exact k104_) | fail)
 apply At.endsPick [0, 1, 2, 3, 4, 5, 6, 10] za_ (fn := Try.f66) (rs := [.cell 6 135, .tmp 7]) Anc.refl hro (lb_ rfl) rfl
 ·exact yq_
 ·exact k14_
 ·rfl
 ·rfl
 ·rfl
 ·exact k30_
 ·rfl
 ·exact k103_
 ·exact k7_
 ·exact fun β => rfl
 ·exact k103_
def sRDoE : yp_ := fun args h m => match args with
 | [v1, .agg [v2, v3, v4, v5, v6], .agg [v7, .bool v8, .arr 8 1 v9, v10, v11, v12]] => match y6_ h 5 (.tup []) v1, y6_ h 1 (.tup []) v10, y6_ h 3 (.tup []) v12 with
  | some (c1, n1, f1, r1), some (c10, n10, f10, r10), some (c12, n12, f12, r12) => bif isI .u64 v2 && isI .i64 v3 && isI .i64 v4 && isI .i64 v5 && isI .i64 v6 && isI .i64 v7 && isI .i64 v11 then some (c1 ∧ c10 ∧ c12 ∧ (∀ q, q < n1 → isIns (f1 q) = true) ∧ (∀ q, q < n10 → isI .i64 (f10 q) = true) ∧ (∀ q, q < n12 → isSnd (f12 q) = true) ∧ (∀ q, q < 8 → isI .i64 (v9 q) = true) ∧ ((∀ x ∈ (ls zt_ n1 f1), x.ok)) ∧ (n1 ≤ 1000000) ∧ (n10 ≤ 1000000) ∧ (n12 ≤ 1000) ∧ ((∀ q, R64 ((fun q => iOf (v9 q)) q))) ∧ (goE (ls zt_ n1 f1) ⟨(iOf v2), (iOf v3), (iOf v4), (iOf v5), (iOf v6)⟩ ⟨(iOf v7), v8, (fun q => iOf (v9 q)), (ls iOf n10 f10), (iOf v11), (ls zn_ n12 f12)⟩ ≠ 0), .tup [ym_, .int .i64 (goE (ls zt_ n1 f1) ⟨(iOf v2), (iOf v3), (iOf v4), (iOf v5), (iOf v6)⟩ ⟨(iOf v7), v8, (fun q => iOf (v9 q)), (ls iOf n10 f10), (iOf v11), (ls zn_ n12 f12)⟩)], r1 ++ r10 ++ r12, []) else none
  | _, _, _ => none
 | _ => none
theorem sRDoE_ok : zj_ Try.prog 66 sRDoE := by
 refine ⟨zi_ (by kernel_rfl), fun args h m c v rd wr hs hm hc w0 M β h' w R hrd hwr hst => ?_⟩
 unfold sRDoE at hs
 split at hs
 ·rename_i v1 v2 v3 v4 v5 v6 v7 v8 v9 v10 v11 v12
  split at hs
  ·rename_i c1 n1 f1 r1 c10 n10 f10 r10 c12 n12 f12 r12 a1 a10 a12
   obtain ⟨hb, hs⟩ := zl_ hs
   simp only [Option.some.injEq, Prod.mk.injEq] at hs
   obtain ⟨rfl, rfl, rfl, rfl⟩ := hs
   simp only [Bool.and_eq_true] at hb
   obtain ⟨⟨⟨⟨⟨⟨b2, b3⟩, b4⟩, b5⟩, b6⟩, b7⟩, b11⟩ := hb
   obtain ⟨k1, k10, k12, g1, g10, g12, g9, y1, y2, y3, y4, y5, y6⟩ := hc
   obtain ⟨A1, p1, d1, e1, t1⟩ := zg_ R a1 k1 (fun i hi => hrd i (List.mem_append_left _ (List.mem_append_left _ hi))) (by omega)
   obtain ⟨A10, p10, d10, e10, t10⟩ := zg_ R a10 k10 (fun i hi => hrd i (List.mem_append_left _ (List.mem_append_right _ hi))) (by omega)
   obtain ⟨A12, p12, d12, e12, t12⟩ := zg_ R a12 k12 (fun i hi => hrd i (List.mem_append_right _ hi)) (by omega)
   refine yl_ (views := [⟨5, (ls zt_ n1 f1).length, prS (ls zt_ n1 f1), A1, p1⟩, ⟨1, (ls iOf n10 f10).length, zo_ (ls iOf n10 f10), A10, p10⟩, ⟨3, (ls zn_ n12 f12).length, zm_ (ls zn_ n12 f12), A12, p12⟩]) (rdo_bad (ls zt_ n1 f1) ⟨(iOf v2), (iOf v3), (iOf v4), (iOf v5), (iOf v6)⟩ ⟨(iOf v7), v8, (fun q => iOf (v9 q)), (ls iOf n10 f10), (iOf v11), (ls zn_ n12 f12)⟩ p1 p10 p12 y1 (by rw [zc_]; exact y2) u15_ u17_ y5 y6) ?_ R hm hwr ?_ ?_ ?_
   ·exact d38_
   ·exact d44_
   ·exact k103_
   ·exact k103_
  ·cases hs
 ·cases hs
def sRDoX : yp_ := fun args h m => match args with
 | [v1, .agg [v2, v3, v4, v5, v6], .agg [v7, .bool v8, .arr 8 1 v9, v10, v11, v12]] => match y6_ h 5 (.tup []) v1, y6_ h 1 (.tup []) v10, y6_ h 3 (.tup []) v12 with
  | some (c1, n1, f1, r1), some (c10, n10, f10, r10), some (c12, n12, f12, r12) => bif isI .u64 v2 && isI .i64 v3 && isI .i64 v4 && isI .i64 v5 && isI .i64 v6 && isI .i64 v7 && isI .i64 v11 then some (c1 ∧ c10 ∧ c12 ∧ (∀ q, q < n1 → isIns (f1 q) = true) ∧ (∀ q, q < n10 → isI .i64 (f10 q) = true) ∧ (∀ q, q < n12 → isSnd (f12 q) = true) ∧ (∀ q, q < 8 → isI .i64 (v9 q) = true) ∧ ((∀ x ∈ (ls zt_ n1 f1), x.ok)) ∧ (n1 ≤ 1000000) ∧ (n10 ≤ 1000000) ∧ (n12 ≤ 1000) ∧ ((∀ q, R64 ((fun q => iOf (v9 q)) q))) ∧ (goE (ls zt_ n1 f1) ⟨(iOf v2), (iOf v3), (iOf v4), (iOf v5), (iOf v6)⟩ ⟨(iOf v7), v8, (fun q => iOf (v9 q)), (ls iOf n10 f10), (iOf v11), (ls zn_ n12 f12)⟩ = 0) ∧ ((insAt (ls zt_ n1 f1) (iOf v7)).op ≠ 6) ∧ ((insAt (ls zt_ n1 f1) (iOf v7)).op ≠ 8), .tup [sr (yw_ (ls zt_ n1 f1) ⟨(iOf v2), (iOf v3), (iOf v4), (iOf v5), (iOf v6)⟩ ⟨(iOf v7), v8, (fun q => iOf (v9 q)), (ls iOf n10 f10), (iOf v11), (ls zn_ n12 f12)⟩) v10 v12, .int .i64 0], r1 ++ r10 ++ r12, []) else none
  | _, _, _ => none
 | _ => none
theorem sRDoX_ok : zj_ Try.prog 66 sRDoX := by
 refine ⟨zi_ (by kernel_rfl), fun args h m c v rd wr hs hm hc w0 M β h' w R hrd hwr hst => ?_⟩
 unfold sRDoX at hs
 split at hs
 ·rename_i v1 v2 v3 v4 v5 v6 v7 v8 v9 v10 v11 v12
  split at hs
  ·rename_i c1 n1 f1 r1 c10 n10 f10 r10 c12 n12 f12 r12 a1 a10 a12
   obtain ⟨hb, hs⟩ := zl_ hs
   simp only [Option.some.injEq, Prod.mk.injEq] at hs
   obtain ⟨rfl, rfl, rfl, rfl⟩ := hs
   simp only [Bool.and_eq_true] at hb
   obtain ⟨⟨⟨⟨⟨⟨b2, b3⟩, b4⟩, b5⟩, b6⟩, b7⟩, b11⟩ := hb
   obtain ⟨k1, k10, k12, g1, g10, g12, g9, y1, y2, y3, y4, y5, y6, y7, y8⟩ := hc
   obtain ⟨A1, p1, d1, e1, t1⟩ := zg_ R a1 k1 (fun i hi => hrd i (List.mem_append_left _ (List.mem_append_left _ hi))) (by omega)
   obtain ⟨A10, p10, d10, e10, t10⟩ := zg_ R a10 k10 (fun i hi => hrd i (List.mem_append_left _ (List.mem_append_right _ hi))) (by omega)
   obtain ⟨A12, p12, d12, e12, t12⟩ := zg_ R a12 k12 (fun i hi => hrd i (List.mem_append_right _ hi)) (by omega)
   have s1 : zb_ h' v1 := by simp only [ze_, zb_] at hst; exact hst.1
   have s10 : zb_ h' v10 := by simp only [ze_, zb_] at hst; exact hst.2.2.1.2.2.2.1
   have s12 : zb_ h' v12 := by simp only [ze_, zb_] at hst; exact hst.2.2.1.2.2.2.2.2.1
   refine callRoV (v' := .nilp) (views := [⟨5, (ls zt_ n1 f1).length, prS (ls zt_ n1 f1), A1, p1⟩, ⟨1, (ls iOf n10 f10).length, zo_ (ls iOf n10 f10), A10, p10⟩, ⟨3, (ls zn_ n12 f12).length, zm_ (ls zn_ n12 f12), A12, p12⟩]) (rdo_x (ls zt_ n1 f1) ⟨(iOf v2), (iOf v3), (iOf v4), (iOf v5), (iOf v6)⟩ ⟨(iOf v7), v8, (fun q => iOf (v9 q)), (ls iOf n10 f10), (iOf v11), (ls zn_ n12 f12)⟩ p1 p10 p12 y1 (by rw [zc_]; exact y2) u15_ u17_ y5 y6 y7 y8) ?_ R hm hwr ?_ ?_ ?_ ?_ ?_
   ·exact d38_
   ·exact d44_
   ·exact k103_
   ·exact k103_
   ·intro h2 hb2 hp2
    exact stable_sr (s10.more hb2) (s12.more hb2)
   ·intro β2 β' hv he hbo
    simp only [Vd, zc_, and_true] at hv
    obtain ⟨z1, z10, z12⟩ := hv
    have u1 := (zb_.den hbo s1).symm.trans d1
    have u10 := (zb_.den hbo s10).symm.trans d10
    have u12 := (zb_.den hbo s12).symm.trans d12
    exact den_sr (by rw [u10]; simp only [zc_]; exact z10) (by rw [u12]; simp only [zc_]; exact z12)
  ·cases hs
 ·cases hs
def sRDo6 : yp_ := fun args h m => match args with
 | [v1, .agg [v2, v3, v4, v5, v6], .agg [v7, .bool v8, .arr 8 1 v9, v10, v11, v12]] => match y6_ h 5 (.tup []) v1, y6_ h 1 (.tup []) v10, y6_ h 3 (.tup []) v12 with
  | some (c1, n1, f1, r1), some (c10, n10, f10, r10), some (c12, n12, f12, r12) => bif isI .u64 v2 && isI .i64 v3 && isI .i64 v4 && isI .i64 v5 && isI .i64 v6 && isI .i64 v7 && isI .i64 v11 then some (c1 ∧ c10 ∧ c12 ∧ (∀ q, q < n1 → isIns (f1 q) = true) ∧ (∀ q, q < n10 → isI .i64 (f10 q) = true) ∧ (∀ q, q < n12 → isSnd (f12 q) = true) ∧ (∀ q, q < 8 → isI .i64 (v9 q) = true) ∧ ((∀ x ∈ (ls zt_ n1 f1), x.ok)) ∧ (n1 ≤ 1000000) ∧ (n10 ≤ 1000000) ∧ (n12 ≤ 1000) ∧ ((∀ q, R64 ((fun q => iOf (v9 q)) q))) ∧ (goE (ls zt_ n1 f1) ⟨(iOf v2), (iOf v3), (iOf v4), (iOf v5), (iOf v6)⟩ ⟨(iOf v7), v8, (fun q => iOf (v9 q)), (ls iOf n10 f10), (iOf v11), (ls zn_ n12 f12)⟩ = 0) ∧ ((insAt (ls zt_ n1 f1) (iOf v7)).op = 6), .tup [sr (yw_ (ls zt_ n1 f1) ⟨(iOf v2), (iOf v3), (iOf v4), (iOf v5), (iOf v6)⟩ ⟨(iOf v7), v8, (fun q => iOf (v9 q)), (ls iOf n10 f10), (iOf v11), (ls zn_ n12 f12)⟩) (.sl m m [] 1 0 (ls iOf n10 f10).length none) v12, .int .i64 0], r1 ++ r10 ++ r12, [(m, .own 2 (.arr (ls iOf n10 f10).length 1 (zo_ (yw_ (ls zt_ n1 f1) ⟨(iOf v2), (iOf v3), (iOf v4), (iOf v5), (iOf v6)⟩ ⟨(iOf v7), v8, (fun q => iOf (v9 q)), (ls iOf n10 f10), (iOf v11), (ls zn_ n12 f12)⟩).cells)) false)]) else none
  | _, _, _ => none
 | _ => none
theorem sRDo6_ok : zj_ Try.prog 66 sRDo6 := by
 refine ⟨zi_ (by kernel_rfl), fun args h m c v rd wr hs hm hc w0 M β h' w R hrd hwr hst => ?_⟩
 unfold sRDo6 at hs
 split at hs
 ·rename_i v1 v2 v3 v4 v5 v6 v7 v8 v9 v10 v11 v12
  split at hs
  ·rename_i c1 n1 f1 r1 c10 n10 f10 r10 c12 n12 f12 r12 a1 a10 a12
   obtain ⟨hb, hs⟩ := zl_ hs
   simp only [Option.some.injEq, Prod.mk.injEq] at hs
   obtain ⟨rfl, rfl, rfl, rfl⟩ := hs
   simp only [Bool.and_eq_true] at hb
   obtain ⟨⟨⟨⟨⟨⟨b2, b3⟩, b4⟩, b5⟩, b6⟩, b7⟩, b11⟩ := hb
   obtain ⟨k1, k10, k12, g1, g10, g12, g9, y1, y2, y3, y4, y5, y6, y7⟩ := hc
   obtain ⟨A1, p1, d1, e1, t1⟩ := zg_ R a1 k1 (fun i hi => hrd i (List.mem_append_left _ (List.mem_append_left _ hi))) (by omega)
   obtain ⟨A10, p10, d10, e10, t10⟩ := zg_ R a10 k10 (fun i hi => hrd i (List.mem_append_left _ (List.mem_append_right _ hi))) (by omega)
   obtain ⟨A12, p12, d12, e12, t12⟩ := zg_ R a12 k12 (fun i hi => hrd i (List.mem_append_right _ hi)) (by omega)
   have s1 : zb_ h' v1 := by simp only [ze_, zb_] at hst; exact hst.1
   have s10 : zb_ h' v10 := by simp only [ze_, zb_] at hst; exact hst.2.2.1.2.2.2.1
   have s12 : zb_ h' v12 := by simp only [ze_, zb_] at hst; exact hst.2.2.1.2.2.2.2.2.1
   refine callRoV (v' := .sl 7 7 [] 1 0 (ls iOf n10 f10).length none) (views := [⟨5, (ls zt_ n1 f1).length, prS (ls zt_ n1 f1), A1, p1⟩, ⟨1, (ls iOf n10 f10).length, zo_ (ls iOf n10 f10), A10, p10⟩, ⟨3, (ls zn_ n12 f12).length, zm_ (ls zn_ n12 f12), A12, p12⟩]) (rdo_6 (ls zt_ n1 f1) ⟨(iOf v2), (iOf v3), (iOf v4), (iOf v5), (iOf v6)⟩ ⟨(iOf v7), v8, (fun q => iOf (v9 q)), (ls iOf n10 f10), (iOf v11), (ls zn_ n12 f12)⟩ p1 p10 p12 y1 (by rw [zc_]; exact y2) u15_ u17_ y5 y6 y7) ?_ R hm hwr ?_ ?_ ?_ ?_ ?_
   ·exact d38_
   ·exact d44_
   ·exact k103_
   ·exact k103_
   ·intro h2 hb2 hp2
    exact stable_sr hp2 (s12.more hb2)
   ·intro β2 β' hv he hbo
    simp only [Vd, zc_, and_true] at hv
    obtain ⟨z1, z10, z12⟩ := hv
    have u1 := (zb_.den hbo s1).symm.trans d1
    have u10 := (zb_.den hbo s10).symm.trans d10
    have u12 := (zb_.den hbo s12).symm.trans d12
    exact den_sr he (by rw [u12]; simp only [zc_]; exact z12)
  ·cases hs
 ·cases hs
def sRDo8 : yp_ := fun args h m => match args with
 | [v1, .agg [v2, v3, v4, v5, v6], .agg [v7, .bool v8, .arr 8 1 v9, v10, v11, v12]] => match y6_ h 5 (.tup []) v1, y6_ h 1 (.tup []) v10, y6_ h 3 (.tup []) v12 with
  | some (c1, n1, f1, r1), some (c10, n10, f10, r10), some (c12, n12, f12, r12) => bif isI .u64 v2 && isI .i64 v3 && isI .i64 v4 && isI .i64 v5 && isI .i64 v6 && isI .i64 v7 && isI .i64 v11 then some (c1 ∧ c10 ∧ c12 ∧ (∀ q, q < n1 → isIns (f1 q) = true) ∧ (∀ q, q < n10 → isI .i64 (f10 q) = true) ∧ (∀ q, q < n12 → isSnd (f12 q) = true) ∧ (∀ q, q < 8 → isI .i64 (v9 q) = true) ∧ ((∀ x ∈ (ls zt_ n1 f1), x.ok)) ∧ (n1 ≤ 1000000) ∧ (n10 ≤ 1000000) ∧ (n12 ≤ 1000) ∧ ((∀ q, R64 ((fun q => iOf (v9 q)) q))) ∧ (goE (ls zt_ n1 f1) ⟨(iOf v2), (iOf v3), (iOf v4), (iOf v5), (iOf v6)⟩ ⟨(iOf v7), v8, (fun q => iOf (v9 q)), (ls iOf n10 f10), (iOf v11), (ls zn_ n12 f12)⟩ = 0) ∧ ((insAt (ls zt_ n1 f1) (iOf v7)).op = 8), .tup [sr (yw_ (ls zt_ n1 f1) ⟨(iOf v2), (iOf v3), (iOf v4), (iOf v5), (iOf v6)⟩ ⟨(iOf v7), v8, (fun q => iOf (v9 q)), (ls iOf n10 f10), (iOf v11), (ls zn_ n12 f12)⟩) v10 (.sl m m [] 3 0 ((ls zn_ n12 f12).length + 1) none), .int .i64 0], r1 ++ r10 ++ r12, [(m, .own 200 (.arr ((ls zn_ n12 f12).length + 1) 3 (zm_ (yw_ (ls zt_ n1 f1) ⟨(iOf v2), (iOf v3), (iOf v4), (iOf v5), (iOf v6)⟩ ⟨(iOf v7), v8, (fun q => iOf (v9 q)), (ls iOf n10 f10), (iOf v11), (ls zn_ n12 f12)⟩).sends)) false)]) else none
  | _, _, _ => none
 | _ => none
theorem sRDo8_ok : zj_ Try.prog 66 sRDo8 := by
 refine ⟨zi_ (by kernel_rfl), fun args h m c v rd wr hs hm hc w0 M β h' w R hrd hwr hst => ?_⟩
 unfold sRDo8 at hs
 split at hs
 ·rename_i v1 v2 v3 v4 v5 v6 v7 v8 v9 v10 v11 v12
  split at hs
  ·rename_i c1 n1 f1 r1 c10 n10 f10 r10 c12 n12 f12 r12 a1 a10 a12
   obtain ⟨hb, hs⟩ := zl_ hs
   simp only [Option.some.injEq, Prod.mk.injEq] at hs
   obtain ⟨rfl, rfl, rfl, rfl⟩ := hs
   simp only [Bool.and_eq_true] at hb
   obtain ⟨⟨⟨⟨⟨⟨b2, b3⟩, b4⟩, b5⟩, b6⟩, b7⟩, b11⟩ := hb
   obtain ⟨k1, k10, k12, g1, g10, g12, g9, y1, y2, y3, y4, y5, y6, y7⟩ := hc
   obtain ⟨A1, p1, d1, e1, t1⟩ := zg_ R a1 k1 (fun i hi => hrd i (List.mem_append_left _ (List.mem_append_left _ hi))) (by omega)
   obtain ⟨A10, p10, d10, e10, t10⟩ := zg_ R a10 k10 (fun i hi => hrd i (List.mem_append_left _ (List.mem_append_right _ hi))) (by omega)
   obtain ⟨A12, p12, d12, e12, t12⟩ := zg_ R a12 k12 (fun i hi => hrd i (List.mem_append_right _ hi)) (by omega)
   have s1 : zb_ h' v1 := by simp only [ze_, zb_] at hst; exact hst.1
   have s10 : zb_ h' v10 := by simp only [ze_, zb_] at hst; exact hst.2.2.1.2.2.2.1
   have s12 : zb_ h' v12 := by simp only [ze_, zb_] at hst; exact hst.2.2.1.2.2.2.2.2.1
   refine callRoV (v' := .sl 7 7 [] 3 0 ((ls zn_ n12 f12).length + 1) none) (views := [⟨5, (ls zt_ n1 f1).length, prS (ls zt_ n1 f1), A1, p1⟩, ⟨1, (ls iOf n10 f10).length, zo_ (ls iOf n10 f10), A10, p10⟩, ⟨3, (ls zn_ n12 f12).length, zm_ (ls zn_ n12 f12), A12, p12⟩]) (rdo_8 (ls zt_ n1 f1) ⟨(iOf v2), (iOf v3), (iOf v4), (iOf v5), (iOf v6)⟩ ⟨(iOf v7), v8, (fun q => iOf (v9 q)), (ls iOf n10 f10), (iOf v11), (ls zn_ n12 f12)⟩ p1 p10 p12 y1 (by rw [zc_]; exact y2) u15_ u17_ y5 y6 y7) ?_ R hm hwr ?_ ?_ ?_ ?_ ?_
   ·exact d38_
   ·exact d44_
   ·exact k103_
   ·exact k103_
   ·intro h2 hb2 hp2
    exact stable_sr (s10.more hb2) hp2
   ·intro β2 β' hv he hbo
    simp only [Vd, zc_, and_true] at hv
    obtain ⟨z1, z10, z12⟩ := hv
    have u1 := (zb_.den hbo s1).symm.trans d1
    have u10 := (zb_.den hbo s10).symm.trans d10
    have u12 := (zb_.den hbo s12).symm.trans d12
    exact den_sr (by rw [u10]; simp only [zc_]; exact z10) he
  ·cases hs
 ·cases hs
end Go.Proofs.Ytmljmabbopkpiaa.Vm
end
