import Derived.Test.YtmljmabbopkpiaaU1
import Derived.Test.YtmljmabbopkpiaaU8
import Derived.Test.YtmljmabbopkpiaaU19
import Derived.Test.YtmljmabbopkpiaaU22
import Derived.Test.YtmljmabbopkpiaaU23
set_option linter.unusedSimpArgs false
set_option linter.unusedVariables false
set_option maxRecDepth 100000
set_option maxHeartbeats 4000000
section
namespace Go.Proofs.Ytmljmabbopkpiaa.Vm
open Go.RowKit
attribute [local push_cast] eqB eqBL allB prS sndsS i64S nav_ins nav_ins0 nav_ins1 nav_ins2 nav_ins3 nav_ins4 nav_snd nav_snd0 nav_snd1 nav_snd2 isIns_insS ym_ isSnd_sndS sndOf_sndS isI_int isI_nat iOf nav_k nav_k0 nav_k1 nav_ka nav_kai nav_ft nav_ft0 nav_ft1 isKn_kS knOf_kS isKa_kaS kaOf_kaS isFt_ftS ftOf_ftS setp_ka setp_ftk setp_ftr setp_fti evm_ins evm_snd evm_k evm_ka evm_ft sAwake17 sMd14 sLims sFactsR sDoomU sMdo mdP JD sCont nodupN memN ls_prS ls_prS' ls_prS2 ls_i64S ls_i64S' inN inR
def cL5 : FuncId → Option Spec := look2 [(18, sAwake17), (19, sMd14), (36, sLims), (21, sFactsR), (34, sDoomU), (37, sMdo), (38, sCont)]
theorem cL5_ok : ∀ f S, cL5 f = some S → zs_ Try.prog f S := allOk_spec ⟨sAwake17_ok, sMd14_ok, sLims_ok, sFactsR_ok, sDoomU_ok, sMdo_ok, sCont_ok, trivial⟩
theorem lsI5 (l : List Int) : ls iOf l.length (fun q => .int .i64 (l.getD q 0)) = l := ls_i64S l
structure ZS where
 n : Nat
 k : Nat
 s : MS
structure ZI (p : List Ins) (F : List Ft) (c : Int) (z : ZS) : Prop where
 n : z.n ≤ 150
 k : z.k < p.length
 re : (zv_ F z.k).reached = true
 mt : Mt (zv_ F z.k) z.s.regs
 ok : MOk z.s
 len : (z.s.cells.length : Int) = c
 dr : z.s.drawn ≤ z.n
structure ZC5 where
 j : Nat
 l : List Int
theorem ms_eta (s : MS) : MS.mk (fun q => s.regs q) s.cells s.drawn = s := rfl
theorem less_st {t n : Nat} {ex : Bool} {σ : Nat → Nat} {l : List Int} (hl : l.length = n) {r : Nat} (hr : r < n) (y : Int) : Less (.own t (.arr n 1 fun q => SV.ite (decide (q = r)) (.int .i64 y) (.int .i64 (l.getD q 0))) ex) ((HB.own t (.arr n 1 (i64S (l.set r y))) ex).ren σ) := by
 refine .val (fun β => arrCl fun q hq => ?_) (fun n1 k1 f1 e => by injection e with e1 e2 e3; subst e1 e2; exact ⟨_, rfl⟩) (fun n1 k1 f1 e => by injection e with e1 e2 e3; subst e1 e2; exact ⟨_, rfl⟩)
 show _ = [Value.int .i64 ((l.set r y).getD q 0)]
 rw [ite_eq, show (l.set r y).getD q 0 = if q = r then y else l.getD q 0 from by
  rw [List.getD_eq_getElem?_getD, List.getElem?_set]
  by_cases h : r = q
  ·subst h; simp [hl, hr]
  ·rw [if_neg h, if_neg (fun e => h e.symm), List.getD_eq_getElem?_getD]]
 by_cases h : q = r
 ·rw [decide_eq_true h, if_pos h]; rfl
 ·rw [decide_eq_false h, if_neg h]; rfl
theorem less_rep {t n : Nat} {ex : Bool} : Less (.own t (.arr n 1 fun _ => .nat .i64 0) ex) (.own t (.arr n 1 (i64S (List.replicate n 0))) ex) := by
 refine .val (fun β => arrCl fun q hq => ?_) (fun n1 k1 f1 e => by injection e with e1 e2 e3; subst e1 e2; exact ⟨_, rfl⟩) (fun n1 k1 f1 e => by injection e with e1 e2 e3; subst e1 e2; exact ⟨_, rfl⟩)
 show _ = [Value.int .i64 ((List.replicate n (0 : Int)).getD q 0)]
 rw [List.getD_eq_getElem?_getD, List.getElem?_replicate, if_pos hq]
 rfl
theorem rep_R (n q : Nat) : R64 ((List.replicate n (0 : Int)).getD q 0) := by
 rw [List.getD_eq_getElem?_getD, List.getElem?_replicate]
 split <;> exact zero_R
theorem set_R {l : List Int} {r : Nat} {y : Int} (h : ∀ q, R64 (l.getD q 0)) (hy : R64 y) (q : Nat) : R64 ((l.set r y).getD q 0) := by
 rw [List.getD_eq_getElem?_getD, List.getElem?_set]
 split
 ·split
  ·exact hy
  ·exact zero_R
 ·rw [← List.getD_eq_getElem?_getD]; exact h q
theorem zi_next {p : List Ins} {F : List Ft} {c pp l : Int} {o : List Int} {n k : Nat} {s : MS} (hF : F = zo_ p) (hpok : ∀ x ∈ p, x.ok) (hpr : (z6_ p).2 = 0) (I : ZI p F c ⟨n, k, s⟩) (hn : n < 150) (hgo : mdE pp l s (p.getD k ⟨0, 0, 0, 0, 0⟩) = true) :
  ∃ k' : Nat, mdN s (p.getD k ⟨0, 0, 0, 0, 0⟩) k = k' ∧ ZI p F c ⟨n + 1, k', mdS o s (p.getD k ⟨0, 0, 0, 0, 0⟩)⟩ ∧ whyE c pp l (p.getD k ⟨0, 0, 0, 0, 0⟩) (zv_ F k) = 0 := by
 subst hF
 have hR := right_at hpok hpr I.k
 obtain ⟨h, hm, hMt⟩ := step_sound (o := o) hR I.mt hgo
 obtain ⟨_, m2, m3, _⟩ := hands_mem hR hm
 obtain ⟨c1, c2⟩ := facts_closed hpok hpr I.k I.re hm
 have hd := I.dr
 have m2 : 0 ≤ mdN s (p.getD k ⟨0, 0, 0, 0, 0⟩) k := m2
 have m3 : mdN s (p.getD k ⟨0, 0, 0, 0, 0⟩) k < p.length := m3
 refine ⟨(mdN s (p.getD k ⟨0, 0, 0, 0, 0⟩) k).toNat, by omega, ⟨by show n + 1 ≤ 150; omega, by show (mdN s (p.getD k ⟨0, 0, 0, 0, 0⟩) k).toNat < p.length; omega, c1, fun r hr hi => ?_, mdS_ok I.ok hR.ok (by
  have : s.drawn ≤ n := hd
  omega), ?_, ?_⟩, not_doomed hR I.mt hgo I.len⟩
 ·have := c2 r hr hi
  show (((zv_ (zo_ p) (mdN s (p.getD k ⟨0, 0, 0, 0, 0⟩) k).toNat).regs r).n) = _
  rw [← this]
  exact hMt r hr (by rw [this]; exact hi)
 ·show ((mdS o s _).cells.length : Int) = c
  rw [mdS_len]; exact I.len
 ·show (mdS o s _).drawn ≤ ((n + 1 : Nat) : Int)
  have h1 := mdS_drawn (s := s) (o := o) (x := p.getD k ⟨0, 0, 0, 0, 0⟩)
  have h2 : s.drawn ≤ n := hd
  omega
theorem sound_lit17 (zs : List Ins) (others : List Int) (p1 p2 : Nat) (ev : Nat → Int) (a b d : Int) (hz : ∀ x ∈ zs, x.ok) (hp1 : max zs.length p1 ≤ 9223372036854775807) (hol : others.length ≤ 9223372036854775807) (ho : ∀ q, R64 (others.getD q 0)) (he : ∀ q, R64 (ev q)) (ha : 0 ≤ a ∧ a ≤ 255) (hb : 0 ≤ b ∧ b ≤ 255) (hd : 0 ≤ d ∧ d ≤ 255) :
  LitOk Try.prog 12 [.sl 1 2 [] 5 0 zs.length (some p1), .arr 3 1 (fun q => .int .i64 (ev q)), .sl 3 4 [] 1 0 others.length (some p2), .int .u8 a, .int .u8 b, .int .u8 d] [.gone, .gone, .ro (.arr zs.length 5 (prS zs)), .gone, .ro (.arr others.length 1 (i64S others))] (.bool true) [.gone] := by
 refine z3_ (fn := Try.f12) 5 162 0 rfl rfl rfl rfl rfl (by simp only [zc_, zb_, hp, i64S, prS, insS, sndsS, sndS, mdS_, mdB, mcB, kS, kaS, ftS, ftsS]; simp [HB.born]) rfl fun w0 M E hro => ?_
 obtain ⟨p, hp⟩ : ∃ p, p = made14 zs := ⟨_, rfl⟩
 have hpok := made14_ok zs hz
 have hpr := made14_right zs
 have hpl := made14_le zs
 rw [← hp] at hpok hpr hpl
 obtain ⟨c, hc⟩ : ∃ c : Nat, a % 12 = (c : Int) := ⟨(a % 12).toNat, by omega⟩
 obtain ⟨pp, hpp⟩ : ∃ c, b % 17 = c := ⟨_, rfl⟩
 obtain ⟨l, hl⟩ : ∃ c, 1 + d % 9 = c := ⟨_, rfl⟩
 obtain ⟨F, hF⟩ : ∃ F, F = zo_ p := ⟨_, rfl⟩
 have hb1 : limB c pp l = true := by simp only [limB, Bool.and_eq_true, decide_eq_true_eq]; omega
 obtain ⟨D, hD⟩ : ∃ D, ya_ p F c pp l p.length = D := ⟨_, rfl⟩
 have hDm := fun v => doom_mem p F c pp l v p.length
 have hDl := doom_len p F c pp l p.length
 rw [hD] at hDl
 simp only [hD] at hDm
 have hFI := facts_FI' hpok hpr
 rw [← hF] at hFI
 have hl0 : Less (.own 2 (.arr c 1 fun _ => .nat .i64 0) true) (.own 2 (.arr c 1 (i64S (List.replicate c 0))) true) := less_rep
 repeat' (first | refine Ctl.h ?_ | ((with_reducible intro hif); first | (focus (cases hif; done)) | ((try simp only [JH] at hif); try (exfalso; omega))) | ((with_reducible first | apply J22 cL5_ok za_ | apply J23 fol cL5_ok za_ | apply J24); (·rfl); (· exact k81_); (try kernel_rfl); try exact k80_) | fail)
 refine WF.loopAt (fun (z : ZC5) => z.j ≤ c ∧ z.l.length = c ∧ ∀ q, R64 (z.l.getD q 0)) (fun (z : ZC5) => [(2, .sl 3 4 [] 1 0 others.length (some p2)), (7, .ptr 5 []), (13, .sl 6 6 [] 5 0 p.length none), (14, .ptr 7 []), (15, .sl 8 8 [] 17 0 p.length none), (17, .sl 9 9 [] 1 0 D.length none), (19, .ptr 11 []), (66, .nat .i64 c), (67, .nat .i64 z.j)]) (fun (z : ZC5) => [.gone, .gone, .ro (.arr zs.length 5 (prS zs)), .gone, .ro (.arr others.length 1 (i64S others)), .own 87 (.arr 3 1 fun q => .int .i64 (ev q)) true, .own 28 (.arr p.length 5 (prS p)) false, .own 31 (.agg [.int .i64 c, .int .i64 pp, .int .i64 l]) true, .own 44 (.arr p.length 17 (ftsS F)) false, .own 3 (.arr D.length 1 (i64S D)) false, .own 2 (.arr c 1 (i64S z.l)) true, .own 91 (.agg [.arr 8 1 fun x => .nat .i64 0, .sl 10 10 [] 1 0 c none, .sl 3 4 [] 1 0 others.length (some p2), .nat .i64 0]) true]) (fun (z : ZC5) => c - z.j) ⟨0, List.replicate c 0⟩ ⟨Nat.zero_le _, by simp, rep_R c⟩ ?_ ?_ rfl ?_ ?_ rfl ?_
 ·exact k3_
 ·exact k4_
 ·exact k79_
 ·exact k79_
 rintro ⟨j, L⟩ ⟨hj, hL, hLR⟩
 dsimp only at hj hL hLR
 by_cases hjc : j < c
 case pos =>
  by_cases hno : 0 < others.length
  ·have hmod : j % others.length < others.length := Nat.mod_lt _ hno
   have hyR := ho (j % others.length)
   obtain ⟨y, hy⟩ : ∃ y, others.getD (j % others.length) 0 = y := ⟨_, rfl⟩
   rw [hy] at hyR
   repeat' (first | refine Ctl.h ?_ | ((with_reducible intro hif); first | (focus (cases hif; done)) | ((try simp only [JH] at hif); try (exfalso; omega))) | ((with_reducible first | apply J22 cL5_ok za_ | apply J23 fol cL5_ok za_ | apply J24); (·rfl); (· (simp only [push_cast, ↓JP, Nat.reduceAdd, Nat.reduceEqDiff, Nat.reduceLT, Nat.reduceMul, Nat.reduceLeDiff, reduceCtorEq, reduceIte, ↓JK, ↓JF, cL5, ms_eta, ← hp, ← hF, hc, hpp, hl, hD, lsI5, Int.add_zero, eq_self, Int.toNat_natCast, hjc, hno, hy, i64S]; rfl)); (try kernel_rfl); try exact k80_) | fail)
   refine At.nextPick [0, 1, 2, 3, 4, 5, 6, 7, 8, 9, 10, 11] ⟨j + 1, L.set j y⟩ ?_ rfl rfl rfl ?_ rfl ?_ ?_ ?_ rfl
   ·exact ⟨⟨hjc, by rw [List.length_set]; exact hL, set_R hLR hyR⟩, by show c - (j + 1) < c - j; omega⟩
   ·(repeat' (first | exact trivial | exact .inl rfl | exact .inr (.same _) | exact .inr .loose | exact .inr (.arr (by assumption)) | apply And.intro | (exact .inr (less_st hL hjc y))))
   ·exact k79_
   ·exact k24_
   ·exact k79_
  ·repeat' (first | refine Ctl.h ?_ | ((with_reducible intro hif); first | (focus (cases hif; done)) | ((try simp only [JH] at hif); try (exfalso; omega))) | ((with_reducible first | apply J22 cL5_ok za_ | apply J23 fol cL5_ok za_ | apply J24); (·rfl); (· (simp only [push_cast, ↓JP, Nat.reduceAdd, Nat.reduceEqDiff, Nat.reduceLT, Nat.reduceMul, Nat.reduceLeDiff, reduceCtorEq, reduceIte, ↓JK, ↓JF, cL5, ms_eta, ← hp, ← hF, hc, hpp, hl, hD, lsI5, Int.add_zero, eq_self, Int.toNat_natCast, hjc, hno]; rfl)); (try kernel_rfl); try exact k80_) | fail)
   refine At.next ⟨j + 1, L⟩ ?_ ?_ ?_ rfl ?_ ?_ rfl
   ·exact ⟨⟨hjc, hL, hLR⟩, by show c - (j + 1) < c - j; omega⟩
   ·exact k3_
   ·exact k4_
   ·exact k79_
   ·exact k79_
 obtain rfl : j = c := by omega
 subst hL
 repeat' (first | refine Ctl.h ?_ | ((with_reducible intro hif); first | (focus (cases hif; done)) | ((try simp only [JH] at hif); try (exfalso; omega))) | ((with_reducible first | apply J22 cL5_ok za_ | apply J23 fol cL5_ok za_ | apply J24); (·rfl); (· exact k81_); (try kernel_rfl); try exact k80_) | fail)
 have hLl : L.length ≤ 11 := by omega
 have hl2 : Less (.own 91 (.agg [.arr 8 1 fun q => SV.ite (decide (0 ≤ q) && decide (q < min (3 - 0) (8 - 0))) (.int .i64 (ev (q - 0))) (.nat .i64 0), .sl 10 10 [] 1 0 L.length none, .sl 3 4 [] 1 0 others.length (some p2), .nat .i64 0]) true) (.own 91 (mdS_ ⟨fun q => if q < 3 then ev q else 0, L, 0⟩ others.length p2 10 3 4) true) := by
  refine .val (fun β => ?_) (fun n k f e => by cases e) (fun n k f e => by cases e)
  have h8 : (SV.arr 8 1 fun q => SV.ite (decide (0 ≤ q) && decide (q < min (3 - 0) (8 - 0))) (.int .i64 (ev (q - 0))) (.nat .i64 0)).cl β = (SV.arr 8 1 fun q => .int .i64 (if q < 3 then ev q else 0)).cl β := arrCl fun q hq => by
   rw [ite_eq]
   by_cases h : q < 3
   ·rw [show (decide (0 ≤ q) && decide (q < min (3 - 0) (8 - 0))) = true from by simp [h], if_pos h]; rfl
   ·rw [show (decide (0 ≤ q) && decide (q < min (3 - 0) (8 - 0))) = false from by simp [h], if_neg h]; rfl
  simp only [mdS_, cl_agg, z1_, clL_nil, h8]
  rfl
 have I0 : ZI p F L.length ⟨0, 0, ⟨fun q => if q < 3 then ev q else 0, L, 0⟩⟩ := by
  refine ⟨Nat.zero_le _, by show 0 < p.length; omega, hFI.r0, fun r hr hi => ?_, ⟨fun q => ?_, hLR, by show L.length ≤ 1000; omega, Int.le_refl 0, by show (0 : Int) ≤ 1000000; decide⟩, rfl, Int.le_refl 0⟩
  ·have hi : ((zv_ F 0).regs r).is_ = true := hi
   show ((zv_ F 0).regs r).n = if r < 3 then ev r else 0
   rcases hFI.at0 r with h | ⟨h3, h⟩
   ·rw [h] at hi; cases hi
   ·rw [h, if_neg (by omega)]
  ·show R64 (if q < 3 then ev q else 0)
   split
   ·exact he q
   ·exact zero_R
 refine WF.loopAt (fun (z : ZS) => ZI p F L.length z) (fun (z : ZS) => [(2, .sl 3 4 [] 1 0 others.length (some p2)), (7, .ptr 5 []), (13, .sl 6 6 [] 5 0 p.length none), (14, .ptr 7 []), (15, .sl 8 8 [] 17 0 p.length none), (17, .sl 9 9 [] 1 0 D.length none), (19, .ptr 11 []), (21, .nat .i64 z.k), (93, .nat .i64 z.n)]) (fun (z : ZS) => [.gone, .gone, .ro (.arr zs.length 5 (prS zs)), .gone, .ro (.arr others.length 1 (i64S others)), .own 87 (.arr 3 1 fun q => .int .i64 (ev q)) true, .own 28 (.arr p.length 5 (prS p)) false, .own 31 (.agg [.int .i64 L.length, .int .i64 pp, .int .i64 l]) true, .own 44 (.arr p.length 17 (ftsS F)) false, .own 3 (.arr D.length 1 (i64S D)) false, .own 2 (.arr z.s.cells.length 1 (i64S z.s.cells)) false, .own 91 (mdS_ z.s others.length p2 10 3 4) true]) (fun (z : ZS) => 150 - z.n) ⟨0, 0, ⟨fun q => if q < 3 then ev q else 0, L, 0⟩⟩ I0 ?_ ?_ rfl ?_ ?_ rfl ?_
 ·exact k3_
 ·exact k4_
 ·exact k79_
 ·exact k79_
 rintro ⟨n, k, s⟩ I
 have hkl : k < p.length := I.k
 have hn1 : n ≤ 150 := I.n
 have hre : (zv_ F k).reached = true := I.re
 have hMO : MOk s := I.ok
 have hlen : (L.length : Int) = s.cells.length := I.len.symm
 obtain ⟨x, hX⟩ : ∃ x, p.getD k ⟨0, 0, 0, 0, 0⟩ = x := ⟨_, rfl⟩
 have hR := right_at hpok hpr hkl
 rw [hX] at hR
 have hok := hR.ok
 have ha8 := hR.a
 have hb8 := hR.b
 have hc8 := hR.c
 have hcls := hR.cls
 by_cases hn : n < 150
 case neg =>
  repeat' (first | refine Ctl.h ?_ | ((with_reducible intro hif); first | (focus (cases hif; done)) | ((try simp only [JH] at hif); try (exfalso; omega))) | ((with_reducible first | apply J22 cL5_ok za_ | apply J23 fol cL5_ok za_ | apply J24); (·rfl); (· (simp only [push_cast, ↓JP, Nat.reduceAdd, Nat.reduceEqDiff, Nat.reduceLT, Nat.reduceMul, Nat.reduceLeDiff, reduceCtorEq, reduceIte, ↓JK, ↓JF, cL5, ms_eta, ← hp, ← hF, hc, hpp, hl, hD, lsI5, Int.add_zero, eq_self, Int.toNat_natCast, hn]; rfl)); (try kernel_rfl); try exact k80_) | fail)
  apply At.endsRet za_ (fn := Try.f12) (rs := [.tmp 12]) Anc.refl hro (lb_ rfl) rfl
  ·exact k12_
  ·exact k7_
  ·exact k4_
  ·rfl
  ·exact k79_
  ·exact k8_
  ·exact fun β => rfl
  ·exact k79_
 repeat' (first | refine Ctl.h ?_ | ((with_reducible intro hif); first | (focus (cases hif; done)) | ((try simp only [JH] at hif); try (exfalso; omega))) | ((with_reducible first | apply J22 cL5_ok za_ | apply J23 fol cL5_ok za_ | apply J24); (·rfl); (· (simp only [push_cast, ↓JP, Nat.reduceAdd, Nat.reduceEqDiff, Nat.reduceLT, Nat.reduceMul, Nat.reduceLeDiff, reduceCtorEq, reduceIte, ↓JK, ↓JF, cL5, ms_eta, ← hp, ← hF, hc, hpp, hl, hD, lsI5, Int.add_zero, eq_self, Int.toNat_natCast, ftsS, hn, hre, hkl]; rfl)); (try kernel_rfl); try exact k80_) | fail)
 refine WF.loopAt (fun (r : Nat) => r ≤ 8) (fun (r : Nat) => [(2, .sl 3 4 [] 1 0 others.length (some p2)), (7, .ptr 5 []), (13, .sl 6 6 [] 5 0 p.length none), (14, .ptr 7 []), (15, .sl 8 8 [] 17 0 p.length none), (17, .sl 9 9 [] 1 0 D.length none), (19, .ptr 11 []), (21, .nat .i64 k), (93, .nat .i64 n), (115, kaS (zv_ F k).regs), (116, .nat .i64 r)]) (fun (r : Nat) => [.gone, .gone, .ro (.arr zs.length 5 (prS zs)), .gone, .ro (.arr others.length 1 (i64S others)), .own 87 (.arr 3 1 fun q => .int .i64 (ev q)) true, .own 28 (.arr p.length 5 (prS p)) false, .own 31 (.agg [.int .i64 L.length, .int .i64 pp, .int .i64 l]) true, .own 44 (.arr p.length 17 (ftsS F)) false, .own 3 (.arr D.length 1 (i64S D)) false, .own 2 (.arr s.cells.length 1 (i64S s.cells)) false, .own 91 (mdS_ s others.length p2 10 3 4) true]) (fun (r : Nat) => 8 - r) 0 (Nat.zero_le _) ?_ ?_ rfl ?_ ?_ rfl ?_
 ·exact k3_
 ·exact k4_
 ·exact k79_
 ·exact k79_
 intro r hr
 by_cases hr8 : r < 8
 case pos =>
  by_cases hi : ((zv_ F k).regs r).is_ = true
  ·have hq : ((zv_ F k).regs r).n = s.regs r := I.mt r hr8 hi
   repeat' (first | refine Ctl.h ?_ | ((with_reducible intro hif); first | (focus (cases hif; done)) | ((try simp only [JH] at hif); try (exfalso; omega))) | ((with_reducible first | apply J22 cL5_ok za_ | apply J23 fol cL5_ok za_ | apply J24); (·rfl); (· exact k82_); (try kernel_rfl); try exact k80_) | fail)
   refine At.next (r + 1) ?_ ?_ ?_ rfl ?_ ?_ rfl
   ·exact ⟨hr8, by omega⟩
   ·exact k3_
   ·exact k4_
   ·exact k79_
   ·exact k79_
  ·have hi : ((zv_ F k).regs r).is_ = false := by simpa using hi
   have hq : ((zv_ F k).regs r).n = 0 := hFI.norm k r hi
   repeat' (first | refine Ctl.h ?_ | ((with_reducible intro hif); first | (focus (cases hif; done)) | ((try simp only [JH] at hif); try (exfalso; omega))) | ((with_reducible first | apply J22 cL5_ok za_ | apply J23 fol cL5_ok za_ | apply J24); (·rfl); (· exact k82_); (try kernel_rfl); try exact k80_) | fail)
   refine At.next (r + 1) ?_ ?_ ?_ rfl ?_ ?_ rfl
   ·exact ⟨hr8, by omega⟩
   ·exact k3_
   ·exact k4_
   ·exact k79_
   ·exact k79_
 obtain rfl : r = 8 := by omega
 by_cases hgo : mdE pp l s x = true
 case neg =>
  have hgo : mdE pp l s x = false := by simpa using hgo
  repeat' (first | refine Ctl.h ?_ | ((with_reducible intro hif); first | (focus (cases hif; done)) | ((try simp only [JH] at hif); try (exfalso; omega))) | ((with_reducible first | apply J22 cL5_ok za_ | apply J23 fol cL5_ok za_ | apply J24); (·rfl); (· (simp only [push_cast, ↓JP, Nat.reduceAdd, Nat.reduceEqDiff, Nat.reduceLT, Nat.reduceMul, Nat.reduceLeDiff, reduceCtorEq, reduceIte, ↓JK, ↓JF, cL5, ms_eta, ← hp, ← hF, hc, hpp, hl, hD, lsI5, Int.add_zero, eq_self, Int.toNat_natCast, hX, hkl, hgo]; rfl)); (try kernel_rfl); try exact k80_) | fail)
  apply At.endsRet za_ (fn := Try.f12) (rs := [.tmp 12]) Anc.refl hro (lb_ rfl) rfl
  ·exact k12_
  ·exact k7_
  ·exact k4_
  ·rfl
  ·exact k79_
  ·exact k8_
  ·exact fun β => rfl
  ·exact k79_
 obtain ⟨k', hk', I', hw⟩ := zi_next (o := others) hF hpok hpr I hn (by rw [hX]; exact hgo)
 rw [hX] at hk' I' hw
 have hT : mdT pp l s x (k : Int) = (k' : Int) := by unfold mdT; rw [if_pos hgo]; exact hk'
 have hRR : mdR pp l others s x = mdS others s x := if_pos hgo
 obtain ⟨S', hS'⟩ : ∃ S', mdS others s x = S' := ⟨_, rfl⟩
 rw [hS'] at hRR I'
 have hD0 : ((k : Int) ∈ D) = False := eq_false fun h => by
  obtain ⟨j, h1, h2, h3⟩ := (hDm k).1 h
  obtain rfl : j = k := by omega
  apply h3
  unfold whyK
  rw [hX]
  exact hw
 repeat' (first | refine Ctl.h ?_ | ((with_reducible intro hif); first | (focus (cases hif; done)) | ((try simp only [JH] at hif); try (exfalso; omega))) | ((with_reducible first | apply J22 cL5_ok za_ | apply J23 fol cL5_ok za_ | apply J24); (·rfl); (· (simp only [push_cast, ↓JP, Nat.reduceAdd, Nat.reduceEqDiff, Nat.reduceLT, Nat.reduceMul, Nat.reduceLeDiff, reduceCtorEq, reduceIte, ↓JK, ↓JF, cL5, ms_eta, ← hp, ← hF, hc, hpp, hl, hD, lsI5, Int.add_zero, eq_self, Int.toNat_natCast, hX, hkl, hgo, hT, hRR, hD0]; rfl)); (try kernel_rfl); try exact k80_) | fail)
 refine At.nextPick [0, 1, 2, 3, 4, 5, 6, 7, 8, 9, 10, 11] ⟨n + 1, k', S'⟩ ?_ rfl rfl rfl ?_ rfl ?_ ?_ ?_ rfl
 ·exact ⟨I', by show 150 - (n + 1) < 150 - n; omega⟩
 ·exact k23_
 ·exact k79_
 ·(repeat' (first | exact trivial | exact ⟨_, rfl, fun β => rfl⟩ | apply And.intro | exact ⟨_, rfl, fun β => rfl⟩))
 ·exact k79_
end Go.Proofs.Ytmljmabbopkpiaa.Vm
end
section
namespace Go.Proofs.Ytmljmabbopkpiaa.Vm
open Go.RowKit
end Go.Proofs.Ytmljmabbopkpiaa.Vm
end
