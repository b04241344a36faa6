import Derived.Test.YtmljmabbopkpiaaU1
import Derived.Test.YtmljmabbopkpiaaU7
import Derived.Test.YtmljmabbopkpiaaU9
import Derived.Test.YtmljmabbopkpiaaU11
import Derived.Test.YtmljmabbopkpiaaProg
set_option linter.unusedSimpArgs false
set_option linter.unusedVariables false
set_option maxRecDepth 100000
set_option maxHeartbeats 4000000
section
namespace Go.Proofs.Ytmljmabbopkpiaa
open Go.RowKit
def badAt (n : Int) (i : Ins) : Int := if oneE i ≠ 0 then oneE i else if targB i = true ∧ n ≤ targV i then 142 else 0
def checkK (p : List Ins) : Int × Int :=
 match p.findIdx? (fun i => badAt p.length i != 0) with
 | some k => (k, badAt p.length (p.getD k ⟨0, 0, 0, 0, 0⟩))
 | none => if goesB (p.getD (p.length - 1) ⟨0, 0, 0, 0, 0⟩) then ((p.length : Int) - 1, 143) else (-1, 0)
def z6_ (p : List Ins) : Int × Int := if p.length = 0 then (-1, 6) else if 256 < p.length then (-1, 5) else checkK p
theorem checkK_bad {p : List Ins} {j : Nat} {x : Ins} {v : Int} (h : ∀ i, i < j → ∀ y, p[i]? = some y → badAt p.length y = 0) (hx : p[j]? = some x) (hv : badAt p.length x = v) (hn : v ≠ 0) : checkK p = ((j : Int), v) := by
 have hj : j < p.length := (List.getElem?_eq_some_iff.1 hx).1
 have hf : p.findIdx? (fun i => badAt p.length i != 0) = some j := by
  rw [List.findIdx?_eq_some_iff_getElem]
  refine ⟨hj, ?_, fun i hi => ?_⟩
  ·have : p[j] = x := (List.getElem?_eq_some_iff.1 hx).2
   rw [this, hv]; simpa using hn
  ·simp [h i hi _ (List.getElem?_eq_getElem (by omega))]
 unfold checkK
 rw [hf]
 simp [List.getD, hx, hv]
theorem checkK_none {p : List Ins} (h : ∀ i, i < p.length → ∀ y, p[i]? = some y → badAt p.length y = 0) : checkK p = if goesB (p.getD (p.length - 1) ⟨0, 0, 0, 0, 0⟩) then ((p.length : Int) - 1, 143) else (-1, 0) := by
 have hf : p.findIdx? (fun i => badAt p.length i != 0) = none := by
  rw [List.findIdx?_eq_none_iff]
  intro x hx
  obtain ⟨i, hi, rfl⟩ := List.getElem_of_mem hx
  simp [h i hi _ (List.getElem?_eq_getElem hi)]
 unfold checkK
 rw [hf]
set_option maxRecDepth 100000 in
set_option maxHeartbeats 2000000 in
theorem check_mid (A : Option Addr) (n c : Nat) (p : List Ins) (hok : ∀ i ∈ p, i.ok) (w : World) (h : z8_ w w.heap.size 5 A n (insV p)) (h0 : ((n : Int) == 0) = false) (h0' : 0 < n) (h1 : n ≤ 256) :
  Calls Try.prog 55 #[.slice A n c] w fun e w' => e = .returned (.tuple #[.int .i64 (checkK p).1, .int .i64 (checkK p).2]) ∧ Below w.heap.size w w' := by
 have hpl := h.ins_len
 have HL := Lib.hid hpl
 clear hpl
 go_enter Try.func55, Try.ntmps55
 go_wp2
 go_loopw [4, 5, 6, 7, 8, 20] (fun _ _ _ _ _ k wr => ∃ j : Nat, k = .int .i64 j ∧ j ≤ n ∧ (∀ i, i < j → ∀ y, p[i]? = some y → badAt n y = 0) ∧ Below w.heap.size w wr) (fun _ _ _ _ _ k _ => n - (intOf k).toNat)
 case atStart => exact ⟨0, rfl, by omega, fun i hi => by omega, Below.refl _ _⟩
 case round =>
  obtain ⟨j, rfl, hj, hbad, hb⟩ := hrel
  have HBad := Lib.hid hbad
  clear hbad
  by_cases hlt : j < n
  ·obtain ⟨b, o, x, rfl, hl1, hx, hc0, hc1, hc2, hc3, hc4⟩ := (h.below hb).ins_at hlt
   have hxok := hok x (List.mem_of_getElem? hx)
   obtain ⟨op, a, b', c', m⟩ := x
   have HX := Lib.hid hx
   have HO := Lib.hid hxok
   have HB := Lib.hid hb
   have hz := hb.size
   clear hb hx h hxok hok
   dsimp only at hc0 hc1 hc2 hc3 hc4
   obtain ⟨I, hI⟩ : ∃ I : Ins, I = ⟨op, a, b', c', m⟩ := ⟨_, rfl⟩
   rw [← hI] at HO HX
   have HI := Lib.hid hI
   clear hI
   have h1 : ∀ w, Calls Try.prog 97 #[.agg #[.int .u8 op, .int .u8 a, .int .u8 b', .int .u8 c', .int .i64 m]] w fun e w' => e = .returned (.int .i64 (oneE I)) ∧ Below w.heap.size w w' := fun w => by
    have := one_c I HO.out w; rw [HI.out] at this ⊢; exact this
   have h2 : ∀ w, Calls Try.prog 98 #[.agg #[.int .u8 op, .int .u8 a, .int .u8 b', .int .u8 c', .int .i64 m]] w fun e w' => e = .returned (.tuple #[.int .i64 (targV I), .bool (targB I)]) ∧ Below w.heap.size w w' := fun w => by
    have := target_c I HO.out w; rw [HI.out] at this ⊢; exact this
   have hbadE : badAt n I = if oneE I ≠ 0 then oneE I else if targB I = true ∧ (n : Int) ≤ targV I then 142 else 0 := rfl
   obtain ⟨V, hV⟩ : ∃ V, V = targV I := ⟨_, rfl⟩
   obtain ⟨T, hT⟩ : ∃ T, T = targB I := ⟨_, rfl⟩
   obtain ⟨E, hE⟩ : ∃ E, E = oneE I := ⟨_, rfl⟩
   rw [← hE] at h1 hbadE
   rw [← hV, ← hT] at h2 hbadE
   have H1 := Lib.hid h1
   have H2 := Lib.hid h2
   have HE := Lib.hid hbadE
   clear h1 h2 hbadE hV hT hE
   go_wp2_with fail
   refine (H1.out _).mono ?_
   rintro e w2 ⟨rfl, hb2⟩
   have hz2 := hb2.size
   simp at hz2
   have q : ∀ k u, #[Value.int .u8 op, .int .u8 a, .int .u8 b', .int .u8 c', .int .i64 m][k]? = some u → w2.cell? ⟨wr.heap.size, k, none⟩ = some u := fun k u hu => by
    rw [hb2.cell (p := ⟨wr.heap.size, k, none⟩) (by simp), cell_of_row _ _ _ _ _ _ (heap_alloc_new wr _)]; exact hu
   have q0 := q 0 _ rfl
   have q1 := q 1 _ rfl
   have q2 := q 2 _ rfl
   have q3 := q 3 _ rfl
   have q4 := q 4 _ rfl
   have HB2 := Lib.hid ((HB.out.alloc hz _).trans (hb2.mono (by simp; omega)))
   clear q hb2
   by_cases hE0 : E = 0
   ·subst hE0
    go_wp2_with fail
    refine (H2.out _).mono ?_
    rintro e w3 ⟨rfl, hb3⟩
    have hz3 := hb3.size
    have HB3 := Lib.hid (HB2.out.trans (hb3.mono (by omega)))
    clear hb3
    by_cases hbad : T = true ∧ (n : Int) ≤ V
    ·obtain ⟨rfl, hnV⟩ := hbad
     go_wp2
     go_ret2
     refine ⟨?_, HB3.out⟩
     have hv : badAt p.length I = 142 := by rw [HL.out, HE.out]; simp [hnV]
     rw [checkK_bad (by rw [HL.out]; exact HBad.out) HX.out hv (by decide)]
     rfl
    ·cases T with
     | false =>
      go_wp2
      go_roundw
      case rel => 
       refine ⟨j + 1, by go_num, by omega, fun i hi y hy => ?_, HB3.out⟩
       by_cases hij : i < j
       ·exact HBad.out i hij y hy
       ·obtain rfl : i = j := by omega
        rw [HX.out] at hy
        obtain rfl : I = y := by cases hy; rfl
        rw [HE.out]; simp
      case measure => simp [intOf]; omega
     | true =>
      have hV : V < (n : Int) := by simp at hbad; omega
      clear hbad
      go_wp2
      go_roundw
      case rel => 
       refine ⟨j + 1, by go_num, by omega, fun i hi y hy => ?_, HB3.out⟩
       by_cases hij : i < j
       ·exact HBad.out i hij y hy
       ·obtain rfl : i = j := by omega
        rw [HX.out] at hy
        obtain rfl : I = y := by cases hy; rfl
        rw [HE.out]; simp; omega
      case measure => simp [intOf]; omega
   ·have hE1 : (E != 0) = true := by rw [bne_iff_ne]; exact hE0
    have HE0 := Lib.hid hE0
    clear hE0
    go_wp2
    go_ret2
    refine ⟨?_, HB2.out⟩
    have hv : badAt p.length I = E := by rw [HL.out, HE.out, if_pos HE0.out]
    rw [checkK_bad (by rw [HL.out]; exact HBad.out) HX.out hv HE0.out]
    rfl
  ·obtain rfl : j = n := by omega
   have hk := checkK_none (p := p) (by rw [HL.out]; exact HBad.out)
   obtain ⟨b, o, x, rfl, hl1, hx, hc0, hc1, hc2, hc3, hc4⟩ := (h.below hb).ins_at (k := j - 1) (by omega)
   have hxok := hok x (List.mem_of_getElem? hx)
   have hg : p.getD (p.length - 1) ⟨0, 0, 0, 0, 0⟩ = x := by rw [HL.out]; simp [List.getD, hx]
   rw [hg, HL.out] at hk
   have hi : (((j : Int) - 1).toNat) = j - 1 := by omega
   have hs1 : (0 : Int) ≤ (j : Int) - 1 := by omega
   have hg1 := fun w => goes_c x hxok w
   obtain ⟨G, hG⟩ : ∃ G, G = goesB x := ⟨_, rfl⟩
   rw [← hG] at hk hg1
   have HK := Lib.hid hk
   have HB := Lib.hid hb
   have HG := Lib.hid hg1
   obtain ⟨op, a, b', c', m⟩ := x
   dsimp only at hc0 hc1 hc2 hc3 hc4
   clear hk hb h hok hx hxok hg hG hg1 hi
   go_wp2_with fail
   refine (HG.out _).mono ?_
   rintro e w2 ⟨rfl, hb2⟩
   have HB2 := Lib.hid (HB.out.trans (hb2.mono HB.out.size))
   clear hb2
   cases G with
   | false =>
    go_wp2
    go_ret2
    refine ⟨?_, HB2.out⟩
    rw [HK.out]
    rfl
   | true =>
    go_wp2
    go_ret2
    refine ⟨?_, HB2.out⟩
    rw [HK.out]
    rfl
set_option maxRecDepth 100000 in
set_option maxHeartbeats 2000000 in
theorem check_c (A : Option Addr) (n c : Nat) (hn : n < 2^62) (p : List Ins) (hok : ∀ i ∈ p, i.ok) (w : World) (h : z8_ w w.heap.size 5 A n (insV p)) :
  Calls Try.prog 55 #[.slice A n c] w fun e w' => e = .returned (.tuple #[.int .i64 (z6_ p).1, .int .i64 (z6_ p).2]) ∧ Below w.heap.size w w' := by
 have hpl := h.ins_len
 unfold z6_
 rw [hpl]
 by_cases h0 : n = 0
 ·subst h0
  go_enter Try.func55, Try.ntmps55
  go_wp2
  go_ret2
  exact ⟨rfl, Below.refl _ _⟩
 ·rw [if_neg h0]
  by_cases h1 : 256 < n
  ·rw [if_pos h1]
   have h0' : ((n : Int) == 0) = false := by simp; exact h0
   have h1' : (256 : Int) < n := by omega
   clear h h0 hok hpl
   go_enter Try.func55, Try.ntmps55
   go_wp2
   go_ret2
   exact ⟨rfl, Below.refl _ _⟩
  ·rw [if_neg h1]
   exact check_mid A n c p hok w h (by simp; exact h0) (by omega) (by omega)
end Go.Proofs.Ytmljmabbopkpiaa
end
section
namespace Go.Proofs.Ytmljmabbopkpiaa.Vm
open Go.RowKit
attribute [local push_cast] eqB eqBL allB
def sCheck : Spec := fun args h m => match args with
 | [v1] => match srcV h 5 (.tup []) v1 with
  | some (c1, n1, f1, r1) => some (c1 ∧ (∀ q, q < n1 → isIns (f1 q) = true) ∧ ((∀ x ∈ (ls zf_ n1 f1), x.ok)) ∧ (n1 ≤ 281474976710656), .tup [.int .i64 (z6_ (ls zf_ n1 f1)).1, .int .i64 (z6_ (ls zf_ n1 f1)).2], r1, [])
  | _ => none
 | _ => none
theorem sCheck_ok : zs_ Try.prog 55 sCheck := by
 refine ⟨zq_ (by kernel_rfl), fun args h m c v rd wr hs hm hc w0 M β h' w R hrd hwr hst => ?_⟩
 unfold sCheck at hs
 split at hs
 ·rename_i v1
  split at hs
  ·rename_i c1 n1 f1 r1 a1
   simp only [Option.some.injEq, Prod.mk.injEq] at hs
   obtain ⟨rfl, rfl, rfl, rfl⟩ := hs
   obtain ⟨k1, g1, y1, y2⟩ := hc
   obtain ⟨A1, p1, d1, e1, t1⟩ := yk_ R a1 k1 (fun i hi => hrd i hi) (by omega)
   rw [elems_ins g1] at t1
   simp only [denL, aggDen, intDen, natDen, yl_, d1]
   exact (check_c A1 n1 p1 (by omega) (ls zf_ n1 f1) y1 w t1).mono fun e w' he => post_read R u2_ rfl he.1 he.2
  ·cases hs
 ·cases hs
def sGoes : Spec := fun args h m => match args with
 | [v1] => bif isIns v1 then some (((zf_ v1).ok), .bool (goesB (zf_ v1)), [], []) else none
 | _ => none
theorem sGoes_ok : zs_ Try.prog 99 sGoes := by
 refine ⟨zq_ (by kernel_rfl), fun args h m c v rd wr hs hm hc w0 M β h' w R hrd hwr hst => ?_⟩
 unfold sGoes at hs
 split at hs
 ·rename_i v1
  obtain ⟨hb, hs⟩ := zm_ hs
  simp only [Option.some.injEq, Prod.mk.injEq] at hs
  obtain ⟨rfl, rfl, rfl, rfl⟩ := hs
  have b1 := hb
  have y1 := hc
  simp only [denL, aggDen, intDen, natDen, yl_, den_insOf b1]
  exact (goes_c (zf_ v1) y1 w).mono fun e w' he => post_read R u2_ rfl he.1 he.2
 ·cases hs
def yc_ : Spec := fun args h m => match args with
 | [v1] => bif isIns v1 then some (((zf_ v1).ok), .tup [.int .i64 (targV (zf_ v1)), .bool (targB (zf_ v1))], [], []) else none
 | _ => none
theorem sTarget_ok : zs_ Try.prog 98 yc_ := by
 refine ⟨zq_ (by kernel_rfl), fun args h m c v rd wr hs hm hc w0 M β h' w R hrd hwr hst => ?_⟩
 unfold yc_ at hs
 split at hs
 ·rename_i v1
  obtain ⟨hb, hs⟩ := zm_ hs
  simp only [Option.some.injEq, Prod.mk.injEq] at hs
  obtain ⟨rfl, rfl, rfl, rfl⟩ := hs
  have b1 := hb
  have y1 := hc
  simp only [denL, aggDen, intDen, natDen, yl_, den_insOf b1]
  exact (target_c (zf_ v1) y1 w).mono fun e w' he => post_read R u2_ rfl he.1 he.2
 ·cases hs
end Go.Proofs.Ytmljmabbopkpiaa.Vm
end
section
open Go.Proofs.Ytmljmabbopkpiaa.Vm Go.RowKit
attribute [local push_cast] eqB eqBL allB prS sndsS i64S nav_ins nav_ins0 nav_ins1 nav_ins2 nav_ins3 nav_ins4 nav_snd nav_snd0 nav_snd1 nav_snd2 isIns_insS ym_ isSnd_sndS sndOf_sndS isI_int isI_nat iOf nav_k nav_k0 nav_k1 nav_ka nav_kai nav_ft nav_ft0 nav_ft1 isKn_kS knOf_kS isKa_kaS kaOf_kaS isFt_ftS ftOf_ftS setp_ka setp_ftk setp_ftr setp_fti evm_ins evm_snd evm_k evm_ka evm_ft
section
namespace Go.Proofs.Ytmljmabbopkpiaa.Vm
open Go.RowKit
def noCk : FuncId → Option Spec := look2 []
theorem z5_ : ∀ f S, noCk f = some S → zs_ Try.prog f S := fun f S h => by cases h
theorem div_lit (i : Ins) : LitOk Try.prog 103 [insS i] [.gone] (.bool (divB i.op)) [.gone] := by
 refine z3_ (fn := Try.f103) 1 16 0 rfl rfl rfl rfl rfl (by simp only [zc_, zb_, hp]; simp [HB.born, insS, zb_, zc_]) rfl fun w0 M E hro => ?_
 by_cases h1 : i.op = 36
 ·have e : divB i.op = true := by simp [divB, h1]
  rw [e]
  repeat' (first | refine Ctl.h ?_ | ((with_reducible intro hif); first | (focus (cases hif; done)) | ((try simp only [JH] at hif); try (exfalso; omega))) | ((with_reducible first | apply J22 z5_ za_ | apply J23 fol z5_ za_ | apply J24); (·rfl); (· (simp only [push_cast, ↓JP, Nat.reduceAdd, Nat.reduceEqDiff, Nat.reduceLT, Nat.reduceMul, Nat.reduceLeDiff, reduceCtorEq, reduceIte, ↓JK, ↓JF, h1]; rfl)); (try kernel_rfl); try exact k9_) | fail)
  apply At.endsRet za_ (fn := Try.f103) (rs := [.tmp 2]) Anc.refl hro (lb_ rfl) rfl
  ·exact k12_
  ·exact k7_
  ·exact k4_
  ·rfl
  ·exact zh_
  ·exact k8_
  ·exact fun β => rfl
  ·exact zh_
 ·by_cases h2 : i.op = 37
  ·have e : divB i.op = true := by simp [divB, h2]
   rw [e]
   repeat' (first | refine Ctl.h ?_ | ((with_reducible intro hif); first | (focus (cases hif; done)) | ((try simp only [JH] at hif); try (exfalso; omega))) | ((with_reducible first | apply J22 z5_ za_ | apply J23 fol z5_ za_ | apply J24); (·rfl); (· (simp only [push_cast, ↓JP, Nat.reduceAdd, Nat.reduceEqDiff, Nat.reduceLT, Nat.reduceMul, Nat.reduceLeDiff, reduceCtorEq, reduceIte, ↓JK, ↓JF, h2]; rfl)); (try kernel_rfl); try exact k9_) | fail)
   apply At.endsRet za_ (fn := Try.f103) (rs := [.tmp 2]) Anc.refl hro (lb_ rfl) rfl
   ·exact k12_
   ·exact k7_
   ·exact k4_
   ·rfl
   ·exact zh_
   ·exact k8_
   ·exact fun β => rfl
   ·exact zh_
  ·by_cases h3 : i.op = 38
   ·have e : divB i.op = true := by simp [divB, h3]
    rw [e]
    repeat' (first | refine Ctl.h ?_ | ((with_reducible intro hif); first | (focus (cases hif; done)) | ((try simp only [JH] at hif); try (exfalso; omega))) | ((with_reducible first | apply J22 z5_ za_ | apply J23 fol z5_ za_ | apply J24); (·rfl); (· (simp only [push_cast, ↓JP, Nat.reduceAdd, Nat.reduceEqDiff, Nat.reduceLT, Nat.reduceMul, Nat.reduceLeDiff, reduceCtorEq, reduceIte, ↓JK, ↓JF, h3]; rfl)); (try kernel_rfl); try exact k9_) | fail)
    apply At.endsRet za_ (fn := Try.f103) (rs := [.tmp 2]) Anc.refl hro (lb_ rfl) rfl
    ·exact k12_
    ·exact k7_
    ·exact k4_
    ·rfl
    ·exact zh_
    ·exact k8_
    ·exact fun β => rfl
    ·exact zh_
   ·have e : divB i.op = false := by simp [divB, h1, h2, h3]
    rw [e]
    repeat' (first | refine Ctl.h ?_ | ((with_reducible intro hif); first | (focus (cases hif; done)) | ((try simp only [JH] at hif); try (exfalso; omega))) | ((with_reducible first | apply J22 z5_ za_ | apply J23 fol z5_ za_ | apply J24); (·rfl); (· (simp only [push_cast, ↓JP, Nat.reduceAdd, Nat.reduceEqDiff, Nat.reduceLT, Nat.reduceMul, Nat.reduceLeDiff, reduceCtorEq, reduceIte, ↓JK, ↓JF, h1, h2, h3]; rfl)); (try kernel_rfl); try exact k9_) | fail)
    apply At.endsRet za_ (fn := Try.f103) (rs := [.tmp 2]) Anc.refl hro (lb_ rfl) rfl
    ·exact k12_
    ·exact k7_
    ·exact k4_
    ·rfl
    ·exact zh_
    ·exact k8_
    ·exact fun β => rfl
    ·exact zh_
def sDiv : Spec := fun args h m => match args with
 | [v1] => bif isIns v1 then some (True, .bool (divB (zf_ v1).op), [], []) else none
 | _ => none
theorem sDiv_ok : zs_ Try.prog 103 sDiv := by
 refine ⟨zq_ (by kernel_rfl), fun args h m c v rd wr hs hm hc w0 M β h' w R hrd hwr hst => ?_⟩
 unfold sDiv at hs
 split at hs
 ·rename_i v1
  obtain ⟨hb, hs⟩ := zm_ hs
  simp only [Option.some.injEq, Prod.mk.injEq] at hs
  obtain ⟨rfl, rfl, rfl, rfl⟩ := hs
  have b1 := hb
  refine callRo (views := []) (div_lit (zf_ v1)) ?_ R hm hwr ?_ ?_ ?_
  ·intro x hx; cases hx
  ·intro β1 hv
   simp only [denL, aggDen, intDen, natDen, yl_, zg_, den_insOf b1, den_insS]
  ·exact zh_
  ·exact zh_
 ·cases hs
def sApply : Spec := fun args h m => match args with
 | [v1, v2, v3] => bif isI .u8 v1 && isI .i64 v2 && isI .i64 v3 then some (True, .tup [.int .i64 (applyV (iOf v1) (iOf v2) (iOf v3)), .int .i64 (yn_ (iOf v1) (iOf v3))], [], []) else none
 | _ => none
theorem sApply_ok : zs_ Try.prog 29 sApply := by
 refine ⟨zq_ (by kernel_rfl), fun args h m c v rd wr hs hm hc w0 M β h' w R hrd hwr hst => ?_⟩
 unfold sApply at hs
 split at hs
 ·rename_i v1 v2 v3
  obtain ⟨hb, hs⟩ := zm_ hs
  simp only [Option.some.injEq, Prod.mk.injEq] at hs
  obtain ⟨rfl, rfl, rfl, rfl⟩ := hs
  simp only [Bool.and_eq_true] at hb
  obtain ⟨⟨b1, b2⟩, b3⟩ := hb
  simp only [denL, aggDen, intDen, natDen, yl_, zz_ b1, zz_ b2, zz_ b3]
  exact (apply_c (iOf v1) (iOf v2) (iOf v3) w).mono fun e w' he => post_read R (by (repeat' (first | exact trivial | exact rfl | assumption | apply zb_.ite | apply And.intro | intro _ | (simp only [zb_, zc_, i64S, prS, insS, sndsS, sndS, kS, kaS, ftS, ftsS]; done)))) rfl he.1 he.2
 ·cases hs
def cRes : FuncId → Option Spec := look2 [(103, sDiv), (29, sApply)]
theorem yj_ : ∀ f S, cRes f = some S → zs_ Try.prog f S := allOk_spec ⟨sDiv_ok, sApply_ok, trivial⟩
theorem result_lit (i : Ins) (r : Nat → Kn) (hi : i.ok) (hb : i.b < 8) (hc : i.c < 8) : LitOk Try.prog 126 [insS i, kaS r] [.gone] (.tup [kS (resK i r).1, .bool (resK i r).2]) [.gone] := by
 refine z3_ (fn := Try.f126) 1 71 0 rfl rfl rfl rfl rfl (by simp only [zc_, zb_, hp]; simp [HB.born, insS, kaS, kS, zb_, zc_]) rfl fun w0 M E hro => ?_
 obtain ⟨o0, o1, a0, a1, b0, b1, c0, c1, n0, n1⟩ := hi
 have hbn : i.b.toNat < 8 := by omega
 have hcn : i.c.toNat < 8 := by omega
 by_cases h3 : i.op = 3
 ·have e : resK i r = (⟨true, i.n⟩, true) := by unfold resK; rw [if_pos h3]
  rw [e]
  repeat' (first | refine Ctl.h ?_ | ((with_reducible intro hif); first | (focus (cases hif; done)) | ((try simp only [JH] at hif); try (exfalso; omega))) | ((with_reducible first | apply J22 yj_ za_ | apply J23 fol yj_ za_ | apply J24); (·rfl); (· (simp only [push_cast, ↓JP, Nat.reduceAdd, Nat.reduceEqDiff, Nat.reduceLT, Nat.reduceMul, Nat.reduceLeDiff, reduceCtorEq, reduceIte, ↓JK, ↓JF, cRes, h3, inN, inR]; rfl)); (try kernel_rfl); try exact k14_) | fail)
  apply At.endsRet za_ (fn := Try.f126) (rs := [.cell 4 41, .tmp 5]) Anc.refl hro (lb_ rfl) rfl
  ·exact k12_
  ·exact k7_
  ·exact k4_
  ·rfl
  ·exact zh_
  ·exact k8_
  ·exact fun β => rfl
  ·exact zh_
 by_cases h4 : i.op = 4
 ·have e : resK i r = (r i.b.toNat, true) := by unfold resK; rw [if_neg h3, if_pos h4]
  rw [e]
  repeat' (first | refine Ctl.h ?_ | ((with_reducible intro hif); first | (focus (cases hif; done)) | ((try simp only [JH] at hif); try (exfalso; omega))) | ((with_reducible first | apply J22 yj_ za_ | apply J23 fol yj_ za_ | apply J24); (·rfl); (· (simp only [push_cast, ↓JP, Nat.reduceAdd, Nat.reduceEqDiff, Nat.reduceLT, Nat.reduceMul, Nat.reduceLeDiff, reduceCtorEq, reduceIte, ↓JK, ↓JF, cRes, h3, h4, inN, inR]; rfl)); (try kernel_rfl); try exact k14_) | fail)
  apply At.endsRet za_ (fn := Try.f126) (rs := [.cell 4 41, .tmp 5]) Anc.refl hro (lb_ rfl) rfl
  ·exact k12_
  ·exact k7_
  ·exact k4_
  ·rfl
  ·exact zh_
  ·exact k8_
  ·exact fun β => rfl
  ·exact zh_
 by_cases h32 : i.op ≤ 32
 ·have e : resK i r = (K0, true) := by unfold resK; rw [if_neg h3, if_neg h4, if_pos h32]
  rw [e]
  repeat' (first | refine Ctl.h ?_ | ((with_reducible intro hif); first | (focus (cases hif; done)) | ((try simp only [JH] at hif); try (exfalso; omega))) | ((with_reducible first | apply J22 yj_ za_ | apply J23 fol yj_ za_ | apply J24); (·rfl); (· (simp only [push_cast, ↓JP, Nat.reduceAdd, Nat.reduceEqDiff, Nat.reduceLT, Nat.reduceMul, Nat.reduceLeDiff, reduceCtorEq, reduceIte, ↓JK, ↓JF, cRes, h3, h4, h32, inN, inR]; rfl)); (try kernel_rfl); try exact k14_) | fail)
  apply At.endsRet za_ (fn := Try.f126) (rs := [.cell 4 41, .tmp 5]) Anc.refl hro (lb_ rfl) rfl
  ·exact k12_
  ·exact k7_
  ·exact k4_
  ·rfl
  ·exact zh_
  ·exact k8_
  ·exact fun β => rfl
  ·exact zh_
 by_cases hd : divB i.op = true ∧ r i.c.toNat = ⟨true, 0⟩
 ·have e : resK i r = (K0, false) := by unfold resK; rw [if_neg h3, if_neg h4, if_neg h32, if_pos hd]
  rw [e]
  repeat' (first | refine Ctl.h ?_ | ((with_reducible intro hif); first | (focus (cases hif; done)) | ((try simp only [JH] at hif); try (exfalso; omega))) | ((with_reducible first | apply J22 yj_ za_ | apply J23 fol yj_ za_ | apply J24); (·rfl); (· (simp only [push_cast, ↓JP, Nat.reduceAdd, Nat.reduceEqDiff, Nat.reduceLT, Nat.reduceMul, Nat.reduceLeDiff, reduceCtorEq, reduceIte, ↓JK, ↓JF, cRes, sDiv, h3, h4, h32, hd.1, hd.2, ↓kn_eqZ, inN, inR]; rfl)); (try kernel_rfl); try exact k14_) | fail)
  apply At.endsRet za_ (fn := Try.f126) (rs := [.cell 4 41, .tmp 5]) Anc.refl hro (lb_ rfl) rfl
  ·exact k12_
  ·exact k7_
  ·exact k4_
  ·rfl
  ·exact zh_
  ·exact k8_
  ·exact fun β => rfl
  ·exact zh_
 have hdz : divB i.op = true → (r i.c.toNat).is_ = true → (r i.c.toNat).n ≠ 0 := fun h1 h2 h3 => hd ⟨h1, by rw [← h2, ← h3]⟩
 have q1 : resK i r = if (r i.b.toNat).is_ = false ∨ (r i.c.toNat).is_ = false then (K0, true) else (⟨yn_ (i.op - 32) (r i.c.toNat).n == 0, applyV (i.op - 32) (r i.b.toNat).n (r i.c.toNat).n⟩, yn_ (i.op - 32) (r i.c.toNat).n == 0) := by
  unfold resK; rw [if_neg h3, if_neg h4, if_neg h32, if_neg hd]
 cases hdv : divB i.op <;> cases hb1 : (r i.b.toNat).is_ <;> cases hc1 : (r i.c.toNat).is_
 ·-- false false false
  have e : resK i r = (K0, true) := by rw [q1, if_pos (by simp [hb1, hc1])]
  rw [e]
  repeat' (first | refine Ctl.h ?_ | ((with_reducible intro hif); first | (focus (cases hif; done)) | ((try simp only [JH] at hif); try (exfalso; omega))) | ((with_reducible first | apply J22 yj_ za_ | apply J23 fol yj_ za_ | apply J24); (·rfl); (· exact k15_); (try kernel_rfl); try exact k14_) | fail)
  apply At.endsRet za_ (fn := Try.f126) (rs := [.cell 4 41, .tmp 5]) Anc.refl hro (lb_ rfl) rfl
  ·exact k12_
  ·exact k7_
  ·exact k4_
  ·rfl
  ·exact zh_
  ·exact k8_
  ·exact fun β => rfl
  ·exact zh_
 ·-- false false true
  have e : resK i r = (K0, true) := by rw [q1, if_pos (by simp [hb1, hc1])]
  rw [e]
  repeat' (first | refine Ctl.h ?_ | ((with_reducible intro hif); first | (focus (cases hif; done)) | ((try simp only [JH] at hif); try (exfalso; omega))) | ((with_reducible first | apply J22 yj_ za_ | apply J23 fol yj_ za_ | apply J24); (·rfl); (· exact k15_); (try kernel_rfl); try exact k14_) | fail)
  apply At.endsRet za_ (fn := Try.f126) (rs := [.cell 4 41, .tmp 5]) Anc.refl hro (lb_ rfl) rfl
  ·exact k12_
  ·exact k7_
  ·exact k4_
  ·rfl
  ·exact zh_
  ·exact k8_
  ·exact fun β => rfl
  ·exact zh_
 ·-- false true false
  have e : resK i r = (K0, true) := by rw [q1, if_pos (by simp [hb1, hc1])]
  rw [e]
  repeat' (first | refine Ctl.h ?_ | ((with_reducible intro hif); first | (focus (cases hif; done)) | ((try simp only [JH] at hif); try (exfalso; omega))) | ((with_reducible first | apply J22 yj_ za_ | apply J23 fol yj_ za_ | apply J24); (·rfl); (· exact k15_); (try kernel_rfl); try exact k14_) | fail)
  apply At.endsRet za_ (fn := Try.f126) (rs := [.cell 4 41, .tmp 5]) Anc.refl hro (lb_ rfl) rfl
  ·exact k12_
  ·exact k7_
  ·exact k4_
  ·rfl
  ·exact zh_
  ·exact k8_
  ·exact fun β => rfl
  ·exact zh_
 ·-- false true true
  have e : resK i r = (⟨decide (yn_ (i.op - 32) (r i.c.toNat).n = 0), applyV (i.op - 32) (r i.b.toNat).n (r i.c.toNat).n⟩, decide (yn_ (i.op - 32) (r i.c.toNat).n = 0)) := by rw [q1, if_neg (by simp [hb1, hc1])]; rfl
  rw [e]
  repeat' (first | refine Ctl.h ?_ | ((with_reducible intro hif); first | (focus (cases hif; done)) | ((try simp only [JH] at hif); try (exfalso; omega))) | ((with_reducible first | apply J22 yj_ za_ | apply J23 fol yj_ za_ | apply J24); (·rfl); (· exact k15_); (try kernel_rfl); try exact k14_) | fail)
  apply At.endsRet za_ (fn := Try.f126) (rs := [.cell 4 41, .tmp 5]) Anc.refl hro (lb_ rfl) rfl
  ·exact k12_
  ·exact k7_
  ·exact k4_
  ·rfl
  ·exact zh_
  ·exact k8_
  ·exact fun β => rfl
  ·exact zh_
 ·-- true false false
  have e : resK i r = (K0, true) := by rw [q1, if_pos (by simp [hb1, hc1])]
  rw [e]
  repeat' (first | refine Ctl.h ?_ | ((with_reducible intro hif); first | (focus (cases hif; done)) | ((try simp only [JH] at hif); try (exfalso; omega))) | ((with_reducible first | apply J22 yj_ za_ | apply J23 fol yj_ za_ | apply J24); (·rfl); (· exact k15_); (try kernel_rfl); try exact k14_) | fail)
  apply At.endsRet za_ (fn := Try.f126) (rs := [.cell 4 41, .tmp 5]) Anc.refl hro (lb_ rfl) rfl
  ·exact k12_
  ·exact k7_
  ·exact k4_
  ·rfl
  ·exact zh_
  ·exact k8_
  ·exact fun β => rfl
  ·exact zh_
 ·-- true false true
  have e : resK i r = (K0, true) := by rw [q1, if_pos (by simp [hb1, hc1])]
  rw [e]
  have hn0 := hdz hdv hc1
  repeat' (first | refine Ctl.h ?_ | ((with_reducible intro hif); first | (focus (cases hif; done)) | ((try simp only [JH] at hif); try (exfalso; omega))) | ((with_reducible first | apply J22 yj_ za_ | apply J23 fol yj_ za_ | apply J24); (·rfl); (· exact k16_); (try kernel_rfl); try exact k14_) | fail)
  apply At.endsRet za_ (fn := Try.f126) (rs := [.cell 4 41, .tmp 5]) Anc.refl hro (lb_ rfl) rfl
  ·exact k12_
  ·exact k7_
  ·exact k4_
  ·rfl
  ·exact zh_
  ·exact k8_
  ·exact fun β => rfl
  ·exact zh_
 ·-- true true false
  have e : resK i r = (K0, true) := by rw [q1, if_pos (by simp [hb1, hc1])]
  rw [e]
  repeat' (first | refine Ctl.h ?_ | ((with_reducible intro hif); first | (focus (cases hif; done)) | ((try simp only [JH] at hif); try (exfalso; omega))) | ((with_reducible first | apply J22 yj_ za_ | apply J23 fol yj_ za_ | apply J24); (·rfl); (· exact k15_); (try kernel_rfl); try exact k14_) | fail)
  apply At.endsRet za_ (fn := Try.f126) (rs := [.cell 4 41, .tmp 5]) Anc.refl hro (lb_ rfl) rfl
  ·exact k12_
  ·exact k7_
  ·exact k4_
  ·rfl
  ·exact zh_
  ·exact k8_
  ·exact fun β => rfl
  ·exact zh_
 ·-- true true true
  have e : resK i r = (⟨decide (yn_ (i.op - 32) (r i.c.toNat).n = 0), applyV (i.op - 32) (r i.b.toNat).n (r i.c.toNat).n⟩, decide (yn_ (i.op - 32) (r i.c.toNat).n = 0)) := by rw [q1, if_neg (by simp [hb1, hc1])]; rfl
  rw [e]
  have hn0 := hdz hdv hc1
  repeat' (first | refine Ctl.h ?_ | ((with_reducible intro hif); first | (focus (cases hif; done)) | ((try simp only [JH] at hif); try (exfalso; omega))) | ((with_reducible first | apply J22 yj_ za_ | apply J23 fol yj_ za_ | apply J24); (·rfl); (· exact k16_); (try kernel_rfl); try exact k14_) | fail)
  apply At.endsRet za_ (fn := Try.f126) (rs := [.cell 4 41, .tmp 5]) Anc.refl hro (lb_ rfl) rfl
  ·exact k12_
  ·exact k7_
  ·exact k4_
  ·rfl
  ·exact zh_
  ·exact k8_
  ·exact fun β => rfl
  ·exact zh_
def yg_ : Spec := fun args h m => match args with
 | [v1, v2] => bif isIns v1 && isKa v2 then some (((zf_ v1).ok) ∧ ((zf_ v1).b < 8) ∧ ((zf_ v1).c < 8), .tup [kS (resK (zf_ v1) (kaOf v2)).1, .bool (resK (zf_ v1) (kaOf v2)).2], [], []) else none
 | _ => none
theorem sResult_ok : zs_ Try.prog 126 yg_ := by
 refine ⟨zq_ (by kernel_rfl), fun args h m c v rd wr hs hm hc w0 M β h' w R hrd hwr hst => ?_⟩
 unfold yg_ at hs
 split at hs
 ·rename_i v1 v2
  obtain ⟨hb, hs⟩ := zm_ hs
  simp only [Option.some.injEq, Prod.mk.injEq] at hs
  obtain ⟨rfl, rfl, rfl, rfl⟩ := hs
  simp only [Bool.and_eq_true] at hb
  obtain ⟨b1, b2⟩ := hb
  obtain ⟨y1, y2, y3⟩ := hc
  refine callRo (views := []) (result_lit (zf_ v1) (kaOf v2) y1 y2 y3) ?_ R hm hwr ?_ ?_ ?_
  ·intro x hx; cases hx
  ·intro β1 hv
   simp only [denL, aggDen, intDen, natDen, yl_, zg_, den_insOf b1, kaOf_den b2, den_insS, kaS_den]
  ·exact zh_
  ·exact zh_
 ·cases hs
def meetTo (a b : Nat → Kn) (j : Nat) : Nat → Kn := fun k => if k < j then meetK (a k) (b k) else a k
theorem meetTo_self (a b : Nat → Kn) (j : Nat) : meetTo a b j j = a j := by unfold meetTo; rw [if_neg (Nat.lt_irrefl j)]
theorem meet_lit (a b : Ft) : LitOk Try.prog 101 [ftS a, ftS b] [.gone] (ftS ⟨a.reached, meetR a.regs b.regs⟩) [.gone] := by
 refine z3_ (fn := Try.f101) 1 24 0 rfl rfl rfl rfl rfl (by simp only [zc_, zb_, hp]; simp [HB.born, ftS, kaS, kS, zb_, zc_]) rfl fun w0 M E hro => ?_
 repeat' (first | refine Ctl.h ?_ | ((with_reducible intro hif); first | (focus (cases hif; done)) | ((try simp only [JH] at hif); try (exfalso; omega))) | ((with_reducible first | apply J22 z5_ za_ | apply J23 fol z5_ za_ | apply J24); (·rfl); (· exact k17_); (try kernel_rfl); try exact k9_) | fail)
 have e0 : ∀ q, (meetTo a.regs b.regs 0) q = a.regs q := fun q => by unfold meetTo; rw [if_neg (Nat.not_lt_zero q)]
 have l0 : ∀ ex, Less (.own 44 (ftS a) ex) (.own 44 (ftS ⟨a.reached, meetTo a.regs b.regs 0⟩) ex) := fun ex => less_ft (F := fun q => kS (a.regs q)) fun q _ β => by rw [e0]
 have l0' := l0 true
 refine WF.loopAt (fun j => j ≤ 8) (fun j => [(2, .ptr 1 []), (3, .ptr 2 []), (4, .ptr 3 []), (6, .nat .i64 j)]) (fun j => [.gone, .own 44 (ftS ⟨a.reached, meetTo a.regs b.regs j⟩) true, .own 44 (ftS b) true, .own 44 (.agg [.bool false, .arr 8 2 fun _ => .agg [.bool false, .nat .i64 0]]) true]) (fun j => 8 - j) 0 (Nat.zero_le _) ?_ ?_ rfl ?_ ?_ rfl ?_
 ·exact k3_
 ·exact k4_
 ·exact zh_
 ·exact zh_
 intro j hj
 repeat' (first | refine Ctl.h ?_ | ((with_reducible intro hif); first | (focus (cases hif; done)) | ((try simp only [JH] at hif); try (exfalso; omega))) | ((with_reducible first | apply J22 z5_ za_ | apply J23 fol z5_ za_ | apply J24); (·rfl); (· (simp only [push_cast, ↓JP, Nat.reduceAdd, Nat.reduceEqDiff, Nat.reduceLT, Nat.reduceMul, Nat.reduceLeDiff, reduceCtorEq, reduceIte, ↓JK, ↓JF, meetTo_self, ↓kn_eqZ, inN, inR, setp_ftz]; rfl)); (try kernel_rfl); try exact k14_) | fail)
 ·have hne : a.regs j ≠ b.regs j := by simpa using hif
  have lj : Less (.own 44 (.agg [.bool a.reached, .arr 8 2 fun j_1 => SV.ite (decide (j_1 = j)) (.agg [.bool false, .nat .i64 0]) (kS (meetTo a.regs b.regs j j_1))]) true) (.own 44 (ftS ⟨a.reached, meetTo a.regs b.regs (j + 1)⟩) true) := less_ft fun q hq β => by
   rw [ite_eq]
   by_cases h : q = j
   ·subst h
    simp only [decide_true, cond_true]
    unfold meetTo meetK
    rw [if_pos (by omega), if_neg hne]
    rfl
   ·simp only [h, decide_false, cond_false]
    unfold meetTo
    by_cases h2 : q < j
    ·rw [if_pos h2, if_pos (by omega)]
    ·rw [if_neg h2, if_neg (by omega)]
  refine At.next (j + 1) ?_ ?_ ?_ rfl ?_ ?_ rfl
  ·omega
  ·exact k3_
  ·exact k4_
  ·exact zh_
  ·exact zh_
 ·have he : a.regs j = b.regs j := by simpa using hif
  have lj : Less (.own 44 (ftS ⟨a.reached, meetTo a.regs b.regs j⟩) true) (.own 44 (ftS ⟨a.reached, meetTo a.regs b.regs (j + 1)⟩) true) := less_ft (F := fun q => kS (meetTo a.regs b.regs j q)) fun q hq β => by
   congr 2
   unfold meetTo
   by_cases h2 : q < j
   ·rw [if_pos h2, if_pos (by omega)]
   ·rw [if_neg h2]
    by_cases h : q = j
    ·subst h
     rw [if_pos (by omega)]
     unfold meetK
     rw [if_pos he]
    ·rw [if_neg (by omega)]
  refine At.next (j + 1) ?_ ?_ ?_ rfl ?_ ?_ rfl
  ·omega
  ·exact k3_
  ·exact k4_
  ·exact zh_
  ·exact zh_
 ·have h8 : j = 8 := by omega
  subst h8
  apply At.endsRet za_ (fn := Try.f101) (rs := [.cell 4 44]) Anc.refl hro (lb_ rfl) rfl
  ·exact k12_
  ·exact k7_
  ·exact k4_
  ·rfl
  ·exact zh_
  ·exact k8_
  ·intro β; show (ftS _).den β = (ftS _).den β; rw [ftS_den, ftS_den]; rfl
  ·exact zh_
def sMeet : Spec := fun args h m => match args with
 | [v1, v2] => bif isFt v1 && isFt v2 then some (True, ftS ⟨(ftOf v1).reached, meetR (ftOf v1).regs (ftOf v2).regs⟩, [], []) else none
 | _ => none
theorem sMeet_ok : zs_ Try.prog 101 sMeet := by
 refine ⟨zq_ (by kernel_rfl), fun args h m c v rd wr hs hm hc w0 M β h' w R hrd hwr hst => ?_⟩
 unfold sMeet at hs
 split at hs
 ·rename_i v1 v2
  obtain ⟨hb, hs⟩ := zm_ hs
  simp only [Option.some.injEq, Prod.mk.injEq] at hs
  obtain ⟨rfl, rfl, rfl, rfl⟩ := hs
  simp only [Bool.and_eq_true] at hb
  obtain ⟨b1, b2⟩ := hb
  refine callRo (views := []) (meet_lit (ftOf v1) (ftOf v2)) ?_ R hm hwr ?_ ?_ ?_
  ·intro x hx; cases hx
  ·intro β1 hv
   simp only [denL, aggDen, intDen, natDen, yl_, zg_, ftOf_den b1, ftOf_den b2, ftS_den]
  ·exact zh_
  ·exact zh_
 ·cases hs
theorem ftS_ren (ρ : Nat → Nat) (f : Ft) : (ftS f).ren ρ = ftS f := by simp only [ftS, kaS, kS, SV.ren, renL]
theorem hands_lit (n p k : Nat) (f : Ft) : LitOk Try.prog 100 [.sl 1 2 [] 5 0 n (some p), .nat .i64 k, ftS f] [.gone, .gone, .gone] (.fn 125 [.ptr 3 [], .ptr 4 [], .ptr 5 []]) [.gone, .gone, .gone, .own 25 (.sl 1 2 [] 5 0 n (some p)) true, .own 3 (.nat .i64 k) true, .own 44 (ftS f) true] := by
 refine z3_ (fn := Try.f100) 3 8 0 rfl rfl rfl rfl rfl (by simp only [zc_, zb_, hp]; simp [HB.born, ftS, kaS, kS, zb_, zc_]) rfl fun w0 M E hro => ?_
 repeat' (first | refine Ctl.h ?_ | ((with_reducible intro hif); first | (focus (cases hif; done)) | ((try simp only [JH] at hif); try (exfalso; omega))) | ((with_reducible first | apply J22 z5_ za_ | apply J23 fol z5_ za_ | apply J24); (·rfl); (· exact k17_); (try kernel_rfl); try exact k9_) | fail)
 apply At.endsRet za_ (fn := Try.f100) (rs := [.tmp 6]) Anc.refl hro (lb_ rfl) rfl
 ·exact k12_
 ·exact k7_
 ·exact k4_
 ·rfl
 ·exact zh_
 ·exact k8_
 ·exact fun β => rfl
 ·exact zh_
def sHands : Spec := fun args h m => match args with
 | [.sl z i [] 5 0 n (some p), .nat .i64 k, u] => bif (h z).born && (h i).born && isFt u then some (True, .fn 125 [.ptr m [], .ptr (m + 1) [], .ptr (m + 2) []], [z, i], [(m, .own 25 (.sl z i [] 5 0 n (some p)) true), (m + 1, .own 3 (.nat .i64 k) true), (m + 2, .own 44 (ftS (ftOf u)) true)]) else none
 | _ => none
theorem sHands_ok : zs_ Try.prog 100 sHands := by
 refine ⟨zq_ (by kernel_rfl), fun args h m c v rd wr hs hm hc w0 M β h' w R hrd hwr hst => ?_⟩
 unfold sHands at hs
 split at hs
 ·rename_i z i n p k u
  obtain ⟨hb, hs2⟩ := zm_ hs
  clear hs
  simp only [Bool.and_eq_true] at hb
  obtain ⟨⟨hz, hi⟩, hu⟩ := hb
  simp only [Option.some.injEq, Prod.mk.injEq] at hs2
  obtain ⟨rfl, rfl, rfl, rfl⟩ := hs2
  have ei : h' i = h i := hrd i (by simp)
  have ez : h' z = h z := hrd z (by simp)
  have C := callG (L1 := [.gone, .gone, .gone, .own 25 (.sl 1 2 [] 5 0 n (some p)) true, .own 3 (.nat .i64 k) true, .own 44 (ftS (ftOf u)) true]) (h := h) (m := m) [0, z, i] (hands_lit n p k (ftOf u)) R rfl (by simp) rfl rfl rfl
   ⟨.gone (by rw [R.nil0]; rfl), .gone (by rw [ez]; exact hz), .gone (by rw [ei]; exact hi), trivial⟩ hm (by simpa [newB, rhoL, HB.ren, ftS_ren] using hwr) (by simp)
   (by simp [yb_, HB.stable]) (by simp [zc_, zb_, hp, HB.born, ftS_stable]) (by simp [NewL, HB.stable, zb_, HB.isRo, hG, hp, HB.born, ftS_stable]) (by simp [zb_, zc_, hG, hp, HB.born])
  have e0 : denL β (renL (rhoL [0, z, i] m) [SV.sl 1 2 [] 5 0 n (some p), .nat .i64 k, ftS (ftOf u)]) = denL β [.sl z i [] 5 0 n (some p), .nat .i64 k, u] := by
   simp [renL, SV.ren, rhoL, ftS_ren, denL, ftOf_den hu, ftS_den]
  rw [e0] at C
  refine C.mono fun e w' he => ?_
  simpa [newB, rhoL, HB.ren, SV.ren, renL, ftS_ren] using he
 ·cases hs
end Go.Proofs.Ytmljmabbopkpiaa.Vm
end
end
