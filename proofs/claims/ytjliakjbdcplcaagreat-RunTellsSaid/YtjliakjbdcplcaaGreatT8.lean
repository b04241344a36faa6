import Derived.Test.YtjliakjbdcplcaaGreatT4
import Derived.Test.YtjliakjbdcplcaaGreatT5
import Derived.Test.YtjliakjbdcplcaaGreatT7
set_option linter.unusedSimpArgs false
set_option linter.unusedVariables false
set_option maxRecDepth 100000
set_option maxHeartbeats 4000000
section
namespace Go.Proofs.YtjliakjbdcplcaaGreat.Vm
theorem u5_ {P : Prop} (h : P := by simp only [zd_, Stable, hp, i64S, prS, yo_, zn_, sndS, evS, sr, csl, ssl]; simp [HB.born]) : P := h
theorem u6_ {P : Prop} (h : P := by simp only [zd_, Stable, hp, i64S, prS, yo_, zn_, sndS]; simp [HB.born]) : P := h
theorem yi_ {P : Prop} (h : P := by simp only [push_cast, ↓JP, Nat.reduceAdd, Nat.reduceEqDiff, Nat.reduceLT, Nat.reduceMul, Nat.reduceLeDiff, reduceCtorEq, reduceIte, ↓JK, resV, resV1]; rfl) : P := h
theorem k56_ {P : Prop} (h : P := by (repeat' (first | exact trivial | exact rfl | assumption | apply Stable.ite | apply And.intro | intro _ | (simp only [Stable, zd_, i64S, prS, yo_, zn_, sndS, evS, sr, csl, ssl]; done)))) : P := h
theorem k57_ {P : Prop} (h : P := by (intro β; refine st_den ?_ ?_ (fun q hq => ?_) ?_ ?_ ?_ ?_; all_goals first | rfl | (by_cases hq2 : q = x.a.toNat; (try rw [y7_]); (simp only [hq2, decide_true, cond_true, Sta.put, if_true]; try rfl); (try rw [y7_]); (simp only [hq2, decide_false, cond_false, Sta.put, if_false]; try rfl)))) : P := h
theorem xb_ {P : Prop} (h : P := by (repeat' (first | exact trivial | exact rfl | assumption | apply Stable.ite | apply And.intro | intro _ | (simp only [Stable, zd_, i64S, prS, yo_, zn_, sndS]; done)))) : P := h
theorem k59_ {P : Prop} (h : P := by (first | exact True.intro | ((repeat' (first | exact True.intro | apply And.intro | rfl | omega | assumption | decide | (simp only [List.length_append, List.length_set, List.length_cons, List.length_nil]; omega) | intro _)); done) | ((try simp only [JS, implies_true, forall_const, z9_, z2_, kndOf]); (repeat' (first | assumption | exact True.intro | omega | apply And.intro)); done))) : P := h
theorem k60_ {P : Prop} (h : P := by (simp only [push_cast, ↓JP, Nat.reduceAdd, Nat.reduceEqDiff, Nat.reduceLT, Nat.reduceMul, Nat.reduceLeDiff, reduceCtorEq, reduceIte, ↓JK, cOne, sr, csl, ssl, oneL, Int.cast_ofNat_Int, ho]; rfl)) : P := h
theorem k61_ {P : Prop} (h : P := by (simp only [push_cast, ↓JP, Nat.reduceAdd, Nat.reduceEqDiff, Nat.reduceLT, Nat.reduceMul, Nat.reduceLeDiff, reduceCtorEq, reduceIte, ↓JK, cOne, sr, csl, ssl, oneL, Int.cast_ofNat_Int, ho, h1]; rfl)) : P := h
theorem k62_ {P : Prop} (h : P := by (simp only [push_cast, ↓JP, Nat.reduceAdd, Nat.reduceEqDiff, Nat.reduceLT, Nat.reduceMul, Nat.reduceLeDiff, reduceCtorEq, reduceIte, ↓JK, cOne, sr, csl, ssl, oneL, Int.cast_ofNat_Int, ho, h1, h2]; rfl)) : P := h
theorem k63_ {P : Prop} (h : P := by (simp only [push_cast, ↓JP, Nat.reduceAdd, Nat.reduceEqDiff, Nat.reduceLT, Nat.reduceMul, Nat.reduceLeDiff, reduceCtorEq, reduceIte, ↓JK, Int.cast_ofNat_Int, ho, h1]; rfl)) : P := h
theorem k64_ {P : Prop} (h : P := by (simp only [push_cast, ↓JP, Nat.reduceAdd, Nat.reduceEqDiff, Nat.reduceLT, Nat.reduceMul, Nat.reduceLeDiff, reduceCtorEq, reduceIte, ↓JK, Int.cast_ofNat_Int, ho, h1, h2, h3, h4]; rfl)) : P := h
theorem k65_ {P : Prop} (h : P := by (simp only [push_cast, ↓JP, Nat.reduceAdd, Nat.reduceEqDiff, Nat.reduceLT, Nat.reduceMul, Nat.reduceLeDiff, reduceCtorEq, reduceIte, ↓JK, Int.cast_ofNat_Int, ho, (show ¬ x.op = 1 by omega), (show ¬ x.op = 2 by omega), (show ¬ x.op = 3 by omega), (show ¬ x.op = 4 by omega), (show ¬ x.op = 5 by omega), (show ¬ x.op = 6 by omega), (show ¬ x.op = 7 by omega), (show ¬ x.op = 8 by omega), (show ¬ x.op = 9 by omega), (show ¬ x.op = 10 by omega), (show ¬ x.op = 11 by omega), h1]; rfl)) : P := h
theorem k66_ {P : Prop} (h : P := by (simp only [push_cast, ↓JP, Nat.reduceAdd, Nat.reduceEqDiff, Nat.reduceLT, Nat.reduceMul, Nat.reduceLeDiff, reduceCtorEq, reduceIte, hjl, hc, inR, inN]; rfl)) : P := h
end Go.Proofs.YtjliakjbdcplcaaGreat.Vm
end
section
namespace Go.Proofs.YtjliakjbdcplcaaGreat.Vm
open Go.RowKit
def oldB (ρ : Nat → Nat) : List HB → List HB → List Nat → List (Nat × HB)
 | [], _, _ => []
 | b :: L0, L1, l => match L1, l with
  | c :: L1, j :: l => bif b.mine then (j, c.ren ρ) :: oldB ρ L0 L1 l else oldB ρ L0 L1 l
  | _, _ => []
def mrgL : List HB → List HB → List HB
 | [], L1 => L1
 | b :: L0, L1 => match L1 with
  | c :: L1 => (bif b.mine then c else b) :: mrgL L0 L1
  | [] => []
def noRo2 : List HB → List HB → Bool
 | [], L1 => L1.all fun c => !c.isRo
 | b :: L0, L1 => match L1 with
  | c :: L1 => (!b.mine || (c.born && !c.isRo)) && noRo2 L0 L1
  | [] => true
theorem hp_cons (b : HB) (L : List HB) (i : Nat) : hp (b :: L) (i + 1) = hp L i := by unfold hp; simp
theorem hp_zero (b : HB) (L : List HB) : hp (b :: L) 0 = b := by unfold hp; simp
theorem noRo2_old : ∀ {L0 L1 : List HB}, noRo2 L0 L1 = true → L0.length ≤ L1.length → ∀ i, i < L0.length → (hp L0 i).mine = true → (hp L1 i).born = true ∧ (hp L1 i).isRo = false
 | [], _, _, _, i, hi, _ => by simp at hi
 | b :: L0, [], _, hl, _, _, _ => by simp at hl
 | b :: L0, c :: L1, h, hl, i, hi, hm => by
  simp only [noRo2, Bool.and_eq_true, Bool.or_eq_true, Bool.not_eq_true'] at h
  cases i with
  | zero =>
   rw [hp_zero] at hm
   rw [hp_zero]
   rcases h.1 with h1 | h1
   ·rw [hm] at h1; cases h1
   ·exact h1
  | succ i =>
   rw [hp_cons] at hm
   rw [hp_cons]
   exact noRo2_old h.2 (by simpa using hl) i (by simpa using hi) hm
theorem noRo2_new : ∀ {L0 L1 : List HB}, noRo2 L0 L1 = true → L0.length ≤ L1.length → ∀ i, L0.length ≤ i → (hp L1 i).isRo = false
 | [], L1, h, _, i, _ => by
  simp only [noRo2, List.all_eq_true] at h
  unfold hp
  rw [List.getD_eq_getElem?_getD]
  cases hh : L1[i]? with
  | none => rfl
  | some x => simpa using h x (List.mem_of_getElem? hh)
 | b :: L0, [], _, hl, _, _ => by simp at hl
 | b :: L0, c :: L1, h, hl, i, hi => by
  simp only [noRo2, Bool.and_eq_true] at h
  cases i with
  | zero => simp at hi
  | succ i =>
   rw [hp_cons]
   exact noRo2_new h.2 (by simpa using hl) i (by simpa using hi)
theorem mrgL_get : ∀ {L0 L1 : List HB}, L0.length ≤ L1.length → ∀ i, hp (mrgL L0 L1) i = if i < L0.length then (bif (hp L0 i).mine then hp L1 i else hp L0 i) else hp L1 i
 | [], L1, _, i => by simp [mrgL]
 | b :: L0, [], hl, _ => by simp at hl
 | b :: L0, c :: L1, hl, i => by
  cases i with
  | zero => simp [mrgL, hp_zero]
  | succ i =>
   simp only [mrgL, hp_cons]
   rw [mrgL_get (by simpa using hl) i]
   simp
theorem wrs_oldB_ne {ρ : Nat → Nat} : ∀ {L0 L1 : List HB} {l : List Nat} {h : HM} {j : Nat}, (∀ i, i < L0.length → (hp L0 i).mine = true → l.getD i 0 ≠ j) → wrs h (oldB ρ L0 L1 l) j = h j
 | [], _, _, h, j, _ => rfl
 | b :: L0, [], l, h, j, _ => rfl
 | b :: L0, c :: L1, [], h, j, _ => rfl
 | b :: L0, c :: L1, k :: l, h, j, hn => by
  have ih := fun h' => wrs_oldB_ne (ρ := ρ) (L0 := L0) (L1 := L1) (l := l) (h := h') (j := j) (fun i hi hm => by
   have := hn (i + 1) (by simpa using hi) (by rw [hp_cons]; exact hm)
   simpa using this)
  cases hb : b.mine with
  | false => simp only [oldB, hb, cond_false]; exact ih h
  | true =>
   simp only [oldB, hb, cond_true]
   show wrs (upd h k (c.ren ρ)) (oldB ρ L0 L1 l) j = h j
   rw [ih, yc_ (fun e => hn 0 (by simp) (by rw [hp_zero]; exact hb) (by simpa using e.symm))]
theorem wrs_oldB {ρ : Nat → Nat} : ∀ {L0 L1 : List HB} {l : List Nat} {h : HM}, L0.length ≤ L1.length → l.length = L0.length → (∀ i j, i < j → j < L0.length → (hp L0 i).mine = true → (hp L0 j).mine = true → l.getD i 0 ≠ l.getD j 0) → ∀ i, i < L0.length → (hp L0 i).mine = true → wrs h (oldB ρ L0 L1 l) (l.getD i 0) = (hp L1 i).ren ρ
 | [], _, _, h, _, _, _, i, hi, _ => by simp at hi
 | b :: L0, [], l, h, hl, _, _, _, _, _ => by simp at hl
 | b :: L0, c :: L1, [], h, _, hl, _, _, _, _ => by simp at hl
 | b :: L0, c :: L1, k :: l, h, hle, hln, hn, i, hi, hm => by
  cases i with
  | zero =>
   rw [hp_zero] at hm
   simp only [oldB, hm, cond_true, List.getD_cons_zero]
   show wrs (upd h k (c.ren ρ)) (oldB ρ L0 L1 l) k = _
   rw [wrs_oldB_ne (fun i hi hm' e => hn 0 (i + 1) (by omega) (by simpa using hi) (by rw [hp_zero]; exact hm) (by rw [hp_cons]; exact hm') (by simpa using e.symm)), zt_, hp_zero]
  | succ i =>
   rw [hp_cons] at hm
   have ih := fun h' => wrs_oldB (ρ := ρ) (L0 := L0) (L1 := L1) (l := l) (h := h') (by simpa using hle) (by simpa using hln) (fun a b hab hb ha hb' => by
    have := hn (a + 1) (b + 1) (by omega) (by simpa using hb) (by rw [hp_cons]; exact ha) (by rw [hp_cons]; exact hb')
    simpa using this) i (by simpa using hi) hm
   rw [List.getD_cons_succ, hp_cons]
   cases hb : b.mine with
   | false => simp only [oldB, hb, cond_false]; exact ih h
   | true =>
    simp only [oldB, hb, cond_true]
    exact ih (upd h k (c.ren ρ))
theorem wrs_app : ∀ (l : List (Nat × HB)) {m : List (Nat × HB)} {h : HM}, wrs h (l ++ m) = wrs (wrs h l) m
 | [], _, _ => rfl
 | p :: l, m, h => wrs_app l
theorem laid_rw {L0 L1 : List HB} {h : HM} {l : List Nat} {m : Nat} {v : SV} (hlen : l.length = L0.length) (hpos : 0 < L0.length) (h00 : l.getD 0 0 = 0) (hz : hp L0 0 = .gone) (hfit : FitL (xo_ l m) h L0 l) (hinj : ∀ i j, i < L0.length → j < L0.length → i ≠ j → (hp L0 i).mine = true → (hp L0 j).mine = true ∨ (hp L0 j).isRo = true → l.getD i 0 ≠ l.getD j 0)
  (hm : ∀ i, m ≤ i → i < m + (L1.length - L0.length) → h i = .dead) (hle : L0.length ≤ L1.length) (hno : noRo2 L0 L1 = true)
  (hst0 : y8_ (hp L0) L0) (hstb : ∀ j, (h j).stable h) (hst1 : y8_ (hp (mrgL L0 L1)) (mrgL L0 L1)) (hv : Stable (hp (mrgL L0 L1)) v) :
  Laid L0 L1 h (wrs h (oldB (xo_ l m) L0 L1 l ++ newB (xo_ l m) m (L1.drop L0.length))) (xo_ l m) m v := by
 rw [wrs_app]
 obtain ⟨k, hk⟩ : ∃ k, k = L1.length - L0.length := ⟨_, rfl⟩
 have hdl : (L1.drop L0.length).length = k := by rw [List.length_drop, hk]
 have hrl : ∀ i, i < L0.length → xo_ l m i = l.getD i 0 := fun i hi => if_pos (by omega)
 have hrn : ∀ i, L0.length ≤ i → xo_ l m i = m + (i - L0.length) := fun i hi => by
  unfold xo_; rw [if_neg (by omega), hlen]
 have hget : ∀ j, m ≤ j → (L1.drop L0.length).getD (j - m) .dead = hp L1 (L0.length + (j - m)) := fun j hj => by
  unfold hp
  rw [List.getD_eq_getElem?_getD, List.getD_eq_getElem?_getD, List.getElem?_drop]
 have hmr := mrgL_get hle
 generalize hh1 : wrs h (oldB (xo_ l m) L0 L1 l) = h1
 have hnewj : ∀ j, m ≤ j → j < m + k → wrs h1 (newB (xo_ l m) m (L1.drop L0.length)) j = (hp L1 (L0.length + (j - m))).ren (xo_ l m) := fun j h1 h3 => by
  rw [wrs_newB, if_pos ⟨h1, by omega⟩, hget j h1]
 have holdj : ∀ j, ¬ (m ≤ j ∧ j < m + k) → wrs h1 (newB (xo_ l m) m (L1.drop L0.length)) j = h1 j := fun j hj => by
  rw [wrs_newB, if_neg (by rw [hdl]; exact hj)]
 have bornold : ∀ j, (h j).born = true → ¬ (m ≤ j ∧ j < m + k) := fun j hj hc => by
  rw [hm j hc.1 (by omega)] at hj; cases hj
 have hfit' : ∀ i, i < L0.length → Fit (xo_ l m) (hp L0 i) (h (xo_ l m i)) := fun i hi => by rw [hrl i hi]; exact fitL_get hfit i hi
 have hborn : ∀ i, i < L0.length → (h (l.getD i 0)).born = true := fun i hi => by rw [← hrl i hi]; exact (hfit' i hi).born
 have him : ∀ i, i < L0.length → (hp L0 i).mine = true → h1 (l.getD i 0) = (hp L1 i).ren (xo_ l m) := fun i hi hmi => by
  rw [← hh1]
  exact wrs_oldB hle hlen (fun a b hab hb ha hb' => hinj a b (by omega) hb (by omega) ha (.inl hb')) i hi hmi
 have hne : ∀ j, (∀ i, i < L0.length → (hp L0 i).mine = true → l.getD i 0 ≠ j) → h1 j = h j := fun j hj => by
  rw [← hh1]
  exact wrs_oldB_ne hj
 have born_ren : ∀ {b : HB}, b.born = true → (b.ren (xo_ l m)).born = true := fun {b} hb => by
  cases b <;> first | rfl | (cases hb; done)
 have more1 : ∀ j, (h j).born = true → (h1 j).born = true := fun j hj => by
  by_cases hc : ∃ i, i < L0.length ∧ (hp L0 i).mine = true ∧ l.getD i 0 = j
  ·obtain ⟨i, hi, hmi, rfl⟩ := hc
   rw [him i hi hmi]
   exact born_ren (noRo2_old hno hle i hi hmi).1
  ·rw [hne j (fun i hi hmi e => hc ⟨i, hi, hmi, e⟩)]; exact hj
 have more : ∀ i, (h i).born = true → (wrs h1 (newB (xo_ l m) m (L1.drop L0.length)) i).born = true := fun i hi => by rw [holdj i (bornold i hi)]; exact more1 i hi
 have moreG : ∀ i, (hp (mrgL L0 L1) i).born = true → (wrs h1 (newB (xo_ l m) m (L1.drop L0.length)) (xo_ l m i)).born = true := fun i hi => by
  rw [hmr i] at hi
  split at hi
  ·rename_i hlt
   exact more _ (hfit' i hlt).born
  ·rename_i hge
   have hlt : i < L1.length := by
    rcases Nat.lt_or_ge i L1.length with h' | h'
    ·exact h'
    ·rw [y4_ h'] at hi; cases hi
   rw [hrn i (by omega), hnewj _ (by omega) (by omega), show L0.length + (m + (i - L0.length) - m) = i by omega]
   exact born_ren hi
 have stG := xq_ hst1
 have ren_st : ∀ {b : HB}, b.stable (hp (mrgL L0 L1)) → (b.ren (xo_ l m)).stable (wrs h1 (newB (xo_ l m) m (L1.drop L0.length))) := fun {b} hs => by
  cases b with
  | own t u ex => exact Stable.ren moreG hs
  | ro u => exact Stable.ren moreG hs
  | raw o => trivial
  | gone => trivial
  | dead => trivial
 refine { z := by rw [hrl 0 hpos, h00], z0 := hz, new := fun i hi => hrn i hi, pre := hfit', inj := fun i j hi hj hne hmi hmj => by rw [hrl i hi, hrl j hj]; exact hinj i j hi hj hne hmi hmj, img := fun i hi hmi => ?_, old := fun j hj hno => ?_, fresh := fun j hj => ?_, un := fun i hi hb => ?_, st0 := xq_ hst0, st2 := fun j => ?_, stv := hv.ren moreG }
 ·rw [hrl i hi, holdj _ (bornold _ (hborn i hi)), him i hi hmi]
  exact ⟨rfl, (noRo2_old hno hle i hi hmi).2⟩
 ·rw [holdj j (bornold j hj)]
  exact hne j fun i hi hmi => by rw [← hrl i hi]; exact hno i hi hmi
 ·by_cases hc : m ≤ j ∧ j < m + k
  ·exact .inr ⟨hc.1, hnewj j hc.1 hc.2, noRo2_new hno hle _ (by omega)⟩
  ·left
   rw [holdj j hc, hne j (fun i hi hmi e => by rw [← e, hborn i hi] at hj; cases hj)]
   cases hh : h j <;> rw [hh] at hj <;> first | rfl | (cases hj; done)
 ·have hlt : i < L1.length := by
   rcases Nat.lt_or_ge i L1.length with h' | h'
   ·exact h'
   ·rw [y4_ h'] at hb; cases hb
  rw [hrn i hi, hm _ (by omega) (by omega)]
  rfl
 ·by_cases hc : m ≤ j ∧ j < m + k
  ·rw [hnewj j hc.1 hc.2]
   have hs := stG (L0.length + (j - m))
   rw [hmr, if_neg (by omega)] at hs
   exact ren_st hs
  ·rw [holdj j hc]
   by_cases hc2 : ∃ i, i < L0.length ∧ (hp L0 i).mine = true ∧ l.getD i 0 = j
   ·obtain ⟨i, hi, hmi, rfl⟩ := hc2
    rw [him i hi hmi]
    have hs := stG i
    rw [hmr, if_pos hi, hmi] at hs
    exact ren_st hs
   ·rw [hne j (fun i hi hmi e => hc2 ⟨i, hi, hmi, e⟩)]
    exact HB.stable_more (hstb j) more
theorem callRW {P : Program} {f : FuncId} {args : List SV} {L0 L1 : List HB} {v : SV} {w0 w : World} {M : Nat → Prop} {β : Env} {h h' : HM} {m : Nat} (l : List Nat) (H : zo_ P f args L0 v L1) (R : Rep w0 M β h' w) (hlen : l.length = L0.length) (hpos : 0 < L0.length) (h00 : l.getD 0 0 = 0) (hz : hp L0 0 = .gone) (hfit : FitL (xo_ l m) h' L0 l)
  (hinj : ∀ i j, i < L0.length → j < L0.length → i ≠ j → (hp L0 i).mine = true → (hp L0 j).mine = true ∨ (hp L0 j).isRo = true → l.getD i 0 ≠ l.getD j 0)
  (hm : ∀ i, m ≤ i → h i = .dead) (hwr : ∀ p ∈ newB (xo_ l m) m (L1.drop L0.length), h' p.1 = h p.1) (hle : L0.length ≤ L1.length) (hno : noRo2 L0 L1 = true)
  (hst0 : y8_ (hp L0) L0) (hsta : zd_ (hp L0) args) (hst1 : y8_ (hp (mrgL L0 L1)) (mrgL L0 L1)) (hv : Stable (hp (mrgL L0 L1)) v) :
  Calls P f (denL β (renL (xo_ l m) args)).toArray w fun e w' => ∃ β', (∀ i, (h' i).born = true → β i = β' i) ∧ Rep w0 M β' (wrs h' (oldB (xo_ l m) L0 L1 l ++ newB (xo_ l m) m (L1.drop L0.length))) w' ∧ Stable (wrs h' (oldB (xo_ l m) L0 L1 l ++ newB (xo_ l m) m (L1.drop L0.length))) (v.ren (xo_ l m)) ∧ e = .returned ((v.ren (xo_ l m)).den β') :=
 call_lit H R (laid_rw hlen hpos h00 hz hfit hinj (fun i hi hlt => by
  obtain ⟨b, hb⟩ := newB_mem (ρ := xo_ l m) (l := L1.drop L0.length) hi (by rw [List.length_drop]; exact hlt)
  exact (hwr _ hb).trans (hm i hi)) hle hno hst0 R.st hst1 hv) hsta
end Go.Proofs.YtjliakjbdcplcaaGreat.Vm
end
section
namespace Go.Proofs.YtjliakjbdcplcaaGreat.Vm
open Go.RowKit
def stS (s : Sta) (c k : Nat) : SV := .agg [.int .i64 s.at_, .bool s.ended, .arr 8 1 fun q => .int .i64 (s.regs q), .sl c c [] 1 0 s.cells.length none, .int .i64 s.draws, .sl k k [] 3 0 s.sends.length none]
def evS (v : Evi) : SV := .agg [.int .u64 v.seed, .int .i64 v.process, .int .i64 v.ports, .int .i64 v.look, .int .i64 v.now]
def macS (s : Sta) (v : Evi) (x : Ins) (c k : Nat) : SV := .agg [stS s c k, evS v, yo_ x]
def mB (s : Sta) (v : Evi) (x : Ins) (c k : Nat) : HB := .own 186 (macS s v x c k) true
def cB (s : Sta) : HB := .own 2 (.arr s.cells.length 1 (i64S s.cells)) false
def sB (s : Sta) : HB := .own 125 (.arr s.sends.length 3 (zn_ s.sends)) false
theorem stS_eq (s : Sta) (c k : Nat) : stS s c k = .agg [.int .i64 s.at_, .bool s.ended, .arr 8 1 fun q => .int .i64 (s.regs q), .sl c c [] 1 0 s.cells.length none, .int .i64 s.draws, .sl k k [] 3 0 s.sends.length none] := rfl
theorem evS_eq (v : Evi) : evS v = .agg [.int .u64 v.seed, .int .i64 v.process, .int .i64 v.ports, .int .i64 v.look, .int .i64 v.now] := rfl
theorem macS_eq (s : Sta) (v : Evi) (x : Ins) (c k : Nat) : macS s v x c k = .agg [stS s c k, evS v, yo_ x] := rfl
theorem mB_eq (s : Sta) (v : Evi) (x : Ins) (c k : Nat) : mB s v x c k = .own 186 (macS s v x c k) true := rfl
theorem cB_eq (s : Sta) : cB s = .own 2 (.arr s.cells.length 1 (i64S s.cells)) false := rfl
theorem sB_eq (s : Sta) : sB s = .own 125 (.arr s.sends.length 3 (zn_ s.sends)) false := rfl
set_option linter.defProp false in
def JM := And.intro @stS_eq (And.intro @evS_eq (And.intro @macS_eq (And.intro @mB_eq (And.intro @cB_eq @sB_eq))))
theorem ls_getD {α : Type} {g : SV → α} {n q : Nat} {f : Nat → SV} {d : α} (h : q < n) : (ls g n f).getD q d = g (f q) := by
 simp [ls, h]
def macP (h : HM) (g : Nat) : Option (Sta × Evi × Ins × Nat × Nat × Prop) := match h g with
 | .own t (.agg [.agg [a, .bool e, .arr 8 1 rg, .sl z c [] 1 0 nc none, d, .sl z2 k [] 3 0 ns none], .agg [e0, e1, e2, e3, e4], iv]) true => match h c, h k with
  | .own t1 (.arr n1 1 cf) false, .own t2 (.arr n2 3 sf) false =>
   bif (Nat.beq t 186 && Nat.beq t1 2 && Nat.beq t2 125) && (Nat.beq z c && Nat.beq z2 k && Nat.beq n1 nc && Nat.beq n2 ns) && (isI .i64 a && isI .i64 d) && (isI .u64 e0 && isI .i64 e1 && isI .i64 e2 && isI .i64 e3 && isI .i64 e4) && isIns iv then
    some (⟨iOf a, e, fun q => iOf (rg q), ls iOf nc cf, iOf d, ls zv_ ns sf⟩, ⟨iOf e0, iOf e1, iOf e2, iOf e3, iOf e4⟩, zl_ iv, c, k, (∀ q, q < 8 → isI .i64 (rg q) = true) ∧ (∀ q, q < nc → isI .i64 (cf q) = true) ∧ ∀ q, q < ns → isSnd (sf q) = true) else none
  | _, _ => none
 | _ => none
theorem mac_val {h : HM} {g c k : Nat} {s : Sta} {v : Evi} {x : Ins} {ok : Prop} (hp : macP h g = some (s, v, x, c, k, ok)) (hok : ok) :
  ∃ l cf sf, h g = .own 186 (.agg l) true ∧ (∀ β, (SV.agg l).cl β = (macS s v x c k).cl β) ∧ h c = .own 2 (.arr s.cells.length 1 cf) false ∧ (∀ β q, q < s.cells.length → (cf q).cl β = (i64S s.cells q).cl β) ∧
   h k = .own 125 (.arr s.sends.length 3 sf) false ∧ (∀ β q, q < s.sends.length → (sf q).cl β = (zn_ s.sends q).cl β) ∧ g ≠ c ∧ g ≠ k ∧ c ≠ k := by
 unfold macP at hp
 split at hp
 ·rename_i t a e rg z c0 nc d z2 k0 ns e0 e1 e2 e3 e4 iv hg
  split at hp
  ·rename_i t1 n1 cf t2 n2 sf hc hk
   obtain ⟨hb, hs⟩ := zk_ hp
   simp only [Option.some.injEq, Prod.mk.injEq] at hs
   obtain ⟨rfl, rfl, rfl, rfl, rfl, rfl⟩ := hs
   simp only [Bool.and_eq_true] at hb
   obtain ⟨⟨⟨⟨⟨⟨b1, b2⟩, b3⟩, ⟨⟨b4, b5⟩, b6⟩, b7⟩, b8, b9⟩, ⟨⟨⟨b10, b11⟩, b12⟩, b13⟩, b14⟩, b15⟩ := hb
   have b1 := Nat.eq_of_beq_eq_true b1
   have b2 := Nat.eq_of_beq_eq_true b2
   have b3 := Nat.eq_of_beq_eq_true b3
   have b4 := Nat.eq_of_beq_eq_true b4
   have b5 := Nat.eq_of_beq_eq_true b5
   have b6 := Nat.eq_of_beq_eq_true b6
   have b7 := Nat.eq_of_beq_eq_true b7
   subst b1 b2 b3 b4 b5 b6 b7
   obtain ⟨hr, hcf, hsf⟩ := hok
   refine ⟨_, cf, sf, hg, fun β => ?_, by rw [hc, zb_], fun β q hq => ?_, by rw [hk, zb_], fun β q hq => ?_, ?_, ?_, ?_⟩
   ·have h8 : (SV.arr 8 1 rg).cl β = (SV.arr 8 1 fun q => .int .i64 (iOf (rg q))).cl β := arrCl fun q hq => by rw [isI_cl (hr q hq)]; rfl
    simp only [macS, stS, evS, cl_agg, x0_, clL_nil, h8, isI_cl b8, isI_cl b9, isI_cl b10, isI_cl b11, isI_cl b12, isI_cl b13, isI_cl b14, isIns_cl b15, isIns_cl (z4_ _), yh_, zb_]
    rfl
   ·rw [zb_] at hq
    rw [isI_cl (hcf q hq)]
    unfold i64S
    rw [ls_getD hq]; rfl
   ·rw [zb_] at hq
    rw [isSnd_cl (hsf q hq)]
    unfold zn_
    rw [ls_getD hq, isSnd_cl (yn_ _), yg_]
   ·rintro rfl; rw [hg] at hc; cases hc
   ·rintro rfl; rw [hg] at hk; cases hk
   ·rintro rfl; rw [hc] at hk; cases hk
  ·cases hp
 ·cases hp
def macH (h : HM) (g c k : Nat) (s : Sta) (v : Evi) (x : Ins) : HM := upd (upd (upd h g (mB s v x c k)) c (cB s)) k (sB s)
theorem macH_g {h : HM} {g c k : Nat} {s : Sta} {v : Evi} {x : Ins} (n1 : g ≠ c) (n2 : g ≠ k) : macH h g c k s v x g = mB s v x c k := by
 unfold macH; rw [yc_ n2, yc_ n1, zt_]
theorem macH_c {h : HM} {g c k : Nat} {s : Sta} {v : Evi} {x : Ins} (n3 : c ≠ k) : macH h g c k s v x c = cB s := by
 unfold macH; rw [yc_ n3, zt_]
theorem macH_k {h : HM} {g c k : Nat} {s : Sta} {v : Evi} {x : Ins} : macH h g c k s v x k = sB s := by
 unfold macH; rw [zt_]
theorem macH_o {h : HM} {g c k i : Nat} {s : Sta} {v : Evi} {x : Ins} (n1 : i ≠ g) (n2 : i ≠ c) (n3 : i ≠ k) : macH h g c k s v x i = h i := by
 unfold macH; rw [yc_ n3, yc_ n2, yc_ n1]
theorem macH_born {h : HM} {g c k i : Nat} {s : Sta} {v : Evi} {x : Ins} (hi : (h i).born = true) : (macH h g c k s v x i).born = true := by
 unfold macH Vm.upd
 split
 ·rfl
 ·split
  ·rfl
  ·split
   ·rfl
   ·exact hi
theorem cB_st {h : HM} {s : Sta} : (cB s).stable h := fun q => i64S_stable q
theorem sB_st {h : HM} {s : Sta} : (sB s).stable h := fun q => y5_ q
theorem mB_st {h : HM} {s : Sta} {v : Evi} {x : Ins} {c k : Nat} (hc : (h c).born = true) (hk : (h k).born = true) : (mB s v x c k).stable h := by
 simp [mB, HB.stable, macS, stS, evS, yo_, Stable, zd_, hc, hk]
theorem macS_ren (ρ : Nat → Nat) (s : Sta) (v : Evi) (x : Ins) (c k : Nat) : (macS s v x c k).ren ρ = macS s v x (ρ c) (ρ k) := by
 simp [macS, stS, evS, yo_, SV.ren, renL]
theorem mB_ren (ρ : Nat → Nat) (s : Sta) (v : Evi) (x : Ins) (c k : Nat) : (mB s v x c k).ren ρ = mB s v x (ρ c) (ρ k) := by
 simp [mB, HB.ren, macS_ren]
theorem cB_ren (ρ : Nat → Nat) (s : Sta) : (cB s).ren ρ = cB s := rfl
theorem sB_ren (ρ : Nat → Nat) (s : Sta) : (sB s).ren ρ = sB s := by
 have : (fun q => (zn_ s.sends q).ren ρ) = zn_ s.sends := by
  funext q; unfold zn_; simp only [sndS, SV.ren, renL]
 simp [sB, HB.ren, SV.ren, this]
section
variable {w0 w : World} {M : Nat → Prop} {β : Env} {h h' : HM} {g c k : Nat} {s : Sta} {v : Evi} {x : Ins} {ok : Prop}
theorem mac_canon (hp : macP h g = some (s, v, x, c, k, ok)) (hok : ok) (R : Rep w0 M β h' w) (eg : h' g = h g) (ec : h' c = h c) (ek : h' k = h k) :
  Rep w0 M β (macH h' g c k s v x) w ∧ g ≠ c ∧ g ≠ k ∧ c ≠ k ∧ 0 ≠ g ∧ 0 ≠ c ∧ 0 ≠ k := by
 obtain ⟨l, cf, sf, hg, hgl, hc, hcl, hk, hkl, n1, n2, n3⟩ := mac_val hp hok
 have z : ∀ {j : Nat} {b : HB}, h' j = b → b.mine = true → 0 ≠ j := fun {j b} hj hb e => by
  subst e; rw [R.nil0] at hj; subst hj; cases hb
 have z1 := z (eg.trans hg) rfl
 have z2 := z (ec.trans hc) rfl
 have z3 := z (ek.trans hk) rfl
 have hnn : (macH h' g c k s v x) 0 = .gone := by rw [macH_o z1 z2 z3]; exact R.nil0
 refine ⟨R.less (fun i => ?_) hnn (fun i => ?_), n1, n2, n3, z1, z2, z3⟩
 ·by_cases e1 : i = g
  ·subst e1
   rw [macH_g n1 n2, eg, hg]
   exact .val hgl (fun n k f e => by cases e) (fun n k f e => by cases e)
  ·by_cases e2 : i = c
   ·subst e2
    rw [macH_c n3, ec, hc]
    exact .val (fun β => arrCl (hcl β)) (fun n k f e => by injection e with e1 e2 e3; subst e1 e2; exact ⟨_, rfl⟩) (fun n k f e => by injection e with e1 e2 e3; subst e1 e2; exact ⟨_, rfl⟩)
   ·by_cases e3 : i = k
    ·subst e3
     rw [macH_k, ek, hk]
     exact .val (fun β => arrCl (hkl β)) (fun n k f e => by injection e with e1 e2 e3; subst e1 e2; exact ⟨_, rfl⟩) (fun n k f e => by injection e with e1 e2 e3; subst e1 e2; exact ⟨_, rfl⟩)
    ·rw [macH_o e1 e2 e3]; exact .same _
 ·by_cases e1 : i = g
  ·subst e1
   rw [macH_g n1 n2]
   exact mB_st (by rw [macH_c n3]; rfl) (by rw [macH_k]; rfl)
  ·by_cases e2 : i = c
   ·subst e2
    rw [macH_c n3]; exact cB_st
   ·by_cases e3 : i = k
    ·subst e3
     rw [macH_k]; exact sB_st
    ·rw [macH_o e1 e2 e3]
     exact HB.stable_more (R.st i) fun j hj => macH_born hj
end
abbrev MF := List SV → Sta → Evi → Ins → Option (Prop × (Nat → SV) × Sta × Ins × Bool)
def mS (F : MF) : yq_ := fun args h m => match args with
 | .ptr g [] :: ar => match macP h g with
  | some (s, v, x, c, k, ok) => match F ar s v x with
   | some (cond, val, s', x', mv) => some (ok ∧ cond, val c, [g, c, k], bif mv then [(g, mB s' v x' c m), (c, cB s'), (k, .gone), (m, sB s')] else [(g, mB s' v x' c k), (c, cB s'), (k, sB s')])
   | none => none
  | none => none
 | _ => none
theorem inj4 {g c k : Nat} {a b d : HB} (n1 : g ≠ c) (n2 : g ≠ k) (n3 : c ≠ k) : ∀ i j, i < [HB.gone, a, b, d].length → j < [HB.gone, a, b, d].length → i ≠ j → (hp [HB.gone, a, b, d] i).mine = true → (hp [HB.gone, a, b, d] j).mine = true ∨ (hp [HB.gone, a, b, d] j).isRo = true → [0, g, c, k].getD i 0 ≠ [0, g, c, k].getD j 0 := by
 intro i j hi hj hne hmi hmj
 simp only [List.length_cons, List.length_nil] at hi hj
 have hi0 : i ≠ 0 := by rintro rfl; cases hmi
 have hj0 : j ≠ 0 := by
  rintro rfl
  rcases hmj with h | h <;> cases h
 rcases i with _ | _ | _ | _ | i
 ·exact absurd rfl hi0
 all_goals rcases j with _ | _ | _ | _ | j
 all_goals first | exact absurd rfl hj0 | exact absurd rfl hne | (simp only [List.getD_cons_succ, List.getD_cons_zero]; first | exact n1 | exact n2 | exact n3 | exact n1.symm | exact n2.symm | exact n3.symm) | omega
theorem mS_ok {f : FuncId} {F : MF} (hf : named Tryz.prog f = true)
  (H : ∀ ar s v x cond val s' x' mv, F ar s v x = some (cond, val, s', x', mv) → cond → (∀ ρ, renL ρ ar = ar) ∧ (∀ h, zd_ h ar) ∧ (∀ ρ : Nat → Nat, ρ 0 = 0 → (val 2).ren ρ = val (ρ 2)) ∧ (∀ h : HM, (h 0).born = true → (h 2).born = true → Stable h (val 2)) ∧
   zo_ Tryz.prog f (.ptr 1 [] :: ar) [.gone, mB s v x 2 3, cB s, sB s] (val 2) (bif mv then [.gone, mB s' v x' 2 4, cB s', .gone, sB s'] else [.gone, mB s' v x' 2 3, cB s', sB s'])) : zj_ Tryz.prog f (mS F) := by
 refine ⟨zf_ hf, fun args h m c v rd wr hs hm hc w0 M β h' w R hrd hwr hst => ?_⟩
 unfold mS at hs
 split at hs
 ·rename_i g ar
  split at hs
  ·rename_i s v x c k ok hmp
   split at hs
   ·rename_i cond val s' x' mv hF
    simp only [Option.some.injEq, Prod.mk.injEq] at hs
    obtain ⟨rfl, rfl, rfl, rfl⟩ := hs
    obtain ⟨hok, hcond⟩ := hc
    obtain ⟨q1, q2, q3, q4, hl⟩ := H ar s v x _ _ _ _ _ hF hcond
    obtain ⟨R1, n1, n2, n3, z1, z2, z3⟩ := mac_canon hmp hok R (hrd g (by simp)) (hrd c (by simp)) (hrd k (by simp))
    have hfit : FitL (xo_ [0, g, c, k] m) (macH h' g c k s v x) [.gone, mB s v x 2 3, cB s, sB s] [0, g, c, k] := by
     refine ⟨.gone ?_, ?_, ?_, ?_, trivial⟩
     ·rw [R1.nil0]; rfl
     ·rw [macH_g n1 n2]
      have e : mB s v x c k = .own 186 ((macS s v x 2 3).ren (xo_ [0, g, c, k] m)) true := by rw [macS_ren]; rfl
      rw [e]; exact .own
     ·rw [macH_c n3]
      exact .own (v := .arr s.cells.length 1 (i64S s.cells))
     ·rw [macH_k]
      have e : sB s = (sB s).ren (xo_ [0, g, c, k] m) := (sB_ren _ _).symm
      rw [e]; exact .own (v := .arr s.sends.length 3 (zn_ s.sends))
    have hargs : renL (xo_ [0, g, c, k] m) (.ptr 1 [] :: ar) = .ptr g [] :: ar := by
     simp only [renL, SV.ren, q1]; rfl
    have hval : (val 2).ren (xo_ [0, g, c, k] m) = val c := q3 _ rfl
    have hst0 : y8_ (hp [.gone, mB s v x 2 3, cB s, sB s]) [.gone, mB s v x 2 3, cB s, sB s] := ⟨trivial, mB_st rfl rfl, cB_st, sB_st, trivial⟩
    cases mv with
    | false =>
     have C := callRW (h := h) (m := m) [0, g, c, k] hl R1 rfl (by simp) rfl rfl hfit (inj4 n1 n2 n3) hm (fun p hp => by cases hp) (by simp) rfl hst0 ⟨rfl, q2 _⟩
      ⟨trivial, mB_st rfl rfl, cB_st, sB_st, trivial⟩ (q4 _ rfl rfl)
     rw [hargs] at C
     have hw : wrs (macH h' g c k s v x) (oldB (xo_ [0, g, c, k] m) [.gone, mB s v x 2 3, cB s, sB s] [.gone, mB s' v x' 2 3, cB s', sB s'] [0, g, c, k] ++ newB (xo_ [0, g, c, k] m) m ([HB.gone, mB s' v x' 2 3, cB s', sB s'].drop 4)) = wrs h' [(g, mB s' v x' c k), (c, cB s'), (k, sB s')] := by
      simp only [oldB, newB, mB_ren, cB_ren, sB_ren, List.drop, List.append_nil]
      funext i
      show upd (upd (upd (macH h' g c k s v x) g (mB s' v x' c k)) c (cB s')) k (sB s') i = upd (upd (upd h' g (mB s' v x' c k)) c (cB s')) k (sB s') i
      unfold macH Vm.upd
      split
      ·rfl
      ·split
       ·rfl
       ·split <;> rfl
     refine C.mono fun e w' ⟨β', g1, g2, g3, g4⟩ => ⟨β', fun i hi => g1 i (macH_born hi), ?_, ?_, ?_⟩
     ·rw [cond_false, ← hw]; exact g2
     ·rw [cond_false, ← hval, ← hw]; exact g3
     ·rw [← hval]; exact g4
    | true =>
     have hmd : h m = .dead := hm m (Nat.le_refl _)
     have hm' : h' m = .dead := (hwr (m, sB s') (by simp)).trans hmd
     have mg : m ≠ g := by rintro rfl; have := mac_val hmp hok; obtain ⟨l, cf, sf, e, _⟩ := this; rw [hmd] at e; cases e
     have mc : m ≠ c := by rintro rfl; have := mac_val hmp hok; obtain ⟨l, cf, sf, _, _, e, _⟩ := this; rw [hmd] at e; cases e
     have mk : m ≠ k := by rintro rfl; have := mac_val hmp hok; obtain ⟨l, cf, sf, _, _, _, _, e, _⟩ := this; rw [hmd] at e; cases e
     have C := callRW (h := h) (m := m) [0, g, c, k] hl R1 rfl (by simp) rfl rfl hfit (inj4 n1 n2 n3) hm (fun p hp => by
       simp only [newB, List.drop, cond_true, List.length_cons, List.length_nil, List.mem_cons, List.not_mem_nil, or_false] at hp
       subst hp
       show macH h' g c k s v x m = h m
       rw [macH_o mg mc mk, hm', hmd]) (by simp) rfl hst0 ⟨rfl, q2 _⟩
      ⟨trivial, mB_st rfl rfl, cB_st, trivial, sB_st, trivial⟩ (q4 _ rfl rfl)
     rw [hargs] at C
     have hw : wrs (macH h' g c k s v x) (oldB (xo_ [0, g, c, k] m) [.gone, mB s v x 2 3, cB s, sB s] [.gone, mB s' v x' 2 4, cB s', .gone, sB s'] [0, g, c, k] ++ newB (xo_ [0, g, c, k] m) m ([HB.gone, mB s' v x' 2 4, cB s', .gone, sB s'].drop 4)) = wrs h' [(g, mB s' v x' c m), (c, cB s'), (k, .gone), (m, sB s')] := by
      have e4 : xo_ [0, g, c, k] m 4 = m := by simp [xo_]
      simp only [oldB, newB, mB_ren, cB_ren, sB_ren, List.drop, e4]
      funext i
      show upd (upd (upd (upd (macH h' g c k s v x) g (mB s' v x' c m)) c (cB s')) k .gone) m (sB s') i = upd (upd (upd (upd h' g (mB s' v x' c m)) c (cB s')) k .gone) m (sB s') i
      unfold macH Vm.upd
      split
      ·rfl
      ·split
       ·rfl
       ·split
        ·rfl
        ·split <;> rfl
     refine C.mono fun e w' ⟨β', g1, g2, g3, g4⟩ => ⟨β', fun i hi => g1 i (macH_born hi), ?_, ?_, ?_⟩
     ·rw [cond_true, ← hw]; exact g2
     ·rw [cond_true, ← hval, ← hw]; exact g3
     ·rw [← hval]; exact g4
   ·cases hs
  ·cases hs
 ·cases hs
abbrev RF := Sta → Evi → Ins → Option (Prop × SV)
def rS (F : RF) : yq_ := fun args h m => match args with
 | [.ptr g []] => match macP h g with
  | some (s, v, x, c, k, ok) => match F s v x with
   | some (cond, val) => some (ok ∧ cond, val, [g, c, k], [])
   | none => none
  | none => none
 | _ => none
theorem rS_ok {f : FuncId} {F : RF} (hf : named Tryz.prog f = true)
  (H : ∀ s v x cond val, F s v x = some (cond, val) → cond → (∀ ρ, val.ren ρ = val) ∧ (∀ h : HM, Stable h val) ∧
   zo_ Tryz.prog f [.ptr 1 []] [.gone, .ro (macS s v x 2 3), .gone, .gone] val [.gone, .gone, .gone, .gone]) : zj_ Tryz.prog f (rS F) := by
 refine ⟨zf_ hf, fun args h m c v rd wr hs hm hc w0 M β h' w R hrd hwr hst => ?_⟩
 unfold rS at hs
 split at hs
 ·rename_i g
  split at hs
  ·rename_i s v x c k ok hmp
   split at hs
   ·rename_i cond val hF
    simp only [Option.some.injEq, Prod.mk.injEq] at hs
    obtain ⟨rfl, rfl, rfl, rfl⟩ := hs
    obtain ⟨hok, hcond⟩ := hc
    obtain ⟨q1, q2, hl⟩ := H s v x _ _ hF hcond
    obtain ⟨l, cf, sf, hg, hgl, hcc, _, hk, _⟩ := mac_val hmp hok
    have hfit : FitL (xo_ [0, g, c, k] m) h' [.gone, .ro (macS s v x 2 3), .gone, .gone] [0, g, c, k] := by
     refine ⟨.gone ?_, .ro (u := .agg l) (by rw [hrd g (by simp), hg]; rfl) (fun β => by rw [macS_ren]; exact hgl β) (fun n k f e => by rw [macS_ren] at e; cases e), .gone (by rw [hrd c (by simp), hcc]; rfl), .gone (by rw [hrd k (by simp), hk]; rfl), trivial⟩
     rw [R.nil0]; rfl
    have C := callG (h := h) (m := m) [0, g, c, k] hl R rfl (by simp) rfl rfl rfl hfit hm (fun p hp => by cases hp) (by simp)
     (by simp [y8_, HB.stable, macS, stS, evS, yo_, Stable, zd_, hp, HB.born]) ⟨rfl, trivial⟩ trivial (q2 _)
    refine C.mono fun e w' ⟨β', g1, g2, g3, g4⟩ => ⟨β', g1, g2, q2 _, by rw [← q1 (xo_ [0, g, c, k] m)]; exact g4⟩
   ·cases hs
  ·cases hs
 ·cases hs
end Go.Proofs.YtjliakjbdcplcaaGreat.Vm
end
section
namespace Go.Proofs.YtjliakjbdcplcaaGreat.Vm
open Go.RowKit
theorem viewL_len : ∀ l : List View, (viewL l).length = 2 * l.length
 | [] => rfl
 | x :: l => by rw [viewL, List.length_cons, List.length_cons, viewL_len l, List.length_cons]; omega
theorem Vd.envTo {β β' : Env} : ∀ {l : List View} {m : Nat}, (∀ i, m ≤ i → i < m + 2 * l.length → β i = β' i) → Vd β m l → Vd β' m l
 | [], _, _, _ => trivial
 | x :: l, m, hb, h => by
  have hl : (x :: l).length = l.length + 1 := rfl
  refine ⟨?_, Vd.envTo (fun i h1 h2 => hb i (by omega) (by omega)) h.2⟩
  rw [← h.1]
  simp only [SV.den, hb m (Nat.le_refl _) (by omega), hb (m + 1) (by omega) (by omega)]
theorem callRoV {P : Program} {f : FuncId} {args : List SV} {views : List View} {L1 : List HB} {v v' V : SV} {w0 w : World} {M : Nat → Prop} {β : Env} {h h' : HM} {m : Nat} {vals : List Value} (H : zo_ P f args (.gone :: viewL views) v L1) (hok : ∀ x ∈ views, x.Ok w) (R : Rep w0 M β h' w) (hm : ∀ i, m ≤ i → h i = .dead)
  (hwr : ∀ p ∈ newB (rho ((viewL views).length + 1) m) m (L1.drop ((viewL views).length + 1)), h' p.1 = h p.1)
  (hargs : ∀ β1 : Env, Vd β1 1 views → denL β1 args = vals) (hnew : NewL (hN ((viewL views).length + 1) L1) (L1.drop ((viewL views).length + 1))) (hv : Stable (hN ((viewL views).length + 1) L1) v')
  (hVs : ∀ h2 : HM, (∀ i, (h' i).born = true → (h2 i).born = true) → Stable h2 (v'.ren (rho ((viewL views).length + 1) m)) → Stable h2 V)
  (hV : ∀ β2 β' : Env, Vd β2 1 views → v'.den β2 = (v'.ren (rho ((viewL views).length + 1) m)).den β' → (∀ i, (h' i).born = true → β i = β' i) → v.den β2 = V.den β') :
  Calls P f vals.toArray w fun e w' => ∃ β', (∀ i, (h' i).born = true → β i = β' i) ∧ Rep w0 M β' (wrs h' (newB (rho ((viewL views).length + 1) m) m (L1.drop ((viewL views).length + 1)))) w' ∧ Stable (wrs h' (newB (rho ((viewL views).length + 1) m) m (L1.drop ((viewL views).length + 1)))) V ∧ e = .returned (V.den β') := by
 obtain ⟨β1, a1, R0, d1⟩ := handedAll views hok (start w)
 rw [← hargs β1 d1]
 refine (H w _ β1 w R0).mono fun e w' ⟨β2, k1, R2, k3, k4⟩ => ?_
 have hdead : ∀ i, m ≤ i → i < m + (L1.length - ((viewL views).length + 1)) → h' i = .dead := fun i hi hlt => by
  obtain ⟨b, hb⟩ := newB_mem (ρ := rho ((viewL views).length + 1) m) (l := L1.drop ((viewL views).length + 1)) hi (by rw [List.length_drop]; exact hlt)
  exact (hwr _ hb).trans (hm i hi)
 obtain ⟨β', g1, g2, g3, g4⟩ := graftRo R R2 (Nat.succ_pos _) hdead (newL_spec hnew) hv
 have d2 : Vd β2 1 views := d1.envTo fun i h1 h2 => k1 i (by rw [List.length_cons, viewL_len]; omega)
 refine ⟨β', g1, g2, hVs _ (fun i hi => ?_) g3, by rw [k4, hV β2 β' d2 g4 g1]⟩
 rw [wrs_newB, if_neg]
 ·exact hi
 ·intro ⟨h1, h2⟩
  rw [List.length_drop] at h2
  rw [hdead i h1 h2] at hi
  cases hi
theorem insS_agg (i : Ins) : (yo_ i).isAgg = true := rfl
theorem insS_plain (i : Ins) : (yo_ i).plain = true := rfl
theorem nav_ins (i : Ins) : nav (yo_ i) [] = some (True, yo_ i) := rfl
theorem xz_ (i : Ins) (pa : List Stp) : nav (yo_ i) (.f 0 0 :: pa) = nav (.int .u8 i.op) pa := rfl
theorem xy_ (i : Ins) (pa : List Stp) : nav (yo_ i) (.f 1 1 :: pa) = nav (.int .u8 i.a) pa := rfl
theorem xx_ (i : Ins) (pa : List Stp) : nav (yo_ i) (.f 2 2 :: pa) = nav (.int .u8 i.b) pa := rfl
theorem xw_ (i : Ins) (pa : List Stp) : nav (yo_ i) (.f 3 3 :: pa) = nav (.int .u8 i.c) pa := rfl
theorem xv_ (i : Ins) (pa : List Stp) : nav (yo_ i) (.f 4 4 :: pa) = nav (.int .i64 i.n) pa := rfl
theorem sndS_size (i : Snd) : (sndS i).size = 3 := rfl
theorem sndS_agg (i : Snd) : (sndS i).isAgg = true := rfl
theorem sndS_plain (i : Snd) : (sndS i).plain = true := rfl
theorem nav_snd (i : Snd) : nav (sndS i) [] = some (True, sndS i) := rfl
theorem xu_ (i : Snd) (pa : List Stp) : nav (sndS i) (.f 0 0 :: pa) = nav (.int .i64 i.port) pa := rfl
theorem xt_ (i : Snd) (pa : List Stp) : nav (sndS i) (.f 1 1 :: pa) = nav (.int .i64 i.delay) pa := rfl
theorem xs_ (i : Snd) (pa : List Stp) : nav (sndS i) (.f 2 2 :: pa) = nav (.int .i64 i.value) pa := rfl
set_option linter.defProp false
def JK := And.intro @insS_size (And.intro @insS_agg (And.intro @insS_plain (And.intro @sndS_size (And.intro @sndS_agg @sndS_plain))))
end Go.Proofs.YtjliakjbdcplcaaGreat.Vm
end
section
namespace Go.Proofs.YtjliakjbdcplcaaGreat.Vm
open Go.RowKit
attribute [local push_cast] prS zn_ i64S nav_ins xz_ xy_ xx_ xw_ xv_ nav_snd xu_ xt_ xs_ z4_ yh_ yn_ yg_ zw_ zy_ iOf sRVal sRBel sRAp evS yo_ nat_one_i inR inN
def sr (s : Sta) (x y : SV) : SV := .agg [.int .i64 s.at_, .bool s.ended, .arr 8 1 fun q => .int .i64 (s.regs q), x, .int .i64 s.draws, y]
def csl (s : Sta) (p1 : Nat) : SV := .sl 1 2 [] 1 0 s.cells.length (some p1)
def ssl (s : Sta) (p2 : Nat) : SV := .sl 3 4 [] 3 0 s.sends.length (some p2)
def nilS : SV := .sl 0 0 [] 0 0 0 (some 0)
def y2_ : SV := .agg [.nat .i64 0, .bool false, .arr 8 1 fun _ => .nat .i64 0, nilS, .nat .i64 0, nilS]
def oneL (s : Sta) : List HB := [.gone, .gone, .ro (.arr s.cells.length 1 (i64S s.cells)), .gone, .ro (.arr s.sends.length 3 (zn_ s.sends))]
structure OOk (s : Sta) (v : Evi) (x : Ins) : Prop where
 kr : RI x
 kv : VOk v
 ks : SOk s
 g : ∀ q, -9223372036854775808 ≤ s.regs q ∧ s.regs q ≤ 9223372036854775807
 n0 : -9223372036854775808 ≤ x.n
 n1 : x.n ≤ 9223372036854775807
 kb : s.sends.length ≤ 1000
theorem OOk.all {s : Sta} {v : Evi} {x : Ins} (K : OOk s v x) : x.ok ∧ x.a < 8 ∧ x.b < 8 ∧ x.c < 8 ∧ 0 ≤ s.at_ ∧ s.at_ ≤ 256 ∧ 0 ≤ s.draws ∧ s.draws ≤ 1099511627776 ∧ (-9223372036854775808 ≤ s.regs x.a.toNat ∧ s.regs x.a.toNat ≤ 9223372036854775807) ∧ (-9223372036854775808 ≤ s.regs x.b.toNat ∧ s.regs x.b.toNat ≤ 9223372036854775807) ∧ (-9223372036854775808 ≤ s.regs x.c.toNat ∧ s.regs x.c.toNat ≤ 9223372036854775807) ∧ s.sends.length ≤ 1000 ∧ s.cells.length ≤ 1024 ∧ 0 ≤ v.now ∧ v.now ≤ 281474976710656 ∧ 0 ≤ v.process ∧ v.process ≤ 65536 :=
 ⟨K.kr.ok, K.kr.a, K.kr.b, K.kr.c, K.ks.a0, K.ks.a1, K.ks.d0, K.ks.d1, K.g _, K.g _, K.g _, K.kb, K.ks.c1, K.kv.t0, K.kv.t1, K.kv.p0, K.kv.p1⟩
theorem st_den {β : Env} {a b c d e r a' b' c' d' e' r' : SV} {f g : Nat → SV} (ha : a.den β = a'.den β) (hb : b.den β = b'.den β) (hf : ∀ q, q < 8 → (f q).cl β = (g q).cl β) (hc : c.den β = c'.den β) (hd : d.den β = d'.den β) (he : e.den β = e'.den β) (hr : r.den β = r'.den β) :
  (SV.tup [.agg [a, b, .arr 8 1 f, c, d, e], r]).den β = (SV.tup [.agg [a', b', .arr 8 1 g, c', d', e'], r']).den β := by
 have h := arrCl (k := 1) hf
 have h2 : (SV.arr 8 1 f).den β = (SV.arr 8 1 g).den β := by rw [den_agg rfl, den_agg rfl, h]
 simp only [SV.den] at h2
 simp only [SV.den, denL, ha, hb, hc, hd, he, hr, h2]
theorem less_arL {t n : Nat} {σ : Nat → Nat} {b : Bool} {f : Nat → SV} (l : List Int) (h : ∀ β q, q < n → (f q).cl β = [.int .i64 (l.getD q 0)]) : Less (.own t (.arr n 1 f) b) ((HB.own t (.arr n 1 (i64S l)) b).ren σ) := by
 have e : (HB.own t (.arr n 1 (i64S l)) b).ren σ = .own t (.arr n 1 (i64S l)) b := rfl
 rw [e]
 exact .val (fun β => arrCl fun q hq => by rw [h β q hq]; rfl) (fun n1 k1 f1 e => by injection e with e1 e2 e3; subst e1 e2; exact ⟨_, rfl⟩) (fun n1 k1 f1 e => by injection e with e1 e2 e3; subst e1 e2; exact ⟨_, rfl⟩)
theorem getD_setL {l : List Int} {k q : Nat} {y : Int} (hk : k < l.length) : (l.set k y).getD q 0 = bif decide (q = k) then y else l.getD q 0 := by
 rw [List.getD_eq_getElem?_getD, List.getElem?_set, List.getD_eq_getElem?_getD]
 by_cases h : q = k
 ·subst h; simp [hk]
 ·have h' : ¬ k = q := fun e => h e.symm
  simp [h, h']
theorem less_cset {t : Nat} {σ : Nat → Nat} {b : Bool} {l : List Int} (k : Nat) (y : Int) (hk : k < l.length) : Less (.own t (.arr l.length 1 fun j => .int .i64 (bif decide (j = k) then y else l.getD j 0)) b) ((HB.own t (.arr l.length 1 (i64S (l.set k y))) b).ren σ) :=
 less_arL _ fun β q hq => by rw [getD_setL hk]; rfl
theorem less_sap {t : Nat} {σ : Nat → Nat} {l : List Snd} {y : Snd} (z : SV) : Less (.own t (.arr (l.length + 1) 3 fun q => SV.ite (decide (q < l.length)) (sndS (l.getD q ⟨0, 0, 0⟩)) ([SV.agg [.int .i64 y.port, .int .i64 y.delay, .int .i64 y.value]].getD (q - l.length) z)) false) ((HB.own t (.arr (l.length + 1) 3 (zn_ (l ++ [y]))) false).ren σ) := by
 have e2 : (fun q => (zn_ (l ++ [y]) q).ren σ) = zn_ (l ++ [y]) := by
  funext q; unfold zn_; simp only [sndS, SV.ren, renL]
 simp only [HB.ren, SV.ren, e2]
 refine .val (fun β => arrCl fun q hq => ?_) (fun n1 k1 f1 e => by injection e with e1 e2 e3; subst e1 e2; exact ⟨_, rfl⟩) (fun n1 k1 f1 e => by injection e with e1 e2 e3; subst e1 e2; exact ⟨_, rfl⟩)
 rw [y7_]
 unfold zn_
 by_cases h : q < l.length
 ·simp only [h, decide_true, cond_true, List.getD_eq_getElem?_getD, List.getElem?_append_left h]
 ·obtain rfl : q = l.length := by omega
  simp only [Nat.lt_irrefl, decide_false, cond_false, Nat.sub_self, List.getD_eq_getElem?_getD, List.getElem?_append_right (Nat.le_refl _), List.getElem?_cons_zero, Option.getD_some]
  rfl
def cOne : FuncId → Option yq_ := y3_ [(120, sRVal), (119, sRBel), (121, sRAp)]
theorem z3_ : ∀ f S, cOne f = some S → zj_ Tryz.prog f S := zp_ ⟨sRVal_ok, sRBel_ok, sRAp_ok, trivial⟩
theorem one1 (s : Sta) (v : Evi) (x : Ins) (p1 p2 : Nat) (K : OOk s v x) (ho : x.op = 1) : zo_ Tryz.prog 86 [yo_ x, evS v, sr s (csl s p1) (ssl s p2)] (oneL s) (.tup [sr { s with ended := true } (csl s p1) (ssl s p2), .int .i64 0]) (oneL s) := by
 have ⟨⟨o0, o1, a0, a1, b0, b1, c0, c1, n0, n1⟩, a2, b2, c2, at0, at1, dr0, dr1, ⟨ga0, ga1⟩, ⟨gb0, gb1⟩, ⟨gc0, gc1⟩, hb, hcl, tm0, tm1, pr0, pr1⟩ := K.all
 simp only [oneL, sr, csl, ssl, evS, yo_, y2_, nilS, List.cons_append, List.nil_append]
 refine ze_ (fn := Tryz.f86) 5 190 0 rfl rfl rfl rfl rfl u5_ rfl fun w0 M E hro => ?_
 repeat' (first | refine Ctl.h ?_ | ((with_reducible intro hif); first | (focus (cases hif; done)) | ((try simp only [JH] at hif); try (exfalso; omega))) | ((with_reducible first | apply J22 z3_ za_ | apply J23 fol z3_ za_ | apply J24); (·rfl); (· exact k60_); (try kernel_rfl); try exact k59_) | fail)
 apply At.endsRet za_ (fn := Tryz.f86) (rs := [.cell 6 105, .tmp 7]) Anc.refl hro (lb_ rfl) rfl
 ·exact yi_
 ·exact yl_
 ·exact k6_
 ·rfl
 ·exact k56_
 ·exact zs_
 ·exact k57_
 ·exact k56_
theorem one2 (s : Sta) (v : Evi) (x : Ins) (p1 p2 : Nat) (K : OOk s v x) (ho : x.op = 2) : zo_ Tryz.prog 86 [yo_ x, evS v, sr s (csl s p1) (ssl s p2)] (oneL s) (.tup [y2_, .int .i64 184]) ([.gone]) := by
 have ⟨⟨o0, o1, a0, a1, b0, b1, c0, c1, n0, n1⟩, a2, b2, c2, at0, at1, dr0, dr1, ⟨ga0, ga1⟩, ⟨gb0, gb1⟩, ⟨gc0, gc1⟩, hb, hcl, tm0, tm1, pr0, pr1⟩ := K.all
 simp only [oneL, sr, csl, ssl, evS, yo_, y2_, nilS, List.cons_append, List.nil_append]
 refine ze_ (fn := Tryz.f86) 5 190 0 rfl rfl rfl rfl rfl u5_ rfl fun w0 M E hro => ?_
 repeat' (first | refine Ctl.h ?_ | ((with_reducible intro hif); first | (focus (cases hif; done)) | ((try simp only [JH] at hif); try (exfalso; omega))) | ((with_reducible first | apply J22 z3_ za_ | apply J23 fol z3_ za_ | apply J24); (·rfl); (· exact k60_); (try kernel_rfl); try exact k59_) | fail)
 apply At.endsRet za_ (fn := Tryz.f86) (rs := [.cell 6 105, .tmp 7]) Anc.refl hro (lb_ rfl) rfl
 ·exact yi_
 ·exact yl_
 ·exact k6_
 ·rfl
 ·exact k56_
 ·exact zs_
 ·(intro β; rfl)
 ·exact k56_
theorem one3 (s : Sta) (v : Evi) (x : Ins) (p1 p2 : Nat) (K : OOk s v x) (ho : x.op = 3) : zo_ Tryz.prog 86 [yo_ x, evS v, sr s (csl s p1) (ssl s p2)] (oneL s) (.tup [sr (s.put x.a.toNat x.n) (csl s p1) (ssl s p2), .int .i64 0]) (oneL s) := by
 have ⟨⟨o0, o1, a0, a1, b0, b1, c0, c1, n0, n1⟩, a2, b2, c2, at0, at1, dr0, dr1, ⟨ga0, ga1⟩, ⟨gb0, gb1⟩, ⟨gc0, gc1⟩, hb, hcl, tm0, tm1, pr0, pr1⟩ := K.all
 simp only [oneL, sr, csl, ssl, evS, yo_, y2_, nilS, List.cons_append, List.nil_append]
 refine ze_ (fn := Tryz.f86) 5 190 0 rfl rfl rfl rfl rfl u5_ rfl fun w0 M E hro => ?_
 repeat' (first | refine Ctl.h ?_ | ((with_reducible intro hif); first | (focus (cases hif; done)) | ((try simp only [JH] at hif); try (exfalso; omega))) | ((with_reducible first | apply J22 z3_ za_ | apply J23 fol z3_ za_ | apply J24); (·rfl); (· exact k60_); (try kernel_rfl); try exact k59_) | fail)
 apply At.endsRet za_ (fn := Tryz.f86) (rs := [.cell 6 105, .tmp 7]) Anc.refl hro (lb_ rfl) rfl
 ·exact yi_
 ·exact yl_
 ·exact k6_
 ·rfl
 ·exact k56_
 ·exact zs_
 ·exact k57_
 ·exact k56_
theorem one4 (s : Sta) (v : Evi) (x : Ins) (p1 p2 : Nat) (K : OOk s v x) (ho : x.op = 4) : zo_ Tryz.prog 86 [yo_ x, evS v, sr s (csl s p1) (ssl s p2)] (oneL s) (.tup [sr (s.put x.a.toNat (s.regs x.b.toNat)) (csl s p1) (ssl s p2), .int .i64 0]) (oneL s) := by
 have ⟨⟨o0, o1, a0, a1, b0, b1, c0, c1, n0, n1⟩, a2, b2, c2, at0, at1, dr0, dr1, ⟨ga0, ga1⟩, ⟨gb0, gb1⟩, ⟨gc0, gc1⟩, hb, hcl, tm0, tm1, pr0, pr1⟩ := K.all
 simp only [oneL, sr, csl, ssl, evS, yo_, y2_, nilS, List.cons_append, List.nil_append]
 refine ze_ (fn := Tryz.f86) 5 190 0 rfl rfl rfl rfl rfl u5_ rfl fun w0 M E hro => ?_
 repeat' (first | refine Ctl.h ?_ | ((with_reducible intro hif); first | (focus (cases hif; done)) | ((try simp only [JH] at hif); try (exfalso; omega))) | ((with_reducible first | apply J22 z3_ za_ | apply J23 fol z3_ za_ | apply J24); (·rfl); (· exact k60_); (try kernel_rfl); try exact k59_) | fail)
 apply At.endsRet za_ (fn := Tryz.f86) (rs := [.cell 6 105, .tmp 7]) Anc.refl hro (lb_ rfl) rfl
 ·exact yi_
 ·exact yl_
 ·exact k6_
 ·rfl
 ·exact k56_
 ·exact zs_
 ·exact k57_
 ·exact k56_
theorem one5e1 (s : Sta) (v : Evi) (x : Ins) (p1 p2 : Nat) (K : OOk s v x) (ho : x.op = 5) (h1 : s.regs x.b.toNat < 0) : zo_ Tryz.prog 86 [yo_ x, evS v, sr s (csl s p1) (ssl s p2)] (oneL s) (.tup [y2_, .int .i64 185]) ([.gone]) := by
 have ⟨⟨o0, o1, a0, a1, b0, b1, c0, c1, n0, n1⟩, a2, b2, c2, at0, at1, dr0, dr1, ⟨ga0, ga1⟩, ⟨gb0, gb1⟩, ⟨gc0, gc1⟩, hb, hcl, tm0, tm1, pr0, pr1⟩ := K.all
 simp only [oneL, sr, csl, ssl, evS, yo_, y2_, nilS, List.cons_append, List.nil_append]
 refine ze_ (fn := Tryz.f86) 5 190 0 rfl rfl rfl rfl rfl u5_ rfl fun w0 M E hro => ?_
 repeat' (first | refine Ctl.h ?_ | ((with_reducible intro hif); first | (focus (cases hif; done)) | ((try simp only [JH] at hif); try (exfalso; omega))) | ((with_reducible first | apply J22 z3_ za_ | apply J23 fol z3_ za_ | apply J24); (·rfl); (· exact k61_); (try kernel_rfl); try exact k59_) | fail)
 apply At.endsRet za_ (fn := Tryz.f86) (rs := [.cell 6 105, .tmp 7]) Anc.refl hro (lb_ rfl) rfl
 ·exact yi_
 ·exact yl_
 ·exact k6_
 ·rfl
 ·exact k56_
 ·exact zs_
 ·(intro β; rfl)
 ·exact k56_
theorem one5e2 (s : Sta) (v : Evi) (x : Ins) (p1 p2 : Nat) (K : OOk s v x) (ho : x.op = 5) (h1 : ¬ s.regs x.b.toNat < 0) (h2 : (s.cells.length : Int) ≤ s.regs x.b.toNat) : zo_ Tryz.prog 86 [yo_ x, evS v, sr s (csl s p1) (ssl s p2)] (oneL s) (.tup [y2_, .int .i64 185]) ([.gone]) := by
 have ⟨⟨o0, o1, a0, a1, b0, b1, c0, c1, n0, n1⟩, a2, b2, c2, at0, at1, dr0, dr1, ⟨ga0, ga1⟩, ⟨gb0, gb1⟩, ⟨gc0, gc1⟩, hb, hcl, tm0, tm1, pr0, pr1⟩ := K.all
 simp only [oneL, sr, csl, ssl, evS, yo_, y2_, nilS, List.cons_append, List.nil_append]
 refine ze_ (fn := Tryz.f86) 5 190 0 rfl rfl rfl rfl rfl u5_ rfl fun w0 M E hro => ?_
 repeat' (first | refine Ctl.h ?_ | ((with_reducible intro hif); first | (focus (cases hif; done)) | ((try simp only [JH] at hif); try (exfalso; omega))) | ((with_reducible first | apply J22 z3_ za_ | apply J23 fol z3_ za_ | apply J24); (·rfl); (· exact k62_); (try kernel_rfl); try exact k59_) | fail)
 apply At.endsRet za_ (fn := Tryz.f86) (rs := [.cell 6 105, .tmp 7]) Anc.refl hro (lb_ rfl) rfl
 ·exact yi_
 ·exact yl_
 ·exact k6_
 ·rfl
 ·exact k56_
 ·exact zs_
 ·(intro β; rfl)
 ·exact k56_
theorem one5 (s : Sta) (v : Evi) (x : Ins) (p1 p2 : Nat) (K : OOk s v x) (ho : x.op = 5) (h1 : ¬ s.regs x.b.toNat < 0) (h2 : ¬ (s.cells.length : Int) ≤ s.regs x.b.toNat) : zo_ Tryz.prog 86 [yo_ x, evS v, sr s (csl s p1) (ssl s p2)] (oneL s) (.tup [sr (s.put x.a.toNat (s.cells.getD (s.regs x.b.toNat).toNat 0)) (csl s p1) (ssl s p2), .int .i64 0]) (oneL s) := by
 have ⟨⟨o0, o1, a0, a1, b0, b1, c0, c1, n0, n1⟩, a2, b2, c2, at0, at1, dr0, dr1, ⟨ga0, ga1⟩, ⟨gb0, gb1⟩, ⟨gc0, gc1⟩, hb, hcl, tm0, tm1, pr0, pr1⟩ := K.all
 simp only [oneL, sr, csl, ssl, evS, yo_, y2_, nilS, List.cons_append, List.nil_append]
 refine ze_ (fn := Tryz.f86) 5 190 0 rfl rfl rfl rfl rfl u5_ rfl fun w0 M E hro => ?_
 repeat' (first | refine Ctl.h ?_ | ((with_reducible intro hif); first | (focus (cases hif; done)) | ((try simp only [JH] at hif); try (exfalso; omega))) | ((with_reducible first | apply J22 z3_ za_ | apply J23 fol z3_ za_ | apply J24); (·rfl); (· exact k62_); (try kernel_rfl); try exact k59_) | fail)
 apply At.endsRet za_ (fn := Tryz.f86) (rs := [.cell 6 105, .tmp 7]) Anc.refl hro (lb_ rfl) rfl
 ·exact yi_
 ·exact yl_
 ·exact k6_
 ·rfl
 ·exact k56_
 ·exact zs_
 ·exact k57_
 ·exact k56_
theorem one6e1 (s : Sta) (v : Evi) (x : Ins) (p1 p2 : Nat) (K : OOk s v x) (ho : x.op = 6) (h1 : s.regs x.b.toNat < 0) : zo_ Tryz.prog 86 [yo_ x, evS v, sr s (csl s p1) (ssl s p2)] (oneL s) (.tup [y2_, .int .i64 185]) ([.gone]) := by
 have ⟨⟨o0, o1, a0, a1, b0, b1, c0, c1, n0, n1⟩, a2, b2, c2, at0, at1, dr0, dr1, ⟨ga0, ga1⟩, ⟨gb0, gb1⟩, ⟨gc0, gc1⟩, hb, hcl, tm0, tm1, pr0, pr1⟩ := K.all
 simp only [oneL, sr, csl, ssl, evS, yo_, y2_, nilS, List.cons_append, List.nil_append]
 refine ze_ (fn := Tryz.f86) 5 190 0 rfl rfl rfl rfl rfl u5_ rfl fun w0 M E hro => ?_
 repeat' (first | refine Ctl.h ?_ | ((with_reducible intro hif); first | (focus (cases hif; done)) | ((try simp only [JH] at hif); try (exfalso; omega))) | ((with_reducible first | apply J22 z3_ za_ | apply J23 fol z3_ za_ | apply J24); (·rfl); (· exact k61_); (try kernel_rfl); try exact k59_) | fail)
 apply At.endsRet za_ (fn := Tryz.f86) (rs := [.cell 6 105, .tmp 7]) Anc.refl hro (lb_ rfl) rfl
 ·exact yi_
 ·exact yl_
 ·exact k6_
 ·rfl
 ·exact k56_
 ·exact zs_
 ·(intro β; rfl)
 ·exact k56_
theorem one6e2 (s : Sta) (v : Evi) (x : Ins) (p1 p2 : Nat) (K : OOk s v x) (ho : x.op = 6) (h1 : ¬ s.regs x.b.toNat < 0) (h2 : (s.cells.length : Int) ≤ s.regs x.b.toNat) : zo_ Tryz.prog 86 [yo_ x, evS v, sr s (csl s p1) (ssl s p2)] (oneL s) (.tup [y2_, .int .i64 185]) ([.gone]) := by
 have ⟨⟨o0, o1, a0, a1, b0, b1, c0, c1, n0, n1⟩, a2, b2, c2, at0, at1, dr0, dr1, ⟨ga0, ga1⟩, ⟨gb0, gb1⟩, ⟨gc0, gc1⟩, hb, hcl, tm0, tm1, pr0, pr1⟩ := K.all
 simp only [oneL, sr, csl, ssl, evS, yo_, y2_, nilS, List.cons_append, List.nil_append]
 refine ze_ (fn := Tryz.f86) 5 190 0 rfl rfl rfl rfl rfl u5_ rfl fun w0 M E hro => ?_
 repeat' (first | refine Ctl.h ?_ | ((with_reducible intro hif); first | (focus (cases hif; done)) | ((try simp only [JH] at hif); try (exfalso; omega))) | ((with_reducible first | apply J22 z3_ za_ | apply J23 fol z3_ za_ | apply J24); (·rfl); (· exact k62_); (try kernel_rfl); try exact k59_) | fail)
 apply At.endsRet za_ (fn := Tryz.f86) (rs := [.cell 6 105, .tmp 7]) Anc.refl hro (lb_ rfl) rfl
 ·exact yi_
 ·exact yl_
 ·exact k6_
 ·rfl
 ·exact k56_
 ·exact zs_
 ·(intro β; rfl)
 ·exact k56_
theorem one6 (s : Sta) (v : Evi) (x : Ins) (p1 p2 : Nat) (K : OOk s v x) (ho : x.op = 6) (h1 : ¬ s.regs x.b.toNat < 0) (h2 : ¬ (s.cells.length : Int) ≤ s.regs x.b.toNat) : zo_ Tryz.prog 86 [yo_ x, evS v, sr s (csl s p1) (ssl s p2)] (oneL s) (.tup [sr { s with cells := s.cells.set (s.regs x.b.toNat).toNat (s.regs x.a.toNat), at_ := s.at_ + 1 } (.sl 5 5 [] 1 0 s.cells.length none) (ssl s p2), .int .i64 0]) (oneL s ++ [.own 2 (.arr s.cells.length 1 (i64S (s.cells.set (s.regs x.b.toNat).toNat (s.regs x.a.toNat)))) false]) := by
 have ⟨⟨o0, o1, a0, a1, b0, b1, c0, c1, n0, n1⟩, a2, b2, c2, at0, at1, dr0, dr1, ⟨ga0, ga1⟩, ⟨gb0, gb1⟩, ⟨gc0, gc1⟩, hb, hcl, tm0, tm1, pr0, pr1⟩ := K.all
 simp only [oneL, sr, csl, ssl, evS, yo_, y2_, nilS, List.cons_append, List.nil_append]
 refine ze_ (fn := Tryz.f86) 5 190 0 rfl rfl rfl rfl rfl u5_ rfl fun w0 M E hro => ?_
 repeat' (first | refine Ctl.h ?_ | ((with_reducible intro hif); first | (focus (cases hif; done)) | ((try simp only [JH] at hif); try (exfalso; omega))) | ((with_reducible first | apply J22 z3_ za_ | apply J23 fol z3_ za_ | apply J24); (·rfl); (· exact k62_); (try kernel_rfl); try exact k59_) | fail)
 apply At.endsPick [0, 1, 2, 3, 4, 10] za_ (fn := Tryz.f86) (rs := [.cell 6 105, .tmp 7]) Anc.refl hro (lb_ rfl) rfl
 ·exact yi_
 ·exact xf_
 ·rfl
 ·rfl
 ·rfl
 ·(repeat' (first | exact trivial | exact .inl rfl | exact .inr (.same _) | exact .inr .loose | exact .inr (.arr (by assumption)) | apply And.intro | (exact .inr (less_cset _ _ (by omega)))))
 ·rfl
 ·exact k56_
 ·exact zs_
 ·exact k57_
 ·exact k56_
end Go.Proofs.YtjliakjbdcplcaaGreat.Vm
end
section
namespace Go.Proofs.YtjliakjbdcplcaaGreat.Vm
open Go.RowKit
attribute [local push_cast] prS zn_ i64S nav_ins xz_ xy_ xx_ xw_ xv_ nav_snd xu_ xt_ xs_ z4_ yh_ yn_ yg_ zw_ zy_ iOf cOne sRVal sRBel sRAp sr csl ssl evS yo_ oneL nat_one_i inR inN
theorem one7e1 (s : Sta) (v : Evi) (x : Ins) (p1 p2 : Nat) (K : OOk s v x) (ho : x.op = 7) (h1 : s.regs x.b.toNat < 1) : zo_ Tryz.prog 86 [yo_ x, evS v, sr s (csl s p1) (ssl s p2)] (oneL s) (.tup [y2_, .int .i64 186]) ([.gone]) := by
 have ⟨⟨o0, o1, a0, a1, b0, b1, c0, c1, n0, n1⟩, a2, b2, c2, at0, at1, dr0, dr1, ⟨ga0, ga1⟩, ⟨gb0, gb1⟩, ⟨gc0, gc1⟩, hb, hcl, tm0, tm1, pr0, pr1⟩ := K.all
 simp only [oneL, sr, csl, ssl, evS, yo_, y2_, nilS, List.cons_append, List.nil_append]
 refine ze_ (fn := Tryz.f86) 5 190 0 rfl rfl rfl rfl rfl u5_ rfl fun w0 M E hro => ?_
 repeat' (first | refine Ctl.h ?_ | ((with_reducible intro hif); first | (focus (cases hif; done)) | ((try simp only [JH] at hif); try (exfalso; omega))) | ((with_reducible first | apply J22 z3_ za_ | apply J23 fol z3_ za_ | apply J24); (·rfl); (· exact k63_); (try kernel_rfl); try exact k59_) | fail)
 apply At.endsRet za_ (fn := Tryz.f86) (rs := [.cell 6 105, .tmp 7]) Anc.refl hro (lb_ rfl) rfl
 ·exact yi_
 ·exact yl_
 ·exact k6_
 ·rfl
 ·exact k56_
 ·exact zs_
 ·(intro β; rfl)
 ·exact k56_
theorem one7e2 (s : Sta) (v : Evi) (x : Ins) (p1 p2 : Nat) (K : OOk s v x) (ho : x.op = 7) (h1 : ¬ s.regs x.b.toNat < 1) (h2 : s.draws = 1099511627776) : zo_ Tryz.prog 86 [yo_ x, evS v, sr s (csl s p1) (ssl s p2)] (oneL s) (.tup [y2_, .int .i64 187]) ([.gone]) := by
 have ⟨⟨o0, o1, a0, a1, b0, b1, c0, c1, n0, n1⟩, a2, b2, c2, at0, at1, dr0, dr1, ⟨ga0, ga1⟩, ⟨gb0, gb1⟩, ⟨gc0, gc1⟩, hb, hcl, tm0, tm1, pr0, pr1⟩ := K.all
 simp only [oneL, sr, csl, ssl, evS, yo_, y2_, nilS, List.cons_append, List.nil_append]
 refine ze_ (fn := Tryz.f86) 5 190 0 rfl rfl rfl rfl rfl u5_ rfl fun w0 M E hro => ?_
 repeat' (first | refine Ctl.h ?_ | ((with_reducible intro hif); first | (focus (cases hif; done)) | ((try simp only [JH] at hif); try (exfalso; omega))) | ((with_reducible first | apply J22 z3_ za_ | apply J23 fol z3_ za_ | apply J24); (·rfl); (· (simp only [push_cast, ↓JP, Nat.reduceAdd, Nat.reduceEqDiff, Nat.reduceLT, Nat.reduceMul, Nat.reduceLeDiff, reduceCtorEq, reduceIte, ↓JK, Int.cast_ofNat_Int, ho, h1, (eq_true h2)]; rfl)); (try kernel_rfl); try exact k59_) | fail)
 apply At.endsRet za_ (fn := Tryz.f86) (rs := [.cell 6 105, .tmp 7]) Anc.refl hro (lb_ rfl) rfl
 ·exact yi_
 ·exact yl_
 ·exact k6_
 ·rfl
 ·exact k56_
 ·exact zs_
 ·(intro β; rfl)
 ·exact k56_
theorem one7 (s : Sta) (v : Evi) (x : Ins) (p1 p2 : Nat) (K : OOk s v x) (ho : x.op = 7) (h1 : ¬ s.regs x.b.toNat < 1) (h2 : ¬ s.draws = 1099511627776) : zo_ Tryz.prog 86 [yo_ x, evS v, sr s (csl s p1) (ssl s p2)] (oneL s) (.tup [sr { s.put x.a.toNat (drawI v.seed v.process s.draws (s.regs x.b.toNat)) with draws := s.draws + 1 } (csl s p1) (ssl s p2), .int .i64 0]) (oneL s) := by
 have ⟨⟨o0, o1, a0, a1, b0, b1, c0, c1, n0, n1⟩, a2, b2, c2, at0, at1, dr0, dr1, ⟨ga0, ga1⟩, ⟨gb0, gb1⟩, ⟨gc0, gc1⟩, hb, hcl, tm0, tm1, pr0, pr1⟩ := K.all
 obtain ⟨Y, hY⟩ : ∃ Y, valueI v.seed v.process s.draws = Y := ⟨_, rfl⟩
 have hyb := valueI_bd v.seed v.process s.draws
 rw [hY] at hyb
 have hD : drawI v.seed v.process s.draws (s.regs x.b.toNat) = belowI Y (s.regs x.b.toNat) := by rw [drawI, hY]
 rw [hD]
 simp only [oneL, sr, csl, ssl, evS, yo_, y2_, nilS, List.cons_append, List.nil_append]
 refine ze_ (fn := Tryz.f86) 5 190 0 rfl rfl rfl rfl rfl u5_ rfl fun w0 M E hro => ?_
 repeat' (first | refine Ctl.h ?_ | ((with_reducible intro hif); first | (focus (cases hif; done)) | ((try simp only [JH] at hif); try (exfalso; omega))) | ((with_reducible first | apply J22 z3_ za_ | apply J23 fol z3_ za_ | apply J24); (·rfl); (· (simp only [push_cast, ↓JP, Nat.reduceAdd, Nat.reduceEqDiff, Nat.reduceLT, Nat.reduceMul, Nat.reduceLeDiff, reduceCtorEq, reduceIte, ↓JK, Int.cast_ofNat_Int, ho, h1, h2, hY]; rfl)); (try kernel_rfl); try exact k59_) | fail)
 apply At.endsRet za_ (fn := Tryz.f86) (rs := [.cell 6 105, .tmp 7]) Anc.refl hro (lb_ rfl) rfl
 ·exact yi_
 ·exact yl_
 ·exact k6_
 ·rfl
 ·exact k56_
 ·exact zs_
 ·exact k57_
 ·exact k56_
theorem one8e1 (s : Sta) (v : Evi) (x : Ins) (p1 p2 : Nat) (K : OOk s v x) (ho : x.op = 8) (h1 : v.ports ≤ x.n) : zo_ Tryz.prog 86 [yo_ x, evS v, sr s (csl s p1) (ssl s p2)] (oneL s) (.tup [y2_, .int .i64 188]) ([.gone]) := by
 have ⟨⟨o0, o1, a0, a1, b0, b1, c0, c1, n0, n1⟩, a2, b2, c2, at0, at1, dr0, dr1, ⟨ga0, ga1⟩, ⟨gb0, gb1⟩, ⟨gc0, gc1⟩, hb, hcl, tm0, tm1, pr0, pr1⟩ := K.all
 simp only [oneL, sr, csl, ssl, evS, yo_, y2_, nilS, List.cons_append, List.nil_append]
 refine ze_ (fn := Tryz.f86) 5 190 0 rfl rfl rfl rfl rfl u5_ rfl fun w0 M E hro => ?_
 repeat' (first | refine Ctl.h ?_ | ((with_reducible intro hif); first | (focus (cases hif; done)) | ((try simp only [JH] at hif); try (exfalso; omega))) | ((with_reducible first | apply J22 z3_ za_ | apply J23 fol z3_ za_ | apply J24); (·rfl); (· exact k63_); (try kernel_rfl); try exact k59_) | fail)
 apply At.endsRet za_ (fn := Tryz.f86) (rs := [.cell 6 105, .tmp 7]) Anc.refl hro (lb_ rfl) rfl
 ·exact yi_
 ·exact yl_
 ·exact k6_
 ·rfl
 ·exact k56_
 ·exact zs_
 ·(intro β; rfl)
 ·exact k56_
theorem one8e2 (s : Sta) (v : Evi) (x : Ins) (p1 p2 : Nat) (K : OOk s v x) (ho : x.op = 8) (h1 : ¬ v.ports ≤ x.n) (h2 : s.regs x.a.toNat < v.look) : zo_ Tryz.prog 86 [yo_ x, evS v, sr s (csl s p1) (ssl s p2)] (oneL s) (.tup [y2_, .int .i64 189]) ([.gone]) := by
 have ⟨⟨o0, o1, a0, a1, b0, b1, c0, c1, n0, n1⟩, a2, b2, c2, at0, at1, dr0, dr1, ⟨ga0, ga1⟩, ⟨gb0, gb1⟩, ⟨gc0, gc1⟩, hb, hcl, tm0, tm1, pr0, pr1⟩ := K.all
 simp only [oneL, sr, csl, ssl, evS, yo_, y2_, nilS, List.cons_append, List.nil_append]
 refine ze_ (fn := Tryz.f86) 5 190 0 rfl rfl rfl rfl rfl u5_ rfl fun w0 M E hro => ?_
 repeat' (first | refine Ctl.h ?_ | ((with_reducible intro hif); first | (focus (cases hif; done)) | ((try simp only [JH] at hif); try (exfalso; omega))) | ((with_reducible first | apply J22 z3_ za_ | apply J23 fol z3_ za_ | apply J24); (·rfl); (· (simp only [push_cast, ↓JP, Nat.reduceAdd, Nat.reduceEqDiff, Nat.reduceLT, Nat.reduceMul, Nat.reduceLeDiff, reduceCtorEq, reduceIte, ↓JK, Int.cast_ofNat_Int, ho, h1, h2]; rfl)); (try kernel_rfl); try exact k59_) | fail)
 apply At.endsRet za_ (fn := Tryz.f86) (rs := [.cell 6 105, .tmp 7]) Anc.refl hro (lb_ rfl) rfl
 ·exact yi_
 ·exact yl_
 ·exact k6_
 ·rfl
 ·exact k56_
 ·exact zs_
 ·(intro β; rfl)
 ·exact k56_
theorem one8e3 (s : Sta) (v : Evi) (x : Ins) (p1 p2 : Nat) (K : OOk s v x) (ho : x.op = 8) (h1 : ¬ v.ports ≤ x.n) (h2 : ¬ s.regs x.a.toNat < v.look) (h3 : 281474976710656 - v.now < s.regs x.a.toNat) : zo_ Tryz.prog 86 [yo_ x, evS v, sr s (csl s p1) (ssl s p2)] (oneL s) (.tup [y2_, .int .i64 1800]) ([.gone]) := by
 have ⟨⟨o0, o1, a0, a1, b0, b1, c0, c1, n0, n1⟩, a2, b2, c2, at0, at1, dr0, dr1, ⟨ga0, ga1⟩, ⟨gb0, gb1⟩, ⟨gc0, gc1⟩, hb, hcl, tm0, tm1, pr0, pr1⟩ := K.all
 simp only [oneL, sr, csl, ssl, evS, yo_, y2_, nilS, List.cons_append, List.nil_append]
 refine ze_ (fn := Tryz.f86) 5 190 0 rfl rfl rfl rfl rfl u5_ rfl fun w0 M E hro => ?_
 repeat' (first | refine Ctl.h ?_ | ((with_reducible intro hif); first | (focus (cases hif; done)) | ((try simp only [JH] at hif); try (exfalso; omega))) | ((with_reducible first | apply J22 z3_ za_ | apply J23 fol z3_ za_ | apply J24); (·rfl); (· (simp only [push_cast, ↓JP, Nat.reduceAdd, Nat.reduceEqDiff, Nat.reduceLT, Nat.reduceMul, Nat.reduceLeDiff, reduceCtorEq, reduceIte, ↓JK, Int.cast_ofNat_Int, ho, h1, h2, h3]; rfl)); (try kernel_rfl); try exact k59_) | fail)
 apply At.endsRet za_ (fn := Tryz.f86) (rs := [.cell 6 105, .tmp 7]) Anc.refl hro (lb_ rfl) rfl
 ·exact yi_
 ·exact yl_
 ·exact k6_
 ·rfl
 ·exact k56_
 ·exact zs_
 ·(intro β; rfl)
 ·exact k56_
theorem one8e4 (s : Sta) (v : Evi) (x : Ins) (p1 p2 : Nat) (K : OOk s v x) (ho : x.op = 8) (h1 : ¬ v.ports ≤ x.n) (h2 : ¬ s.regs x.a.toNat < v.look) (h3 : ¬ 281474976710656 - v.now < s.regs x.a.toNat) (h4 : 256 ≤ s.sends.length) : zo_ Tryz.prog 86 [yo_ x, evS v, sr s (csl s p1) (ssl s p2)] (oneL s) (.tup [y2_, .int .i64 1801]) ([.gone]) := by
 have ⟨⟨o0, o1, a0, a1, b0, b1, c0, c1, n0, n1⟩, a2, b2, c2, at0, at1, dr0, dr1, ⟨ga0, ga1⟩, ⟨gb0, gb1⟩, ⟨gc0, gc1⟩, hb, hcl, tm0, tm1, pr0, pr1⟩ := K.all
 simp only [oneL, sr, csl, ssl, evS, yo_, y2_, nilS, List.cons_append, List.nil_append]
 refine ze_ (fn := Tryz.f86) 5 190 0 rfl rfl rfl rfl rfl u5_ rfl fun w0 M E hro => ?_
 repeat' (first | refine Ctl.h ?_ | ((with_reducible intro hif); first | (focus (cases hif; done)) | ((try simp only [JH] at hif); try (exfalso; omega))) | ((with_reducible first | apply J22 z3_ za_ | apply J23 fol z3_ za_ | apply J24); (·rfl); (· exact k64_); (try kernel_rfl); try exact k59_) | fail)
 apply At.endsRet za_ (fn := Tryz.f86) (rs := [.cell 6 105, .tmp 7]) Anc.refl hro (lb_ rfl) rfl
 ·exact yi_
 ·exact yl_
 ·exact k6_
 ·rfl
 ·exact k56_
 ·exact zs_
 ·(intro β; rfl)
 ·exact k56_
theorem one8 (s : Sta) (v : Evi) (x : Ins) (p1 p2 : Nat) (K : OOk s v x) (ho : x.op = 8) (h1 : ¬ v.ports ≤ x.n) (h2 : ¬ s.regs x.a.toNat < v.look) (h3 : ¬ 281474976710656 - v.now < s.regs x.a.toNat) (h4 : ¬ 256 ≤ s.sends.length) : zo_ Tryz.prog 86 [yo_ x, evS v, sr s (csl s p1) (ssl s p2)] (oneL s) (.tup [sr { s with at_ := s.at_ + 1, sends := s.sends ++ [⟨x.n, s.regs x.a.toNat, s.regs x.b.toNat⟩] } (csl s p1) (.sl 5 5 [] 3 0 (s.sends.length + 1) none), .int .i64 0]) (oneL s ++ [.own 177 (.arr (s.sends.length + 1) 3 (zn_ (s.sends ++ [⟨x.n, s.regs x.a.toNat, s.regs x.b.toNat⟩]))) false]) := by
 have ⟨⟨o0, o1, a0, a1, b0, b1, c0, c1, n0, n1⟩, a2, b2, c2, at0, at1, dr0, dr1, ⟨ga0, ga1⟩, ⟨gb0, gb1⟩, ⟨gc0, gc1⟩, hb, hcl, tm0, tm1, pr0, pr1⟩ := K.all
 simp only [oneL, sr, csl, ssl, evS, yo_, y2_, nilS, List.cons_append, List.nil_append]
 refine ze_ (fn := Tryz.f86) 5 190 0 rfl rfl rfl rfl rfl u5_ rfl fun w0 M E hro => ?_
 repeat' (first | refine Ctl.h ?_ | ((with_reducible intro hif); first | (focus (cases hif; done)) | ((try simp only [JH] at hif); try (exfalso; omega))) | ((with_reducible first | apply J22 z3_ za_ | apply J23 fol z3_ za_ | apply J24); (·rfl); (· exact k64_); (try kernel_rfl); try exact k59_) | fail)
 apply At.endsPick [0, 1, 2, 3, 4, 12] za_ (fn := Tryz.f86) (rs := [.cell 6 105, .tmp 7]) Anc.refl hro (lb_ rfl) rfl
 ·exact yi_
 ·exact xf_
 ·rfl
 ·rfl
 ·rfl
 ·(repeat' (first | exact trivial | exact .inl rfl | exact .inr (.same _) | exact .inr .loose | exact .inr (.arr (by assumption)) | apply And.intro | (exact .inr (less_sap (y := ⟨x.n, s.regs x.a.toNat, s.regs x.b.toNat⟩) _))))
 ·rfl
 ·exact k56_
 ·exact zs_
 ·exact k57_
 ·exact k56_
theorem one9 (s : Sta) (v : Evi) (x : Ins) (p1 p2 : Nat) (K : OOk s v x) (ho : x.op = 9) : zo_ Tryz.prog 86 [yo_ x, evS v, sr s (csl s p1) (ssl s p2)] (oneL s) (.tup [sr { s with at_ := x.n } (csl s p1) (ssl s p2), .int .i64 0]) (oneL s) := by
 have ⟨⟨o0, o1, a0, a1, b0, b1, c0, c1, n0, n1⟩, a2, b2, c2, at0, at1, dr0, dr1, ⟨ga0, ga1⟩, ⟨gb0, gb1⟩, ⟨gc0, gc1⟩, hb, hcl, tm0, tm1, pr0, pr1⟩ := K.all
 simp only [oneL, sr, csl, ssl, evS, yo_, y2_, nilS, List.cons_append, List.nil_append]
 refine ze_ (fn := Tryz.f86) 5 190 0 rfl rfl rfl rfl rfl u5_ rfl fun w0 M E hro => ?_
 repeat' (first | refine Ctl.h ?_ | ((with_reducible intro hif); first | (focus (cases hif; done)) | ((try simp only [JH] at hif); try (exfalso; omega))) | ((with_reducible first | apply J22 z3_ za_ | apply J23 fol z3_ za_ | apply J24); (·rfl); (· (simp only [push_cast, ↓JP, Nat.reduceAdd, Nat.reduceEqDiff, Nat.reduceLT, Nat.reduceMul, Nat.reduceLeDiff, reduceCtorEq, reduceIte, ↓JK, Int.cast_ofNat_Int, ho]; rfl)); (try kernel_rfl); try exact k59_) | fail)
 apply At.endsRet za_ (fn := Tryz.f86) (rs := [.cell 6 105, .tmp 7]) Anc.refl hro (lb_ rfl) rfl
 ·exact yi_
 ·exact yl_
 ·exact k6_
 ·rfl
 ·exact k56_
 ·exact zs_
 ·exact k57_
 ·exact k56_
theorem one10a (s : Sta) (v : Evi) (x : Ins) (p1 p2 : Nat) (K : OOk s v x) (ho : x.op = 10) (h1 : s.regs x.a.toNat = 0) : zo_ Tryz.prog 86 [yo_ x, evS v, sr s (csl s p1) (ssl s p2)] (oneL s) (.tup [sr { s with at_ := x.n } (csl s p1) (ssl s p2), .int .i64 0]) (oneL s) := by
 have ⟨⟨o0, o1, a0, a1, b0, b1, c0, c1, n0, n1⟩, a2, b2, c2, at0, at1, dr0, dr1, ⟨ga0, ga1⟩, ⟨gb0, gb1⟩, ⟨gc0, gc1⟩, hb, hcl, tm0, tm1, pr0, pr1⟩ := K.all
 simp only [oneL, sr, csl, ssl, evS, yo_, y2_, nilS, List.cons_append, List.nil_append]
 refine ze_ (fn := Tryz.f86) 5 190 0 rfl rfl rfl rfl rfl u5_ rfl fun w0 M E hro => ?_
 repeat' (first | refine Ctl.h ?_ | ((with_reducible intro hif); first | (focus (cases hif; done)) | ((try simp only [JH] at hif); try (exfalso; omega))) | ((with_reducible first | apply J22 z3_ za_ | apply J23 fol z3_ za_ | apply J24); (·rfl); (· (simp only [push_cast, ↓JP, Nat.reduceAdd, Nat.reduceEqDiff, Nat.reduceLT, Nat.reduceMul, Nat.reduceLeDiff, reduceCtorEq, reduceIte, ↓JK, Int.cast_ofNat_Int, ho, (eq_true h1)]; rfl)); (try kernel_rfl); try exact k59_) | fail)
 apply At.endsRet za_ (fn := Tryz.f86) (rs := [.cell 6 105, .tmp 7]) Anc.refl hro (lb_ rfl) rfl
 ·exact yi_
 ·exact yl_
 ·exact k6_
 ·rfl
 ·exact k56_
 ·exact zs_
 ·exact k57_
 ·exact k56_
theorem one10b (s : Sta) (v : Evi) (x : Ins) (p1 p2 : Nat) (K : OOk s v x) (ho : x.op = 10) (h1 : ¬ s.regs x.a.toNat = 0) : zo_ Tryz.prog 86 [yo_ x, evS v, sr s (csl s p1) (ssl s p2)] (oneL s) (.tup [sr { s with at_ := s.at_ + 1 } (csl s p1) (ssl s p2), .int .i64 0]) (oneL s) := by
 have ⟨⟨o0, o1, a0, a1, b0, b1, c0, c1, n0, n1⟩, a2, b2, c2, at0, at1, dr0, dr1, ⟨ga0, ga1⟩, ⟨gb0, gb1⟩, ⟨gc0, gc1⟩, hb, hcl, tm0, tm1, pr0, pr1⟩ := K.all
 simp only [oneL, sr, csl, ssl, evS, yo_, y2_, nilS, List.cons_append, List.nil_append]
 refine ze_ (fn := Tryz.f86) 5 190 0 rfl rfl rfl rfl rfl u5_ rfl fun w0 M E hro => ?_
 repeat' (first | refine Ctl.h ?_ | ((with_reducible intro hif); first | (focus (cases hif; done)) | ((try simp only [JH] at hif); try (exfalso; omega))) | ((with_reducible first | apply J22 z3_ za_ | apply J23 fol z3_ za_ | apply J24); (·rfl); (· exact k63_); (try kernel_rfl); try exact k59_) | fail)
 apply At.endsRet za_ (fn := Tryz.f86) (rs := [.cell 6 105, .tmp 7]) Anc.refl hro (lb_ rfl) rfl
 ·exact yi_
 ·exact yl_
 ·exact k6_
 ·rfl
 ·exact k56_
 ·exact zs_
 ·exact k57_
 ·exact k56_
theorem one11a (s : Sta) (v : Evi) (x : Ins) (p1 p2 : Nat) (K : OOk s v x) (ho : x.op = 11) (h1 : s.regs x.a.toNat < 0) : zo_ Tryz.prog 86 [yo_ x, evS v, sr s (csl s p1) (ssl s p2)] (oneL s) (.tup [sr { s with at_ := x.n } (csl s p1) (ssl s p2), .int .i64 0]) (oneL s) := by
 have ⟨⟨o0, o1, a0, a1, b0, b1, c0, c1, n0, n1⟩, a2, b2, c2, at0, at1, dr0, dr1, ⟨ga0, ga1⟩, ⟨gb0, gb1⟩, ⟨gc0, gc1⟩, hb, hcl, tm0, tm1, pr0, pr1⟩ := K.all
 simp only [oneL, sr, csl, ssl, evS, yo_, y2_, nilS, List.cons_append, List.nil_append]
 refine ze_ (fn := Tryz.f86) 5 190 0 rfl rfl rfl rfl rfl u5_ rfl fun w0 M E hro => ?_
 repeat' (first | refine Ctl.h ?_ | ((with_reducible intro hif); first | (focus (cases hif; done)) | ((try simp only [JH] at hif); try (exfalso; omega))) | ((with_reducible first | apply J22 z3_ za_ | apply J23 fol z3_ za_ | apply J24); (·rfl); (· exact k63_); (try kernel_rfl); try exact k59_) | fail)
 apply At.endsRet za_ (fn := Tryz.f86) (rs := [.cell 6 105, .tmp 7]) Anc.refl hro (lb_ rfl) rfl
 ·exact yi_
 ·exact yl_
 ·exact k6_
 ·rfl
 ·exact k56_
 ·exact zs_
 ·exact k57_
 ·exact k56_
theorem one11b (s : Sta) (v : Evi) (x : Ins) (p1 p2 : Nat) (K : OOk s v x) (ho : x.op = 11) (h1 : ¬ s.regs x.a.toNat < 0) : zo_ Tryz.prog 86 [yo_ x, evS v, sr s (csl s p1) (ssl s p2)] (oneL s) (.tup [sr { s with at_ := s.at_ + 1 } (csl s p1) (ssl s p2), .int .i64 0]) (oneL s) := by
 have ⟨⟨o0, o1, a0, a1, b0, b1, c0, c1, n0, n1⟩, a2, b2, c2, at0, at1, dr0, dr1, ⟨ga0, ga1⟩, ⟨gb0, gb1⟩, ⟨gc0, gc1⟩, hb, hcl, tm0, tm1, pr0, pr1⟩ := K.all
 simp only [oneL, sr, csl, ssl, evS, yo_, y2_, nilS, List.cons_append, List.nil_append]
 refine ze_ (fn := Tryz.f86) 5 190 0 rfl rfl rfl rfl rfl u5_ rfl fun w0 M E hro => ?_
 repeat' (first | refine Ctl.h ?_ | ((with_reducible intro hif); first | (focus (cases hif; done)) | ((try simp only [JH] at hif); try (exfalso; omega))) | ((with_reducible first | apply J22 z3_ za_ | apply J23 fol z3_ za_ | apply J24); (·rfl); (· exact k63_); (try kernel_rfl); try exact k59_) | fail)
 apply At.endsRet za_ (fn := Tryz.f86) (rs := [.cell 6 105, .tmp 7]) Anc.refl hro (lb_ rfl) rfl
 ·exact yi_
 ·exact yl_
 ·exact k6_
 ·rfl
 ·exact k56_
 ·exact zs_
 ·exact k57_
 ·exact k56_
theorem one33e (s : Sta) (v : Evi) (x : Ins) (p1 p2 : Nat) (K : OOk s v x) (ho : 33 ≤ x.op) (ho2 : x.op ≤ 49) (h1 : ¬ yj_ (x.op - 32) (s.regs x.c.toNat) = 0) : zo_ Tryz.prog 86 [yo_ x, evS v, sr s (csl s p1) (ssl s p2)] (oneL s) (.tup [y2_, .int .i64 (yj_ (x.op - 32) (s.regs x.c.toNat))]) ([.gone]) := by
 have ⟨⟨o0, o1, a0, a1, b0, b1, c0, c1, n0, n1⟩, a2, b2, c2, at0, at1, dr0, dr1, ⟨ga0, ga1⟩, ⟨gb0, gb1⟩, ⟨gc0, gc1⟩, hb, hcl, tm0, tm1, pr0, pr1⟩ := K.all
 simp only [oneL, sr, csl, ssl, evS, yo_, y2_, nilS, List.cons_append, List.nil_append]
 refine ze_ (fn := Tryz.f86) 5 190 0 rfl rfl rfl rfl rfl u5_ rfl fun w0 M E hro => ?_
 repeat' (first | refine Ctl.h ?_ | ((with_reducible intro hif); first | (focus (cases hif; done)) | ((try simp only [JH] at hif); try (exfalso; omega))) | ((with_reducible first | apply J22 z3_ za_ | apply J23 fol z3_ za_ | apply J24); (·rfl); (· exact k65_); (try kernel_rfl); try exact k59_) | fail)
 apply At.endsRet za_ (fn := Tryz.f86) (rs := [.cell 6 105, .tmp 7]) Anc.refl hro (lb_ rfl) rfl
 ·exact yi_
 ·exact yl_
 ·exact k6_
 ·rfl
 ·exact k56_
 ·exact zs_
 ·(intro β; rfl)
 ·exact k56_
theorem one33 (s : Sta) (v : Evi) (x : Ins) (p1 p2 : Nat) (K : OOk s v x) (ho : 33 ≤ x.op) (ho2 : x.op ≤ 49) (h1 : yj_ (x.op - 32) (s.regs x.c.toNat) = 0) : zo_ Tryz.prog 86 [yo_ x, evS v, sr s (csl s p1) (ssl s p2)] (oneL s) (.tup [sr (s.put x.a.toNat (yp_ (x.op - 32) (s.regs x.b.toNat) (s.regs x.c.toNat))) (csl s p1) (ssl s p2), .int .i64 0]) (oneL s) := by
 have ⟨⟨o0, o1, a0, a1, b0, b1, c0, c1, n0, n1⟩, a2, b2, c2, at0, at1, dr0, dr1, ⟨ga0, ga1⟩, ⟨gb0, gb1⟩, ⟨gc0, gc1⟩, hb, hcl, tm0, tm1, pr0, pr1⟩ := K.all
 simp only [oneL, sr, csl, ssl, evS, yo_, y2_, nilS, List.cons_append, List.nil_append]
 refine ze_ (fn := Tryz.f86) 5 190 0 rfl rfl rfl rfl rfl u5_ rfl fun w0 M E hro => ?_
 repeat' (first | refine Ctl.h ?_ | ((with_reducible intro hif); first | (focus (cases hif; done)) | ((try simp only [JH] at hif); try (exfalso; omega))) | ((with_reducible first | apply J22 z3_ za_ | apply J23 fol z3_ za_ | apply J24); (·rfl); (· exact k65_); (try kernel_rfl); try exact k59_) | fail)
 apply At.endsRet za_ (fn := Tryz.f86) (rs := [.cell 6 105, .tmp 7]) Anc.refl hro (lb_ rfl) rfl
 ·exact yi_
 ·exact yl_
 ·exact k6_
 ·rfl
 ·exact k56_
 ·exact zs_
 ·exact k57_
 ·exact k56_
end Go.Proofs.YtjliakjbdcplcaaGreat.Vm
end
section
namespace Go.Proofs.YtjliakjbdcplcaaGreat.Vm
open Go.RowKit
theorem oneE_lit (s : Sta) (v : Evi) (x : Ins) (p1 p2 : Nat) (K : OOk s v x) (hE : doE s v x ≠ 0) : zo_ Tryz.prog 86 [yo_ x, evS v, sr s (csl s p1) (ssl s p2)] (oneL s) (.tup [y2_, .int .i64 (doE s v x)]) [.gone] := by
 rcases K.kr.cls with ho | ho | ho | ho | ho | ho | ho | ho | ho | ho | ho | ⟨ho, ho2⟩
 ·exact absurd (by simp [doE, ho]) hE
 ·rw [show doE s v x = 184 by simp [doE, ho]]; exact one2 s v x p1 p2 K ho
 ·exact absurd (by simp [doE, ho]) hE
 ·exact absurd (by simp [doE, ho]) hE
 ·by_cases h1 : s.regs x.b.toNat < 0
  ·rw [show doE s v x = 185 by simp [doE, ho, h1]]; exact one5e1 s v x p1 p2 K ho h1
  by_cases h2 : (s.cells.length : Int) ≤ s.regs x.b.toNat
  ·rw [show doE s v x = 185 by simp [doE, ho, h2]]; exact one5e2 s v x p1 p2 K ho h1 h2
  exact absurd (by simp only [doE, ho, h1, h2, or_self, if_false]; simp) hE
 ·by_cases h1 : s.regs x.b.toNat < 0
  ·rw [show doE s v x = 185 by simp [doE, ho, h1]]; exact one6e1 s v x p1 p2 K ho h1
  by_cases h2 : (s.cells.length : Int) ≤ s.regs x.b.toNat
  ·rw [show doE s v x = 185 by simp [doE, ho, h2]]; exact one6e2 s v x p1 p2 K ho h1 h2
  exact absurd (by simp only [doE, ho, h1, h2, or_self, if_false]; simp) hE
 ·by_cases h1 : s.regs x.b.toNat < 1
  ·rw [show doE s v x = 186 by simp [doE, ho, h1]]; exact one7e1 s v x p1 p2 K ho h1
  by_cases h2 : s.draws = 1099511627776
  ·rw [show doE s v x = 187 by simp only [doE, ho, h1, h2, if_true, if_false]; simp]; exact one7e2 s v x p1 p2 K ho h1 h2
  exact absurd (by simp only [doE, ho, h1, h2, if_false]; simp) hE
 ·have hd : doE s v x = sendE s v x := by simp [doE, ho]
  rw [hd] at hE ⊢
  by_cases h1 : v.ports ≤ x.n
  ·rw [show sendE s v x = 188 by simp only [sendE, h1, if_true, if_false]]; exact one8e1 s v x p1 p2 K ho h1
  by_cases h2 : s.regs x.a.toNat < v.look
  ·rw [show sendE s v x = 189 by simp only [sendE, h1, h2, if_true, if_false]]; exact one8e2 s v x p1 p2 K ho h1 h2
  by_cases h3 : 281474976710656 - v.now < s.regs x.a.toNat
  ·rw [show sendE s v x = 1800 by simp only [sendE, h1, h2, h3, if_true, if_false]]; exact one8e3 s v x p1 p2 K ho h1 h2 h3
  by_cases h4 : 256 ≤ s.sends.length
  ·rw [show sendE s v x = 1801 by simp only [sendE, h1, h2, h3, h4, if_true, if_false]]; exact one8e4 s v x p1 p2 K ho h1 h2 h3 h4
  exact absurd (by simp only [sendE, h1, h2, h3, h4, if_false]) hE
 ·exact absurd (by simp [doE, ho]) hE
 ·exact absurd (by simp [doE, ho]) hE
 ·exact absurd (by simp [doE, ho]) hE
 ·have hn : ∀ k : Int, k ≤ 11 → ¬ x.op = k := fun k hk => by omega
  have hd : doE s v x = yj_ (x.op - 32) (s.regs x.c.toNat) := by simp only [doE, hn 2 (by decide), hn 5 (by decide), hn 6 (by decide), hn 7 (by decide), hn 8 (by decide), show ¬ x.op < 32 by omega, if_false, or_self]
  rw [hd] at hE ⊢
  exact one33e s v x p1 p2 K ho ho2 hE
theorem one6_lit (s : Sta) (v : Evi) (x : Ins) (p1 p2 : Nat) (K : OOk s v x) (hE : doE s v x = 0) (ho : x.op = 6) : zo_ Tryz.prog 86 [yo_ x, evS v, sr s (csl s p1) (ssl s p2)] (oneL s) (.tup [sr (doS s v x) (.sl 5 5 [] 1 0 s.cells.length none) (ssl s p2), .int .i64 0]) (oneL s ++ [.own 2 (.arr s.cells.length 1 (i64S (doS s v x).cells)) false]) := by
 have h1 : ¬ s.regs x.b.toNat < 0 := fun h => by simp [doE, ho, h] at hE
 have h2 : ¬ (s.cells.length : Int) ≤ s.regs x.b.toNat := fun h => by simp [doE, ho, h] at hE
 have e : doS s v x = { s with cells := s.cells.set (s.regs x.b.toNat).toNat (s.regs x.a.toNat), at_ := s.at_ + 1 } := by
  rw [doS, hE]; simp [ho]
 rw [e]
 exact one6 s v x p1 p2 K ho h1 h2
theorem one8_lit (s : Sta) (v : Evi) (x : Ins) (p1 p2 : Nat) (K : OOk s v x) (hE : doE s v x = 0) (ho : x.op = 8) : zo_ Tryz.prog 86 [yo_ x, evS v, sr s (csl s p1) (ssl s p2)] (oneL s) (.tup [sr (doS s v x) (csl s p1) (.sl 5 5 [] 3 0 (s.sends.length + 1) none), .int .i64 0]) (oneL s ++ [.own 177 (.arr (s.sends.length + 1) 3 (zn_ (doS s v x).sends)) false]) := by
 have e : doS s v x = { s with at_ := s.at_ + 1, sends := s.sends ++ [⟨x.n, s.regs x.a.toNat, s.regs x.b.toNat⟩] } := by
  rw [doS, hE]; simp [ho]
 rw [e]
 have hd : doE s v x = sendE s v x := by simp [doE, ho]
 rw [hd] at hE
 have h1 : ¬ v.ports ≤ x.n := fun h => by simp only [sendE, h, if_true, if_false] at hE; exact absurd hE (by decide)
 have h2 : ¬ s.regs x.a.toNat < v.look := fun h => by simp only [sendE, h1, h, if_true, if_false] at hE; exact absurd hE (by decide)
 have h3 : ¬ 281474976710656 - v.now < s.regs x.a.toNat := fun h => by simp only [sendE, h1, h2, h, if_true, if_false] at hE; exact absurd hE (by decide)
 have h4 : ¬ 256 ≤ s.sends.length := fun h => by simp only [sendE, h1, h2, h3, h, if_true, if_false] at hE; exact absurd hE (by decide)
 exact one8 s v x p1 p2 K ho h1 h2 h3 h4
theorem oneX_lit (s : Sta) (v : Evi) (x : Ins) (p1 p2 : Nat) (K : OOk s v x) (hE : doE s v x = 0) (h6 : x.op ≠ 6) (h8 : x.op ≠ 8) : zo_ Tryz.prog 86 [yo_ x, evS v, sr s (csl s p1) (ssl s p2)] (oneL s) (.tup [sr (doS s v x) (csl s p1) (ssl s p2), .int .i64 0]) (oneL s) := by
 rcases K.kr.cls with ho | ho | ho | ho | ho | ho | ho | ho | ho | ho | ho | ⟨ho, ho2⟩
 ·rw [show doS s v x = { s with ended := true } by rw [doS, hE]; simp [ho]]; exact one1 s v x p1 p2 K ho
 ·exact absurd hE (by simp [doE, ho])
 ·rw [show doS s v x = s.put x.a.toNat x.n by rw [doS, hE]; simp [ho]]; exact one3 s v x p1 p2 K ho
 ·rw [show doS s v x = s.put x.a.toNat (s.regs x.b.toNat) by rw [doS, hE]; simp [ho]]; exact one4 s v x p1 p2 K ho
 ·have h1 : ¬ s.regs x.b.toNat < 0 := fun h => by simp [doE, ho, h] at hE
  have h2 : ¬ (s.cells.length : Int) ≤ s.regs x.b.toNat := fun h => by simp [doE, ho, h] at hE
  rw [show doS s v x = s.put x.a.toNat (s.cells.getD (s.regs x.b.toNat).toNat 0) by rw [doS, hE]; simp [ho]]; exact one5 s v x p1 p2 K ho h1 h2
 ·exact absurd ho h6
 ·have h1 : ¬ s.regs x.b.toNat < 1 := fun h => by simp [doE, ho, h] at hE
  have h2 : ¬ s.draws = 1099511627776 := fun h => by simp only [doE, ho, h1, h, if_true, if_false] at hE; simp at hE
  rw [show doS s v x = { s.put x.a.toNat (drawI v.seed v.process s.draws (s.regs x.b.toNat)) with draws := s.draws + 1 } by rw [doS, hE]; simp [ho]]; exact one7 s v x p1 p2 K ho h1 h2
 ·exact absurd ho h8
 ·rw [show doS s v x = { s with at_ := x.n } by rw [doS, hE]; simp [ho]]; exact one9 s v x p1 p2 K ho
 ·by_cases h1 : s.regs x.a.toNat = 0
  ·rw [show doS s v x = { s with at_ := x.n } by rw [doS, hE]; simp [ho, h1]]; exact one10a s v x p1 p2 K ho h1
  ·rw [show doS s v x = { s with at_ := s.at_ + 1 } by rw [doS, hE]; simp [ho, h1]]; exact one10b s v x p1 p2 K ho h1
 ·by_cases h1 : s.regs x.a.toNat < 0
  ·rw [show doS s v x = { s with at_ := x.n } by rw [doS, hE]; simp [ho, h1]]; exact one11a s v x p1 p2 K ho h1
  ·rw [show doS s v x = { s with at_ := s.at_ + 1 } by rw [doS, hE]; simp [ho, h1]]; exact one11b s v x p1 p2 K ho h1
 ·have hn : ∀ k : Int, k ≤ 11 → ¬ x.op = k := fun k hk => by omega
  have hd : doE s v x = yj_ (x.op - 32) (s.regs x.c.toNat) := by simp only [doE, hn 2 (by decide), hn 5 (by decide), hn 6 (by decide), hn 7 (by decide), hn 8 (by decide), show ¬ x.op < 32 by omega, if_false, or_self]
  rw [show doS s v x = s.put x.a.toNat (yp_ (x.op - 32) (s.regs x.b.toNat) (s.regs x.c.toNat)) by rw [doS, hE]; simp only [hn 1 (by decide), hn 3 (by decide), hn 4 (by decide), hn 5 (by decide), hn 6 (by decide), hn 7 (by decide), hn 8 (by decide), hn 9 (by decide), hn 10 (by decide), hn 11 (by decide), if_false]; simp]
  exact one33 s v x p1 p2 K ho ho2 (by rw [← hd]; exact hE)
theorem bI_R (b : Bool) : R64 (bI b) := by cases b <;> (constructor <;> decide)
theorem zero_R : R64 0 := by constructor <;> decide
theorem applyV_R (op a b : Int) (ha : R64 a) (hb : R64 b) : R64 (yp_ op a b) := by
 by_cases h0 : yj_ op b = 0
 ·have hop : op = 1 ∨ op = 2 ∨ op = 3 ∨ op = 4 ∨ op = 5 ∨ op = 6 ∨ op = 7 ∨ op = 8 ∨ op = 9 ∨ op = 10 ∨ op = 11 ∨ op = 12 ∨ op = 13 ∨ op = 14 ∨ op = 15 ∨ op = 16 ∨ op = 17 := by
   by_cases h : op < 1 ∨ 17 < op
   ·rw [yj_, if_pos h] at h0; exact absurd h0 (by decide)
   ·omega
  have hz : 4 ≤ op → op ≤ 6 → ¬ b = 0 := by
   intro x y z
   rw [yj_, if_neg (by omega), if_pos ⟨z, x, y⟩] at h0
   exact absurd h0 (by decide)
  rcases hop with h | h | h | h | h | h | h | h | h | h | h | h | h | h | h | h | h <;> subst h
  ·rw [apV1 a b ha hb]; exact toInt_R _
  ·rw [apV2 a b ha hb]; exact toInt_R _
  ·rw [apV3 a b ha hb]; exact toInt_R _
  ·rw [apV4 a b ha hb (hz (by decide) (by decide))]; exact toInt_R _
  ·rw [apV5 a b ha hb (hz (by decide) (by decide))]; exact toInt_R _
  ·rw [apV6 a b ha hb (hz (by decide) (by decide))]; exact toInt_R _
  ·rw [apV7 a b ha hb]; exact toInt_R _
  ·rw [apV8 a b ha hb]; exact toInt_R _
  ·rw [apV9 a b ha hb]; exact toInt_R _
  ·rw [apV10 a b ha hb]; exact toInt_R _
  ·rw [apV11 a b ha hb]; exact toInt_R _
  ·rw [apV12 a b ha hb]; exact toInt_R _
  ·rw [apV13 a b ha hb]; exact bI_R _
  ·rw [apV14 a b ha hb]; exact bI_R _
  ·rw [apV15 a b ha hb]; exact bI_R _
  ·rw [apV16 a b ha hb]; split <;> assumption
  ·rw [apV17 a b ha hb]; split <;> assumption
 ·rw [yp_, if_neg h0]; exact zero_R
theorem put_R {s : Sta} {k : Nat} {y : Int} (hs : ∀ q, R64 (s.regs q)) (hy : R64 y) (q : Nat) : R64 ((s.put k y).regs q) := by
 show R64 (if q = k then y else s.regs q)
 split
 ·exact hy
 ·exact hs q
def CR (s : Sta) : Prop := ∀ k, R64 (s.cells.getD k 0)
theorem doS_R {s : Sta} {v : Evi} {x : Ins} (K : OOk s v x) (hc : CR s) : (∀ q, R64 ((doS s v x).regs q)) ∧ CR (doS s v x) := by
 have hs : ∀ q, R64 (s.regs q) := K.g
 have hn : R64 x.n := ⟨K.n0, K.n1⟩
 by_cases hE : doE s v x = 0
 ·unfold doS
  rw [if_neg (by simp [hE])]
  by_cases h1 : x.op = 1
  ·rw [if_pos h1]; exact ⟨hs, hc⟩
  rw [if_neg h1]
  by_cases h3 : x.op = 3
  ·rw [if_pos h3]; exact ⟨put_R hs hn, hc⟩
  rw [if_neg h3]
  by_cases h4 : x.op = 4
  ·rw [if_pos h4]; exact ⟨put_R hs (hs _), hc⟩
  rw [if_neg h4]
  by_cases h5 : x.op = 5
  ·rw [if_pos h5]; exact ⟨put_R hs (hc _), hc⟩
  rw [if_neg h5]
  by_cases h6 : x.op = 6
  ·rw [if_pos h6]
   refine ⟨hs, fun k => ?_⟩
   show R64 ((s.cells.set _ _).getD k 0)
   rw [List.getD_eq_getElem?_getD, List.getElem?_set]
   split
   ·split
    ·exact hs _
    ·exact zero_R
   ·rw [← List.getD_eq_getElem?_getD]; exact hc k
  rw [if_neg h6]
  by_cases h7 : x.op = 7
  ·rw [if_pos h7]
   have hb : ¬ s.regs x.b.toNat < 1 := fun h => by simp [doE, h7, h] at hE
   have hd := drawI_bd v.seed v.process s.draws (s.regs x.b.toNat) (by omega) (hs x.b.toNat).2
   have hb2 := (hs x.b.toNat).2
   refine ⟨fun q => ?_, hc⟩
   exact put_R (s := s) hs ⟨by omega, by omega⟩ q
  rw [if_neg h7]
  by_cases h8 : x.op = 8
  ·rw [if_pos h8]; exact ⟨hs, hc⟩
  rw [if_neg h8]
  by_cases h9 : x.op = 9
  ·rw [if_pos h9]; exact ⟨hs, hc⟩
  rw [if_neg h9]
  by_cases h10 : x.op = 10
  ·rw [if_pos h10]; exact ⟨hs, hc⟩
  rw [if_neg h10]
  by_cases h11 : x.op = 11
  ·rw [if_pos h11]; exact ⟨hs, hc⟩
  rw [if_neg h11]
  exact ⟨put_R hs (applyV_R _ _ _ (hs _) (hs _)), hc⟩
 ·rw [doS_bad hE]; exact ⟨hs, hc⟩
end Go.Proofs.YtjliakjbdcplcaaGreat.Vm
end
section
namespace Go.Proofs.YtjliakjbdcplcaaGreat
open Go.ChangeShapes Go.WideShapes Go.ChangeAt Go.RowKit Go.Deep
set_option maxRecDepth 100000 in
theorem open_prog28 {H : Type} {enc : TypeId × Value → H} {w : World} {n : Nat} {v : Value} {x : DataW H × List MemPlace} (h : DataW.trod enc Tryz.prog w 0 (fun _ => true) true n 22 [v] = some x) :
  ∃ A l c xs, v = .slice A l c ∧ l ≤ c ∧ c ≤ 9223372036854775807 ∧ (∀ i ∈ xs, Ins.ok i) ∧ yv_ w w.heap.size 5 A l (insV xs) := by
 have h5 : Tryz.prog.cellsOf 38 = 5 := by kernel_rfl
 have hc1 : Tryz.prog.cellsOf 5 = 1 := by kernel_rfl
 have hc2 : Tryz.prog.cellsOf 2 = 1 := by kernel_rfl
 rcases open_slice Tryz.underlying22 h with ⟨h0, _⟩ | ⟨a, len, cap, m, k, D, Pl, h0, _, hl, hm, hmm, _, hx⟩
 ·exact ⟨none, 0, 0, [], (List.cons.inj h0).1, by omega, by omega, (fun _ h => by cases h), yv_.none_⟩
 ·have hmc : m = cap := hmm.trans (if_pos rfl)
  have each : ∀ i, i < len → ∃ y : Ins, y.ok ∧ ∀ j u, y.cells[j]? = some u → w.cell? (a.add (i * 5 + j)) = some u := by
   intro i hi
   obtain ⟨cs', h1, h2⟩ := hx i (by omega)
   rw [h5] at h1
   obtain ⟨_, hlen, hcell⟩ := World.cells?_some h1
   obtain ⟨ys, q, _, _, _, hyl, hf⟩ := DataW.trod_struct Tryz.underlying38 h2
   match ys, hyl, cs', hlen with
   | [y0, y1, y2, y3, y4], _, [c0, c1, c2, c3, c4], _ =>
    have g0 : DataW.trod enc Tryz.prog w 0 (fun _ => true) true q 5 [c0] = some y0 := by simpa [hc1, hc2] using hf 0 _ rfl
    have g1 : DataW.trod enc Tryz.prog w 0 (fun _ => true) true q 5 [c1] = some y1 := by simpa [hc1, hc2] using hf 1 _ rfl
    have g2 : DataW.trod enc Tryz.prog w 0 (fun _ => true) true q 5 [c2] = some y2 := by simpa [hc1, hc2] using hf 2 _ rfl
    have g3 : DataW.trod enc Tryz.prog w 0 (fun _ => true) true q 5 [c3] = some y3 := by simpa [hc1, hc2] using hf 3 _ rfl
    have g4 : DataW.trod enc Tryz.prog w 0 (fun _ => true) true q 2 [c4] = some y4 := by simpa [hc1, hc2] using hf 4 _ rfl
    obtain ⟨a0, rfl, b0⟩ := yb_ Tryz.underlying5 g0
    obtain ⟨a1, rfl, b1⟩ := yb_ Tryz.underlying5 g1
    obtain ⟨a2, rfl, b2⟩ := yb_ Tryz.underlying5 g2
    obtain ⟨a3, rfl, b3⟩ := yb_ Tryz.underlying5 g3
    obtain ⟨a4, rfl, b4⟩ := yb_ Tryz.underlying2 g4
    simp [Lit.wf, IntKind.min, IntKind.max, IntKind.signed, IntKind.bits] at b0 b1 b2 b3 b4
    refine ⟨⟨a0, a1, a2, a3, a4⟩, ⟨b0.1, b0.2, b1.1, b1.2, b2.1, b2.2, b3.1, b3.2, b4.1, b4.2⟩, fun j u hj => ?_⟩
    have hj5 : j < 5 := (List.getElem?_eq_some_iff.1 hj).1
    have := hcell j hj5
    rw [Vm.add_add] at this
    rw [this]
    exact hj
  have : Inhabited Ins := ⟨⟨0, 0, 0, 0, 0⟩⟩
  obtain ⟨f, hf⟩ := choose_lt (n := len) (p := fun i (y : Ins) => y.ok ∧ ∀ j u, y.cells[j]? = some u → w.cell? (a.add (i * 5 + j)) = some u) each
  refine ⟨some a, len, cap, (List.range len).map f, (List.cons.inj h0).1, hl, by unfold maxLen at hm; omega, fun i hi => ?_, by rw [insV_len]; simp, fun hn => ⟨a, rfl, ?_, fun j u hu => ?_⟩⟩
  ·obtain ⟨q, hq, rfl⟩ := List.mem_map.1 hi
   exact (hf q (List.mem_range.1 hq)).1
  ·have := cell_lt17 ((hf 0 hn).2 0 _ rfl)
   rwa [block_of_add] at this
  ·have hj := (List.getElem?_eq_some_iff.1 hu).1
   rw [insV_len] at hj
   simp at hj
   obtain ⟨q, r, hr5, rfl⟩ : ∃ q r, r < 5 ∧ j = q * 5 + r := ⟨j / 5, j % 5, by omega, by omega⟩
   have hq : q < len := by omega
   refine (hf q hq).2 r u ?_
   have hfl := flat_at Ins.cells 5 (fun _ => rfl) ((List.range len).map f) q r (f q) (by simp [hq]) hr5
   rw [← hfl]
   exact hu
theorem r64_of {a : Int} (h : (Lit.int .i64 a).wf = true) : Vm.R64 a := by
 simp [Lit.wf, IntKind.min, IntKind.max, IntKind.signed, IntKind.bits] at h
 exact ⟨by omega, by omega⟩
theorem open_wordsR {H : Type} {enc : TypeId × Value → H} {w : World} {base : Nat} {n : Nat} {v : Value} {x : DataW H × List MemPlace} (h : DataW.trod enc Tryz.prog w base (fun _ => true) true n 30 [v] = some x) :
  ∃ A l c xs, v = .slice A l c ∧ l ≤ c ∧ c ≤ 9223372036854775807 ∧ (∀ k, Vm.R64 (List.getD xs k 0)) ∧ yv_ w w.heap.size 1 A l (int64s xs) := by
 rcases open_slice1 Tryz.underlying30 (by kernel_rfl) h with ⟨h0, _⟩ | ⟨a, len, cap, m, k, V, D, Pl, h0, _, hl, hm, hmm, _, hx⟩
 ·exact ⟨none, 0, 0, [], (List.cons.inj h0).1, by omega, by omega, fun k => Vm.zero_R, yv_.none_⟩
 ·have hmc : m = cap := hmm.trans (if_pos rfl)
  obtain ⟨f, hf⟩ := choose_lt (n := len) (p := fun i (z : Int) => V i = .int .i64 z ∧ Vm.R64 z) (fun i hi => by
   obtain ⟨z, hz, hb⟩ := yb_ Tryz.underlying2 (hx i (by omega)).2
   exact ⟨z, hz, r64_of hb⟩)
  refine ⟨some a, len, cap, (List.range len).map f, (List.cons.inj h0).1, hl, by unfold maxLen at hm; omega, fun q => ?_, by simp [int64s], fun hn => ⟨a, rfl, ?_, fun j u hu => ?_⟩⟩
  ·by_cases hq : q < len
   ·rw [show List.getD ((List.range len).map f) q 0 = f q by simp [List.getD_eq_getElem?_getD, hq]]
    exact (hf q hq).2
   ·rw [show List.getD ((List.range len).map f) q 0 = 0 by simp [List.getD_eq_getElem?_getD, hq]]
    exact Vm.zero_R
  ·have := cell_lt17 (hx 0 (by omega)).1
   rwa [block_of_add] at this
  ·have hj : j < len := by
    have := (List.getElem?_eq_some_iff.1 hu).1
    simpa [int64s] using this
   rw [(hx j (by omega)).1, ← hu, (hf j hj).1]
   simp [int64s, hj]
structure C19 where
 xs : List Ins
 v : Vm.Evi
 t : Int
 s : Int
 q : Int
 o : Int
 y : Int
 cs : List Int
 d : Int
 f : Int
structure C19.ok (y : C19) : Prop where
 x : ∀ i ∈ y.xs, i.ok
 w : ∀ k, Vm.R64 (y.cs.getD k 0)
 t : Vm.R64 y.t
 s : Vm.R64 y.s
 y : Vm.R64 y.y
def C19.cells (y : C19) (A B : Value) : Array Value := #[A, .int .u64 y.v.seed, .int .i64 y.v.process, .int .i64 y.v.ports, .int .i64 y.v.look, .int .i64 y.v.now, .int .i64 y.t, .int .i64 y.s, .int .i64 y.q, .int .i64 y.o, .int .i64 y.y, B, .int .i64 y.d, .int .i64 y.f]
set_option maxRecDepth 100000 in
set_option maxHeartbeats 2000000 in
theorem open_case19 {H : Type} {enc : TypeId × Value → H} {w : World} {b0 : Nat} {r : Reach} {v : Value} {d : DataW H} {p : List MemPlace} (hv : Value.okWide Tryz.prog w r b0 32 v) (h : DataW.Trod enc Tryz.prog w 0 (fun _ => true) true 32 v d p) :
  ∃ (y : C19) (A : Option Addr) (l c : Nat) (B : Option Addr) (l2 c2 : Nat), v = .agg (y.cells (.slice A l c) (.slice B l2 c2)) ∧ y.ok ∧ l ≤ c ∧ c ≤ 9223372036854775807 ∧ l2 ≤ c2 ∧ c2 ≤ 9223372036854775807 ∧ yv_ w w.heap.size 5 A l (insV y.xs) ∧ yv_ w w.heap.size 1 B l2 (int64s y.cs) := by
 obtain ⟨cs, rfl, hsz⟩ := okWide_struct Tryz.underlying32 hv
 obtain ⟨l⟩ := cs
 have k0 : Tryz.prog.cellsOf 32 = 14 := by kernel_rfl
 have k3 : Tryz.prog.cellsOf 30 = 1 := by kernel_rfl
 have k5 : Tryz.prog.cellsOf 22 = 1 := by kernel_rfl
 have k6 : Tryz.prog.cellsOf 29 = 5 := by kernel_rfl
 have k11 : Tryz.prog.cellsOf 27 = 3 := by kernel_rfl
 have k7 : Tryz.prog.cellsOf 25 = 5 := by kernel_rfl
 have k8 : Tryz.prog.cellsOf 23 = 1 := by kernel_rfl
 have k9 : Tryz.prog.cellsOf 3 = 1 := by kernel_rfl
 have k10 : Tryz.prog.cellsOf 2 = 1 := by kernel_rfl
 match l, hsz.trans k0 with
 | [c0, c1, c2, c3, c4, c5, c6, c7, c8, c9, c10, c11, c12, c13], _ =>
  obtain ⟨fuel, hf⟩ := h
  obtain ⟨xs, n, _, _, _, hlen, hg⟩ := DataW.trod_struct Tryz.underlying32 hf
  match xs, hlen with
  | [y0, y1, y2, y3, y4, y5], _ =>
   have g0 : DataW.trod enc Tryz.prog w 0 (fun _ => true) true n 22 [c0] = some y0 := by simpa [Value.cells, k3, k5, k6, k11, k7, k8, k9, k10] using hg 0 _ rfl
   have g1 : DataW.trod enc Tryz.prog w 0 (fun _ => true) true n 25 [c1, c2, c3, c4, c5] = some y1 := by simpa [Value.cells, k3, k5, k6, k11, k7, k8, k9, k10] using hg 1 _ rfl
   have g2 : DataW.trod enc Tryz.prog w 0 (fun _ => true) true n 29 [c6, c7, c8, c9, c10] = some y2 := by simpa [Value.cells, k3, k5, k6, k11, k7, k8, k9, k10] using hg 2 _ rfl
   have g3 : DataW.trod enc Tryz.prog w 0 (fun _ => true) true n 30 [c11] = some y3 := by simpa [Value.cells, k3, k5, k6, k11, k7, k8, k9, k10] using hg 3 _ rfl
   have g4 : DataW.trod enc Tryz.prog w 0 (fun _ => true) true n 3 [c12] = some y4 := by simpa [Value.cells, k3, k5, k6, k11, k7, k8, k9, k10] using hg 4 _ rfl
   have g5 : DataW.trod enc Tryz.prog w 0 (fun _ => true) true n 3 [c13] = some y5 := by simpa [Value.cells, k3, k5, k6, k11, k7, k8, k9, k10] using hg 5 _ rfl
   obtain ⟨A, l, c, zs, rfl, e1, e2, e3, e4⟩ := open_prog28 g0
   obtain ⟨B, l2, c2', ws, rfl, f1, f2, f3, f4⟩ := open_wordsR g3
   obtain ⟨dr, rfl, _⟩ := yb_ Tryz.underlying3 g4
   obtain ⟨fu, rfl, _⟩ := yb_ Tryz.underlying3 g5
   obtain ⟨vs, n2, _, _, _, vlen, hvv⟩ := DataW.trod_struct Tryz.underlying25 g1
   match vs, vlen with
   | [w0, w1, w2, w3, w4], _ =>
    have p0 : DataW.trod enc Tryz.prog w 0 (fun _ => true) true n2 23 [c1] = some w0 := by simpa [Value.cells, k3, k5, k6, k11, k7, k8, k9, k10] using hvv 0 _ rfl
    obtain ⟨o0, rfl, _⟩ := yb_ Tryz.underlying23 p0
    have p1 : DataW.trod enc Tryz.prog w 0 (fun _ => true) true n2 3 [c2] = some w1 := by simpa [Value.cells, k3, k5, k6, k11, k7, k8, k9, k10] using hvv 1 _ rfl
    obtain ⟨o1, rfl, _⟩ := yb_ Tryz.underlying3 p1
    have p2 : DataW.trod enc Tryz.prog w 0 (fun _ => true) true n2 3 [c3] = some w2 := by simpa [Value.cells, k3, k5, k6, k11, k7, k8, k9, k10] using hvv 2 _ rfl
    obtain ⟨o2, rfl, _⟩ := yb_ Tryz.underlying3 p2
    have p3 : DataW.trod enc Tryz.prog w 0 (fun _ => true) true n2 3 [c4] = some w3 := by simpa [Value.cells, k3, k5, k6, k11, k7, k8, k9, k10] using hvv 3 _ rfl
    obtain ⟨o3, rfl, _⟩ := yb_ Tryz.underlying3 p3
    have p4 : DataW.trod enc Tryz.prog w 0 (fun _ => true) true n2 3 [c5] = some w4 := by simpa [Value.cells, k3, k5, k6, k11, k7, k8, k9, k10] using hvv 4 _ rfl
    obtain ⟨o4, rfl, _⟩ := yb_ Tryz.underlying3 p4
    obtain ⟨us, n3, _, _, _, ulen, hu⟩ := DataW.trod_struct Tryz.underlying29 g2
    match us, ulen with
    | [u0, u1, u2], _ =>
     have q0 : DataW.trod enc Tryz.prog w 0 (fun _ => true) true n3 27 [c6, c7, c8] = some u0 := by simpa [Value.cells, k3, k5, k6, k11, k7, k8, k9, k10] using hu 0 _ rfl
     have q1 : DataW.trod enc Tryz.prog w 0 (fun _ => true) true n3 3 [c9] = some u1 := by simpa [Value.cells, k3, k5, k6, k11, k7, k8, k9, k10] using hu 1 _ rfl
     have q2 : DataW.trod enc Tryz.prog w 0 (fun _ => true) true n3 2 [c10] = some u2 := by simpa [Value.cells, k3, k5, k6, k11, k7, k8, k9, k10] using hu 2 _ rfl
     obtain ⟨eto, rfl, _⟩ := yb_ Tryz.underlying3 q1
     obtain ⟨eva, rfl, b3⟩ := yb_ Tryz.underlying2 q2
     obtain ⟨ks, n4, _, _, _, klen, hk⟩ := DataW.trod_struct Tryz.underlying27 q0
     match ks, klen with
     | [x0, x1, x2], _ =>
      have s0 : DataW.trod enc Tryz.prog w 0 (fun _ => true) true n4 3 [c6] = some x0 := by simpa [Value.cells, k3, k5, k6, k11, k7, k8, k9, k10] using hk 0 _ rfl
      obtain ⟨r0, rfl, b0⟩ := yb_ Tryz.underlying3 s0
      have s1 : DataW.trod enc Tryz.prog w 0 (fun _ => true) true n4 3 [c7] = some x1 := by simpa [Value.cells, k3, k5, k6, k11, k7, k8, k9, k10] using hk 1 _ rfl
      obtain ⟨r1, rfl, b1⟩ := yb_ Tryz.underlying3 s1
      have s2 : DataW.trod enc Tryz.prog w 0 (fun _ => true) true n4 3 [c8] = some x2 := by simpa [Value.cells, k3, k5, k6, k11, k7, k8, k9, k10] using hk 2 _ rfl
      obtain ⟨r2, rfl, b2⟩ := yb_ Tryz.underlying3 s2
      exact ⟨⟨zs, ⟨o0, o1, o2, o3, o4⟩, r0, r1, r2, eto, eva, ws, dr, fu⟩, A, l, c, B, l2, c2', rfl, ⟨e3, f3, r64_of b0, r64_of b1, r64_of b3⟩, e1, e2, f1, f2, e4, f4⟩
namespace Vm
theorem den_c19 {β : Env} (y : C19) (p1 p2 : Nat) : (SV.agg [.sl 1 2 [] 5 0 y.xs.length (some p1), .agg [.int .u64 y.v.seed, .int .i64 y.v.process, .int .i64 y.v.ports, .int .i64 y.v.look, .int .i64 y.v.now], .agg [.agg [.int .i64 y.t, .int .i64 y.s, .int .i64 y.q], .int .i64 y.o, .int .i64 y.y], .sl 3 4 [] 1 0 y.cs.length (some p2), .int .i64 y.d, .int .i64 y.f]).den β = .agg (y.cells ((SV.sl 1 2 [] 5 0 y.xs.length (some p1)).den β) ((SV.sl 3 4 [] 1 0 y.cs.length (some p2)).den β)) := by
 rw [den_agg rfl, cl_agg]
 simp only [x0_, clL_nil, cl_agg]
 rfl
end Vm
end Go.Proofs.YtjliakjbdcplcaaGreat
end
section
namespace Go.Proofs.YtjliakjbdcplcaaGreat.Vm
open Go.RowKit
theorem strDen {β : Env} {s : ByteArray} : (SV.str s).den β = .string s := rfl
def cntB (s : ByteArray) (c : Int) : Nat → Nat
 | 0 => 0
 | j + 1 => cntB s c j + if bat s j = c then 1 else 0
theorem cntB_le (s : ByteArray) (c : Int) : ∀ j, cntB s c j ≤ j
 | 0 => Nat.le_refl 0
 | j + 1 => by
  have := cntB_le s c j
  unfold cntB
  split <;> omega
theorem cnt_lit (s : ByteArray) (c : Int) (hs : s.size ≤ 1000000) : zo_ Tryz.prog 141 [.str s, .int .u8 c] [.gone] (.nat .i64 (cntB s c s.size)) [.gone] := by
 refine ze_ (fn := Tryz.f141) 1 21 0 rfl rfl rfl rfl rfl u6_ rfl fun w0 M E hro => ?_
 repeat' (first | refine Ctl.h ?_ | ((with_reducible intro hif); first | (focus (cases hif; done)) | ((try simp only [JH] at hif); try (exfalso; omega))) | ((with_reducible first | apply J22 zq_ za_ | apply J23 fol zq_ za_ | apply J24); (·rfl); (· exact k20_); (try kernel_rfl); try exact yk_) | fail)
 refine WF.loopAt (fun (j : Nat) => j ≤ s.size) (fun (j : Nat) => [(0, .str s), (1, .int .u8 c), (5, .nat .i64 (cntB s c j)), (6, .nat .i64 j)]) (fun (j : Nat) => [.gone]) (fun (j : Nat) => s.size - j) 0 (Nat.zero_le _) ?_ ?_ rfl ?_ ?_ rfl ?_
 ·exact k5_
 ·exact k6_
 ·exact xb_
 ·exact xb_
 intro j hj
 have hcj := cntB_le s c j
 by_cases hjl : j < s.size
 ·by_cases hc : bat s j = c
  ·have e : cntB s c (j + 1) = cntB s c j + 1 := by rw [cntB, if_pos hc]
   repeat' (first | refine Ctl.h ?_ | ((with_reducible intro hif); first | (focus (cases hif; done)) | ((try simp only [JH] at hif); try (exfalso; omega))) | ((with_reducible first | apply J22 zq_ za_ | apply J23 fol zq_ za_ | apply J24); (·rfl); (· exact k66_); (try kernel_rfl); try exact k25_) | fail)
   refine At.next (j + 1) ?_ ?_ ?_ rfl ?_ ?_ rfl
   ·exact ⟨hjl, by omega⟩
   ·((repeat' (first | exact trivial | apply And.intro)) <;> (first | rfl | (rw [e]; rfl)))
   ·exact k6_
   ·exact xb_
   ·exact xb_
  ·have e : cntB s c (j + 1) = cntB s c j := by rw [cntB, if_neg hc]; rfl
   repeat' (first | refine Ctl.h ?_ | ((with_reducible intro hif); first | (focus (cases hif; done)) | ((try simp only [JH] at hif); try (exfalso; omega))) | ((with_reducible first | apply J22 zq_ za_ | apply J23 fol zq_ za_ | apply J24); (·rfl); (· exact k66_); (try kernel_rfl); try exact k25_) | fail)
   refine At.next (j + 1) ?_ ?_ ?_ rfl ?_ ?_ rfl
   ·exact ⟨hjl, by omega⟩
   ·((repeat' (first | exact trivial | apply And.intro)) <;> (first | rfl | (rw [e]; rfl)))
   ·exact k6_
   ·exact xb_
   ·exact xb_
 ·obtain rfl : j = s.size := by omega
  repeat' (first | refine Ctl.h ?_ | ((with_reducible intro hif); first | (focus (cases hif; done)) | ((try simp only [JH] at hif); try (exfalso; omega))) | ((with_reducible first | apply J22 zq_ za_ | apply J23 fol zq_ za_ | apply J24); (·rfl); (· exact k22_); (try kernel_rfl); try exact yk_) | fail)
  apply At.endsRet za_ (fn := Tryz.f141) (rs := [.tmp 4]) Anc.refl hro (lb_ rfl) rfl
  ·exact k11_
  ·exact yl_
  ·exact k6_
  ·rfl
  ·exact xb_
  ·exact zs_
  ·exact fun β => rfl
  ·exact xb_
def sRCnt : yq_ := fun args h m => match args with
 | [.str v1, v2] => bif isI .u8 v2 then some ((v1.size ≤ 1000000), .nat .i64 (cntB v1 (iOf v2) v1.size), [], []) else none
 | _ => none
theorem sRCnt_ok : zj_ Tryz.prog 141 sRCnt := by
 refine ⟨zf_ (by kernel_rfl), fun args h m c v rd wr hs hm hc w0 M β h' w R hrd hwr hst => ?_⟩
 unfold sRCnt at hs
 split at hs
 ·rename_i v1 v2
  obtain ⟨hb, hs⟩ := zk_ hs
  simp only [Option.some.injEq, Prod.mk.injEq] at hs
  obtain ⟨rfl, rfl, rfl, rfl⟩ := hs
  have b2 := hb
  have y1 := hc
  refine yf_ (views := []) (cnt_lit v1 (iOf v2) y1) ?_ R hm hwr ?_ ?_ ?_
  ·intro x hx; cases hx
  ·intro β1 hv
   simp only [denL, z7_, z6_, z5_, zr_, zb_, strDen, zc_ b2]
  ·exact xb_
  ·exact xb_
 ·cases hs
theorem formC_cases (op : Int) : (32 < op ∧ op ≤ 49 ∧ xe_ op = 1) ∨ ((op = 1 ∨ op = 2) ∧ xe_ op = 2) ∨ (op = 3 ∧ xe_ op = 3) ∨ (4 ≤ op ∧ op ≤ 7 ∧ xe_ op = 4) ∨ (op = 8 ∧ xe_ op = 5) ∨ (op = 9 ∧ xe_ op = 6) ∨ ((op = 10 ∨ op = 11) ∧ xe_ op = 7) ∨ (¬ (32 < op ∧ op ≤ 49) ∧ ¬ (1 ≤ op ∧ op ≤ 11) ∧ xe_ op = 0) := by
 unfold xe_
 repeat' split
 all_goals omega
theorem rform_lit (op : Int) (h0 : 0 ≤ op ∧ op ≤ 255) : zo_ Tryz.prog 140 [.int .u8 op] [.gone] (.tup [.str (y0_ (xe_ op)), .bool (decide (xe_ op ≠ 0))]) [.gone] := by
 rcases formC_cases op with ⟨h1, h2, hk⟩ | ⟨h1, hk⟩ | ⟨h1, hk⟩ | ⟨h1, h2, hk⟩ | ⟨h1, hk⟩ | ⟨h1, hk⟩ | ⟨h1, hk⟩ | ⟨h1, h2, hk⟩
 all_goals
  rw [hk]
  refine ze_ (fn := Tryz.f140) 1 28 0 rfl rfl rfl rfl rfl u6_ rfl fun w0 M E hro => ?_
  repeat' (first | refine Ctl.h ?_ | ((with_reducible intro hif); first | (focus (cases hif; done)) | ((try simp only [JH] at hif); try (exfalso; omega))) | ((with_reducible first | apply J22 zq_ za_ | apply J23 fol zq_ za_ | apply J24); (·rfl); (· exact k20_); (try kernel_rfl); try exact yk_) | fail)
 all_goals
  apply At.endsRet za_ (fn := Tryz.f140) (rs := [.tmp 2, .tmp 3]) Anc.refl hro (lb_ rfl) rfl
  ·exact k11_
  ·exact yl_
  ·exact k6_
  ·rfl
  ·exact xb_
  ·exact zs_
  ·(intro β; first | rfl | (exfalso; simp only [Bool.and_eq_false_iff, decide_eq_false_iff_not] at hif; omega))
  ·exact xb_
def sRForm : yq_ := fun args h m => match args with
 | [v1] => bif isI .u8 v1 then some ((0 ≤ (iOf v1) ∧ (iOf v1) ≤ 255), .tup [.str (y0_ (xe_ (iOf v1))), .bool (decide (xe_ (iOf v1) ≠ 0))], [], []) else none
 | _ => none
theorem sRForm_ok : zj_ Tryz.prog 140 sRForm := by
 refine ⟨zf_ (by kernel_rfl), fun args h m c v rd wr hs hm hc w0 M β h' w R hrd hwr hst => ?_⟩
 unfold sRForm at hs
 split at hs
 ·rename_i v1
  obtain ⟨hb, hs⟩ := zk_ hs
  simp only [Option.some.injEq, Prod.mk.injEq] at hs
  obtain ⟨rfl, rfl, rfl, rfl⟩ := hs
  have b1 := hb
  have y1 := hc
  refine yf_ (views := []) (rform_lit (iOf v1) y1) ?_ R hm hwr ?_ ?_ ?_
  ·intro x hx; cases hx
  ·intro β1 hv
   simp only [denL, z7_, z6_, z5_, zr_, zb_, zc_ b1]
  ·exact xb_
  ·exact xb_
 ·cases hs
end Go.Proofs.YtjliakjbdcplcaaGreat.Vm
end
section
namespace Go.Proofs.YtjliakjbdcplcaaGreat.Vm
open Go.RowKit
attribute [local push_cast] prS zn_ i64S nav_ins xz_ xy_ xx_ xw_ xv_ nav_snd xu_ xt_ xs_ z4_ yh_ yn_ yg_ zw_ zy_ iOf
theorem cf1r : cntB (y0_ 1) 114 (y0_ 1).size = 3 := by decide
theorem cf1n : cntB (y0_ 1) 110 (y0_ 1).size = 0 := by decide
theorem cf1p : cntB (y0_ 1) 112 (y0_ 1).size = 0 := by decide
theorem cf1t : cntB (y0_ 1) 116 (y0_ 1).size = 0 := by decide
theorem cf2r : cntB (y0_ 2) 114 (y0_ 2).size = 0 := by decide
theorem cf2n : cntB (y0_ 2) 110 (y0_ 2).size = 0 := by decide
theorem cf2p : cntB (y0_ 2) 112 (y0_ 2).size = 0 := by decide
theorem cf2t : cntB (y0_ 2) 116 (y0_ 2).size = 0 := by decide
theorem cf3r : cntB (y0_ 3) 114 (y0_ 3).size = 1 := by decide
theorem cf3n : cntB (y0_ 3) 110 (y0_ 3).size = 1 := by decide
theorem cf4r : cntB (y0_ 4) 114 (y0_ 4).size = 2 := by decide
theorem cf4n : cntB (y0_ 4) 110 (y0_ 4).size = 0 := by decide
theorem cf4p : cntB (y0_ 4) 112 (y0_ 4).size = 0 := by decide
theorem cf4t : cntB (y0_ 4) 116 (y0_ 4).size = 0 := by decide
theorem cf5r : cntB (y0_ 5) 114 (y0_ 5).size = 2 := by decide
theorem cf5n : cntB (y0_ 5) 110 (y0_ 5).size = 0 := by decide
theorem cf5p : cntB (y0_ 5) 112 (y0_ 5).size = 1 := by decide
theorem cf5t : cntB (y0_ 5) 116 (y0_ 5).size = 0 := by decide
theorem cf6r : cntB (y0_ 6) 114 (y0_ 6).size = 0 := by decide
theorem cf6n : cntB (y0_ 6) 110 (y0_ 6).size = 0 := by decide
theorem cf6p : cntB (y0_ 6) 112 (y0_ 6).size = 0 := by decide
theorem cf6t : cntB (y0_ 6) 116 (y0_ 6).size = 1 := by decide
theorem cf7r : cntB (y0_ 7) 114 (y0_ 7).size = 1 := by decide
theorem cf7n : cntB (y0_ 7) 110 (y0_ 7).size = 0 := by decide
theorem cf7p : cntB (y0_ 7) 112 (y0_ 7).size = 0 := by decide
theorem cf7t : cntB (y0_ 7) 116 (y0_ 7).size = 1 := by decide
theorem formS_size (k : Nat) : (y0_ k).size ≤ 1000000 := by
 unfold y0_; split <;> decide
def cROne : FuncId → Option yq_ := y3_ [(140, sRForm), (141, sRCnt)]
theorem cROne_ok : ∀ f S, cROne f = some S → zj_ Tryz.prog f S := zp_ ⟨sRForm_ok, sRCnt_ok, trivial⟩
theorem rone_lit (i : Ins) (hi : i.ok) : zo_ Tryz.prog 116 [yo_ i] [.gone] (.int .i64 (oneE i)) [.gone] := by
 obtain ⟨op, a, b, c, n⟩ := i
 have o0 := hi.op0
 have o1 := hi.op1
 have a0 := hi.a0
 have a1 := hi.a1
 have b0 := hi.b0
 have b1 := hi.b1
 have c0 := hi.c0
 have c1 := hi.c1
 have hfs := formS_size
 dsimp only at o0 o1 a0 a1 b0 b1 c0 c1
 show zo_ Tryz.prog 116 [.agg [.int .u8 op, .int .u8 a, .int .u8 b, .int .u8 c, .int .i64 n]] [.gone] (.int .i64 (if xe_ op = 0 then 140 else oneK (xe_ op) a b c n)) [.gone]
 rcases formC_cases op with ⟨h1, h2, hk⟩ | ⟨h1, hk⟩ | ⟨h1, hk⟩ | ⟨h1, h2, hk⟩ | ⟨h1, hk⟩ | ⟨h1, hk⟩ | ⟨h1, hk⟩ | ⟨h1, h2, hk⟩
 all_goals
  rw [hk]
  refine ze_ (fn := Tryz.f116) 1 75 0 rfl rfl rfl rfl rfl u6_ rfl fun w0 M E hro => ?_
  repeat' (first | refine Ctl.h ?_ | ((with_reducible intro hif); first | (focus (cases hif; done)) | ((try simp only [JH] at hif); try (exfalso; omega))) | ((with_reducible first | apply J22 cROne_ok za_ | apply J23 fol cROne_ok za_ | apply J24); (·rfl); (· (simp only [push_cast, ↓JP, Nat.reduceAdd, Nat.reduceEqDiff, Nat.reduceLT, Nat.reduceMul, Nat.reduceLeDiff, reduceCtorEq, reduceIte, ↓JK, cROne, sRForm, sRCnt, hk, cf1r, cf1n, cf1p, cf1t, cf2r, cf2n, cf2p, cf2t, cf3r, cf3n, cf4r, cf4n, cf4p, cf4t, cf5r, cf5n, cf5p, cf5t, cf6r, cf6n, cf6p, cf6t, cf7r, cf7n, cf7p, cf7t, zw_, zy_, iOf]; rfl)); (try kernel_rfl); (try (focus (first | exact True.intro | ((try simp only [JS, implies_true, forall_const, z9_, z2_, kndOf]); (first | first | omega | exact hfs _ | (repeat' (first | assumption | exact True.intro | omega | apply And.intro))); done))))) | fail)
 all_goals
  apply At.endsRet za_ (fn := Tryz.f116) (rs := [.tmp 2]) Anc.refl hro (lb_ rfl) rfl
  ·exact yi_
  ·exact yl_
  ·exact k6_
  ·rfl
  ·exact xb_
  ·exact zs_
  ·(intro β; first | rfl | (refine congrArg (fun x => Value.int .i64 x) (Eq.symm ?_); first | exact oneK_pos (by simp only [xl_]; simp at *; omega) | exact yx_ (by simp only [xl_]; simp at *; omega)))
  ·exact xb_
def sROne : yq_ := fun args h m => match args with
 | [v1] => bif isIns v1 then some (((zl_ v1).ok), .int .i64 (oneE (zl_ v1)), [], []) else none
 | _ => none
theorem sROne_ok : zj_ Tryz.prog 116 sROne := by
 refine ⟨zf_ (by kernel_rfl), fun args h m c v rd wr hs hm hc w0 M β h' w R hrd hwr hst => ?_⟩
 unfold sROne at hs
 split at hs
 ·rename_i v1
  obtain ⟨hb, hs⟩ := zk_ hs
  simp only [Option.some.injEq, Prod.mk.injEq] at hs
  obtain ⟨rfl, rfl, rfl, rfl⟩ := hs
  have b1 := hb
  have y1 := hc
  refine yf_ (views := []) (rone_lit (zl_ v1) y1) ?_ R hm hwr ?_ ?_ ?_
  ·intro x hx; cases hx
  ·intro β1 hv
   simp only [denL, z7_, z6_, z5_, zr_, zb_, den_insOf b1, den_insS]
  ·exact xb_
  ·exact xb_
 ·cases hs
end Go.Proofs.YtjliakjbdcplcaaGreat.Vm
end
