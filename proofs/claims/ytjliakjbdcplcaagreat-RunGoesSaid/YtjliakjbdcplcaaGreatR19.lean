import Derived.Test.YtjliakjbdcplcaaGreatR1
import Derived.Test.YtjliakjbdcplcaaGreatR8
import Derived.Test.YtjliakjbdcplcaaGreatR10
import Derived.Test.YtjliakjbdcplcaaGreatR11
import Derived.Test.YtjliakjbdcplcaaGreatR18
set_option linter.unusedSimpArgs false
set_option linter.unusedVariables false
set_option maxRecDepth 100000
set_option maxHeartbeats 4000000
section
namespace Go.Proofs.YtjliakjbdcplcaaGreat.Vm
open Go.RowKit
def sbV (v n j : Nat) : Nat := v % 2 ^ j * n / 2 ^ j
theorem sbV_zero (v n : Nat) : sbV v n 0 = 0 := by simp [sbV, Nat.mod_one]
theorem sbV_next (v n j : Nat) : sbV v n (j + 1) = (sbV v n j + (if v.testBit j then n else 0)) / 2 := by
 have hp : 0 < 2 ^ j := Nat.pow_pos (by decide)
 unfold sbV
 rw [mod_next, Nat.add_mul, Nat.pow_succ, ← Nat.div_div_eq_div_mul]
 cases v.testBit j
 ·simp
 ·simp only [if_true]
  rw [Nat.add_mul_div_left _ _ hp]
theorem sbV_lt (v n j : Nat) (hn : 0 < n) : sbV v n j < n := by
 have hp : 0 < 2 ^ j := Nat.pow_pos (by decide)
 unfold sbV
 rw [Nat.div_lt_iff_lt_mul hp, Nat.mul_comm n]
 exact Nat.mul_lt_mul_of_pos_right (Nat.mod_lt _ hp) hn
theorem below_lit (v n : Nat) (hv : v < 18446744073709551616) (hn0 : 0 < n) (hn : n ≤ 9223372036854775807) : zp_ Tryz.prog 119 [.nat .u64 v, .nat .i64 n] [.gone] (.nat .i64 (sbV v n 64)) [.gone] := by
 have hz0 := sbV_zero v n
 refine ze_ (fn := Tryz.f119) 1 24 0 rfl rfl rfl rfl rfl (by simp only [zd_, Stable, hp, i64S]; simp [HB.born]) rfl fun w0 M E hro => ?_
 repeat' (first | refine Ctl.h ?_ | ((with_reducible intro hif); first | (focus (cases hif; done)) | ((try simp only [JH] at hif); try (exfalso; omega))) | ((with_reducible first | apply J22 zs_ za_ | apply J23 fol zs_ za_ | apply J24); (·rfl); (· exact k15_); (try kernel_rfl); try exact y5_) | fail)
 refine WF.loopAt (fun (j : Nat) => j ≤ 64) (fun (j : Nat) => [(0, .nat .u64 v), (1, .nat .i64 n), (5, .nat .u64 (sbV v n j)), (6, .nat .i64 j)]) (fun (j : Nat) => [.gone]) (fun (j : Nat) => 64 - j) 0 (Nat.zero_le _) ?_ ?_ rfl ?_ ?_ rfl ?_
 ·exact k21_
 ·exact k6_
 ·exact k51_
 ·exact k51_
 intro j hj
 have hlt := sbV_lt v n j hn0
 by_cases hjl : j < 64
 ·have hmn := sbV_next v n j
  have hb1 := bit_div v j
  have hm1 : min j 64 = j := by omega
  cases hc : v.testBit j
  all_goals
   rw [hc] at hmn hb1
   simp only [b2, if_true, Bool.false_eq_true, if_false, Nat.add_zero] at hmn hb1
   repeat' (first | refine Ctl.h ?_ | ((with_reducible intro hif); first | (focus (cases hif; done)) | ((try simp only [JH] at hif); try (exfalso; omega))) | ((with_reducible first | apply J22 zs_ za_ | apply J23 fol zs_ za_ | apply J24); (·rfl); (· (simp only [push_cast, ↓JP, Nat.reduceAdd, Nat.reduceEqDiff, Nat.reduceLT, Nat.reduceMul, Nat.reduceLeDiff, reduceCtorEq, reduceIte, hjl, hm1, hb1, inR, inN, IntKind.bits]; rfl)); (try kernel_rfl); try exact k26_) | fail)
   refine At.next (j + 1) ?_ ?_ ?_ rfl ?_ ?_ rfl
   ·exact ⟨by omega, by omega⟩
   ·exact k52_
   ·exact k6_
   ·exact k51_
   ·exact k51_
 ·obtain rfl : j = 64 := by omega
  repeat' (first | refine Ctl.h ?_ | ((with_reducible intro hif); first | (focus (cases hif; done)) | ((try simp only [JH] at hif); try (exfalso; omega))) | ((with_reducible first | apply J22 zs_ za_ | apply J23 fol zs_ za_ | apply J24); (·rfl); (· (simp only [push_cast, ↓JP, Nat.reduceAdd, Nat.reduceEqDiff, Nat.reduceLT, Nat.reduceMul, Nat.reduceLeDiff, reduceCtorEq, reduceIte, hjl, inR, inN]; rfl)); (try kernel_rfl); (try (focus (first | exact True.intro | ((repeat' (first | exact True.intro | apply And.intro | omega | decide | (simp only [inN]; omega))); done) | ((try simp only [JS, implies_true, forall_const, yd_, z9_, kndOf, inR, inN]); (repeat' (first | assumption | exact True.intro | omega | apply And.intro)); done))))) | fail)
  apply At.endsRet za_ (fn := Tryz.f119) (rs := [.tmp 4]) Anc.refl hro (lb_ rfl) rfl
  ·exact k11_
  ·exact ys_
  ·exact k6_
  ·rfl
  ·exact k51_
  ·exact zx_
  ·exact fun β => rfl
  ·exact k51_
theorem rbelow_ok (v n : Int) (h0 : 0 ≤ v) (h1 : v < 18446744073709551616) (h2 : 1 ≤ n) (h3 : n ≤ 9223372036854775807) : zp_ Tryz.prog 119 [.int .u64 v, .int .i64 n] [.gone] (.int .i64 (belowI v n)) [.gone] := by
 obtain ⟨V, rfl⟩ : ∃ V : Nat, v = (V : Int) := ⟨v.toNat, by omega⟩
 obtain ⟨k, rfl⟩ : ∃ k : Nat, n = (k : Int) := ⟨n.toNat, by omega⟩
 have e : belowI (V : Int) (k : Int) = ((sbV V k 64 : Nat) : Int) := by
  have hw : IntKind.u64.wrap (k : Int) = (k : Int) := by rw [wrapU64]; omega
  have hs : sbV V k 64 = V * k / 18446744073709551616 := by
   have h64 : (2 : Nat) ^ 64 = 18446744073709551616 := by decide
   unfold sbV
   rw [h64, Nat.mod_eq_of_lt (by omega)]
  have hl := sbV_lt V k 64 (by omega)
  have hu : upperI (V : Int) (k : Int) = ((sbV V k 64 : Nat) : Int) := by
   rw [upper_eq _ _ (by omega) (by omega) (by omega) (by omega), hs]
   simp
  rw [belowI, hw, hu, wrap64]
  omega
 rw [e]
 exact below_lit V k (by omega) (by omega) (by omega)
def sRBel : yt_ := fun args h m => match args with
 | [v1, v2] => bif isI .u64 v1 && isI .i64 v2 then some ((0 ≤ (iOf v1)) ∧ ((iOf v1) < 18446744073709551616) ∧ (1 ≤ (iOf v2)) ∧ ((iOf v2) ≤ 9223372036854775807), .int .i64 (belowI (iOf v1) (iOf v2)), [], []) else none
 | _ => none
theorem sRBel_ok : zh_ Tryz.prog 119 sRBel := by
 refine ⟨zf_ (by kernel_rfl), fun args h m c v rd wr hs hm hc w0 M β h' w R hrd hwr hst => ?_⟩
 unfold sRBel at hs
 split at hs
 ·rename_i v1 v2
  obtain ⟨hb, hs⟩ := zj_ hs
  simp only [Option.some.injEq, Prod.mk.injEq] at hs
  obtain ⟨rfl, rfl, rfl, rfl⟩ := hs
  simp only [Bool.and_eq_true] at hb
  obtain ⟨b1, b2⟩ := hb
  obtain ⟨y1, y2, y3, y4⟩ := hc
  refine ym_ (views := []) (rbelow_ok (iOf v1) (iOf v2) y1 y2 y3 y4) ?_ R hm hwr ?_ ?_ ?_
  ·intro x hx; cases hx
  ·intro β1 hv
   simp only [denL, yh_, yg_, yf_, zv_, zb_, zc_ b1, zc_ b2]
  ·exact k51_
  ·exact k51_
 ·cases hs
def oldB (ρ : Nat → Nat) : List HB → List HB → List Nat → List (Nat × HB)
 | [], _, _ => []
 | b :: L0, L1, l => match L1, l with
  | c :: L1, j :: l => bif b.mine then (j, c.ren ρ) :: oldB ρ L0 L1 l else oldB ρ L0 L1 l
  | _, _ => []
def mrgL : List HB → List HB → List HB
 | [], L1 => L1
 | b :: L0, L1 => match L1 with
  | c :: L1 => (bif b.mine then c else b) :: mrgL L0 L1
  | [] => []
def noRo2 : List HB → List HB → Bool
 | [], L1 => L1.all fun c => !c.isRo
 | b :: L0, L1 => match L1 with
  | c :: L1 => (!b.mine || (c.born && !c.isRo)) && noRo2 L0 L1
  | [] => true
theorem hp_cons (b : HB) (L : List HB) (i : Nat) : hp (b :: L) (i + 1) = hp L i := by unfold hp; simp
theorem hp_zero (b : HB) (L : List HB) : hp (b :: L) 0 = b := by unfold hp; simp
theorem noRo2_old : ∀ {L0 L1 : List HB}, noRo2 L0 L1 = true → L0.length ≤ L1.length → ∀ i, i < L0.length → (hp L0 i).mine = true → (hp L1 i).born = true ∧ (hp L1 i).isRo = false
 | [], _, _, _, i, hi, _ => by simp at hi
 | b :: L0, [], _, hl, _, _, _ => by simp at hl
 | b :: L0, c :: L1, h, hl, i, hi, hm => by
  simp only [noRo2, Bool.and_eq_true, Bool.or_eq_true, Bool.not_eq_true'] at h
  cases i with
  | zero =>
   rw [hp_zero] at hm
   rw [hp_zero]
   rcases h.1 with h1 | h1
   ·rw [hm] at h1; cases h1
   ·exact h1
  | succ i =>
   rw [hp_cons] at hm
   rw [hp_cons]
   exact noRo2_old h.2 (by simpa using hl) i (by simpa using hi) hm
theorem noRo2_new : ∀ {L0 L1 : List HB}, noRo2 L0 L1 = true → L0.length ≤ L1.length → ∀ i, L0.length ≤ i → (hp L1 i).isRo = false
 | [], L1, h, _, i, _ => by
  simp only [noRo2, List.all_eq_true] at h
  unfold hp
  rw [List.getD_eq_getElem?_getD]
  cases hh : L1[i]? with
  | none => rfl
  | some x => simpa using h x (List.mem_of_getElem? hh)
 | b :: L0, [], _, hl, _, _ => by simp at hl
 | b :: L0, c :: L1, h, hl, i, hi => by
  simp only [noRo2, Bool.and_eq_true] at h
  cases i with
  | zero => simp at hi
  | succ i =>
   rw [hp_cons]
   exact noRo2_new h.2 (by simpa using hl) i (by simpa using hi)
theorem mrgL_get : ∀ {L0 L1 : List HB}, L0.length ≤ L1.length → ∀ i, hp (mrgL L0 L1) i = if i < L0.length then (bif (hp L0 i).mine then hp L1 i else hp L0 i) else hp L1 i
 | [], L1, _, i => by simp [mrgL]
 | b :: L0, [], hl, _ => by simp at hl
 | b :: L0, c :: L1, hl, i => by
  cases i with
  | zero => simp [mrgL, hp_zero]
  | succ i =>
   simp only [mrgL, hp_cons]
   rw [mrgL_get (by simpa using hl) i]
   simp
theorem wrs_oldB_ne {ρ : Nat → Nat} : ∀ {L0 L1 : List HB} {l : List Nat} {h : HM} {j : Nat}, (∀ i, i < L0.length → (hp L0 i).mine = true → l.getD i 0 ≠ j) → wrs h (oldB ρ L0 L1 l) j = h j
 | [], _, _, h, j, _ => rfl
 | b :: L0, [], l, h, j, _ => rfl
 | b :: L0, c :: L1, [], h, j, _ => rfl
 | b :: L0, c :: L1, k :: l, h, j, hn => by
  have ih := fun h' => wrs_oldB_ne (ρ := ρ) (L0 := L0) (L1 := L1) (l := l) (h := h') (j := j) (fun i hi hm => by
   have := hn (i + 1) (by simpa using hi) (by rw [hp_cons]; exact hm)
   simpa using this)
  cases hb : b.mine with
  | false => simp only [oldB, hb, cond_false]; exact ih h
  | true =>
   simp only [oldB, hb, cond_true]
   show wrs (upd h k (c.ren ρ)) (oldB ρ L0 L1 l) j = h j
   rw [ih, yb_ (fun e => hn 0 (by simp) (by rw [hp_zero]; exact hb) (by simpa using e.symm))]
theorem wrs_oldB {ρ : Nat → Nat} : ∀ {L0 L1 : List HB} {l : List Nat} {h : HM}, L0.length ≤ L1.length → l.length = L0.length → (∀ i j, i < j → j < L0.length → (hp L0 i).mine = true → (hp L0 j).mine = true → l.getD i 0 ≠ l.getD j 0) → ∀ i, i < L0.length → (hp L0 i).mine = true → wrs h (oldB ρ L0 L1 l) (l.getD i 0) = (hp L1 i).ren ρ
 | [], _, _, h, _, _, _, i, hi, _ => by simp at hi
 | b :: L0, [], l, h, hl, _, _, _, _, _ => by simp at hl
 | b :: L0, c :: L1, [], h, _, hl, _, _, _, _ => by simp at hl
 | b :: L0, c :: L1, k :: l, h, hle, hln, hn, i, hi, hm => by
  cases i with
  | zero =>
   rw [hp_zero] at hm
   simp only [oldB, hm, cond_true, List.getD_cons_zero]
   show wrs (upd h k (c.ren ρ)) (oldB ρ L0 L1 l) k = _
   rw [wrs_oldB_ne (fun i hi hm' e => hn 0 (i + 1) (by omega) (by simpa using hi) (by rw [hp_zero]; exact hm) (by rw [hp_cons]; exact hm') (by simpa using e.symm)), zt_, hp_zero]
  | succ i =>
   rw [hp_cons] at hm
   have ih := fun h' => wrs_oldB (ρ := ρ) (L0 := L0) (L1 := L1) (l := l) (h := h') (by simpa using hle) (by simpa using hln) (fun a b hab hb ha hb' => by
    have := hn (a + 1) (b + 1) (by omega) (by simpa using hb) (by rw [hp_cons]; exact ha) (by rw [hp_cons]; exact hb')
    simpa using this) i (by simpa using hi) hm
   rw [List.getD_cons_succ, hp_cons]
   cases hb : b.mine with
   | false => simp only [oldB, hb, cond_false]; exact ih h
   | true =>
    simp only [oldB, hb, cond_true]
    exact ih (upd h k (c.ren ρ))
theorem wrs_app : ∀ (l : List (Nat × HB)) {m : List (Nat × HB)} {h : HM}, wrs h (l ++ m) = wrs (wrs h l) m
 | [], _, _ => rfl
 | p :: l, m, h => wrs_app l
theorem laid_rw {L0 L1 : List HB} {h : HM} {l : List Nat} {m : Nat} {v : SV} (hlen : l.length = L0.length) (hpos : 0 < L0.length) (h00 : l.getD 0 0 = 0) (hz : hp L0 0 = .gone) (hfit : FitL (xw_ l m) h L0 l) (hinj : ∀ i j, i < L0.length → j < L0.length → i ≠ j → (hp L0 i).mine = true → (hp L0 j).mine = true ∨ (hp L0 j).isRo = true → l.getD i 0 ≠ l.getD j 0)
  (hm : ∀ i, m ≤ i → i < m + (L1.length - L0.length) → h i = .dead) (hle : L0.length ≤ L1.length) (hno : noRo2 L0 L1 = true)
  (hst0 : xe_ (hp L0) L0) (hstb : ∀ j, (h j).stable h) (hst1 : xe_ (hp (mrgL L0 L1)) (mrgL L0 L1)) (hv : Stable (hp (mrgL L0 L1)) v) :
  Laid L0 L1 h (wrs h (oldB (xw_ l m) L0 L1 l ++ newB (xw_ l m) m (L1.drop L0.length))) (xw_ l m) m v := by
 rw [wrs_app]
 obtain ⟨k, hk⟩ : ∃ k, k = L1.length - L0.length := ⟨_, rfl⟩
 have hdl : (L1.drop L0.length).length = k := by rw [List.length_drop, hk]
 have hrl : ∀ i, i < L0.length → xw_ l m i = l.getD i 0 := fun i hi => if_pos (by omega)
 have hrn : ∀ i, L0.length ≤ i → xw_ l m i = m + (i - L0.length) := fun i hi => by
  unfold xw_; rw [if_neg (by omega), hlen]
 have hget : ∀ j, m ≤ j → (L1.drop L0.length).getD (j - m) .dead = hp L1 (L0.length + (j - m)) := fun j hj => by
  unfold hp
  rw [List.getD_eq_getElem?_getD, List.getD_eq_getElem?_getD, List.getElem?_drop]
 have hmr := mrgL_get hle
 generalize hh1 : wrs h (oldB (xw_ l m) L0 L1 l) = h1
 have hnewj : ∀ j, m ≤ j → j < m + k → wrs h1 (newB (xw_ l m) m (L1.drop L0.length)) j = (hp L1 (L0.length + (j - m))).ren (xw_ l m) := fun j h1 h3 => by
  rw [wrs_newB, if_pos ⟨h1, by omega⟩, hget j h1]
 have holdj : ∀ j, ¬ (m ≤ j ∧ j < m + k) → wrs h1 (newB (xw_ l m) m (L1.drop L0.length)) j = h1 j := fun j hj => by
  rw [wrs_newB, if_neg (by rw [hdl]; exact hj)]
 have bornold : ∀ j, (h j).born = true → ¬ (m ≤ j ∧ j < m + k) := fun j hj hc => by
  rw [hm j hc.1 (by omega)] at hj; cases hj
 have hfit' : ∀ i, i < L0.length → Fit (xw_ l m) (hp L0 i) (h (xw_ l m i)) := fun i hi => by rw [hrl i hi]; exact fitL_get hfit i hi
 have hborn : ∀ i, i < L0.length → (h (l.getD i 0)).born = true := fun i hi => by rw [← hrl i hi]; exact (hfit' i hi).born
 have him : ∀ i, i < L0.length → (hp L0 i).mine = true → h1 (l.getD i 0) = (hp L1 i).ren (xw_ l m) := fun i hi hmi => by
  rw [← hh1]
  exact wrs_oldB hle hlen (fun a b hab hb ha hb' => hinj a b (by omega) hb (by omega) ha (.inl hb')) i hi hmi
 have hne : ∀ j, (∀ i, i < L0.length → (hp L0 i).mine = true → l.getD i 0 ≠ j) → h1 j = h j := fun j hj => by
  rw [← hh1]
  exact wrs_oldB_ne hj
 have born_ren : ∀ {b : HB}, b.born = true → (b.ren (xw_ l m)).born = true := fun {b} hb => by
  cases b <;> first | rfl | (cases hb; done)
 have more1 : ∀ j, (h j).born = true → (h1 j).born = true := fun j hj => by
  by_cases hc : ∃ i, i < L0.length ∧ (hp L0 i).mine = true ∧ l.getD i 0 = j
  ·obtain ⟨i, hi, hmi, rfl⟩ := hc
   rw [him i hi hmi]
   exact born_ren (noRo2_old hno hle i hi hmi).1
  ·rw [hne j (fun i hi hmi e => hc ⟨i, hi, hmi, e⟩)]; exact hj
 have more : ∀ i, (h i).born = true → (wrs h1 (newB (xw_ l m) m (L1.drop L0.length)) i).born = true := fun i hi => by rw [holdj i (bornold i hi)]; exact more1 i hi
 have moreG : ∀ i, (hp (mrgL L0 L1) i).born = true → (wrs h1 (newB (xw_ l m) m (L1.drop L0.length)) (xw_ l m i)).born = true := fun i hi => by
  rw [hmr i] at hi
  split at hi
  ·rename_i hlt
   exact more _ (hfit' i hlt).born
  ·rename_i hge
   have hlt : i < L1.length := by
    rcases Nat.lt_or_ge i L1.length with h' | h'
    ·exact h'
    ·rw [xc_ h'] at hi; cases hi
   rw [hrn i (by omega), hnewj _ (by omega) (by omega), show L0.length + (m + (i - L0.length) - m) = i by omega]
   exact born_ren hi
 have stG := xx_ hst1
 have ren_st : ∀ {b : HB}, b.stable (hp (mrgL L0 L1)) → (b.ren (xw_ l m)).stable (wrs h1 (newB (xw_ l m) m (L1.drop L0.length))) := fun {b} hs => by
  cases b with
  | own t u ex => exact Stable.ren moreG hs
  | ro u => exact Stable.ren moreG hs
  | raw o => trivial
  | gone => trivial
  | dead => trivial
 refine { z := by rw [hrl 0 hpos, h00], z0 := hz, new := fun i hi => hrn i hi, pre := hfit', inj := fun i j hi hj hne hmi hmj => by rw [hrl i hi, hrl j hj]; exact hinj i j hi hj hne hmi hmj, img := fun i hi hmi => ?_, old := fun j hj hno => ?_, fresh := fun j hj => ?_, un := fun i hi hb => ?_, st0 := xx_ hst0, st2 := fun j => ?_, stv := hv.ren moreG }
 ·rw [hrl i hi, holdj _ (bornold _ (hborn i hi)), him i hi hmi]
  exact ⟨rfl, (noRo2_old hno hle i hi hmi).2⟩
 ·rw [holdj j (bornold j hj)]
  exact hne j fun i hi hmi => by rw [← hrl i hi]; exact hno i hi hmi
 ·by_cases hc : m ≤ j ∧ j < m + k
  ·exact .inr ⟨hc.1, hnewj j hc.1 hc.2, noRo2_new hno hle _ (by omega)⟩
  ·left
   rw [holdj j hc, hne j (fun i hi hmi e => by rw [← e, hborn i hi] at hj; cases hj)]
   cases hh : h j <;> rw [hh] at hj <;> first | rfl | (cases hj; done)
 ·exact d23_
 ·by_cases hc : m ≤ j ∧ j < m + k
  ·rw [hnewj j hc.1 hc.2]
   have hs := stG (L0.length + (j - m))
   rw [hmr, if_neg (by omega)] at hs
   exact ren_st hs
  ·rw [holdj j hc]
   by_cases hc2 : ∃ i, i < L0.length ∧ (hp L0 i).mine = true ∧ l.getD i 0 = j
   ·obtain ⟨i, hi, hmi, rfl⟩ := hc2
    rw [him i hi hmi]
    have hs := stG i
    rw [hmr, if_pos hi, hmi] at hs
    exact ren_st hs
   ·rw [hne j (fun i hi hmi e => hc2 ⟨i, hi, hmi, e⟩)]
    exact HB.stable_more (hstb j) more
theorem callRW {P : Program} {f : FuncId} {args : List SV} {L0 L1 : List HB} {v : SV} {w0 w : World} {M : Nat → Prop} {β : Env} {h h' : HM} {m : Nat} (l : List Nat) (H : zp_ P f args L0 v L1) (R : Rep w0 M β h' w) (hlen : l.length = L0.length) (hpos : 0 < L0.length) (h00 : l.getD 0 0 = 0) (hz : hp L0 0 = .gone) (hfit : FitL (xw_ l m) h' L0 l)
  (hinj : ∀ i j, i < L0.length → j < L0.length → i ≠ j → (hp L0 i).mine = true → (hp L0 j).mine = true ∨ (hp L0 j).isRo = true → l.getD i 0 ≠ l.getD j 0)
  (hm : ∀ i, m ≤ i → h i = .dead) (hwr : ∀ p ∈ newB (xw_ l m) m (L1.drop L0.length), h' p.1 = h p.1) (hle : L0.length ≤ L1.length) (hno : noRo2 L0 L1 = true)
  (hst0 : xe_ (hp L0) L0) (hsta : zd_ (hp L0) args) (hst1 : xe_ (hp (mrgL L0 L1)) (mrgL L0 L1)) (hv : Stable (hp (mrgL L0 L1)) v) :
  Calls P f (denL β (renL (xw_ l m) args)).toArray w fun e w' => ∃ β', (∀ i, (h' i).born = true → β i = β' i) ∧ Rep w0 M β' (wrs h' (oldB (xw_ l m) L0 L1 l ++ newB (xw_ l m) m (L1.drop L0.length))) w' ∧ Stable (wrs h' (oldB (xw_ l m) L0 L1 l ++ newB (xw_ l m) m (L1.drop L0.length))) (v.ren (xw_ l m)) ∧ e = .returned ((v.ren (xw_ l m)).den β') :=
 call_lit H R (laid_rw hlen hpos h00 hz hfit hinj (fun i hi hlt => by
  obtain ⟨b, hb⟩ := newB_mem (ρ := xw_ l m) (l := L1.drop L0.length) hi (by rw [List.length_drop]; exact hlt)
  exact (hwr _ hb).trans (hm i hi)) hle hno hst0 R.st hst1 hv) hsta
end Go.Proofs.YtjliakjbdcplcaaGreat.Vm
end
section
namespace Go.Proofs.YtjliakjbdcplcaaGreat.Vm
open Go.RowKit
def stS (s : Sta) (c k : Nat) : SV := .agg [.int .i64 s.at_, .bool s.ended, .arr 8 1 fun q => .int .i64 (s.regs q), .sl c c [] 1 0 s.cells.length none, .int .i64 s.draws, .sl k k [] 3 0 s.sends.length none]
def evS (v : Evi) : SV := .agg [.int .u64 v.seed, .int .i64 v.process, .int .i64 v.ports, .int .i64 v.look, .int .i64 v.now]
def macS (s : Sta) (v : Evi) (x : Ins) (c k : Nat) : SV := .agg [stS s c k, evS v, yr_ x]
def mB (s : Sta) (v : Evi) (x : Ins) (c k : Nat) : HB := .own 186 (macS s v x c k) true
def cB (s : Sta) : HB := .own 2 (.arr s.cells.length 1 (i64S s.cells)) false
def sB (s : Sta) : HB := .own 125 (.arr s.sends.length 3 (zm_ s.sends)) false
theorem stS_eq (s : Sta) (c k : Nat) : stS s c k = .agg [.int .i64 s.at_, .bool s.ended, .arr 8 1 fun q => .int .i64 (s.regs q), .sl c c [] 1 0 s.cells.length none, .int .i64 s.draws, .sl k k [] 3 0 s.sends.length none] := rfl
theorem evS_eq (v : Evi) : evS v = .agg [.int .u64 v.seed, .int .i64 v.process, .int .i64 v.ports, .int .i64 v.look, .int .i64 v.now] := rfl
theorem macS_eq (s : Sta) (v : Evi) (x : Ins) (c k : Nat) : macS s v x c k = .agg [stS s c k, evS v, yr_ x] := rfl
theorem mB_eq (s : Sta) (v : Evi) (x : Ins) (c k : Nat) : mB s v x c k = .own 186 (macS s v x c k) true := rfl
theorem cB_eq (s : Sta) : cB s = .own 2 (.arr s.cells.length 1 (i64S s.cells)) false := rfl
theorem sB_eq (s : Sta) : sB s = .own 125 (.arr s.sends.length 3 (zm_ s.sends)) false := rfl
set_option linter.defProp false in
def JM := And.intro @stS_eq (And.intro @evS_eq (And.intro @macS_eq (And.intro @mB_eq (And.intro @cB_eq @sB_eq))))
theorem ls_getD {α : Type} {g : SV → α} {n q : Nat} {f : Nat → SV} {d : α} (h : q < n) : (ls g n f).getD q d = g (f q) := by
 simp [ls, h]
def macP (h : HM) (g : Nat) : Option (Sta × Evi × Ins × Nat × Nat × Prop) := match h g with
 | .own t (.agg [.agg [a, .bool e, .arr 8 1 rg, .sl z c [] 1 0 nc none, d, .sl z2 k [] 3 0 ns none], .agg [e0, e1, e2, e3, e4], iv]) true => match h c, h k with
  | .own t1 (.arr n1 1 cf) false, .own t2 (.arr n2 3 sf) false =>
   bif (Nat.beq t 186 && Nat.beq t1 2 && Nat.beq t2 125) && (Nat.beq z c && Nat.beq z2 k && Nat.beq n1 nc && Nat.beq n2 ns) && (isI .i64 a && isI .i64 d) && (isI .u64 e0 && isI .i64 e1 && isI .i64 e2 && isI .i64 e3 && isI .i64 e4) && isIns iv then
    some (⟨iOf a, e, fun q => iOf (rg q), ls iOf nc cf, iOf d, ls zw_ ns sf⟩, ⟨iOf e0, iOf e1, iOf e2, iOf e3, iOf e4⟩, zo_ iv, c, k, (∀ q, q < 8 → isI .i64 (rg q) = true) ∧ (∀ q, q < nc → isI .i64 (cf q) = true) ∧ ∀ q, q < ns → isSnd (sf q) = true) else none
  | _, _ => none
 | _ => none
theorem mac_val {h : HM} {g c k : Nat} {s : Sta} {v : Evi} {x : Ins} {ok : Prop} (hp : macP h g = some (s, v, x, c, k, ok)) (hok : ok) :
  ∃ l cf sf, h g = .own 186 (.agg l) true ∧ (∀ β, (SV.agg l).cl β = (macS s v x c k).cl β) ∧ h c = .own 2 (.arr s.cells.length 1 cf) false ∧ (∀ β q, q < s.cells.length → (cf q).cl β = (i64S s.cells q).cl β) ∧
   h k = .own 125 (.arr s.sends.length 3 sf) false ∧ (∀ β q, q < s.sends.length → (sf q).cl β = (zm_ s.sends q).cl β) ∧ g ≠ c ∧ g ≠ k ∧ c ≠ k := by
 unfold macP at hp
 split at hp
 ·rename_i t a e rg z c0 nc d z2 k0 ns e0 e1 e2 e3 e4 iv hg
  split at hp
  ·rename_i t1 n1 cf t2 n2 sf hc hk
   obtain ⟨hb, hs⟩ := zj_ hp
   simp only [Option.some.injEq, Prod.mk.injEq] at hs
   obtain ⟨rfl, rfl, rfl, rfl, rfl, rfl⟩ := hs
   simp only [Bool.and_eq_true] at hb
   obtain ⟨⟨⟨⟨⟨⟨b1, b2⟩, b3⟩, ⟨⟨b4, b5⟩, b6⟩, b7⟩, b8, b9⟩, ⟨⟨⟨b10, b11⟩, b12⟩, b13⟩, b14⟩, b15⟩ := hb
   have b1 := Nat.eq_of_beq_eq_true b1
   have b2 := Nat.eq_of_beq_eq_true b2
   have b3 := Nat.eq_of_beq_eq_true b3
   have b4 := Nat.eq_of_beq_eq_true b4
   have b5 := Nat.eq_of_beq_eq_true b5
   have b6 := Nat.eq_of_beq_eq_true b6
   have b7 := Nat.eq_of_beq_eq_true b7
   subst b1 b2 b3 b4 b5 b6 b7
   obtain ⟨hr, hcf, hsf⟩ := hok
   refine ⟨_, cf, sf, hg, fun β => ?_, by rw [hc, zb_], fun β q hq => ?_, by rw [hk, zb_], fun β q hq => ?_, ?_, ?_, ?_⟩
   ·have h8 : (SV.arr 8 1 rg).cl β = (SV.arr 8 1 fun q => .int .i64 (iOf (rg q))).cl β := arrCl fun q hq => by rw [isI_cl (hr q hq)]; rfl
    simp only [macS, stS, evS, cl_agg, xy_, clL_nil, h8, isI_cl b8, isI_cl b9, isI_cl b10, isI_cl b11, isI_cl b12, isI_cl b13, isI_cl b14, isIns_cl b15, isIns_cl (zl_ _), zz_, zb_]
    rfl
   ·rw [zb_] at hq
    rw [isI_cl (hcf q hq)]
    unfold i64S
    rw [ls_getD hq]; rfl
   ·rw [zb_] at hq
    rw [isSnd_cl (hsf q hq)]
    unfold zm_
    rw [ls_getD hq, isSnd_cl (z2_ _), zy_]
   ·rintro rfl; rw [hg] at hc; cases hc
   ·rintro rfl; rw [hg] at hk; cases hk
   ·rintro rfl; rw [hc] at hk; cases hk
  ·cases hp
 ·cases hp
def macH (h : HM) (g c k : Nat) (s : Sta) (v : Evi) (x : Ins) : HM := upd (upd (upd h g (mB s v x c k)) c (cB s)) k (sB s)
theorem macH_g {h : HM} {g c k : Nat} {s : Sta} {v : Evi} {x : Ins} (n1 : g ≠ c) (n2 : g ≠ k) : macH h g c k s v x g = mB s v x c k := by
 unfold macH; rw [yb_ n2, yb_ n1, zt_]
theorem macH_c {h : HM} {g c k : Nat} {s : Sta} {v : Evi} {x : Ins} (n3 : c ≠ k) : macH h g c k s v x c = cB s := by
 unfold macH; rw [yb_ n3, zt_]
theorem macH_k {h : HM} {g c k : Nat} {s : Sta} {v : Evi} {x : Ins} : macH h g c k s v x k = sB s := by
 unfold macH; rw [zt_]
theorem macH_o {h : HM} {g c k i : Nat} {s : Sta} {v : Evi} {x : Ins} (n1 : i ≠ g) (n2 : i ≠ c) (n3 : i ≠ k) : macH h g c k s v x i = h i := by
 unfold macH; rw [yb_ n3, yb_ n2, yb_ n1]
theorem macH_born {h : HM} {g c k i : Nat} {s : Sta} {v : Evi} {x : Ins} (hi : (h i).born = true) : (macH h g c k s v x i).born = true := by
 unfold macH Vm.upd
 split
 ·rfl
 ·split
  ·rfl
  ·split
   ·rfl
   ·exact hi
theorem cB_st {h : HM} {s : Sta} : (cB s).stable h := fun q => i64S_stable q
theorem sB_st {h : HM} {s : Sta} : (sB s).stable h := fun q => sndsS_stable q
theorem mB_st {h : HM} {s : Sta} {v : Evi} {x : Ins} {c k : Nat} (hc : (h c).born = true) (hk : (h k).born = true) : (mB s v x c k).stable h := by
 simp [mB, HB.stable, macS, stS, evS, yr_, Stable, zd_, hc, hk]
theorem macS_ren (ρ : Nat → Nat) (s : Sta) (v : Evi) (x : Ins) (c k : Nat) : (macS s v x c k).ren ρ = macS s v x (ρ c) (ρ k) := by
 simp [macS, stS, evS, yr_, SV.ren, renL]
theorem mB_ren (ρ : Nat → Nat) (s : Sta) (v : Evi) (x : Ins) (c k : Nat) : (mB s v x c k).ren ρ = mB s v x (ρ c) (ρ k) := by
 simp [mB, HB.ren, macS_ren]
theorem cB_ren (ρ : Nat → Nat) (s : Sta) : (cB s).ren ρ = cB s := rfl
theorem sB_ren (ρ : Nat → Nat) (s : Sta) : (sB s).ren ρ = sB s := by
 have : (fun q => (zm_ s.sends q).ren ρ) = zm_ s.sends := by
  funext q; unfold zm_; simp only [sndS, SV.ren, renL]
 simp [sB, HB.ren, SV.ren, this]
section
variable {w0 w : World} {M : Nat → Prop} {β : Env} {h h' : HM} {g c k : Nat} {s : Sta} {v : Evi} {x : Ins} {ok : Prop}
theorem mac_canon (hp : macP h g = some (s, v, x, c, k, ok)) (hok : ok) (R : Rep w0 M β h' w) (eg : h' g = h g) (ec : h' c = h c) (ek : h' k = h k) :
  Rep w0 M β (macH h' g c k s v x) w ∧ g ≠ c ∧ g ≠ k ∧ c ≠ k ∧ 0 ≠ g ∧ 0 ≠ c ∧ 0 ≠ k := by
 obtain ⟨l, cf, sf, hg, hgl, hc, hcl, hk, hkl, n1, n2, n3⟩ := mac_val hp hok
 have z : ∀ {j : Nat} {b : HB}, h' j = b → b.mine = true → 0 ≠ j := fun {j b} hj hb e => by
  subst e; rw [R.nil0] at hj; subst hj; cases hb
 have z1 := z (eg.trans hg) rfl
 have z2 := z (ec.trans hc) rfl
 have z3 := z (ek.trans hk) rfl
 have hnn : (macH h' g c k s v x) 0 = .gone := by rw [macH_o z1 z2 z3]; exact R.nil0
 refine ⟨R.less (fun i => ?_) hnn (fun i => ?_), n1, n2, n3, z1, z2, z3⟩
 ·by_cases e1 : i = g
  ·subst e1
   rw [macH_g n1 n2, eg, hg]
   exact .val hgl (fun n k f e => by cases e) (fun n k f e => by cases e)
  ·by_cases e2 : i = c
   ·subst e2
    rw [macH_c n3, ec, hc]
    exact .val (fun β => arrCl (hcl β)) (fun n k f e => by injection e with e1 e2 e3; subst e1 e2; exact ⟨_, rfl⟩) (fun n k f e => by injection e with e1 e2 e3; subst e1 e2; exact ⟨_, rfl⟩)
   ·by_cases e3 : i = k
    ·subst e3
     rw [macH_k, ek, hk]
     exact .val (fun β => arrCl (hkl β)) (fun n k f e => by injection e with e1 e2 e3; subst e1 e2; exact ⟨_, rfl⟩) (fun n k f e => by injection e with e1 e2 e3; subst e1 e2; exact ⟨_, rfl⟩)
    ·rw [macH_o e1 e2 e3]; exact .same _
 ·by_cases e1 : i = g
  ·subst e1
   rw [macH_g n1 n2]
   exact mB_st (by rw [macH_c n3]; rfl) (by rw [macH_k]; rfl)
  ·by_cases e2 : i = c
   ·subst e2
    rw [macH_c n3]; exact cB_st
   ·by_cases e3 : i = k
    ·subst e3
     rw [macH_k]; exact sB_st
    ·rw [macH_o e1 e2 e3]
     exact HB.stable_more (R.st i) fun j hj => macH_born hj
end
abbrev MF := List SV → Sta → Evi → Ins → Option (Prop × (Nat → SV) × Sta × Ins × Bool)
def mS (F : MF) : yt_ := fun args h m => match args with
 | .ptr g [] :: ar => match macP h g with
  | some (s, v, x, c, k, ok) => match F ar s v x with
   | some (cond, val, s', x', mv) => some (ok ∧ cond, val c, [g, c, k], bif mv then [(g, mB s' v x' c m), (c, cB s'), (k, .gone), (m, sB s')] else [(g, mB s' v x' c k), (c, cB s'), (k, sB s')])
   | none => none
  | none => none
 | _ => none
theorem inj4 {g c k : Nat} {a b d : HB} (n1 : g ≠ c) (n2 : g ≠ k) (n3 : c ≠ k) : ∀ i j, i < [HB.gone, a, b, d].length → j < [HB.gone, a, b, d].length → i ≠ j → (hp [HB.gone, a, b, d] i).mine = true → (hp [HB.gone, a, b, d] j).mine = true ∨ (hp [HB.gone, a, b, d] j).isRo = true → [0, g, c, k].getD i 0 ≠ [0, g, c, k].getD j 0 := by
 intro i j hi hj hne hmi hmj
 simp only [List.length_cons, List.length_nil] at hi hj
 have hi0 : i ≠ 0 := by rintro rfl; cases hmi
 have hj0 : j ≠ 0 := by
  rintro rfl
  rcases hmj with h | h <;> cases h
 rcases i with _ | _ | _ | _ | i
 ·exact absurd rfl hi0
 all_goals rcases j with _ | _ | _ | _ | j
 all_goals first | exact absurd rfl hj0 | exact absurd rfl hne | (simp only [List.getD_cons_succ, List.getD_cons_zero]; first | exact n1 | exact n2 | exact n3 | exact n1.symm | exact n2.symm | exact n3.symm) | omega
theorem mS_ok {f : FuncId} {F : MF} (hf : named Tryz.prog f = true)
  (H : ∀ ar s v x cond val s' x' mv, F ar s v x = some (cond, val, s', x', mv) → cond → (∀ ρ, renL ρ ar = ar) ∧ (∀ h, zd_ h ar) ∧ (∀ ρ : Nat → Nat, ρ 0 = 0 → (val 2).ren ρ = val (ρ 2)) ∧ (∀ h : HM, (h 0).born = true → (h 2).born = true → Stable h (val 2)) ∧
   zp_ Tryz.prog f (.ptr 1 [] :: ar) [.gone, mB s v x 2 3, cB s, sB s] (val 2) (bif mv then [.gone, mB s' v x' 2 4, cB s', .gone, sB s'] else [.gone, mB s' v x' 2 3, cB s', sB s'])) : zh_ Tryz.prog f (mS F) := by
 refine ⟨zf_ hf, fun args h m c v rd wr hs hm hc w0 M β h' w R hrd hwr hst => ?_⟩
 unfold mS at hs
 split at hs
 ·rename_i g ar
  split at hs
  ·rename_i s v x c k ok hmp
   split at hs
   ·rename_i cond val s' x' mv hF
    simp only [Option.some.injEq, Prod.mk.injEq] at hs
    obtain ⟨rfl, rfl, rfl, rfl⟩ := hs
    obtain ⟨hok, hcond⟩ := hc
    obtain ⟨q1, q2, q3, q4, hl⟩ := H ar s v x _ _ _ _ _ hF hcond
    obtain ⟨R1, n1, n2, n3, z1, z2, z3⟩ := mac_canon hmp hok R (hrd g (by simp)) (hrd c (by simp)) (hrd k (by simp))
    have hfit : FitL (xw_ [0, g, c, k] m) (macH h' g c k s v x) [.gone, mB s v x 2 3, cB s, sB s] [0, g, c, k] := by
     refine ⟨.gone ?_, ?_, ?_, ?_, trivial⟩
     ·rw [R1.nil0]; rfl
     ·rw [macH_g n1 n2]
      have e : mB s v x c k = .own 186 ((macS s v x 2 3).ren (xw_ [0, g, c, k] m)) true := by rw [macS_ren]; rfl
      rw [e]; exact .own
     ·rw [macH_c n3]
      exact .own (v := .arr s.cells.length 1 (i64S s.cells))
     ·rw [macH_k]
      have e : sB s = (sB s).ren (xw_ [0, g, c, k] m) := (sB_ren _ _).symm
      rw [e]; exact .own (v := .arr s.sends.length 3 (zm_ s.sends))
    have hargs : renL (xw_ [0, g, c, k] m) (.ptr 1 [] :: ar) = .ptr g [] :: ar := by
     simp only [renL, SV.ren, q1]; rfl
    have hval : (val 2).ren (xw_ [0, g, c, k] m) = val c := q3 _ rfl
    have hst0 : xe_ (hp [.gone, mB s v x 2 3, cB s, sB s]) [.gone, mB s v x 2 3, cB s, sB s] := ⟨trivial, mB_st rfl rfl, cB_st, sB_st, trivial⟩
    cases mv with
    | false =>
     have C := callRW (h := h) (m := m) [0, g, c, k] hl R1 rfl (by simp) rfl rfl hfit (inj4 n1 n2 n3) hm (fun p hp => by cases hp) (by simp) rfl hst0 ⟨rfl, q2 _⟩
      ⟨trivial, mB_st rfl rfl, cB_st, sB_st, trivial⟩ (q4 _ rfl rfl)
     rw [hargs] at C
     have hw : wrs (macH h' g c k s v x) (oldB (xw_ [0, g, c, k] m) [.gone, mB s v x 2 3, cB s, sB s] [.gone, mB s' v x' 2 3, cB s', sB s'] [0, g, c, k] ++ newB (xw_ [0, g, c, k] m) m ([HB.gone, mB s' v x' 2 3, cB s', sB s'].drop 4)) = wrs h' [(g, mB s' v x' c k), (c, cB s'), (k, sB s')] := by
      simp only [oldB, newB, mB_ren, cB_ren, sB_ren, List.drop, List.append_nil]
      funext i
      show upd (upd (upd (macH h' g c k s v x) g (mB s' v x' c k)) c (cB s')) k (sB s') i = upd (upd (upd h' g (mB s' v x' c k)) c (cB s')) k (sB s') i
      unfold macH Vm.upd
      split
      ·rfl
      ·split
       ·rfl
       ·split <;> rfl
     refine C.mono fun e w' ⟨β', g1, g2, g3, g4⟩ => ⟨β', fun i hi => g1 i (macH_born hi), ?_, ?_, ?_⟩
     ·rw [cond_false, ← hw]; exact g2
     ·rw [cond_false, ← hval, ← hw]; exact g3
     ·rw [← hval]; exact g4
    | true =>
     have hmd : h m = .dead := hm m (Nat.le_refl _)
     have hm' : h' m = .dead := (hwr (m, sB s') (by simp)).trans hmd
     have mg : m ≠ g := by rintro rfl; have := mac_val hmp hok; obtain ⟨l, cf, sf, e, _⟩ := this; rw [hmd] at e; cases e
     have mc : m ≠ c := by rintro rfl; have := mac_val hmp hok; obtain ⟨l, cf, sf, _, _, e, _⟩ := this; rw [hmd] at e; cases e
     have mk : m ≠ k := by rintro rfl; have := mac_val hmp hok; obtain ⟨l, cf, sf, _, _, _, _, e, _⟩ := this; rw [hmd] at e; cases e
     have C := callRW (h := h) (m := m) [0, g, c, k] hl R1 rfl (by simp) rfl rfl hfit (inj4 n1 n2 n3) hm (fun p hp => by
       simp only [newB, List.drop, cond_true, List.length_cons, List.length_nil, List.mem_cons, List.not_mem_nil, or_false] at hp
       subst hp
       show macH h' g c k s v x m = h m
       rw [macH_o mg mc mk, hm', hmd]) (by simp) rfl hst0 ⟨rfl, q2 _⟩
      ⟨trivial, mB_st rfl rfl, cB_st, trivial, sB_st, trivial⟩ (q4 _ rfl rfl)
     rw [hargs] at C
     have hw : wrs (macH h' g c k s v x) (oldB (xw_ [0, g, c, k] m) [.gone, mB s v x 2 3, cB s, sB s] [.gone, mB s' v x' 2 4, cB s', .gone, sB s'] [0, g, c, k] ++ newB (xw_ [0, g, c, k] m) m ([HB.gone, mB s' v x' 2 4, cB s', .gone, sB s'].drop 4)) = wrs h' [(g, mB s' v x' c m), (c, cB s'), (k, .gone), (m, sB s')] := by
      have e4 : xw_ [0, g, c, k] m 4 = m := by simp [xw_]
      simp only [oldB, newB, mB_ren, cB_ren, sB_ren, List.drop, e4]
      funext i
      show upd (upd (upd (upd (macH h' g c k s v x) g (mB s' v x' c m)) c (cB s')) k .gone) m (sB s') i = upd (upd (upd (upd h' g (mB s' v x' c m)) c (cB s')) k .gone) m (sB s') i
      unfold macH Vm.upd
      split
      ·rfl
      ·split
       ·rfl
       ·split
        ·rfl
        ·split <;> rfl
     refine C.mono fun e w' ⟨β', g1, g2, g3, g4⟩ => ⟨β', fun i hi => g1 i (macH_born hi), ?_, ?_, ?_⟩
     ·rw [cond_true, ← hw]; exact g2
     ·rw [cond_true, ← hval, ← hw]; exact g3
     ·rw [← hval]; exact g4
   ·cases hs
  ·cases hs
 ·cases hs
abbrev RF := Sta → Evi → Ins → Option (Prop × SV)
def rS (F : RF) : yt_ := fun args h m => match args with
 | [.ptr g []] => match macP h g with
  | some (s, v, x, c, k, ok) => match F s v x with
   | some (cond, val) => some (ok ∧ cond, val, [g, c, k], [])
   | none => none
  | none => none
 | _ => none
theorem rS_ok {f : FuncId} {F : RF} (hf : named Tryz.prog f = true)
  (H : ∀ s v x cond val, F s v x = some (cond, val) → cond → (∀ ρ, val.ren ρ = val) ∧ (∀ h : HM, Stable h val) ∧
   zp_ Tryz.prog f [.ptr 1 []] [.gone, .ro (macS s v x 2 3), .gone, .gone] val [.gone, .gone, .gone, .gone]) : zh_ Tryz.prog f (rS F) := by
 refine ⟨zf_ hf, fun args h m c v rd wr hs hm hc w0 M β h' w R hrd hwr hst => ?_⟩
 unfold rS at hs
 split at hs
 ·rename_i g
  split at hs
  ·rename_i s v x c k ok hmp
   split at hs
   ·rename_i cond val hF
    simp only [Option.some.injEq, Prod.mk.injEq] at hs
    obtain ⟨rfl, rfl, rfl, rfl⟩ := hs
    obtain ⟨hok, hcond⟩ := hc
    obtain ⟨q1, q2, hl⟩ := H s v x _ _ hF hcond
    obtain ⟨l, cf, sf, hg, hgl, hcc, _, hk, _⟩ := mac_val hmp hok
    have hfit : FitL (xw_ [0, g, c, k] m) h' [.gone, .ro (macS s v x 2 3), .gone, .gone] [0, g, c, k] := by
     refine ⟨.gone ?_, .ro (u := .agg l) (by rw [hrd g (by simp), hg]; rfl) (fun β => by rw [macS_ren]; exact hgl β) (fun n k f e => by rw [macS_ren] at e; cases e), .gone (by rw [hrd c (by simp), hcc]; rfl), .gone (by rw [hrd k (by simp), hk]; rfl), trivial⟩
     rw [R.nil0]; rfl
    have C := callG (h := h) (m := m) [0, g, c, k] hl R rfl (by simp) rfl rfl rfl hfit hm (fun p hp => by cases hp) (by simp)
     (by simp [xe_, HB.stable, macS, stS, evS, yr_, Stable, zd_, hp, HB.born]) ⟨rfl, trivial⟩ trivial (q2 _)
    refine C.mono fun e w' ⟨β', g1, g2, g3, g4⟩ => ⟨β', g1, g2, q2 _, by rw [← q1 (xw_ [0, g, c, k] m)]; exact g4⟩
   ·cases hs
  ·cases hs
 ·cases hs
end Go.Proofs.YtjliakjbdcplcaaGreat.Vm
end
section
namespace Go.Proofs.YtjliakjbdcplcaaGreat.Vm
open Go.RowKit
theorem viewL_len : ∀ l : List View, (viewL l).length = 2 * l.length
 | [] => rfl
 | x :: l => by rw [viewL, List.length_cons, List.length_cons, viewL_len l, List.length_cons]; omega
theorem Vd.envTo {β β' : Env} : ∀ {l : List View} {m : Nat}, (∀ i, m ≤ i → i < m + 2 * l.length → β i = β' i) → Vd β m l → Vd β' m l
 | [], _, _, _ => trivial
 | x :: l, m, hb, h => by
  have hl : (x :: l).length = l.length + 1 := rfl
  refine ⟨?_, Vd.envTo (fun i h1 h2 => hb i (by omega) (by omega)) h.2⟩
  rw [← h.1]
  simp only [SV.den, hb m (Nat.le_refl _) (by omega), hb (m + 1) (by omega) (by omega)]
theorem callRoV {P : Program} {f : FuncId} {args : List SV} {views : List View} {L1 : List HB} {v v' V : SV} {w0 w : World} {M : Nat → Prop} {β : Env} {h h' : HM} {m : Nat} {vals : List Value} (H : zp_ P f args (.gone :: viewL views) v L1) (hok : ∀ x ∈ views, x.Ok w) (R : Rep w0 M β h' w) (hm : ∀ i, m ≤ i → h i = .dead)
  (hwr : ∀ p ∈ newB (rho ((viewL views).length + 1) m) m (L1.drop ((viewL views).length + 1)), h' p.1 = h p.1)
  (hargs : ∀ β1 : Env, Vd β1 1 views → denL β1 args = vals) (hnew : NewL (hN ((viewL views).length + 1) L1) (L1.drop ((viewL views).length + 1))) (hv : Stable (hN ((viewL views).length + 1) L1) v')
  (hVs : ∀ h2 : HM, (∀ i, (h' i).born = true → (h2 i).born = true) → Stable h2 (v'.ren (rho ((viewL views).length + 1) m)) → Stable h2 V)
  (hV : ∀ β2 β' : Env, Vd β2 1 views → v'.den β2 = (v'.ren (rho ((viewL views).length + 1) m)).den β' → (∀ i, (h' i).born = true → β i = β' i) → v.den β2 = V.den β') :
  Calls P f vals.toArray w fun e w' => ∃ β', (∀ i, (h' i).born = true → β i = β' i) ∧ Rep w0 M β' (wrs h' (newB (rho ((viewL views).length + 1) m) m (L1.drop ((viewL views).length + 1)))) w' ∧ Stable (wrs h' (newB (rho ((viewL views).length + 1) m) m (L1.drop ((viewL views).length + 1)))) V ∧ e = .returned (V.den β') := by
 obtain ⟨β1, a1, R0, d1⟩ := handedAll views hok (start w)
 rw [← hargs β1 d1]
 refine (H w _ β1 w R0).mono fun e w' ⟨β2, k1, R2, k3, k4⟩ => ?_
 have hdead : ∀ i, m ≤ i → i < m + (L1.length - ((viewL views).length + 1)) → h' i = .dead := fun i hi hlt => by
  obtain ⟨b, hb⟩ := newB_mem (ρ := rho ((viewL views).length + 1) m) (l := L1.drop ((viewL views).length + 1)) hi (by rw [List.length_drop]; exact hlt)
  exact (hwr _ hb).trans (hm i hi)
 obtain ⟨β', g1, g2, g3, g4⟩ := graftRo R R2 (Nat.succ_pos _) hdead (newL_spec hnew) hv
 have d2 : Vd β2 1 views := d1.envTo fun i h1 h2 => k1 i (by rw [List.length_cons, viewL_len]; omega)
 refine ⟨β', g1, g2, hVs _ (fun i hi => ?_) g3, by rw [k4, hV β2 β' d2 g4 g1]⟩
 rw [wrs_newB, if_neg]
 ·exact hi
 ·intro ⟨h1, h2⟩
  rw [List.length_drop] at h2
  rw [hdead i h1 h2] at hi
  cases hi
theorem insS_agg (i : Ins) : (yr_ i).isAgg = true := rfl
theorem insS_plain (i : Ins) : (yr_ i).plain = true := rfl
theorem xm_ (i : Ins) : nav (yr_ i) [] = some (True, yr_ i) := rfl
theorem y4_ (i : Ins) (pa : List Stp) : nav (yr_ i) (.f 0 0 :: pa) = nav (.int .u8 i.op) pa := rfl
theorem y3_ (i : Ins) (pa : List Stp) : nav (yr_ i) (.f 1 1 :: pa) = nav (.int .u8 i.a) pa := rfl
theorem y2_ (i : Ins) (pa : List Stp) : nav (yr_ i) (.f 2 2 :: pa) = nav (.int .u8 i.b) pa := rfl
theorem y1_ (i : Ins) (pa : List Stp) : nav (yr_ i) (.f 3 3 :: pa) = nav (.int .u8 i.c) pa := rfl
theorem y0_ (i : Ins) (pa : List Stp) : nav (yr_ i) (.f 4 4 :: pa) = nav (.int .i64 i.n) pa := rfl
theorem sndS_size (i : Snd) : (sndS i).size = 3 := rfl
theorem sndS_agg (i : Snd) : (sndS i).isAgg = true := rfl
theorem sndS_plain (i : Snd) : (sndS i).plain = true := rfl
theorem xl_ (i : Snd) : nav (sndS i) [] = some (True, sndS i) := rfl
theorem yz_ (i : Snd) (pa : List Stp) : nav (sndS i) (.f 0 0 :: pa) = nav (.int .i64 i.port) pa := rfl
theorem yy_ (i : Snd) (pa : List Stp) : nav (sndS i) (.f 1 1 :: pa) = nav (.int .i64 i.delay) pa := rfl
theorem yx_ (i : Snd) (pa : List Stp) : nav (sndS i) (.f 2 2 :: pa) = nav (.int .i64 i.value) pa := rfl
set_option linter.defProp false
def JK := And.intro @insS_size (And.intro @insS_agg (And.intro @insS_plain (And.intro @sndS_size (And.intro @sndS_agg @sndS_plain))))
end Go.Proofs.YtjliakjbdcplcaaGreat.Vm
end
