import Derived.Test.YtjliakjbdcplcaaG1
import Derived.Test.YtjliakjbdcplcaaG4
import Derived.Test.YtjliakjbdcplcaaProg
import Derived.Handy
import Derived.Deep.RegionHeld3
import Derived.Deep.DeepCutAuto
section
namespace Go.Proofs.Ytjliakjbdcplcaa.Vm
open Go.RowKit
set_option linter.unusedVariables false
set_option linter.unusedSimpArgs false
set_option maxRecDepth 100000

theorem start (W : World) : Rep W (fun _ => False) (fun _ => (none, 0)) (hp [.gone]) W := by
  have h1 : ∀ i, hp [.gone] i = .gone ∨ hp [.gone] i = .dead := fun i => by
    cases i with
    | zero => exact .inl rfl
    | succ i => exact .inr (by unfold hp; simp)
  have hm : ∀ i, (hp [.gone] i).mine = false := fun i => by rcases h1 i with h | h <;> rw [h] <;> rfl
  refine { os := rfl, tape := rfl, output := rfl, size := Nat.le_refl _, frame := fun _ _ _ => rfl, nil := rfl, nil0 := rfl, st := fun i => ?_, blk := fun i => ?_, own := fun i a h => ?_, ro := fun i v a h => ?_, dist := fun i j ai aj _ h => ?_, lt := fun i a h => ?_ }
  · rcases h1 i with h | h <;> rw [h] <;> trivial
  · rcases h1 i with h | h <;> rw [h] <;> trivial
  · rw [hm i] at h; cases h
  · rcases h1 i with h' | h' <;> rw [h'] at h <;> cases h
  · rw [hm i] at h; cases h
  · rw [hm i] at h; cases h
theorem Rep.handedN {W : World} {β : Env} {L : List HB} (R : Rep W (fun _ => False) β (hp L) W) (m : Nat) (hm : L.length = m) {A : Option Addr} {n cap k : Nat} {f : Nat → SV} (hr : Reads W W.heap.size k A n (elems β k n f)) (hn : n ≤ cap) (hf : ∀ q, Stable (hp L) (f q)) (hk : 0 < k) :
    ∃ β', (∀ i, i < m → β i = β' i) ∧ Rep W (fun _ => False) β' (hp (setH (setH L m .gone) (m + 1) (.ro (.arr n k f)))) W ∧ (SV.sl m (m + 1) [] k 0 n (some cap)).den β' = .slice A n cap := by
  have h1 : hp L m = .dead := hp_dead (by omega)
  have h2 : hp L (m + 1) = .dead := hp_dead (by omega)
  have R1 := R.birth m h1 (A, cap) .gone trivial rfl trivial (fun a hm _ => by cases hm) (fun v a hv => by cases hv)
  have hs : Stable (hp L) (.arr n k f) := by simp only [Stable]; exact hf
  have born1 : ∀ i, (hp L i).born = true → (upd (hp L) m .gone i).born = true := fun i hi => by unfold upd; split <;> simp_all [HB.born]
  have hs1 : Stable (upd (hp L) m .gone) (.arr n k f) := hs.more born1
  let e2 : Option Addr × Nat := (if n = 0 then none else A, n)
  have ag : ∀ i, (hp L i).born = true → β i = setE (setE β m (A, cap)) (m + 1) e2 i := fun i hi => by
    rw [setE_ne (by rintro rfl; rw [h2] at hi; cases hi), setE_ne (by rintro rfl; rw [h1] at hi; cases hi)]
  have hcl : (SV.arr n k f).cl (setE (setE β m (A, cap)) (m + 1) e2) = elems β k n f := by rw [← hs.cl ag, cl_arr']
  have R2 := R1.birth (m + 1) (by rw [upd_ne (by omega)]; exact h2) e2 (.ro (.arr n k f)) (hs1.more fun i hi => by unfold upd at hi ⊢; split <;> simp_all [HB.born]) rfl ?_ (fun a hm _ => by cases hm) ?_
  · refine ⟨setE (setE β m (A, cap)) (m + 1) e2, fun i hi => by rw [setE_ne (by omega), setE_ne (by omega)], by rw [hp_setH, hp_setH]; exact R2, ?_⟩
    simp only [SV.den, setE_same, setE_ne (show m ≠ m + 1 by omega), Option.getD_some]
    by_cases h0 : n = 0
    · subst h0; simp
    · obtain ⟨ad, rfl, _⟩ := hr.2 (by omega)
      have e : max n cap = cap := by omega
      simp [h0, e2, e, offp, Addr.add]
  · refine ⟨fun a ha j x hx => ?_, fun hn => ?_, fun n' k' f' hv => ?_⟩
    · rw [setE_same] at ha
      rw [hcl] at hx
      by_cases h0 : n = 0
      · simp [e2, h0] at ha
      · obtain ⟨ad, rfl, _, hc⟩ := hr.2 (by omega)
        simp [e2, h0] at ha
        subst ha
        exact hc j x hx
    · rw [setE_same] at hn
      by_cases h0 : n = 0
      · simp [SV.size, h0]
      · obtain ⟨ad, rfl, _⟩ := hr.2 (by omega)
        simp [e2, h0] at hn
    · injection hv with q1 q2 q3
      rw [setE_same]
      exact Nat.le_of_eq q1.symm
  · intro v a hv ha hz
    injection hv with hv
    subst hv
    by_cases h0 : n = 0
    · simp [e2, h0] at ha
    · obtain ⟨ad, rfl, hb, _⟩ := hr.2 (by omega)
      simp [e2, h0] at ha
      subst ha
      exact ⟨hb, id⟩


theorem Rep.handed {W : World} {β : Env} {L : List HB} (R : Rep W (fun _ => False) β (hp L) W) (m : Nat) (hm : L.length = m) {A : Option Addr} {n cap k : Nat} {f : Nat → SV} (hr : Reads W W.heap.size k A n (elems β k n f)) (hn : n ≤ cap) (hf : ∀ q, Stable (hp L) (f q)) (hk : 0 < k) :
    ∃ β', (∀ i, (hp L i).born = true → β i = β' i) ∧ Rep W (fun _ => False) β' (hp (setH (setH L m .gone) (m + 1) (.ro (.arr n k f)))) W ∧ (SV.sl m (m + 1) [] k 0 n (some cap)).den β' = .slice A n cap := by
  obtain ⟨β', h1, h2, h3⟩ := R.handedN m hm hr hn hf hk
  refine ⟨β', fun i hi => h1 i ?_, h2, h3⟩
  rcases Nat.lt_or_ge i m with h | h
  · exact h
  · rw [hp_dead (by omega)] at hi; cases hi
theorem reads_src {w0 w : World} {M : Nat → Prop} {β : Env} {h h' : HM} (R : Rep w0 M β h' w) {k : Nat} {z0 v : SV} {c : Prop} {n : Nat} {f : Nat → SV} {rd : List Nat} (ha : srcV h k z0 v = some (c, n, f, rd)) (hc : c) (hrd : ∀ i ∈ rd, h' i = h i) (hk : 0 < k) :
    ∃ A cap, v.den β = .slice A n cap ∧ n ≤ cap ∧ Reads w w.heap.size k A n (elems β k n f) := by
  unfold srcV at ha
  split at ha
  · rename_i z i pa k' s n' cp
    split at ha
    · simp only [Option.some.injEq, Prod.mk.injEq] at ha
      obtain ⟨rfl, rfl, rfl, rfl⟩ := ha
      subst hc
      exact ⟨(β z).1, max 0 (cp.getD (β z).2), by simp only [SV.den, if_true], Nat.zero_le _, by simp [elems], fun h => absurd h (by omega)⟩
    · rename_i i
      split at ha
      · rename_i u hv
        split at ha
        · rename_i d N k'' f' hnav
          obtain ⟨hb, ha⟩ := bif_some ha
          simp only [Option.some.injEq, Prod.mk.injEq] at ha
          obtain ⟨rfl, rfl, rfl, rfl⟩ := ha
          rw [Bool.and_eq_true] at hb
          have hb1 := Nat.eq_of_beq_eq_true hb.1
          have hb2 := Nat.eq_of_beq_eq_true hb.2
          subst hb1 hb2
          obtain ⟨hd, hc⟩ := hc
          have hi : h' (i + 1) = h (i + 1) := hrd (i + 1) (.head _)
          have hB := R.blk (i + 1)
          rw [hi] at hB
          by_cases h0 : n' = 0
          · subst h0
            exact ⟨(β z).1, max 0 (cp.getD (β z).2), by simp only [SV.den, if_true], Nat.zero_le _, by simp [elems], fun h => absurd h (by omega)⟩
          · refine ⟨_, _, den_sl_pos h0, by omega, elems_length, fun _ => ?_⟩
            have hpos : 0 < (SV.arr N k f').size := by
              simp only [SV.size]
              exact Nat.mul_pos (by omega) hk
            obtain ⟨ad, hba, hcell⟩ := cells_at (pa := pa) hB hv (u := SV.arr N k f') hnav hd hpos
            have hup : 0 < u.size := by
              obtain ⟨pre, post, e, _⟩ := nav_spec β pa u d _ hnav hd
              have e2 := congrArg List.length e
              rw [cl_length, List.length_append, List.length_append, cl_length] at e2
              omega
            have hblk : ad.block < w.heap.size := by
              cases hh : h (i + 1) with
              | own t u' ex => exact R.lt (i + 1) ad (by rw [hi, hh]; rfl) hba
              | ro u' =>
                rw [hh] at hv
                injection hv with hv
                subst hv
                exact Nat.lt_of_lt_of_le (R.ro (i + 1) _ ad (hi.trans hh) hba hup).1 R.size
              | raw o => rw [hh] at hv; cases hv
              | gone => rw [hh] at hv; cases hv
              | dead => rw [hh] at hv; cases hv
            refine ⟨_, rfl, ?_, fun j x hx => ?_⟩
            · rw [block_add, hba]; exact hblk
            · rw [hba]
              simp only [Option.getD_some]
              rw [add_add]
              have := hcell (s * k + j) x ?_
              · rw [add_add] at this
                rw [← Nat.add_assoc] at this
                exact this
              · rw [cl_arr']
                have e2 : elems β k N f' = elems β k s f' ++ (elems β k n' (fun q => f' (s + q)) ++ elems β k (N - s - n') (fun q => f' (s + n' + q))) := by
                  have : N = s + (n' + (N - s - n')) := by omega
                  conv => lhs; rw [this]
                  rw [elems_split, elems_split]
                  simp only [Nat.add_assoc]
                rw [e2, List.getElem?_append_right (by rw [elems_length]; omega), elems_length, Nat.add_sub_cancel_left, List.getElem?_append_left]
                · exact hx
                · exact (List.getElem?_eq_some_iff.1 hx).1
        · cases ha
      · cases ha
  · cases ha

structure View where
  k : Nat
  n : Nat
  F : Nat → SV
  A : Option Addr
  cap : Nat
structure View.Ok (w : World) (x : View) : Prop where
  r : ∀ β : Env, Reads w w.heap.size x.k x.A x.n (elems β x.k x.n x.F)
  c : x.n ≤ x.cap
  s : ∀ (h : HM) (q : Nat), Stable h (x.F q)
  p : 0 < x.k
def viewL : List View → List HB
  | [] => []
  | x :: l => .gone :: .ro (.arr x.n x.k x.F) :: viewL l
def Vd (β : Env) : Nat → List View → Prop
  | _, [] => True
  | m, x :: l => (SV.sl m (m + 1) [] x.k 0 x.n (some x.cap)).den β = .slice x.A x.n x.cap ∧ Vd β (m + 2) l
theorem setH_end : ∀ (L : List HB) (b : HB), setH L L.length b = L ++ [b]
  | [], b => rfl
  | x :: l, b => by show x :: setH l l.length b = _; rw [setH_end l b]; rfl
theorem handedAll {W : World} : ∀ (l : List View) {β : Env} {L : List HB}, (∀ x ∈ l, x.Ok W) → Rep W (fun _ => False) β (hp L) W →
    ∃ β', (∀ i, i < L.length → β i = β' i) ∧ Rep W (fun _ => False) β' (hp (L ++ viewL l)) W ∧ Vd β' L.length l
  | [], β, L, _, R => ⟨β, fun _ _ => rfl, by simpa [viewL] using R, trivial⟩
  | x :: l, β, L, hok, R => by
    have hx := hok x (.head _)
    -- without regard to what is born: by numbers
    have h1 : hp L L.length = .dead := hp_dead (Nat.le_refl _)
    have h2 : hp L (L.length + 1) = .dead := hp_dead (by omega)
    obtain ⟨β1, a1, R1, d1⟩ := R.handedN L.length rfl (hx.r β) hx.c (fun q => hx.s _ q) hx.p
    rw [setH_end, show L.length + 1 = (L ++ [HB.gone]).length by simp, setH_end, List.append_assoc] at R1
    obtain ⟨β2, a2, R2, d2⟩ := handedAll l (fun y hy => hok y (.tail _ hy)) R1
    refine ⟨β2, fun i hi => (a1 i hi).trans (a2 i (by simp; omega)), by simpa [viewL, List.append_assoc] using R2, ?_, ?_⟩
    · rw [← d1]
      simp only [SV.den, a2 L.length (by simp), a2 (L.length + 1) (by simp)]
    · simpa using d2

def newB (ρ : Nat → Nat) : Nat → List HB → List (Nat × HB)
  | _, [] => []
  | m, b :: l => (m, b.ren ρ) :: newB ρ (m + 1) l
theorem wrs_newB {ρ : Nat → Nat} : ∀ (l : List HB) (m : Nat) (h : HM) (j : Nat), wrs h (newB ρ m l) j = if m ≤ j ∧ j < m + l.length then (l.getD (j - m) .dead).ren ρ else h j
  | [], m, h, j => by
    rw [if_neg (fun ⟨h1, h2⟩ => by simp at h2; omega)]
    rfl
  | b :: l, m, h, j => by
    show wrs (upd h m (b.ren ρ)) (newB ρ (m + 1) l) j = _
    rw [wrs_newB l (m + 1)]
    by_cases h1 : j = m
    · subst h1
      rw [if_neg (by omega), upd_same, if_pos ⟨Nat.le_refl _, by simp⟩]
      simp
    · by_cases h2 : m + 1 ≤ j ∧ j < m + 1 + l.length
      · rw [if_pos h2, if_pos ⟨by omega, by simp; omega⟩]
        obtain ⟨q, hq⟩ : ∃ q, j - m = q + 1 := ⟨j - m - 1, by omega⟩
        rw [hq, List.getD_cons_succ, show j - (m + 1) = q by omega]
      · rw [if_neg h2, if_neg (by simp; omega), upd_ne h1]
def rho (n0 m : Nat) : Nat → Nat := fun i => if i < n0 then 0 else m + (i - n0)
def hN (n0 : Nat) (L1 : List HB) : HM := fun i => if i < n0 then (if i = 0 then .gone else .dead) else hp L1 i
theorem graftRo {w0 w w' : World} {M : Nat → Prop} {β β1 : Env} {h : HM} {L1 : List HB} {n0 m : Nat} (R : Rep w0 M β h w) (R1 : Rep w (fun _ => False) β1 (hp L1) w') (hn0 : 0 < n0) (hm : ∀ i, m ≤ i → i < m + (L1.length - n0) → h i = .dead)
    (hnew : ∀ i, n0 ≤ i → (hp L1 i).stable (hN n0 L1) ∧ (hp L1 i).isRo = false) {v : SV} (hv : Stable (hN n0 L1) v) :
    ∃ β', (∀ i, (h i).born = true → β i = β' i) ∧ Rep w0 M β' (wrs h (newB (rho n0 m) m (L1.drop n0))) w' ∧ Stable (wrs h (newB (rho n0 m) m (L1.drop n0))) (v.ren (rho n0 m)) ∧ v.den β1 = (v.ren (rho n0 m)).den β' := by
  obtain ⟨k, hk⟩ : ∃ k, k = L1.length - n0 := ⟨_, rfl⟩
  have hlen : (L1.drop n0).length = k := by rw [List.length_drop, hk]
  have born_old : ∀ i, (h i).born = true → ¬ (m ≤ i ∧ i < m + k) := fun i hi hc => by
    rw [hm i hc.1 (by rw [← hk]; exact hc.2)] at hi; cases hi
  have hz : ¬ (m ≤ 0 ∧ 0 < m + k) := born_old 0 (by rw [R.nil0]; rfl)
  have hget : ∀ j, m ≤ j → (L1.drop n0).getD (j - m) .dead = hp L1 (n0 + (j - m)) := fun j hj => by
    unfold hp
    rw [List.getD_eq_getElem?_getD, List.getD_eq_getElem?_getD, List.getElem?_drop]
  let h2 : HM := wrs h (newB (rho n0 m) m (L1.drop n0))
  have hnewj : ∀ j, m ≤ j → j < m + k → h2 j = (hp L1 (n0 + (j - m))).ren (rho n0 m) := fun j h1 h3 => by
    show wrs h (newB (rho n0 m) m (L1.drop n0)) j = _
    rw [wrs_newB, if_pos ⟨h1, by omega⟩, hget j h1]
  have holdj : ∀ j, ¬ (m ≤ j ∧ j < m + k) → h2 j = h j := fun j hj => by
    show wrs h (newB (rho n0 m) m (L1.drop n0)) j = _
    rw [wrs_newB, if_neg (by rw [hlen]; exact hj)]
  let β' : Env := fun j => if m ≤ j ∧ j < m + k then β1 (n0 + (j - m)) else β j
  have hβn : ∀ j, m ≤ j → j < m + k → β' j = β1 (n0 + (j - m)) := fun j h1 h3 => if_pos ⟨h1, h3⟩
  have hβo : ∀ j, ¬ (m ≤ j ∧ j < m + k) → β' j = β j := fun j hj => if_neg hj
  have bornN : ∀ i, (hN n0 L1 i).born = true → i = 0 ∨ (n0 ≤ i ∧ i < n0 + k) := fun i hi => by
    unfold hN at hi
    split at hi
    · split at hi
      · left; assumption
      · cases hi
    · right
      refine ⟨by omega, ?_⟩
      rcases Nat.lt_or_ge i L1.length with hh | hh
      · omega
      · rw [hp_dead hh] at hi; cases hi
  have hrb : ∀ i, (hN n0 L1 i).born = true → β' (rho n0 m i) = β1 i := fun i hi => by
    rcases bornN i hi with rfl | ⟨h1, h3⟩
    · have e : rho n0 m 0 = 0 := if_pos hn0
      rw [e, hβo 0 hz, R.nil, R1.nil]
    · have e : rho n0 m i = m + (i - n0) := if_neg (by omega)
      rw [e, hβn _ (by omega) (by omega), show n0 + (m + (i - n0) - m) = i by omega]
  have more : ∀ i, (h i).born = true → (h2 i).born = true := fun i hi => by
    rw [holdj i (born_old i hi)]; exact hi
  have moreN : ∀ i, (hN n0 L1 i).born = true → (h2 (rho n0 m i)).born = true := fun i hi => by
    rcases bornN i hi with rfl | ⟨h1, h3⟩
    · have e : rho n0 m 0 = 0 := if_pos hn0
      rw [e]
      exact more 0 (by rw [R.nil0]; rfl)
    · have e : rho n0 m i = m + (i - n0) := if_neg (by omega)
      rw [e, hnewj _ (by omega) (by omega), show n0 + (m + (i - n0) - m) = i by omega]
      have : hN n0 L1 i = hp L1 i := if_neg (by omega)
      rw [this] at hi
      cases hh : hp L1 i <;> rw [hh] at hi <;> first | rfl | (cases hi; done)
  have agree : ∀ i, (h i).born = true → β i = β' i := fun i hi => (hβo i (born_old i hi)).symm
  have mineN : ∀ j, (h2 j).mine = true → (m ≤ j ∧ j < m + k ∧ (hp L1 (n0 + (j - m))).mine = true) ∨ (¬ (m ≤ j ∧ j < m + k) ∧ (h j).mine = true) := fun j hj => by
    by_cases hc : m ≤ j ∧ j < m + k
    · left
      refine ⟨hc.1, hc.2, ?_⟩
      rw [hnewj j hc.1 hc.2] at hj
      cases hh : hp L1 (n0 + (j - m)) <;> rw [hh] at hj <;> first | rfl | (cases hj; done)
    · right
      rw [holdj j hc] at hj
      exact ⟨hc, hj⟩
  have newHi : ∀ j a, m ≤ j → j < m + k → (hp L1 (n0 + (j - m))).mine = true → (β' j).1 = some a → w.heap.size ≤ a.block ∧ a.block < w'.heap.size := fun j a h1 h3 hmi ha => by
    rw [hβn j h1 h3] at ha
    refine ⟨?_, R1.lt _ a hmi ha⟩
    rcases R1.own _ a hmi ha with hh | hh
    · exact hh
    · exact hh.elim
  refine ⟨β', agree, ?_, hv.ren moreN, (den_ren hrb hv).symm⟩
  show Rep w0 M β' h2 w'
  refine { os := R1.os.trans R.os, tape := R1.tape.trans R.tape, output := R1.output.trans R.output, size := Nat.le_trans R.size R1.size, frame := ?_, nil := ?_, nil0 := ?_, st := ?_, blk := ?_, own := ?_, ro := ?_, dist := ?_, lt := ?_ }
  · intro g hg hM
    exact (R1.frame g (Nat.lt_of_lt_of_le hg R.size) id).trans (R.frame g hg hM)
  · rw [hβo 0 hz]; exact R.nil
  · rw [holdj 0 hz]; exact R.nil0
  · intro j
    by_cases hc : m ≤ j ∧ j < m + k
    · rw [hnewj j hc.1 hc.2]
      have hs := (hnew (n0 + (j - m)) (by omega)).1
      cases hh : hp L1 (n0 + (j - m)) with
      | own t u ex => rw [hh] at hs; exact Stable.ren moreN hs
      | ro u => rw [hh] at hs; exact Stable.ren moreN hs
      | raw o => trivial
      | gone => trivial
      | dead => trivial
    · rw [holdj j hc]
      exact HB.stable_more (R.st j) more
  · intro j
    by_cases hc : m ≤ j ∧ j < m + k
    · rw [hnewj j hc.1 hc.2]
      exact holds_ren hrb (hnew (n0 + (j - m)) (by omega)).1 (hβn j hc.1 hc.2) (R1.blk _)
    · rw [holdj j hc]
      refine holds_env (R.st j) agree (hβo j hc).symm (holds_world (R.blk j) fun a ha hk' => R1.frame a.block ?_ id)
      rcases hk' with hk' | ⟨u, hu, hz⟩
      · exact R.lt j a hk' ha
      · exact Nat.lt_of_lt_of_le (R.ro j u a hu ha hz).1 R.size
  · intro j a hmj ha
    rcases mineN j hmj with ⟨h1, h3, h4⟩ | ⟨hc, h4⟩
    · exact .inl (Nat.le_trans R.size (newHi j a h1 h3 h4 ha).1)
    · rw [hβo j hc] at ha
      exact R.own j a h4 ha
  · intro j u a hu ha hz
    by_cases hc : m ≤ j ∧ j < m + k
    · rw [hnewj j hc.1 hc.2] at hu
      have hs := (hnew (n0 + (j - m)) (by omega)).2
      cases hh : hp L1 (n0 + (j - m)) <;> rw [hh] at hu hs <;> cases hu
      cases hs
    · rw [holdj j hc] at hu
      rw [hβo j hc] at ha
      exact R.ro j u a hu ha hz
  · intro i j ai aj hne hmi hmj hai haj
    rcases mineN i hmi with ⟨h1, h3, h4⟩ | ⟨hc, h4⟩
    · rcases mineN j hmj with ⟨g1, g3, g4⟩ | ⟨gc, g4⟩
      · rw [hβn i h1 h3] at hai
        rw [hβn j g1 g3] at haj
        exact R1.dist _ _ ai aj (by omega) h4 g4 hai haj
      · have := (newHi i ai h1 h3 h4 hai).1
        rw [hβo j gc] at haj
        have := R.lt j aj g4 haj
        omega
    · rcases mineN j hmj with ⟨g1, g3, g4⟩ | ⟨gc, g4⟩
      · have := (newHi j aj g1 g3 g4 haj).1
        rw [hβo i hc] at hai
        have := R.lt i ai h4 hai
        omega
      · rw [hβo i hc] at hai
        rw [hβo j gc] at haj
        exact R.dist i j ai aj hne h4 g4 hai haj
  · intro j a hmj ha
    rcases mineN j hmj with ⟨h1, h3, h4⟩ | ⟨hc, h4⟩
    · exact (newHi j a h1 h3 h4 ha).2
    · rw [hβo j hc] at ha
      exact Nat.lt_of_lt_of_le (R.lt j a h4 ha) R1.size

theorem newB_mem {ρ : Nat → Nat} : ∀ {l : List HB} {m j : Nat}, m ≤ j → j < m + l.length → ∃ b, (j, b) ∈ newB ρ m l
  | [], m, j, h1, h2 => by simp at h2; omega
  | b :: l, m, j, h1, h2 => by
    by_cases h : j = m
    · subst h; exact ⟨_, .head _⟩
    · obtain ⟨b', hb⟩ := newB_mem (ρ := ρ) (l := l) (m := m + 1) (j := j) (by omega) (by simp at h2; omega)
      exact ⟨b', .tail _ hb⟩
def NewL (h : HM) : List HB → Prop
  | [] => True
  | b :: l => (b.stable h ∧ b.isRo = false) ∧ NewL h l
theorem newL_get {h : HM} : ∀ {l : List HB}, NewL h l → ∀ j, (l.getD j .dead).stable h ∧ (l.getD j .dead).isRo = false
  | [], _, j => by simp [HB.stable, HB.isRo]
  | b :: l, hl, 0 => hl.1
  | b :: l, hl, j + 1 => by rw [List.getD_cons_succ]; exact newL_get hl.2 j
theorem newL_spec {h : HM} {n0 : Nat} {L1 : List HB} (hl : NewL h (L1.drop n0)) : ∀ i, n0 ≤ i → (hp L1 i).stable h ∧ (hp L1 i).isRo = false := fun i hi => by
  have := newL_get hl (i - n0)
  rw [List.getD_eq_getElem?_getD, List.getElem?_drop, show n0 + (i - n0) = i by omega] at this
  unfold hp
  rw [List.getD_eq_getElem?_getD]
  exact this
theorem callRo {P : Program} {f : FuncId} {args : List SV} {views : List View} {L1 : List HB} {v : SV} {w0 w : World} {M : Nat → Prop} {β : Env} {h h' : HM} {m : Nat} {vals : List Value} (H : LitOk P f args (.gone :: viewL views) v L1) (hok : ∀ x ∈ views, x.Ok w) (R : Rep w0 M β h' w) (hm : ∀ i, m ≤ i → h i = .dead)
    (hwr : ∀ p ∈ newB (rho ((viewL views).length + 1) m) m (L1.drop ((viewL views).length + 1)), h' p.1 = h p.1)
    (hargs : ∀ β1 : Env, Vd β1 1 views → denL β1 args = vals) (hnew : NewL (hN ((viewL views).length + 1) L1) (L1.drop ((viewL views).length + 1))) (hv : Stable (hN ((viewL views).length + 1) L1) v) :
    Calls P f vals.toArray w fun e w' => ∃ β', (∀ i, (h' i).born = true → β i = β' i) ∧ Rep w0 M β' (wrs h' (newB (rho ((viewL views).length + 1) m) m (L1.drop ((viewL views).length + 1)))) w' ∧ Stable (wrs h' (newB (rho ((viewL views).length + 1) m) m (L1.drop ((viewL views).length + 1)))) (v.ren (rho ((viewL views).length + 1) m)) ∧ e = .returned ((v.ren (rho ((viewL views).length + 1) m)).den β') := by
  obtain ⟨β1, a1, R0, d1⟩ := handedAll views hok (start w)
  rw [← hargs β1 d1]
  refine (H w _ β1 w R0).mono fun e w' ⟨β2, k1, R2, k3, k4⟩ => ?_
  obtain ⟨β', g1, g2, g3, g4⟩ := graftRo R R2 (Nat.succ_pos _) (fun i hi hlt => by
    obtain ⟨b, hb⟩ := newB_mem (ρ := rho ((viewL views).length + 1) m) (l := L1.drop ((viewL views).length + 1)) hi (by rw [List.length_drop]; exact hlt)
    exact (hwr _ hb).trans (hm i hi)) (newL_spec hnew) hv
  exact ⟨β', g1, g2, g3, by rw [k4, g4]⟩

theorem post_read {w0 w : World} {M : Nat → Prop} {β : Env} {h' : HM} {v : SV} {x : Value} {e : Ending} {w' : World} (R : Rep w0 M β h' w) (hs : Stable h' v) (hx : x = v.den β) (he : e = .returned x) (hb : Below w.heap.size w w') :
    ∃ β', (∀ i, (h' i).born = true → β i = β' i) ∧ Rep w0 M β' (wrs h' []) w' ∧ Stable (wrs h' []) v ∧ e = .returned (v.den β') :=
  ⟨β, fun _ _ => rfl, R.below hb, hs, by rw [he, hx]⟩
def named (P : Program) (f : FuncId) : Bool := match P.funcs[f]? with
  | some fn => !(fn.name == "runtime.NumGoroutine") && !fn.body.isNone
  | none => false
theorem named_spec {P : Program} {f : FuncId} (h : named P f = true) : ∃ fn, P.funcs[f]? = some fn ∧ (fn.name == "runtime.NumGoroutine") = false ∧ fn.body.isNone = false := by
  unfold named at h
  split at h
  · rename_i fn hf
    rw [Bool.and_eq_true] at h
    exact ⟨fn, hf, by simpa using h.1, by simpa using h.2⟩
  · cases h
theorem look2_mem {α : Type} : ∀ {l : List (Nat × α)} {t : Nat} {v : α}, look2 l t = some v → (t, v) ∈ l
  | [], t, v, h => by cases h
  | (k, x) :: l, t, v, h => by
    simp only [look2] at h
    cases hb : Nat.beq k t with
    | true =>
      rw [hb] at h
      have := Nat.eq_of_beq_eq_true hb
      subst this
      injection h with h; subst h
      exact .head _
    | false => rw [hb] at h; exact .tail _ (look2_mem h)
def allOk (P : Program) : List (Nat × Spec) → Prop
  | [] => True
  | p :: l => CallOk P p.1 p.2 ∧ allOk P l
theorem allOk_spec {P : Program} : ∀ {l : List (Nat × Spec)}, allOk P l → ∀ f S, look2 l f = some S → CallOk P f S := fun {l} hl f S h => by
  have := look2_mem h
  clear h
  induction l with
  | nil => cases this
  | cons p l ih =>
    rcases List.mem_cons.1 this with e | e
    · subst e; exact hl.1
    · exact ih hl.2 e

theorem aggDen {β : Env} (l : List SV) : (SV.agg l).den β = .agg ((denL β l).flatMap fun v => v.cells.toList.map sane).toArray := rfl
theorem intDen {β : Env} (k : IntKind) (n : Int) : (SV.int k n).den β = .int k n := rfl
theorem natDen {β : Env} (k : IntKind) (n : Nat) : (SV.nat k n).den β = .int k (n : Int) := rfl
theorem boolDen {β : Env} (b : Bool) : (SV.bool b).den β = .bool b := rfl
theorem r8Den {β β1 : Env} {f : Nat → SV} (h : ∀ q, q < 8 → isI .i64 (f q) = true) : (SV.arr 8 1 f).den β = (SV.arr 8 1 fun q => .int .i64 (iOf (f q))).den β1 := by
  rw [den_agg rfl, den_agg rfl, cl_arr', cl_arr', elems_i64 h, elems_i64 (fun _ _ => rfl)]
  rfl
def prS (p : List Ins) : Nat → SV := fun q => insS (p.getD q ⟨0, 0, 0, 0, 0⟩)
theorem prS_stable {h : HM} {p : List Ins} (q : Nat) : Stable h (prS p q) := by simp [prS, insS, Stable, StableL]
theorem elems_prS {β : Env} (p : List Ins) : elems β 5 p.length (prS p) = insV p := by
  rw [elems_ins fun q _ => rfl]
  congr 1
  exact ls_of insOf_insS p _
def i64S (l : List Int) : Nat → SV := fun q => .int .i64 (l.getD q 0)
def sndsS (l : List Snd) : Nat → SV := fun q => sndS (l.getD q ⟨0, 0, 0⟩)
theorem i64S_stable {h : HM} {l : List Int} (q : Nat) : Stable h (i64S l q) := trivial
theorem sndsS_stable {h : HM} {l : List Snd} (q : Nat) : Stable h (sndsS l q) := by simp [sndsS, sndS, Stable, StableL]
theorem elems_i64S {β : Env} (l : List Int) : elems β 1 l.length (i64S l) = int64s l := by
  rw [elems_i64 fun q _ => rfl]
  congr 1
  exact ls_of (g := iOf) (e := fun x => .int .i64 x) (fun _ => rfl) l 0
theorem elems_sndsS {β : Env} (l : List Snd) : elems β 3 l.length (sndsS l) = sndsV l := by
  rw [elems_snd fun q _ => rfl]
  congr 1
  exact ls_of sndOf_sndS l _
section
variable {w : World} {β : Env} {A : Option Addr} {n cap : Nat} {f : Nat → SV}
theorem viewI64 (hr : Reads w w.heap.size 1 A n (elems β 1 n f)) (hn : n ≤ cap) (hf : ∀ q, q < n → isI .i64 (f q) = true) : (View.mk 1 (ls iOf n f).length (i64S (ls iOf n f)) A cap).Ok w :=
  ⟨fun β' => by rw [elems_i64S, ls_length]; rwa [elems_i64 hf] at hr, by rw [ls_length]; exact hn, fun h q => i64S_stable q, Nat.succ_pos _⟩
theorem viewIns (hr : Reads w w.heap.size 5 A n (elems β 5 n f)) (hn : n ≤ cap) (hf : ∀ q, q < n → isIns (f q) = true) : (View.mk 5 (ls insOf n f).length (prS (ls insOf n f)) A cap).Ok w :=
  ⟨fun β' => by rw [elems_prS, ls_length]; rwa [elems_ins hf] at hr, by rw [ls_length]; exact hn, fun h q => prS_stable q, Nat.succ_pos _⟩
theorem viewSnd (hr : Reads w w.heap.size 3 A n (elems β 3 n f)) (hn : n ≤ cap) (hf : ∀ q, q < n → isSnd (f q) = true) : (View.mk 3 (ls sndOf n f).length (sndsS (ls sndOf n f)) A cap).Ok w :=
  ⟨fun β' => by rw [elems_sndsS, ls_length]; rwa [elems_snd hf] at hr, by rw [ls_length]; exact hn, fun h q => sndsS_stable q, Nat.succ_pos _⟩
end
end Go.Proofs.Ytjliakjbdcplcaa.Vm
end

section
namespace Go.Proofs.Ytjliakjbdcplcaa
set_option linter.unusedVariables false
set_option linter.unusedSimpArgs false
open Go.RowKit

theorem formC_none (op : Int) (h : op < 1 ∨ 11 < op ∧ op ≤ 32 ∨ 49 < op) : formC op = 0 := by
  unfold formC
  rw [if_neg (by omega), if_neg (by omega), if_neg (by omega), if_neg (by omega), if_neg (by omega), if_neg (by omega), if_neg (by omega)]
theorem formIx0 (w : World) : (Instr.index 206 (.agg #[.int .u8 1, .string ⟨#[]⟩, .int .u8 2, .string ⟨#[]⟩, .int .u8 3, .string ⟨#[114, 110]⟩, .int .u8 4, .string ⟨#[114, 114]⟩, .int .u8 5, .string ⟨#[114, 114]⟩, .int .u8 6, .string ⟨#[114, 114]⟩, .int .u8 7, .string ⟨#[114, 114]⟩, .int .u8 8, .string ⟨#[114, 114, 112]⟩, .int .u8 9, .string ⟨#[116]⟩, .int .u8 10, .string ⟨#[114, 116]⟩, .int .u8 11, .string ⟨#[114, 116]⟩]) (.int .i64 0)).run Try.prog w = .ok (.agg #[.int .u8 1, .string ⟨#[]⟩]) w := by kernel_rfl
theorem formIx1 (w : World) : (Instr.index 206 (.agg #[.int .u8 1, .string ⟨#[]⟩, .int .u8 2, .string ⟨#[]⟩, .int .u8 3, .string ⟨#[114, 110]⟩, .int .u8 4, .string ⟨#[114, 114]⟩, .int .u8 5, .string ⟨#[114, 114]⟩, .int .u8 6, .string ⟨#[114, 114]⟩, .int .u8 7, .string ⟨#[114, 114]⟩, .int .u8 8, .string ⟨#[114, 114, 112]⟩, .int .u8 9, .string ⟨#[116]⟩, .int .u8 10, .string ⟨#[114, 116]⟩, .int .u8 11, .string ⟨#[114, 116]⟩]) (.int .i64 1)).run Try.prog w = .ok (.agg #[.int .u8 2, .string ⟨#[]⟩]) w := by kernel_rfl
theorem formIx2 (w : World) : (Instr.index 206 (.agg #[.int .u8 1, .string ⟨#[]⟩, .int .u8 2, .string ⟨#[]⟩, .int .u8 3, .string ⟨#[114, 110]⟩, .int .u8 4, .string ⟨#[114, 114]⟩, .int .u8 5, .string ⟨#[114, 114]⟩, .int .u8 6, .string ⟨#[114, 114]⟩, .int .u8 7, .string ⟨#[114, 114]⟩, .int .u8 8, .string ⟨#[114, 114, 112]⟩, .int .u8 9, .string ⟨#[116]⟩, .int .u8 10, .string ⟨#[114, 116]⟩, .int .u8 11, .string ⟨#[114, 116]⟩]) (.int .i64 2)).run Try.prog w = .ok (.agg #[.int .u8 3, .string ⟨#[114, 110]⟩]) w := by kernel_rfl
theorem formIx3 (w : World) : (Instr.index 206 (.agg #[.int .u8 1, .string ⟨#[]⟩, .int .u8 2, .string ⟨#[]⟩, .int .u8 3, .string ⟨#[114, 110]⟩, .int .u8 4, .string ⟨#[114, 114]⟩, .int .u8 5, .string ⟨#[114, 114]⟩, .int .u8 6, .string ⟨#[114, 114]⟩, .int .u8 7, .string ⟨#[114, 114]⟩, .int .u8 8, .string ⟨#[114, 114, 112]⟩, .int .u8 9, .string ⟨#[116]⟩, .int .u8 10, .string ⟨#[114, 116]⟩, .int .u8 11, .string ⟨#[114, 116]⟩]) (.int .i64 3)).run Try.prog w = .ok (.agg #[.int .u8 4, .string ⟨#[114, 114]⟩]) w := by kernel_rfl
theorem formIx4 (w : World) : (Instr.index 206 (.agg #[.int .u8 1, .string ⟨#[]⟩, .int .u8 2, .string ⟨#[]⟩, .int .u8 3, .string ⟨#[114, 110]⟩, .int .u8 4, .string ⟨#[114, 114]⟩, .int .u8 5, .string ⟨#[114, 114]⟩, .int .u8 6, .string ⟨#[114, 114]⟩, .int .u8 7, .string ⟨#[114, 114]⟩, .int .u8 8, .string ⟨#[114, 114, 112]⟩, .int .u8 9, .string ⟨#[116]⟩, .int .u8 10, .string ⟨#[114, 116]⟩, .int .u8 11, .string ⟨#[114, 116]⟩]) (.int .i64 4)).run Try.prog w = .ok (.agg #[.int .u8 5, .string ⟨#[114, 114]⟩]) w := by kernel_rfl
theorem formIx5 (w : World) : (Instr.index 206 (.agg #[.int .u8 1, .string ⟨#[]⟩, .int .u8 2, .string ⟨#[]⟩, .int .u8 3, .string ⟨#[114, 110]⟩, .int .u8 4, .string ⟨#[114, 114]⟩, .int .u8 5, .string ⟨#[114, 114]⟩, .int .u8 6, .string ⟨#[114, 114]⟩, .int .u8 7, .string ⟨#[114, 114]⟩, .int .u8 8, .string ⟨#[114, 114, 112]⟩, .int .u8 9, .string ⟨#[116]⟩, .int .u8 10, .string ⟨#[114, 116]⟩, .int .u8 11, .string ⟨#[114, 116]⟩]) (.int .i64 5)).run Try.prog w = .ok (.agg #[.int .u8 6, .string ⟨#[114, 114]⟩]) w := by kernel_rfl
theorem formIx6 (w : World) : (Instr.index 206 (.agg #[.int .u8 1, .string ⟨#[]⟩, .int .u8 2, .string ⟨#[]⟩, .int .u8 3, .string ⟨#[114, 110]⟩, .int .u8 4, .string ⟨#[114, 114]⟩, .int .u8 5, .string ⟨#[114, 114]⟩, .int .u8 6, .string ⟨#[114, 114]⟩, .int .u8 7, .string ⟨#[114, 114]⟩, .int .u8 8, .string ⟨#[114, 114, 112]⟩, .int .u8 9, .string ⟨#[116]⟩, .int .u8 10, .string ⟨#[114, 116]⟩, .int .u8 11, .string ⟨#[114, 116]⟩]) (.int .i64 6)).run Try.prog w = .ok (.agg #[.int .u8 7, .string ⟨#[114, 114]⟩]) w := by kernel_rfl
theorem formIx7 (w : World) : (Instr.index 206 (.agg #[.int .u8 1, .string ⟨#[]⟩, .int .u8 2, .string ⟨#[]⟩, .int .u8 3, .string ⟨#[114, 110]⟩, .int .u8 4, .string ⟨#[114, 114]⟩, .int .u8 5, .string ⟨#[114, 114]⟩, .int .u8 6, .string ⟨#[114, 114]⟩, .int .u8 7, .string ⟨#[114, 114]⟩, .int .u8 8, .string ⟨#[114, 114, 112]⟩, .int .u8 9, .string ⟨#[116]⟩, .int .u8 10, .string ⟨#[114, 116]⟩, .int .u8 11, .string ⟨#[114, 116]⟩]) (.int .i64 7)).run Try.prog w = .ok (.agg #[.int .u8 8, .string ⟨#[114, 114, 112]⟩]) w := by kernel_rfl
theorem formIx8 (w : World) : (Instr.index 206 (.agg #[.int .u8 1, .string ⟨#[]⟩, .int .u8 2, .string ⟨#[]⟩, .int .u8 3, .string ⟨#[114, 110]⟩, .int .u8 4, .string ⟨#[114, 114]⟩, .int .u8 5, .string ⟨#[114, 114]⟩, .int .u8 6, .string ⟨#[114, 114]⟩, .int .u8 7, .string ⟨#[114, 114]⟩, .int .u8 8, .string ⟨#[114, 114, 112]⟩, .int .u8 9, .string ⟨#[116]⟩, .int .u8 10, .string ⟨#[114, 116]⟩, .int .u8 11, .string ⟨#[114, 116]⟩]) (.int .i64 8)).run Try.prog w = .ok (.agg #[.int .u8 9, .string ⟨#[116]⟩]) w := by kernel_rfl
theorem formIx9 (w : World) : (Instr.index 206 (.agg #[.int .u8 1, .string ⟨#[]⟩, .int .u8 2, .string ⟨#[]⟩, .int .u8 3, .string ⟨#[114, 110]⟩, .int .u8 4, .string ⟨#[114, 114]⟩, .int .u8 5, .string ⟨#[114, 114]⟩, .int .u8 6, .string ⟨#[114, 114]⟩, .int .u8 7, .string ⟨#[114, 114]⟩, .int .u8 8, .string ⟨#[114, 114, 112]⟩, .int .u8 9, .string ⟨#[116]⟩, .int .u8 10, .string ⟨#[114, 116]⟩, .int .u8 11, .string ⟨#[114, 116]⟩]) (.int .i64 9)).run Try.prog w = .ok (.agg #[.int .u8 10, .string ⟨#[114, 116]⟩]) w := by kernel_rfl
theorem formIx10 (w : World) : (Instr.index 206 (.agg #[.int .u8 1, .string ⟨#[]⟩, .int .u8 2, .string ⟨#[]⟩, .int .u8 3, .string ⟨#[114, 110]⟩, .int .u8 4, .string ⟨#[114, 114]⟩, .int .u8 5, .string ⟨#[114, 114]⟩, .int .u8 6, .string ⟨#[114, 114]⟩, .int .u8 7, .string ⟨#[114, 114]⟩, .int .u8 8, .string ⟨#[114, 114, 112]⟩, .int .u8 9, .string ⟨#[116]⟩, .int .u8 10, .string ⟨#[114, 116]⟩, .int .u8 11, .string ⟨#[114, 116]⟩]) (.int .i64 10)).run Try.prog w = .ok (.agg #[.int .u8 11, .string ⟨#[114, 116]⟩]) w := by kernel_rfl

theorem form_rrr (op : Int) (w : World) (h0 : 32 < op) (h1 : op ≤ 49)  :
    Calls Try.prog 103 #[.int .u8 op] w fun e w' => e = .returned (.tuple #[.string ⟨#[114, 114, 114]⟩, .bool true]) ∧ Below w.heap.size w w' := by
  go_enter Try.func103, Try.ntmps103
  go_wp2
  go_ret2
  exact ⟨rfl, Below.refl _ _⟩

set_option maxRecDepth 100000 in
set_option maxHeartbeats 4000000 in
theorem form_lo (op : Int) (w : World) (h0 : 0 ≤ op) (h1 : op ≤ 32) :
    Calls Try.prog 103 #[.int .u8 op] w fun e w' => e = .returned (.tuple #[.string (formS (formC op)), .bool (formC op != 0)]) ∧ Below w.heap.size w w' := by
  go_enter Try.func103, Try.ntmps103
  go_wp2
  go_loopw [24] (fun k wr => ∃ n : Nat, k = .int .i64 n ∧ n ≤ 11 ∧ (op < 1 ∨ (n : Int) < op) ∧ Below w.heap.size w wr) (fun k _ => 11 - (intOf k).toNat)
  case atStart => exact ⟨0, rfl, by omega, by omega, Below.refl _ _⟩
  case round =>
    obtain ⟨n, rfl, hn, hop, hb⟩ := hrel
    have hz := hb.size
    have HB := Lib.hid hb
    clear hb
    have hN : n = 0 ∨ n = 1 ∨ n = 2 ∨ n = 3 ∨ n = 4 ∨ n = 5 ∨ n = 6 ∨ n = 7 ∨ n = 8 ∨ n = 9 ∨ n = 10 ∨ n = 11 := by omega
    rcases hN with rfl | rfl | rfl | rfl | rfl | rfl | rfl | rfl | rfl | rfl | rfl | rfl
    · have i0 := formIx0
      go_wp2
      · have he : (1 : Int) = op := beq_iff_eq.1 (by assumption)
        subst he
        go_ret2
        exact ⟨rfl, HB.out.alloc hz _⟩
      · have he : (1 : Int) ≠ op := beq_eq_false_iff_ne.1 (by assumption)
        go_roundw
        case rel => exact ⟨1, by go_num, by omega, by omega, HB.out.alloc hz _⟩
        case measure => simp [intOf]
    · have i0 := formIx1
      go_wp2
      · have he : (2 : Int) = op := beq_iff_eq.1 (by assumption)
        subst he
        go_ret2
        exact ⟨rfl, HB.out.alloc hz _⟩
      · have he : (2 : Int) ≠ op := beq_eq_false_iff_ne.1 (by assumption)
        go_roundw
        case rel => exact ⟨2, by go_num, by omega, by omega, HB.out.alloc hz _⟩
        case measure => simp [intOf]
    · have i0 := formIx2
      go_wp2
      · have he : (3 : Int) = op := beq_iff_eq.1 (by assumption)
        subst he
        go_ret2
        exact ⟨rfl, HB.out.alloc hz _⟩
      · have he : (3 : Int) ≠ op := beq_eq_false_iff_ne.1 (by assumption)
        go_roundw
        case rel => exact ⟨3, by go_num, by omega, by omega, HB.out.alloc hz _⟩
        case measure => simp [intOf]
    · have i0 := formIx3
      go_wp2
      · have he : (4 : Int) = op := beq_iff_eq.1 (by assumption)
        subst he
        go_ret2
        exact ⟨rfl, HB.out.alloc hz _⟩
      · have he : (4 : Int) ≠ op := beq_eq_false_iff_ne.1 (by assumption)
        go_roundw
        case rel => exact ⟨4, by go_num, by omega, by omega, HB.out.alloc hz _⟩
        case measure => simp [intOf]
    · have i0 := formIx4
      go_wp2
      · have he : (5 : Int) = op := beq_iff_eq.1 (by assumption)
        subst he
        go_ret2
        exact ⟨rfl, HB.out.alloc hz _⟩
      · have he : (5 : Int) ≠ op := beq_eq_false_iff_ne.1 (by assumption)
        go_roundw
        case rel => exact ⟨5, by go_num, by omega, by omega, HB.out.alloc hz _⟩
        case measure => simp [intOf]
    · have i0 := formIx5
      go_wp2
      · have he : (6 : Int) = op := beq_iff_eq.1 (by assumption)
        subst he
        go_ret2
        exact ⟨rfl, HB.out.alloc hz _⟩
      · have he : (6 : Int) ≠ op := beq_eq_false_iff_ne.1 (by assumption)
        go_roundw
        case rel => exact ⟨6, by go_num, by omega, by omega, HB.out.alloc hz _⟩
        case measure => simp [intOf]
    · have i0 := formIx6
      go_wp2
      · have he : (7 : Int) = op := beq_iff_eq.1 (by assumption)
        subst he
        go_ret2
        exact ⟨rfl, HB.out.alloc hz _⟩
      · have he : (7 : Int) ≠ op := beq_eq_false_iff_ne.1 (by assumption)
        go_roundw
        case rel => exact ⟨7, by go_num, by omega, by omega, HB.out.alloc hz _⟩
        case measure => simp [intOf]
    · have i0 := formIx7
      go_wp2
      · have he : (8 : Int) = op := beq_iff_eq.1 (by assumption)
        subst he
        go_ret2
        exact ⟨rfl, HB.out.alloc hz _⟩
      · have he : (8 : Int) ≠ op := beq_eq_false_iff_ne.1 (by assumption)
        go_roundw
        case rel => exact ⟨8, by go_num, by omega, by omega, HB.out.alloc hz _⟩
        case measure => simp [intOf]
    · have i0 := formIx8
      go_wp2
      · have he : (9 : Int) = op := beq_iff_eq.1 (by assumption)
        subst he
        go_ret2
        exact ⟨rfl, HB.out.alloc hz _⟩
      · have he : (9 : Int) ≠ op := beq_eq_false_iff_ne.1 (by assumption)
        go_roundw
        case rel => exact ⟨9, by go_num, by omega, by omega, HB.out.alloc hz _⟩
        case measure => simp [intOf]
    · have i0 := formIx9
      go_wp2
      · have he : (10 : Int) = op := beq_iff_eq.1 (by assumption)
        subst he
        go_ret2
        exact ⟨rfl, HB.out.alloc hz _⟩
      · have he : (10 : Int) ≠ op := beq_eq_false_iff_ne.1 (by assumption)
        go_roundw
        case rel => exact ⟨10, by go_num, by omega, by omega, HB.out.alloc hz _⟩
        case measure => simp [intOf]
    · have i0 := formIx10
      go_wp2
      · have he : (11 : Int) = op := beq_iff_eq.1 (by assumption)
        subst he
        go_ret2
        exact ⟨rfl, HB.out.alloc hz _⟩
      · have he : (11 : Int) ≠ op := beq_eq_false_iff_ne.1 (by assumption)
        go_roundw
        case rel => exact ⟨11, by go_num, by omega, by omega, HB.out.alloc hz _⟩
        case measure => simp [intOf]
    · go_wp2
      go_ret2
      refine ⟨?_, HB.out⟩
      rw [formC_none op (by omega)]
      rfl

set_option maxRecDepth 100000 in
set_option maxHeartbeats 4000000 in
theorem form_hi (op : Int) (w : World) (h1 : 49 < op) :
    Calls Try.prog 103 #[.int .u8 op] w fun e w' => e = .returned (.tuple #[.string (formS (formC op)), .bool (formC op != 0)]) ∧ Below w.heap.size w w' := by
  have h32 : 32 < op := by omega
  go_enter Try.func103, Try.ntmps103
  go_wp2
  go_loopw [24] (fun k wr => ∃ n : Nat, k = .int .i64 n ∧ n ≤ 11 ∧ (op < 1 ∨ (n : Int) < op) ∧ Below w.heap.size w wr) (fun k _ => 11 - (intOf k).toNat)
  case atStart => exact ⟨0, rfl, by omega, by omega, Below.refl _ _⟩
  case round =>
    obtain ⟨n, rfl, hn, hop, hb⟩ := hrel
    have hz := hb.size
    have HB := Lib.hid hb
    clear hb
    have hN : n = 0 ∨ n = 1 ∨ n = 2 ∨ n = 3 ∨ n = 4 ∨ n = 5 ∨ n = 6 ∨ n = 7 ∨ n = 8 ∨ n = 9 ∨ n = 10 ∨ n = 11 := by omega
    rcases hN with rfl | rfl | rfl | rfl | rfl | rfl | rfl | rfl | rfl | rfl | rfl | rfl
    · have i0 := formIx0
      have he : ((1 : Int) == op) = false := beq_eq_false_iff_ne.2 (by omega)
      go_wp2
      go_roundw
      case rel => exact ⟨1, by go_num, by omega, by omega, HB.out.alloc hz _⟩
      case measure => simp [intOf]
    · have i0 := formIx1
      have he : ((2 : Int) == op) = false := beq_eq_false_iff_ne.2 (by omega)
      go_wp2
      go_roundw
      case rel => exact ⟨2, by go_num, by omega, by omega, HB.out.alloc hz _⟩
      case measure => simp [intOf]
    · have i0 := formIx2
      have he : ((3 : Int) == op) = false := beq_eq_false_iff_ne.2 (by omega)
      go_wp2
      go_roundw
      case rel => exact ⟨3, by go_num, by omega, by omega, HB.out.alloc hz _⟩
      case measure => simp [intOf]
    · have i0 := formIx3
      have he : ((4 : Int) == op) = false := beq_eq_false_iff_ne.2 (by omega)
      go_wp2
      go_roundw
      case rel => exact ⟨4, by go_num, by omega, by omega, HB.out.alloc hz _⟩
      case measure => simp [intOf]
    · have i0 := formIx4
      have he : ((5 : Int) == op) = false := beq_eq_false_iff_ne.2 (by omega)
      go_wp2
      go_roundw
      case rel => exact ⟨5, by go_num, by omega, by omega, HB.out.alloc hz _⟩
      case measure => simp [intOf]
    · have i0 := formIx5
      have he : ((6 : Int) == op) = false := beq_eq_false_iff_ne.2 (by omega)
      go_wp2
      go_roundw
      case rel => exact ⟨6, by go_num, by omega, by omega, HB.out.alloc hz _⟩
      case measure => simp [intOf]
    · have i0 := formIx6
      have he : ((7 : Int) == op) = false := beq_eq_false_iff_ne.2 (by omega)
      go_wp2
      go_roundw
      case rel => exact ⟨7, by go_num, by omega, by omega, HB.out.alloc hz _⟩
      case measure => simp [intOf]
    · have i0 := formIx7
      have he : ((8 : Int) == op) = false := beq_eq_false_iff_ne.2 (by omega)
      go_wp2
      go_roundw
      case rel => exact ⟨8, by go_num, by omega, by omega, HB.out.alloc hz _⟩
      case measure => simp [intOf]
    · have i0 := formIx8
      have he : ((9 : Int) == op) = false := beq_eq_false_iff_ne.2 (by omega)
      go_wp2
      go_roundw
      case rel => exact ⟨9, by go_num, by omega, by omega, HB.out.alloc hz _⟩
      case measure => simp [intOf]
    · have i0 := formIx9
      have he : ((10 : Int) == op) = false := beq_eq_false_iff_ne.2 (by omega)
      go_wp2
      go_roundw
      case rel => exact ⟨10, by go_num, by omega, by omega, HB.out.alloc hz _⟩
      case measure => simp [intOf]
    · have i0 := formIx10
      have he : ((11 : Int) == op) = false := beq_eq_false_iff_ne.2 (by omega)
      go_wp2
      go_roundw
      case rel => exact ⟨11, by go_num, by omega, by omega, HB.out.alloc hz _⟩
      case measure => simp [intOf]
    · go_wp2
      go_ret2
      refine ⟨?_, HB.out⟩
      rw [formC_none op (by omega)]
      rfl
end Go.Proofs.Ytjliakjbdcplcaa
end

section
namespace Go.Proofs.Ytjliakjbdcplcaa
set_option linter.unusedVariables false
set_option linter.unusedSimpArgs false
open Go.RowKit

theorem eq3 (x y z a b c : Int) (w : World) : (Op.equalIn 10000 199 (.agg #[.int .u8 x, .int .u8 y, .int .u8 z]) (.agg #[.int .u8 a, .int .u8 b, .int .u8 c])).run Try.prog w = .ok (x == a && (y == b && z == c)) w := by
  have h1 : ∀ (x a : Int) (w : World), (Op.equalIn 9999 5 (.int .u8 x) (.int .u8 a)).run Try.prog w = .ok (x == a) w := fun x a w => run_equalIn_int w 9998 5 .u8 .u8 x a (by kernel_rfl)
  have hs : ∀ w, (sizeOf 5).run Try.prog w = .ok 1 w := fun w => by kernel_rfl
  have hu : ∀ w, (underlying 199).run Try.prog w = .ok (.array 3 5) w := fun w => by kernel_rfl
  have p0 : ∀ (x y z : Int) w, (part 5 #[.int .u8 x, .int .u8 y, .int .u8 z] 0).run Try.prog w = .ok (.int .u8 x) w := fun x y z w => by kernel_rfl
  have p1 : ∀ (x y z : Int) w, (part 5 #[.int .u8 x, .int .u8 y, .int .u8 z] 1).run Try.prog w = .ok (.int .u8 y) w := fun x y z w => by kernel_rfl
  have p2 : ∀ (x y z : Int) w, (part 5 #[.int .u8 x, .int .u8 y, .int .u8 z] 2).run Try.prog w = .ok (.int .u8 z) w := fun x y z w => by kernel_rfl
  rw [Op.equalIn]
  simp only [Sem.run_bind, hu, Result.andThen_ok, hs]
  simp only [Std.Legacy.Range.forIn_eq_forIn_range', Std.Legacy.Range.size]
  simp [List.range'_succ, p0, p1, p2, h1, ite_okB]

end Go.Proofs.Ytjliakjbdcplcaa
end

section
namespace Go.Proofs.Ytjliakjbdcplcaa
open Go.RowKit
set_option linter.unusedVariables false
set_option linter.unusedSimpArgs false

set_option maxRecDepth 100000 in
theorem registers_c (op a b c n : Int) (w : World) : Calls Try.prog 112 #[.agg #[.int .u8 op, .int .u8 a, .int .u8 b, .int .u8 c, .int .i64 n]] w fun e w' =>
    e = .returned (.agg #[.int .u8 a, .int .u8 b, .int .u8 c]) ∧ Below w.heap.size w w' := by
  go_enter Try.func112, Try.ntmps112
  go_wp2
  exact bodyPost_ret (v := .agg #[.int .u8 a, .int .u8 b, .int .u8 c]) (by simp [results, Try.results112, go_sem]) rfl ⟨rfl, ((Below.refl _ _).alloc (Nat.le_refl _) _).alloc (by simp) _⟩


set_option maxRecDepth 100000 in
set_option maxHeartbeats 4000000 in
theorem one_k1 (op a b c n : Int) (w : World) (a0 : 0 ≤ a) (a1 : a ≤ 255) (b0 : 0 ≤ b) (b1 : b ≤ 255) (c0 : 0 ≤ c) (c1 : c ≤ 255)
   (hform : ∀ w, Calls Try.prog 103 #[.int .u8 op] w fun e w' => e = .returned (.tuple #[.string ⟨#[114, 114, 114]⟩, .bool true]) ∧ Below w.heap.size w w') :
    Calls Try.prog 92 #[.agg #[.int .u8 op, .int .u8 a, .int .u8 b, .int .u8 c, .int .i64 n]] w fun e w' => e = .returned (.int .i64 (oneK 1 a b c n)) ∧ Below w.heap.size w w' := by
  go_enter Try.func92, Try.ntmps92
  have HF := Lib.hid hform
  clear hform
  go_wp2_with fail
  refine (HF.out _).mono ?_
  rintro e w1 ⟨rfl, hb1⟩
  have hz1 := hb1.size
  simp at hz1
  have hz1' : w.heap.size < w1.heap.size := by omega
  have c1_ : ∀ o, w1.cell? ⟨w.heap.size, o, none⟩ = #[Value.int .u8 op, .int .u8 a, .int .u8 b, .int .u8 c, .int .i64 n][o]? := fun o => by
    rw [hb1.cell (p := ⟨w.heap.size, o, none⟩) (by simp)]; exact cell_of_row _ _ _ _ _ _ (heap_alloc_new w _)
  have HB1 := Lib.hid (((Below.refl _ w).alloc (Nat.le_refl _) _).trans (hb1.mono (by simp)))
  clear hb1 HF
  go_upto_region 4 with fail
  go_cut [5, 6] (fun p m W => ∃ g, p = .pointer (some ⟨g, 0, none⟩) ∧ m = .int .i64 n ∧ w.heap.size ≤ g ∧ g < W.heap.size ∧ Below w.heap.size w W ∧ W.cell? ⟨g, 0, none⟩ = some (.int .u8 a) ∧ W.cell? ⟨g, 1, none⟩ = some (.int .u8 b) ∧ W.cell? ⟨g, 2, none⟩ = some (.int .u8 c) ∧ (∀ o, W.frozen? ⟨g, o, none⟩ = false))
  case first =>
    go_region_held3 (fun W => Below w1.heap.size w1 W ∧ ∀ b o, b < w1.heap.size → W.cell? ⟨b, o, none⟩ = w1.cell? ⟨b, o, none⟩)
      (repeat' (first | exact preD | assumption | exact preR | refine preB ?_ hb2 | refine preE ?_ | refine preA ?_ _ | refine preS ?_ ?_ _ | omega | (simp; done) | (simp; omega)))
      ((go_at_call 112; refine (registers_c _ _ _ _ _ _).mono ?_; rintro e w2 ⟨rfl, hb2⟩; obtain ⟨hc2, hf2⟩ := bcell hb2; have hz2 := hb2.size; simp at hz2))
    all_goals (go_wp2_with fail; go_meet)
    all_goals refine ⟨_, rfl, rfl, ?_, ?_, HB1.out.trans (Below.mono (And.left (by assumption)) (by omega)), ?_, ?_, ?_, ?_⟩
    all_goals first | omega | (simp; omega) | go_simp | skip
  case rest =>
    obtain ⟨g, rfl, rfl, hg1, hg2, hB, h0, h1, h2, hf⟩ := hcut
    have hz := hB.size
    have HB := Lib.hid hB
    have e3 := fun x y z w => eq3 x y z 0 0 0 w
    clear hB HB1 c1_ hz1 hz1'
    have i1 := fun W (p i : Nat) v => iter_setCell W ⟨#[114, 114, 114]⟩ p g i v
    have i2 := fun W (p i : Nat) => iter_cell W ⟨#[114, 114, 114]⟩ p g i
    have i3 := fun W (p i : Nat) => iter_frozen W ⟨#[114, 114, 114]⟩ p g i
    have n0_ := fun W n ty hn => next_at (P := Try.prog) W ⟨#[114, 114, 114]⟩ 0 1 n 114 ty hn (by decide) (by decide) (by decide) rfl
    have n1_ := fun W n ty hn => next_at (P := Try.prog) W ⟨#[114, 114, 114]⟩ 1 2 n 114 ty hn (by decide) (by decide) (by decide) rfl
    have n2_ := fun W n ty hn => next_at (P := Try.prog) W ⟨#[114, 114, 114]⟩ 2 3 n 114 ty hn (by decide) (by decide) (by decide) rfl
    have n3_ := fun W n ty hn => next_end (P := Try.prog) W ⟨#[114, 114, 114]⟩ 3 n ty hn (by decide)
    go_wp2
    refine wp_loop_rounds 4 ?_
    all_goals (rw [rounds_succ]; go_wp2)
    any_goals (rw [rounds_succ]; go_wp2)
    any_goals (rw [rounds_succ]; go_wp2)
    any_goals (rw [rounds_succ]; go_wp2)
    all_goals (go_ret; refine ⟨ret_i64 ?_, ?_⟩)
    all_goals first
      | exact HB.out.alloc hz _
      | exact (HB.out.setCell (p := ⟨g, _, none⟩) hg1 _).alloc (by simp; omega) _
      | exact ((HB.out.setCell (p := ⟨g, _, none⟩) hg1 _).setCell (p := ⟨g, _, none⟩) hg1 _).alloc (by simp; omega) _
      | exact (((HB.out.setCell (p := ⟨g, _, none⟩) hg1 _).setCell (p := ⟨g, _, none⟩) hg1 _).setCell (p := ⟨g, _, none⟩) hg1 _).alloc (by simp; omega) _
      | (rw [oneK_pos (by simp only [fitsC]; omega)])
      | (rw [oneK_neg (by simp only [fitsC]; omega)])
      | (have hn : (n != 0) = true := by assumption
         rw [bne_iff_ne] at hn
         rw [oneK_neg (by simp only [fitsC]; omega)])
      | (have hn : (n != 0) = false := by assumption
         rw [bne_eq_false_iff_eq] at hn
         rw [oneK_pos (by simp only [fitsC]; omega)])
      | (have hn : (n != 0) = false := by assumption
         rw [bne_eq_false_iff_eq] at hn
         rw [oneK_neg (by simp only [fitsC]; omega)])



set_option maxRecDepth 100000 in
set_option maxHeartbeats 4000000 in
theorem one_k2 (op a b c n : Int) (w : World) (a0 : 0 ≤ a) (a1 : a ≤ 255) (b0 : 0 ≤ b) (b1 : b ≤ 255) (c0 : 0 ≤ c) (c1 : c ≤ 255)
   (hform : ∀ w, Calls Try.prog 103 #[.int .u8 op] w fun e w' => e = .returned (.tuple #[.string ⟨#[]⟩, .bool true]) ∧ Below w.heap.size w w') :
    Calls Try.prog 92 #[.agg #[.int .u8 op, .int .u8 a, .int .u8 b, .int .u8 c, .int .i64 n]] w fun e w' => e = .returned (.int .i64 (oneK 2 a b c n)) ∧ Below w.heap.size w w' := by
  go_enter Try.func92, Try.ntmps92
  have HF := Lib.hid hform
  clear hform
  go_wp2_with fail
  refine (HF.out _).mono ?_
  rintro e w1 ⟨rfl, hb1⟩
  have hz1 := hb1.size
  simp at hz1
  have hz1' : w.heap.size < w1.heap.size := by omega
  have c1_ : ∀ o, w1.cell? ⟨w.heap.size, o, none⟩ = #[Value.int .u8 op, .int .u8 a, .int .u8 b, .int .u8 c, .int .i64 n][o]? := fun o => by
    rw [hb1.cell (p := ⟨w.heap.size, o, none⟩) (by simp)]; exact cell_of_row _ _ _ _ _ _ (heap_alloc_new w _)
  have HB1 := Lib.hid (((Below.refl _ w).alloc (Nat.le_refl _) _).trans (hb1.mono (by simp)))
  clear hb1 HF
  go_upto_region 4 with fail
  go_cut [5, 6] (fun p m W => ∃ g, p = .pointer (some ⟨g, 0, none⟩) ∧ m = .int .i64 n ∧ w.heap.size ≤ g ∧ g < W.heap.size ∧ Below w.heap.size w W ∧ W.cell? ⟨g, 0, none⟩ = some (.int .u8 a) ∧ W.cell? ⟨g, 1, none⟩ = some (.int .u8 b) ∧ W.cell? ⟨g, 2, none⟩ = some (.int .u8 c) ∧ (∀ o, W.frozen? ⟨g, o, none⟩ = false))
  case first =>
    go_region_held3 (fun W => Below w1.heap.size w1 W ∧ ∀ b o, b < w1.heap.size → W.cell? ⟨b, o, none⟩ = w1.cell? ⟨b, o, none⟩)
      (repeat' (first | exact preD | assumption | exact preR | refine preB ?_ hb2 | refine preE ?_ | refine preA ?_ _ | refine preS ?_ ?_ _ | omega | (simp; done) | (simp; omega)))
      ((go_at_call 112; refine (registers_c _ _ _ _ _ _).mono ?_; rintro e w2 ⟨rfl, hb2⟩; obtain ⟨hc2, hf2⟩ := bcell hb2; have hz2 := hb2.size; simp at hz2))
    all_goals (go_wp2_with fail; go_meet)
    all_goals refine ⟨_, rfl, rfl, ?_, ?_, HB1.out.trans (Below.mono (And.left (by assumption)) (by omega)), ?_, ?_, ?_, ?_⟩
    all_goals first | omega | (simp; omega) | go_simp | skip
  case rest =>
    obtain ⟨g, rfl, rfl, hg1, hg2, hB, h0, h1, h2, hf⟩ := hcut
    have hz := hB.size
    have HB := Lib.hid hB
    have e3 := fun x y z w => eq3 x y z 0 0 0 w
    clear hB HB1 c1_ hz1 hz1'
    have i1 := fun W (p i : Nat) v => iter_setCell W ⟨#[]⟩ p g i v
    have i2 := fun W (p i : Nat) => iter_cell W ⟨#[]⟩ p g i
    have i3 := fun W (p i : Nat) => iter_frozen W ⟨#[]⟩ p g i
    have n0_ := fun W n ty hn => next_end (P := Try.prog) W ⟨#[]⟩ 0 n ty hn (by decide)
    go_wp2
    refine wp_loop_rounds 1 ?_
    all_goals (rw [rounds_succ]; go_wp2)
    all_goals (go_ret; refine ⟨ret_i64 ?_, ?_⟩)
    all_goals first
      | exact HB.out.alloc hz _
      | exact (HB.out.setCell (p := ⟨g, _, none⟩) hg1 _).alloc (by simp; omega) _
      | exact ((HB.out.setCell (p := ⟨g, _, none⟩) hg1 _).setCell (p := ⟨g, _, none⟩) hg1 _).alloc (by simp; omega) _
      | exact (((HB.out.setCell (p := ⟨g, _, none⟩) hg1 _).setCell (p := ⟨g, _, none⟩) hg1 _).setCell (p := ⟨g, _, none⟩) hg1 _).alloc (by simp; omega) _
      | (rw [oneK_pos (by simp only [fitsC]; omega)])
      | (rw [oneK_neg (by simp only [fitsC]; omega)])
      | (have hn : (n != 0) = true := by assumption
         rw [bne_iff_ne] at hn
         rw [oneK_neg (by simp only [fitsC]; omega)])
      | (have hn : (n != 0) = false := by assumption
         rw [bne_eq_false_iff_eq] at hn
         rw [oneK_pos (by simp only [fitsC]; omega)])
      | (have hn : (n != 0) = false := by assumption
         rw [bne_eq_false_iff_eq] at hn
         rw [oneK_neg (by simp only [fitsC]; omega)])



set_option maxRecDepth 100000 in
set_option maxHeartbeats 4000000 in
theorem one_k3 (op a b c n : Int) (w : World) (a0 : 0 ≤ a) (a1 : a ≤ 255) (b0 : 0 ≤ b) (b1 : b ≤ 255) (c0 : 0 ≤ c) (c1 : c ≤ 255)
   (hform : ∀ w, Calls Try.prog 103 #[.int .u8 op] w fun e w' => e = .returned (.tuple #[.string ⟨#[114, 110]⟩, .bool true]) ∧ Below w.heap.size w w') :
    Calls Try.prog 92 #[.agg #[.int .u8 op, .int .u8 a, .int .u8 b, .int .u8 c, .int .i64 n]] w fun e w' => e = .returned (.int .i64 (oneK 3 a b c n)) ∧ Below w.heap.size w w' := by
  go_enter Try.func92, Try.ntmps92
  have HF := Lib.hid hform
  clear hform
  go_wp2_with fail
  refine (HF.out _).mono ?_
  rintro e w1 ⟨rfl, hb1⟩
  have hz1 := hb1.size
  simp at hz1
  have hz1' : w.heap.size < w1.heap.size := by omega
  have c1_ : ∀ o, w1.cell? ⟨w.heap.size, o, none⟩ = #[Value.int .u8 op, .int .u8 a, .int .u8 b, .int .u8 c, .int .i64 n][o]? := fun o => by
    rw [hb1.cell (p := ⟨w.heap.size, o, none⟩) (by simp)]; exact cell_of_row _ _ _ _ _ _ (heap_alloc_new w _)
  have HB1 := Lib.hid (((Below.refl _ w).alloc (Nat.le_refl _) _).trans (hb1.mono (by simp)))
  clear hb1 HF
  go_upto_region 4 with fail
  go_cut [5, 6] (fun p m W => ∃ g, p = .pointer (some ⟨g, 0, none⟩) ∧ m = .int .i64 n ∧ w.heap.size ≤ g ∧ g < W.heap.size ∧ Below w.heap.size w W ∧ W.cell? ⟨g, 0, none⟩ = some (.int .u8 a) ∧ W.cell? ⟨g, 1, none⟩ = some (.int .u8 b) ∧ W.cell? ⟨g, 2, none⟩ = some (.int .u8 c) ∧ (∀ o, W.frozen? ⟨g, o, none⟩ = false))
  case first =>
    go_region_held3 (fun W => Below w1.heap.size w1 W ∧ ∀ b o, b < w1.heap.size → W.cell? ⟨b, o, none⟩ = w1.cell? ⟨b, o, none⟩)
      (repeat' (first | exact preD | assumption | exact preR | refine preB ?_ hb2 | refine preE ?_ | refine preA ?_ _ | refine preS ?_ ?_ _ | omega | (simp; done) | (simp; omega)))
      ((go_at_call 112; refine (registers_c _ _ _ _ _ _).mono ?_; rintro e w2 ⟨rfl, hb2⟩; obtain ⟨hc2, hf2⟩ := bcell hb2; have hz2 := hb2.size; simp at hz2))
    all_goals (go_wp2_with fail; go_meet)
    all_goals refine ⟨_, rfl, rfl, ?_, ?_, HB1.out.trans (Below.mono (And.left (by assumption)) (by omega)), ?_, ?_, ?_, ?_⟩
    all_goals first | omega | (simp; omega) | go_simp | skip
  case rest =>
    obtain ⟨g, rfl, rfl, hg1, hg2, hB, h0, h1, h2, hf⟩ := hcut
    have hz := hB.size
    have HB := Lib.hid hB
    have e3 := fun x y z w => eq3 x y z 0 0 0 w
    clear hB HB1 c1_ hz1 hz1'
    have i1 := fun W (p i : Nat) v => iter_setCell W ⟨#[114, 110]⟩ p g i v
    have i2 := fun W (p i : Nat) => iter_cell W ⟨#[114, 110]⟩ p g i
    have i3 := fun W (p i : Nat) => iter_frozen W ⟨#[114, 110]⟩ p g i
    have n0_ := fun W n ty hn => next_at (P := Try.prog) W ⟨#[114, 110]⟩ 0 1 n 114 ty hn (by decide) (by decide) (by decide) rfl
    have n1_ := fun W n ty hn => next_at (P := Try.prog) W ⟨#[114, 110]⟩ 1 2 n 110 ty hn (by decide) (by decide) (by decide) rfl
    have n2_ := fun W n ty hn => next_end (P := Try.prog) W ⟨#[114, 110]⟩ 2 n ty hn (by decide)
    go_wp2
    refine wp_loop_rounds 3 ?_
    all_goals (rw [rounds_succ]; go_wp2)
    any_goals (rw [rounds_succ]; go_wp2)
    any_goals (rw [rounds_succ]; go_wp2)
    all_goals (go_ret; refine ⟨ret_i64 ?_, ?_⟩)
    all_goals first
      | exact HB.out.alloc hz _
      | exact (HB.out.setCell (p := ⟨g, _, none⟩) hg1 _).alloc (by simp; omega) _
      | exact ((HB.out.setCell (p := ⟨g, _, none⟩) hg1 _).setCell (p := ⟨g, _, none⟩) hg1 _).alloc (by simp; omega) _
      | exact (((HB.out.setCell (p := ⟨g, _, none⟩) hg1 _).setCell (p := ⟨g, _, none⟩) hg1 _).setCell (p := ⟨g, _, none⟩) hg1 _).alloc (by simp; omega) _
      | (rw [oneK_pos (by simp only [fitsC]; omega)])
      | (rw [oneK_neg (by simp only [fitsC]; omega)])
      | (have hn : (n != 0) = true := by assumption
         rw [bne_iff_ne] at hn
         rw [oneK_neg (by simp only [fitsC]; omega)])
      | (have hn : (n != 0) = false := by assumption
         rw [bne_eq_false_iff_eq] at hn
         rw [oneK_pos (by simp only [fitsC]; omega)])
      | (have hn : (n != 0) = false := by assumption
         rw [bne_eq_false_iff_eq] at hn
         rw [oneK_neg (by simp only [fitsC]; omega)])



set_option maxRecDepth 100000 in
set_option maxHeartbeats 4000000 in
theorem one_k4 (op a b c n : Int) (w : World) (a0 : 0 ≤ a) (a1 : a ≤ 255) (b0 : 0 ≤ b) (b1 : b ≤ 255) (c0 : 0 ≤ c) (c1 : c ≤ 255)
   (hform : ∀ w, Calls Try.prog 103 #[.int .u8 op] w fun e w' => e = .returned (.tuple #[.string ⟨#[114, 114]⟩, .bool true]) ∧ Below w.heap.size w w') :
    Calls Try.prog 92 #[.agg #[.int .u8 op, .int .u8 a, .int .u8 b, .int .u8 c, .int .i64 n]] w fun e w' => e = .returned (.int .i64 (oneK 4 a b c n)) ∧ Below w.heap.size w w' := by
  go_enter Try.func92, Try.ntmps92
  have HF := Lib.hid hform
  clear hform
  go_wp2_with fail
  refine (HF.out _).mono ?_
  rintro e w1 ⟨rfl, hb1⟩
  have hz1 := hb1.size
  simp at hz1
  have hz1' : w.heap.size < w1.heap.size := by omega
  have c1_ : ∀ o, w1.cell? ⟨w.heap.size, o, none⟩ = #[Value.int .u8 op, .int .u8 a, .int .u8 b, .int .u8 c, .int .i64 n][o]? := fun o => by
    rw [hb1.cell (p := ⟨w.heap.size, o, none⟩) (by simp)]; exact cell_of_row _ _ _ _ _ _ (heap_alloc_new w _)
  have HB1 := Lib.hid (((Below.refl _ w).alloc (Nat.le_refl _) _).trans (hb1.mono (by simp)))
  clear hb1 HF
  go_upto_region 4 with fail
  go_cut [5, 6] (fun p m W => ∃ g, p = .pointer (some ⟨g, 0, none⟩) ∧ m = .int .i64 n ∧ w.heap.size ≤ g ∧ g < W.heap.size ∧ Below w.heap.size w W ∧ W.cell? ⟨g, 0, none⟩ = some (.int .u8 a) ∧ W.cell? ⟨g, 1, none⟩ = some (.int .u8 b) ∧ W.cell? ⟨g, 2, none⟩ = some (.int .u8 c) ∧ (∀ o, W.frozen? ⟨g, o, none⟩ = false))
  case first =>
    go_region_held3 (fun W => Below w1.heap.size w1 W ∧ ∀ b o, b < w1.heap.size → W.cell? ⟨b, o, none⟩ = w1.cell? ⟨b, o, none⟩)
      (repeat' (first | exact preD | assumption | exact preR | refine preB ?_ hb2 | refine preE ?_ | refine preA ?_ _ | refine preS ?_ ?_ _ | omega | (simp; done) | (simp; omega)))
      ((go_at_call 112; refine (registers_c _ _ _ _ _ _).mono ?_; rintro e w2 ⟨rfl, hb2⟩; obtain ⟨hc2, hf2⟩ := bcell hb2; have hz2 := hb2.size; simp at hz2))
    all_goals (go_wp2_with fail; go_meet)
    all_goals refine ⟨_, rfl, rfl, ?_, ?_, HB1.out.trans (Below.mono (And.left (by assumption)) (by omega)), ?_, ?_, ?_, ?_⟩
    all_goals first | omega | (simp; omega) | go_simp | skip
  case rest =>
    obtain ⟨g, rfl, rfl, hg1, hg2, hB, h0, h1, h2, hf⟩ := hcut
    have hz := hB.size
    have HB := Lib.hid hB
    have e3 := fun x y z w => eq3 x y z 0 0 0 w
    clear hB HB1 c1_ hz1 hz1'
    have i1 := fun W (p i : Nat) v => iter_setCell W ⟨#[114, 114]⟩ p g i v
    have i2 := fun W (p i : Nat) => iter_cell W ⟨#[114, 114]⟩ p g i
    have i3 := fun W (p i : Nat) => iter_frozen W ⟨#[114, 114]⟩ p g i
    have n0_ := fun W n ty hn => next_at (P := Try.prog) W ⟨#[114, 114]⟩ 0 1 n 114 ty hn (by decide) (by decide) (by decide) rfl
    have n1_ := fun W n ty hn => next_at (P := Try.prog) W ⟨#[114, 114]⟩ 1 2 n 114 ty hn (by decide) (by decide) (by decide) rfl
    have n2_ := fun W n ty hn => next_end (P := Try.prog) W ⟨#[114, 114]⟩ 2 n ty hn (by decide)
    go_wp2
    refine wp_loop_rounds 3 ?_
    all_goals (rw [rounds_succ]; go_wp2)
    any_goals (rw [rounds_succ]; go_wp2)
    any_goals (rw [rounds_succ]; go_wp2)
    all_goals (go_ret; refine ⟨ret_i64 ?_, ?_⟩)
    all_goals first
      | exact HB.out.alloc hz _
      | exact (HB.out.setCell (p := ⟨g, _, none⟩) hg1 _).alloc (by simp; omega) _
      | exact ((HB.out.setCell (p := ⟨g, _, none⟩) hg1 _).setCell (p := ⟨g, _, none⟩) hg1 _).alloc (by simp; omega) _
      | exact (((HB.out.setCell (p := ⟨g, _, none⟩) hg1 _).setCell (p := ⟨g, _, none⟩) hg1 _).setCell (p := ⟨g, _, none⟩) hg1 _).alloc (by simp; omega) _
      | (rw [oneK_pos (by simp only [fitsC]; omega)])
      | (rw [oneK_neg (by simp only [fitsC]; omega)])
      | (have hn : (n != 0) = true := by assumption
         rw [bne_iff_ne] at hn
         rw [oneK_neg (by simp only [fitsC]; omega)])
      | (have hn : (n != 0) = false := by assumption
         rw [bne_eq_false_iff_eq] at hn
         rw [oneK_pos (by simp only [fitsC]; omega)])
      | (have hn : (n != 0) = false := by assumption
         rw [bne_eq_false_iff_eq] at hn
         rw [oneK_neg (by simp only [fitsC]; omega)])



set_option maxRecDepth 100000 in
set_option maxHeartbeats 4000000 in
theorem one_k5 (op a b c n : Int) (w : World) (a0 : 0 ≤ a) (a1 : a ≤ 255) (b0 : 0 ≤ b) (b1 : b ≤ 255) (c0 : 0 ≤ c) (c1 : c ≤ 255)
   (hform : ∀ w, Calls Try.prog 103 #[.int .u8 op] w fun e w' => e = .returned (.tuple #[.string ⟨#[114, 114, 112]⟩, .bool true]) ∧ Below w.heap.size w w') :
    Calls Try.prog 92 #[.agg #[.int .u8 op, .int .u8 a, .int .u8 b, .int .u8 c, .int .i64 n]] w fun e w' => e = .returned (.int .i64 (oneK 5 a b c n)) ∧ Below w.heap.size w w' := by
  go_enter Try.func92, Try.ntmps92
  have HF := Lib.hid hform
  clear hform
  go_wp2_with fail
  refine (HF.out _).mono ?_
  rintro e w1 ⟨rfl, hb1⟩
  have hz1 := hb1.size
  simp at hz1
  have hz1' : w.heap.size < w1.heap.size := by omega
  have c1_ : ∀ o, w1.cell? ⟨w.heap.size, o, none⟩ = #[Value.int .u8 op, .int .u8 a, .int .u8 b, .int .u8 c, .int .i64 n][o]? := fun o => by
    rw [hb1.cell (p := ⟨w.heap.size, o, none⟩) (by simp)]; exact cell_of_row _ _ _ _ _ _ (heap_alloc_new w _)
  have HB1 := Lib.hid (((Below.refl _ w).alloc (Nat.le_refl _) _).trans (hb1.mono (by simp)))
  clear hb1 HF
  go_upto_region 4 with fail
  go_cut [5, 6] (fun p m W => ∃ g, p = .pointer (some ⟨g, 0, none⟩) ∧ m = .int .i64 n ∧ w.heap.size ≤ g ∧ g < W.heap.size ∧ Below w.heap.size w W ∧ W.cell? ⟨g, 0, none⟩ = some (.int .u8 a) ∧ W.cell? ⟨g, 1, none⟩ = some (.int .u8 b) ∧ W.cell? ⟨g, 2, none⟩ = some (.int .u8 c) ∧ (∀ o, W.frozen? ⟨g, o, none⟩ = false))
  case first =>
    go_region_held3 (fun W => Below w1.heap.size w1 W ∧ ∀ b o, b < w1.heap.size → W.cell? ⟨b, o, none⟩ = w1.cell? ⟨b, o, none⟩)
      (repeat' (first | exact preD | assumption | exact preR | refine preB ?_ hb2 | refine preE ?_ | refine preA ?_ _ | refine preS ?_ ?_ _ | omega | (simp; done) | (simp; omega)))
      ((go_at_call 112; refine (registers_c _ _ _ _ _ _).mono ?_; rintro e w2 ⟨rfl, hb2⟩; obtain ⟨hc2, hf2⟩ := bcell hb2; have hz2 := hb2.size; simp at hz2))
    all_goals (go_wp2_with fail; go_meet)
    all_goals refine ⟨_, rfl, rfl, ?_, ?_, HB1.out.trans (Below.mono (And.left (by assumption)) (by omega)), ?_, ?_, ?_, ?_⟩
    all_goals first | omega | (simp; omega) | go_simp | skip
  case rest =>
    obtain ⟨g, rfl, rfl, hg1, hg2, hB, h0, h1, h2, hf⟩ := hcut
    have hz := hB.size
    have HB := Lib.hid hB
    have e3 := fun x y z w => eq3 x y z 0 0 0 w
    clear hB HB1 c1_ hz1 hz1'
    have i1 := fun W (p i : Nat) v => iter_setCell W ⟨#[114, 114, 112]⟩ p g i v
    have i2 := fun W (p i : Nat) => iter_cell W ⟨#[114, 114, 112]⟩ p g i
    have i3 := fun W (p i : Nat) => iter_frozen W ⟨#[114, 114, 112]⟩ p g i
    have n0_ := fun W n ty hn => next_at (P := Try.prog) W ⟨#[114, 114, 112]⟩ 0 1 n 114 ty hn (by decide) (by decide) (by decide) rfl
    have n1_ := fun W n ty hn => next_at (P := Try.prog) W ⟨#[114, 114, 112]⟩ 1 2 n 114 ty hn (by decide) (by decide) (by decide) rfl
    have n2_ := fun W n ty hn => next_at (P := Try.prog) W ⟨#[114, 114, 112]⟩ 2 3 n 112 ty hn (by decide) (by decide) (by decide) rfl
    have n3_ := fun W n ty hn => next_end (P := Try.prog) W ⟨#[114, 114, 112]⟩ 3 n ty hn (by decide)
    go_wp2
    refine wp_loop_rounds 4 ?_
    all_goals (rw [rounds_succ]; go_wp2)
    any_goals (rw [rounds_succ]; go_wp2)
    any_goals (rw [rounds_succ]; go_wp2)
    any_goals (rw [rounds_succ]; go_wp2)
    all_goals (go_ret; refine ⟨ret_i64 ?_, ?_⟩)
    all_goals first
      | exact HB.out.alloc hz _
      | exact (HB.out.setCell (p := ⟨g, _, none⟩) hg1 _).alloc (by simp; omega) _
      | exact ((HB.out.setCell (p := ⟨g, _, none⟩) hg1 _).setCell (p := ⟨g, _, none⟩) hg1 _).alloc (by simp; omega) _
      | exact (((HB.out.setCell (p := ⟨g, _, none⟩) hg1 _).setCell (p := ⟨g, _, none⟩) hg1 _).setCell (p := ⟨g, _, none⟩) hg1 _).alloc (by simp; omega) _
      | (rw [oneK_pos (by simp only [fitsC]; omega)])
      | (rw [oneK_neg (by simp only [fitsC]; omega)])
      | (have hn : (n != 0) = true := by assumption
         rw [bne_iff_ne] at hn
         rw [oneK_neg (by simp only [fitsC]; omega)])
      | (have hn : (n != 0) = false := by assumption
         rw [bne_eq_false_iff_eq] at hn
         rw [oneK_pos (by simp only [fitsC]; omega)])
      | (have hn : (n != 0) = false := by assumption
         rw [bne_eq_false_iff_eq] at hn
         rw [oneK_neg (by simp only [fitsC]; omega)])



set_option maxRecDepth 100000 in
set_option maxHeartbeats 4000000 in
theorem one_k6 (op a b c n : Int) (w : World) (a0 : 0 ≤ a) (a1 : a ≤ 255) (b0 : 0 ≤ b) (b1 : b ≤ 255) (c0 : 0 ≤ c) (c1 : c ≤ 255)
   (hform : ∀ w, Calls Try.prog 103 #[.int .u8 op] w fun e w' => e = .returned (.tuple #[.string ⟨#[116]⟩, .bool true]) ∧ Below w.heap.size w w') :
    Calls Try.prog 92 #[.agg #[.int .u8 op, .int .u8 a, .int .u8 b, .int .u8 c, .int .i64 n]] w fun e w' => e = .returned (.int .i64 (oneK 6 a b c n)) ∧ Below w.heap.size w w' := by
  go_enter Try.func92, Try.ntmps92
  have HF := Lib.hid hform
  clear hform
  go_wp2_with fail
  refine (HF.out _).mono ?_
  rintro e w1 ⟨rfl, hb1⟩
  have hz1 := hb1.size
  simp at hz1
  have hz1' : w.heap.size < w1.heap.size := by omega
  have c1_ : ∀ o, w1.cell? ⟨w.heap.size, o, none⟩ = #[Value.int .u8 op, .int .u8 a, .int .u8 b, .int .u8 c, .int .i64 n][o]? := fun o => by
    rw [hb1.cell (p := ⟨w.heap.size, o, none⟩) (by simp)]; exact cell_of_row _ _ _ _ _ _ (heap_alloc_new w _)
  have HB1 := Lib.hid (((Below.refl _ w).alloc (Nat.le_refl _) _).trans (hb1.mono (by simp)))
  clear hb1 HF
  go_upto_region 4 with fail
  go_cut [5, 6] (fun p m W => ∃ g, p = .pointer (some ⟨g, 0, none⟩) ∧ m = .int .i64 n ∧ w.heap.size ≤ g ∧ g < W.heap.size ∧ Below w.heap.size w W ∧ W.cell? ⟨g, 0, none⟩ = some (.int .u8 a) ∧ W.cell? ⟨g, 1, none⟩ = some (.int .u8 b) ∧ W.cell? ⟨g, 2, none⟩ = some (.int .u8 c) ∧ (∀ o, W.frozen? ⟨g, o, none⟩ = false))
  case first =>
    go_region_held3 (fun W => Below w1.heap.size w1 W ∧ ∀ b o, b < w1.heap.size → W.cell? ⟨b, o, none⟩ = w1.cell? ⟨b, o, none⟩)
      (repeat' (first | exact preD | assumption | exact preR | refine preB ?_ hb2 | refine preE ?_ | refine preA ?_ _ | refine preS ?_ ?_ _ | omega | (simp; done) | (simp; omega)))
      ((go_at_call 112; refine (registers_c _ _ _ _ _ _).mono ?_; rintro e w2 ⟨rfl, hb2⟩; obtain ⟨hc2, hf2⟩ := bcell hb2; have hz2 := hb2.size; simp at hz2))
    all_goals (go_wp2_with fail; go_meet)
    all_goals refine ⟨_, rfl, rfl, ?_, ?_, HB1.out.trans (Below.mono (And.left (by assumption)) (by omega)), ?_, ?_, ?_, ?_⟩
    all_goals first | omega | (simp; omega) | go_simp | skip
  case rest =>
    obtain ⟨g, rfl, rfl, hg1, hg2, hB, h0, h1, h2, hf⟩ := hcut
    have hz := hB.size
    have HB := Lib.hid hB
    have e3 := fun x y z w => eq3 x y z 0 0 0 w
    clear hB HB1 c1_ hz1 hz1'
    have i1 := fun W (p i : Nat) v => iter_setCell W ⟨#[116]⟩ p g i v
    have i2 := fun W (p i : Nat) => iter_cell W ⟨#[116]⟩ p g i
    have i3 := fun W (p i : Nat) => iter_frozen W ⟨#[116]⟩ p g i
    have n0_ := fun W n ty hn => next_at (P := Try.prog) W ⟨#[116]⟩ 0 1 n 116 ty hn (by decide) (by decide) (by decide) rfl
    have n1_ := fun W n ty hn => next_end (P := Try.prog) W ⟨#[116]⟩ 1 n ty hn (by decide)
    go_wp2
    refine wp_loop_rounds 2 ?_
    all_goals (rw [rounds_succ]; go_wp2)
    any_goals (rw [rounds_succ]; go_wp2)
    all_goals (go_ret; refine ⟨ret_i64 ?_, ?_⟩)
    all_goals first
      | exact HB.out.alloc hz _
      | exact (HB.out.setCell (p := ⟨g, _, none⟩) hg1 _).alloc (by simp; omega) _
      | exact ((HB.out.setCell (p := ⟨g, _, none⟩) hg1 _).setCell (p := ⟨g, _, none⟩) hg1 _).alloc (by simp; omega) _
      | exact (((HB.out.setCell (p := ⟨g, _, none⟩) hg1 _).setCell (p := ⟨g, _, none⟩) hg1 _).setCell (p := ⟨g, _, none⟩) hg1 _).alloc (by simp; omega) _
      | (rw [oneK_pos (by simp only [fitsC]; omega)])
      | (rw [oneK_neg (by simp only [fitsC]; omega)])
      | (have hn : (n != 0) = true := by assumption
         rw [bne_iff_ne] at hn
         rw [oneK_neg (by simp only [fitsC]; omega)])
      | (have hn : (n != 0) = false := by assumption
         rw [bne_eq_false_iff_eq] at hn
         rw [oneK_pos (by simp only [fitsC]; omega)])
      | (have hn : (n != 0) = false := by assumption
         rw [bne_eq_false_iff_eq] at hn
         rw [oneK_neg (by simp only [fitsC]; omega)])



set_option maxRecDepth 100000 in
set_option maxHeartbeats 4000000 in
theorem one_k7 (op a b c n : Int) (w : World) (a0 : 0 ≤ a) (a1 : a ≤ 255) (b0 : 0 ≤ b) (b1 : b ≤ 255) (c0 : 0 ≤ c) (c1 : c ≤ 255)
   (hform : ∀ w, Calls Try.prog 103 #[.int .u8 op] w fun e w' => e = .returned (.tuple #[.string ⟨#[114, 116]⟩, .bool true]) ∧ Below w.heap.size w w') :
    Calls Try.prog 92 #[.agg #[.int .u8 op, .int .u8 a, .int .u8 b, .int .u8 c, .int .i64 n]] w fun e w' => e = .returned (.int .i64 (oneK 7 a b c n)) ∧ Below w.heap.size w w' := by
  go_enter Try.func92, Try.ntmps92
  have HF := Lib.hid hform
  clear hform
  go_wp2_with fail
  refine (HF.out _).mono ?_
  rintro e w1 ⟨rfl, hb1⟩
  have hz1 := hb1.size
  simp at hz1
  have hz1' : w.heap.size < w1.heap.size := by omega
  have c1_ : ∀ o, w1.cell? ⟨w.heap.size, o, none⟩ = #[Value.int .u8 op, .int .u8 a, .int .u8 b, .int .u8 c, .int .i64 n][o]? := fun o => by
    rw [hb1.cell (p := ⟨w.heap.size, o, none⟩) (by simp)]; exact cell_of_row _ _ _ _ _ _ (heap_alloc_new w _)
  have HB1 := Lib.hid (((Below.refl _ w).alloc (Nat.le_refl _) _).trans (hb1.mono (by simp)))
  clear hb1 HF
  go_upto_region 4 with fail
  go_cut [5, 6] (fun p m W => ∃ g, p = .pointer (some ⟨g, 0, none⟩) ∧ m = .int .i64 n ∧ w.heap.size ≤ g ∧ g < W.heap.size ∧ Below w.heap.size w W ∧ W.cell? ⟨g, 0, none⟩ = some (.int .u8 a) ∧ W.cell? ⟨g, 1, none⟩ = some (.int .u8 b) ∧ W.cell? ⟨g, 2, none⟩ = some (.int .u8 c) ∧ (∀ o, W.frozen? ⟨g, o, none⟩ = false))
  case first =>
    go_region_held3 (fun W => Below w1.heap.size w1 W ∧ ∀ b o, b < w1.heap.size → W.cell? ⟨b, o, none⟩ = w1.cell? ⟨b, o, none⟩)
      (repeat' (first | exact preD | assumption | exact preR | refine preB ?_ hb2 | refine preE ?_ | refine preA ?_ _ | refine preS ?_ ?_ _ | omega | (simp; done) | (simp; omega)))
      ((go_at_call 112; refine (registers_c _ _ _ _ _ _).mono ?_; rintro e w2 ⟨rfl, hb2⟩; obtain ⟨hc2, hf2⟩ := bcell hb2; have hz2 := hb2.size; simp at hz2))
    all_goals (go_wp2_with fail; go_meet)
    all_goals refine ⟨_, rfl, rfl, ?_, ?_, HB1.out.trans (Below.mono (And.left (by assumption)) (by omega)), ?_, ?_, ?_, ?_⟩
    all_goals first | omega | (simp; omega) | go_simp | skip
  case rest =>
    obtain ⟨g, rfl, rfl, hg1, hg2, hB, h0, h1, h2, hf⟩ := hcut
    have hz := hB.size
    have HB := Lib.hid hB
    have e3 := fun x y z w => eq3 x y z 0 0 0 w
    clear hB HB1 c1_ hz1 hz1'
    have i1 := fun W (p i : Nat) v => iter_setCell W ⟨#[114, 116]⟩ p g i v
    have i2 := fun W (p i : Nat) => iter_cell W ⟨#[114, 116]⟩ p g i
    have i3 := fun W (p i : Nat) => iter_frozen W ⟨#[114, 116]⟩ p g i
    have n0_ := fun W n ty hn => next_at (P := Try.prog) W ⟨#[114, 116]⟩ 0 1 n 114 ty hn (by decide) (by decide) (by decide) rfl
    have n1_ := fun W n ty hn => next_at (P := Try.prog) W ⟨#[114, 116]⟩ 1 2 n 116 ty hn (by decide) (by decide) (by decide) rfl
    have n2_ := fun W n ty hn => next_end (P := Try.prog) W ⟨#[114, 116]⟩ 2 n ty hn (by decide)
    go_wp2
    refine wp_loop_rounds 3 ?_
    all_goals (rw [rounds_succ]; go_wp2)
    any_goals (rw [rounds_succ]; go_wp2)
    any_goals (rw [rounds_succ]; go_wp2)
    all_goals (go_ret; refine ⟨ret_i64 ?_, ?_⟩)
    all_goals first
      | exact HB.out.alloc hz _
      | exact (HB.out.setCell (p := ⟨g, _, none⟩) hg1 _).alloc (by simp; omega) _
      | exact ((HB.out.setCell (p := ⟨g, _, none⟩) hg1 _).setCell (p := ⟨g, _, none⟩) hg1 _).alloc (by simp; omega) _
      | exact (((HB.out.setCell (p := ⟨g, _, none⟩) hg1 _).setCell (p := ⟨g, _, none⟩) hg1 _).setCell (p := ⟨g, _, none⟩) hg1 _).alloc (by simp; omega) _
      | (rw [oneK_pos (by simp only [fitsC]; omega)])
      | (rw [oneK_neg (by simp only [fitsC]; omega)])
      | (have hn : (n != 0) = true := by assumption
         rw [bne_iff_ne] at hn
         rw [oneK_neg (by simp only [fitsC]; omega)])
      | (have hn : (n != 0) = false := by assumption
         rw [bne_eq_false_iff_eq] at hn
         rw [oneK_pos (by simp only [fitsC]; omega)])
      | (have hn : (n != 0) = false := by assumption
         rw [bne_eq_false_iff_eq] at hn
         rw [oneK_neg (by simp only [fitsC]; omega)])


end Go.Proofs.Ytjliakjbdcplcaa
end

section
namespace Go.Proofs.Ytjliakjbdcplcaa
open Go.RowKit
set_option linter.unusedVariables false
set_option linter.unusedSimpArgs false

set_option maxHeartbeats 1000000 in
theorem one_k0 (op a b c n : Int) (w : World)
   (hform : ∀ w, Calls Try.prog 103 #[.int .u8 op] w fun e w' => e = .returned (.tuple #[.string ⟨#[]⟩, .bool false]) ∧ Below w.heap.size w w') :
    Calls Try.prog 92 #[.agg #[.int .u8 op, .int .u8 a, .int .u8 b, .int .u8 c, .int .i64 n]] w fun e w' => e = .returned (.int .i64 140) ∧ Below w.heap.size w w' := by
  go_enter Try.func92, Try.ntmps92
  have HF := Lib.hid hform
  clear hform
  go_wp2_with fail
  refine (HF.out _).mono ?_
  rintro e w1 ⟨rfl, hb1⟩
  go_wp2
  go_ret
  exact ⟨rfl, ((Below.refl _ w).alloc (Nat.le_refl _) _).trans (hb1.mono (by simp))⟩

theorem form_c (op : Int) (h0 : 0 ≤ op) (w : World) : Calls Try.prog 103 #[.int .u8 op] w fun e w' => e = .returned (.tuple #[.string (formS (formC op)), .bool (formC op != 0)]) ∧ Below w.heap.size w w' := by
  by_cases h : 32 < op
  · by_cases h' : op ≤ 49
    · have hc : formC op = 1 := by unfold formC; rw [if_pos ⟨h, h'⟩]
      rw [hc]
      exact form_rrr op w h h'
    · exact form_hi op w (by omega)
  · exact form_lo op w h0 (by omega)

theorem one_c (i : Ins) (hi : i.ok) (w : World) : Calls Try.prog 92 #[i.v] w fun e w' => e = .returned (.int .i64 (oneE i)) ∧ Below w.heap.size w w' := by
  obtain ⟨op, a, b, c, n⟩ := i
  obtain ⟨o0, o1, a0, a1, b0, b1, c0, c1, n0, n1⟩ := hi
  dsimp only at *
  have hf := form_c op o0
  unfold Ins.v oneE
  dsimp only
  have hk : formC op = 0 ∨ formC op = 1 ∨ formC op = 2 ∨ formC op = 3 ∨ formC op = 4 ∨ formC op = 5 ∨ formC op = 6 ∨ formC op = 7 := by
    unfold formC; repeat (first | (split; · simp) | simp)
  rcases hk with h | h | h | h | h | h | h | h <;> rw [h] at hf <;> rw [h]
  · exact one_k0 op a b c n w hf
  · exact one_k1 op a b c n w a0 a1 b0 b1 c0 c1 hf
  · exact one_k2 op a b c n w a0 a1 b0 b1 c0 c1 hf
  · exact one_k3 op a b c n w a0 a1 b0 b1 c0 c1 hf
  · exact one_k4 op a b c n w a0 a1 b0 b1 c0 c1 hf
  · exact one_k5 op a b c n w a0 a1 b0 b1 c0 c1 hf
  · exact one_k6 op a b c n w a0 a1 b0 b1 c0 c1 hf
  · exact one_k7 op a b c n w a0 a1 b0 b1 c0 c1 hf

def goesB (i : Ins) : Bool := oneE i == 0 && (i.op != 1 && (i.op != 2 && i.op != 9))
set_option maxRecDepth 100000 in
set_option maxHeartbeats 1000000 in
theorem goes_c (i : Ins) (hi : i.ok) (w : World) : Calls Try.prog 94 #[i.v] w fun e w' => e = .returned (.bool (goesB i)) ∧ Below w.heap.size w w' := by
  have h1 := fun w => one_c i hi w
  obtain ⟨E, hE⟩ : ∃ E, E = oneE i := ⟨_, rfl⟩
  unfold goesB
  rw [← hE] at h1 ⊢
  obtain ⟨op, a, b, c, n⟩ := i
  unfold Ins.v at h1 ⊢
  dsimp only at h1 ⊢
  have H1 := Lib.hid h1
  clear h1 hE hi
  go_enter Try.func94, Try.ntmps94
  go_wp2_with fail
  refine (H1.out _).mono ?_
  rintro e w1 ⟨rfl, hb1⟩
  have hB := Lib.hid (((Below.refl _ w).alloc (Nat.le_refl _) _).trans (hb1.mono (by simp)))
  have q0 : w1.cell? ⟨w.heap.size, 0, none⟩ = some (.int .u8 op) := by
    rw [hb1.cell (p := ⟨w.heap.size, 0, none⟩) (by simp)]; exact cell_of_row _ _ _ _ _ _ (heap_alloc_new w _)
  clear hb1
  go_wp2
  all_goals (go_ret; refine ⟨?_, hB.out⟩)
  all_goals first | (simp [*]; done) | (simp [*, Bool.and_assoc]; done)

def targB (i : Ins) : Bool := oneE i == 0 && (i.op == 9 || (i.op == 10 || i.op == 11))
def targV (i : Ins) : Int := if targB i then i.n else 0
set_option maxRecDepth 100000 in
set_option maxHeartbeats 1000000 in
theorem target_c (i : Ins) (hi : i.ok) (w : World) : Calls Try.prog 93 #[i.v] w fun e w' => e = .returned (.tuple #[.int .i64 (targV i), .bool (targB i)]) ∧ Below w.heap.size w w' := by
  have h1 := fun w => one_c i hi w
  obtain ⟨E, hE⟩ : ∃ E, E = oneE i := ⟨_, rfl⟩
  obtain ⟨V, hV⟩ : ∃ V, V = targV i := ⟨_, rfl⟩
  obtain ⟨T, hT⟩ : ∃ T, T = targB i := ⟨_, rfl⟩
  have hV' := hV
  unfold targV at hV'
  rw [← hT] at hV'
  have hT' := hT
  unfold targB at hT'
  rw [← hE] at h1 hT'
  rw [← hT, ← hV]
  obtain ⟨op, a, b, c, n⟩ := i
  unfold Ins.v at h1 ⊢
  dsimp only at h1 hT' hV' ⊢
  have H1 := Lib.hid h1
  have HT := Lib.hid hT'
  have HV := Lib.hid hV'
  clear h1 hE hi hT hT' hV hV'
  go_enter Try.func93, Try.ntmps93
  go_wp2_with fail
  refine (H1.out _).mono ?_
  rintro e w1 ⟨rfl, hb1⟩
  have hB := Lib.hid (((Below.refl _ w).alloc (Nat.le_refl _) _).trans (hb1.mono (by simp)))
  have q0 : w1.cell? ⟨w.heap.size, 0, none⟩ = some (.int .u8 op) := by
    rw [hb1.cell (p := ⟨w.heap.size, 0, none⟩) (by simp)]; exact cell_of_row _ _ _ _ _ _ (heap_alloc_new w _)
  have q4 : w1.cell? ⟨w.heap.size, 4, none⟩ = some (.int .i64 n) := by
    rw [hb1.cell (p := ⟨w.heap.size, 4, none⟩) (by simp)]; exact cell_of_row _ _ _ _ _ _ (heap_alloc_new w _)
  clear hb1
  go_wp2
  all_goals go_ret2
  all_goals refine ⟨?_, hB.out⟩
  all_goals rw [HV.out, HT.out]
  all_goals first | (simp [*]; done) | (simp_all; done) | ((have hq : ((op != 9) = false ∨ (op != 10) = false) ∨ (op != 11) = false := (by assumption)); simp at hq; (have h11 : op = 11 := (by omega)); simp [*]; done)
end Go.Proofs.Ytjliakjbdcplcaa
end

section
namespace Go.Proofs.Ytjliakjbdcplcaa
open Go.RowKit
set_option linter.unusedVariables false
set_option linter.unusedSimpArgs false

def badAt (n : Int) (i : Ins) : Int := if oneE i ≠ 0 then oneE i else if targB i = true ∧ n ≤ targV i then 142 else 0
def checkK (p : List Ins) : Int × Int :=
  match p.findIdx? (fun i => badAt p.length i != 0) with
  | some k => (k, badAt p.length (p.getD k ⟨0, 0, 0, 0, 0⟩))
  | none => if goesB (p.getD (p.length - 1) ⟨0, 0, 0, 0, 0⟩) then ((p.length : Int) - 1, 143) else (-1, 0)
def checkI (p : List Ins) : Int × Int := if p.length = 0 then (-1, 6) else if 256 < p.length then (-1, 5) else checkK p

theorem checkK_bad {p : List Ins} {j : Nat} {x : Ins} {v : Int} (h : ∀ i, i < j → ∀ y, p[i]? = some y → badAt p.length y = 0) (hx : p[j]? = some x) (hv : badAt p.length x = v) (hn : v ≠ 0) : checkK p = ((j : Int), v) := by
  have hj : j < p.length := (List.getElem?_eq_some_iff.1 hx).1
  have hf : p.findIdx? (fun i => badAt p.length i != 0) = some j := by
    rw [List.findIdx?_eq_some_iff_getElem]
    refine ⟨hj, ?_, fun i hi => ?_⟩
    · have : p[j] = x := (List.getElem?_eq_some_iff.1 hx).2
      rw [this, hv]; simpa using hn
    · simp [h i hi _ (List.getElem?_eq_getElem (by omega))]
  unfold checkK
  rw [hf]
  simp [List.getD, hx, hv]
theorem checkK_none {p : List Ins} (h : ∀ i, i < p.length → ∀ y, p[i]? = some y → badAt p.length y = 0) : checkK p = if goesB (p.getD (p.length - 1) ⟨0, 0, 0, 0, 0⟩) then ((p.length : Int) - 1, 143) else (-1, 0) := by
  have hf : p.findIdx? (fun i => badAt p.length i != 0) = none := by
    rw [List.findIdx?_eq_none_iff]
    intro x hx
    obtain ⟨i, hi, rfl⟩ := List.getElem_of_mem hx
    simp [h i hi _ (List.getElem?_eq_getElem hi)]
  unfold checkK
  rw [hf]

set_option maxRecDepth 100000 in
set_option maxHeartbeats 2000000 in
theorem check_mid (A : Option Addr) (n c : Nat) (p : List Ins) (hok : ∀ i ∈ p, i.ok) (w : World) (h : Reads w w.heap.size 5 A n (insV p)) (h0 : ((n : Int) == 0) = false) (h0' : 0 < n) (h1 : n ≤ 256) :
    Calls Try.prog 63 #[.slice A n c] w fun e w' => e = .returned (.tuple #[.int .i64 (checkK p).1, .int .i64 (checkK p).2]) ∧ Below w.heap.size w w' := by
  have hpl := h.ins_len
  have HL := Lib.hid hpl
  clear hpl
  go_enter Try.func63, Try.ntmps63
  go_wp2
  go_loopw [4, 5, 6, 7, 8, 20] (fun _ _ _ _ _ k wr => ∃ j : Nat, k = .int .i64 j ∧ j ≤ n ∧ (∀ i, i < j → ∀ y, p[i]? = some y → badAt n y = 0) ∧ Below w.heap.size w wr) (fun _ _ _ _ _ k _ => n - (intOf k).toNat)
  case atStart => exact ⟨0, rfl, by omega, fun i hi => by omega, Below.refl _ _⟩
  case round =>
    obtain ⟨j, rfl, hj, hbad, hb⟩ := hrel
    have HBad := Lib.hid hbad
    clear hbad
    by_cases hlt : j < n
    · obtain ⟨b, o, x, rfl, hl1, hx, hc0, hc1, hc2, hc3, hc4⟩ := (h.below hb).ins_at hlt
      have hxok := hok x (List.mem_of_getElem? hx)
      obtain ⟨op, a, b', c', m⟩ := x
      have HX := Lib.hid hx
      have HO := Lib.hid hxok
      have HB := Lib.hid hb
      have hz := hb.size
      clear hb hx h hxok hok
      dsimp only at hc0 hc1 hc2 hc3 hc4
      obtain ⟨I, hI⟩ : ∃ I : Ins, I = ⟨op, a, b', c', m⟩ := ⟨_, rfl⟩
      rw [← hI] at HO HX
      have HI := Lib.hid hI
      clear hI
      have h1 : ∀ w, Calls Try.prog 92 #[.agg #[.int .u8 op, .int .u8 a, .int .u8 b', .int .u8 c', .int .i64 m]] w fun e w' => e = .returned (.int .i64 (oneE I)) ∧ Below w.heap.size w w' := fun w => by
        have := one_c I HO.out w; rw [HI.out] at this ⊢; exact this
      have h2 : ∀ w, Calls Try.prog 93 #[.agg #[.int .u8 op, .int .u8 a, .int .u8 b', .int .u8 c', .int .i64 m]] w fun e w' => e = .returned (.tuple #[.int .i64 (targV I), .bool (targB I)]) ∧ Below w.heap.size w w' := fun w => by
        have := target_c I HO.out w; rw [HI.out] at this ⊢; exact this
      have hbadE : badAt n I = if oneE I ≠ 0 then oneE I else if targB I = true ∧ (n : Int) ≤ targV I then 142 else 0 := rfl
      obtain ⟨V, hV⟩ : ∃ V, V = targV I := ⟨_, rfl⟩
      obtain ⟨T, hT⟩ : ∃ T, T = targB I := ⟨_, rfl⟩
      obtain ⟨E, hE⟩ : ∃ E, E = oneE I := ⟨_, rfl⟩
      rw [← hE] at h1 hbadE
      rw [← hV, ← hT] at h2 hbadE
      have H1 := Lib.hid h1
      have H2 := Lib.hid h2
      have HE := Lib.hid hbadE
      clear h1 h2 hbadE hV hT hE
      go_wp2_with fail
      refine (H1.out _).mono ?_
      rintro e w2 ⟨rfl, hb2⟩
      have hz2 := hb2.size
      simp at hz2
      have q : ∀ k u, #[Value.int .u8 op, .int .u8 a, .int .u8 b', .int .u8 c', .int .i64 m][k]? = some u → w2.cell? ⟨wr.heap.size, k, none⟩ = some u := fun k u hu => by
        rw [hb2.cell (p := ⟨wr.heap.size, k, none⟩) (by simp), cell_of_row _ _ _ _ _ _ (heap_alloc_new wr _)]; exact hu
      have q0 := q 0 _ rfl
      have q1 := q 1 _ rfl
      have q2 := q 2 _ rfl
      have q3 := q 3 _ rfl
      have q4 := q 4 _ rfl
      have HB2 := Lib.hid ((HB.out.alloc hz _).trans (hb2.mono (by simp; omega)))
      clear q hb2
      by_cases hE0 : E = 0
      · subst hE0
        go_wp2_with fail
        refine (H2.out _).mono ?_
        rintro e w3 ⟨rfl, hb3⟩
        have hz3 := hb3.size
        have HB3 := Lib.hid (HB2.out.trans (hb3.mono (by omega)))
        clear hb3
        by_cases hbad : T = true ∧ (n : Int) ≤ V
        · obtain ⟨rfl, hnV⟩ := hbad
          go_wp2
          go_ret2
          refine ⟨?_, HB3.out⟩
          have hv : badAt p.length I = 142 := by rw [HL.out, HE.out]; simp [hnV]
          rw [checkK_bad (by rw [HL.out]; exact HBad.out) HX.out hv (by decide)]
          rfl
        · cases T with
          | false =>
            go_wp2
            go_roundw
            case rel => 
              refine ⟨j + 1, by go_num, by omega, fun i hi y hy => ?_, HB3.out⟩
              by_cases hij : i < j
              · exact HBad.out i hij y hy
              · obtain rfl : i = j := by omega
                rw [HX.out] at hy
                obtain rfl : I = y := by cases hy; rfl
                rw [HE.out]; simp
            case measure => simp [intOf]; omega
          | true =>
            have hV : V < (n : Int) := by simp at hbad; omega
            clear hbad
            go_wp2
            go_roundw
            case rel => 
              refine ⟨j + 1, by go_num, by omega, fun i hi y hy => ?_, HB3.out⟩
              by_cases hij : i < j
              · exact HBad.out i hij y hy
              · obtain rfl : i = j := by omega
                rw [HX.out] at hy
                obtain rfl : I = y := by cases hy; rfl
                rw [HE.out]; simp; omega
            case measure => simp [intOf]; omega
      · have hE1 : (E != 0) = true := by rw [bne_iff_ne]; exact hE0
        have HE0 := Lib.hid hE0
        clear hE0
        go_wp2
        go_ret2
        refine ⟨?_, HB2.out⟩
        have hv : badAt p.length I = E := by rw [HL.out, HE.out, if_pos HE0.out]
        rw [checkK_bad (by rw [HL.out]; exact HBad.out) HX.out hv HE0.out]
        rfl
    · obtain rfl : j = n := by omega
      have hk := checkK_none (p := p) (by rw [HL.out]; exact HBad.out)
      obtain ⟨b, o, x, rfl, hl1, hx, hc0, hc1, hc2, hc3, hc4⟩ := (h.below hb).ins_at (k := j - 1) (by omega)
      have hxok := hok x (List.mem_of_getElem? hx)
      have hg : p.getD (p.length - 1) ⟨0, 0, 0, 0, 0⟩ = x := by rw [HL.out]; simp [List.getD, hx]
      rw [hg, HL.out] at hk
      have hi : (((j : Int) - 1).toNat) = j - 1 := by omega
      have hs1 : (0 : Int) ≤ (j : Int) - 1 := by omega
      have hg1 := fun w => goes_c x hxok w
      obtain ⟨G, hG⟩ : ∃ G, G = goesB x := ⟨_, rfl⟩
      rw [← hG] at hk hg1
      have HK := Lib.hid hk
      have HB := Lib.hid hb
      have HG := Lib.hid hg1
      obtain ⟨op, a, b', c', m⟩ := x
      dsimp only at hc0 hc1 hc2 hc3 hc4
      clear hk hb h hok hx hxok hg hG hg1 hi
      go_wp2_with fail
      refine (HG.out _).mono ?_
      rintro e w2 ⟨rfl, hb2⟩
      have HB2 := Lib.hid (HB.out.trans (hb2.mono HB.out.size))
      clear hb2
      cases G with
      | false =>
        go_wp2
        go_ret2
        refine ⟨?_, HB2.out⟩
        rw [HK.out]
        rfl
      | true =>
        go_wp2
        go_ret2
        refine ⟨?_, HB2.out⟩
        rw [HK.out]
        rfl

set_option maxRecDepth 100000 in
set_option maxHeartbeats 2000000 in
theorem check_c (A : Option Addr) (n c : Nat) (hn : n < 2^62) (p : List Ins) (hok : ∀ i ∈ p, i.ok) (w : World) (h : Reads w w.heap.size 5 A n (insV p)) :
    Calls Try.prog 63 #[.slice A n c] w fun e w' => e = .returned (.tuple #[.int .i64 (checkI p).1, .int .i64 (checkI p).2]) ∧ Below w.heap.size w w' := by
  have hpl := h.ins_len
  unfold checkI
  rw [hpl]
  by_cases h0 : n = 0
  · subst h0
    go_enter Try.func63, Try.ntmps63
    go_wp2
    go_ret2
    exact ⟨rfl, Below.refl _ _⟩
  · rw [if_neg h0]
    by_cases h1 : 256 < n
    · rw [if_pos h1]
      have h0' : ((n : Int) == 0) = false := by simp; exact h0
      have h1' : (256 : Int) < n := by omega
      clear h h0 hok hpl
      go_enter Try.func63, Try.ntmps63
      go_wp2
      go_ret2
      exact ⟨rfl, Below.refl _ _⟩
    · rw [if_neg h1]
      exact check_mid A n c p hok w h (by simp; exact h0) (by omega) (by omega)
end Go.Proofs.Ytjliakjbdcplcaa
end

section
namespace Go.Proofs.Ytjliakjbdcplcaa
open Go.RowKit
set_option linter.unusedVariables false
set_option linter.unusedSimpArgs false

def wrongE (op b : Int) : Int := if op < 1 ∨ 17 < op then 130 else if b = 0 ∧ 4 ≤ op ∧ op ≤ 6 then 131 else 0

def allL : List Value := [.string ⟨#[]⟩, .bool false, .string ⟨#[97, 100, 100]⟩, .bool false, .string ⟨#[115, 117, 98]⟩, .bool false, .string ⟨#[109, 117, 108]⟩, .bool false,
  .string ⟨#[100, 105, 118]⟩, .bool true, .string ⟨#[114, 101, 109]⟩, .bool true, .string ⟨#[109, 111, 100]⟩, .bool true, .string ⟨#[97, 110, 100]⟩, .bool false, .string ⟨#[111, 114]⟩, .bool false,
  .string ⟨#[120, 111, 114]⟩, .bool false, .string ⟨#[115, 104, 108]⟩, .bool false, .string ⟨#[115, 104, 114]⟩, .bool false, .string ⟨#[115, 97, 114]⟩, .bool false, .string ⟨#[108, 101, 115, 115]⟩, .bool false,
  .string ⟨#[98, 101, 108, 111, 119]⟩, .bool false, .string ⟨#[101, 113, 117, 97, 108]⟩, .bool false, .string ⟨#[109, 105, 110]⟩, .bool false, .string ⟨#[109, 97, 120]⟩, .bool false]

theorem truth_t (w : World) : Calls Try.prog 132 #[.bool true] w fun e w' => e = .returned (.int .i64 1) ∧ w = w' := by
  go_enter Try.func132, Try.ntmps132
  go_wp2
  go_ret
  exact ⟨rfl, rfl⟩
theorem truth_f (w : World) : Calls Try.prog 132 #[.bool false] w fun e w' => e = .returned (.int .i64 0) ∧ w = w' := by
  go_enter Try.func132, Try.ntmps132
  go_wp2
  go_ret
  exact ⟨rfl, rfl⟩
def truthI (b : Bool) : Int := if b then 1 else 0
theorem truth_c (b : Bool) (w : World) : Calls Try.prog 132 #[.bool b] w fun e w' => e = .returned (.int .i64 (truthI b)) ∧ w = w' := by
  cases b
  · exact truth_f w
  · exact truth_t w

def modI (a b : Int) : Int := if 0 ≤ a.tmod b then a.tmod b else if b < 0 then wrap64 (a.tmod b - b) else wrap64 (a.tmod b + b)
theorem mod_c (a b : Int) (w : World) (hb : b ≠ 0) : Calls Try.prog 131 #[.int .i64 a, .int .i64 b] w fun e w' => e = .returned (.int .i64 (modI a b)) ∧ w = w' := by
  go_enter Try.func131, Try.ntmps131
  go_wp2
  all_goals go_ret
  all_goals refine ⟨ret_i64 ?_, rfl⟩
  · rw [modI, if_pos (by assumption)]
  · rw [modI, if_neg (by omega), if_pos (by assumption)]
  · rw [modI, if_neg (by omega), if_neg (by omega)]

set_option maxRecDepth 100000 in
set_option maxHeartbeats 4000000 in
theorem all_c (w : World) : Calls Try.prog 140 #[] w fun e w' => e = .returned (.agg allL.toArray) ∧ Below w.heap.size w w' := by
  go_enter Try.func140, Try.ntmps140
  go_wp2_with (refine wpList_store_row rfl 225 (.tmp 0) (.tmp 19) rfl w.heap.size allL.toArray rfl rfl 225 _ (heap_alloc_new w _) (by kernel_rfl) rfl (by kernel_rfl) ?_)
  exact bodyPost_ret (v := .agg allL.toArray) (results_cell_row (P := Try.prog) (p := 0) (ty := 225) rfl _ _ w.heap.size 225 allL.toArray (0, 0) _ rfl (setRow_heap _ _ _ _ _ _ (heap_alloc_new w _)) Try.underlying225 rfl (by kernel_rfl)) rfl
    ⟨rfl, below_setRow ((Below.refl _ _).alloc (Nat.le_refl _) _) (Nat.le_refl _) _⟩

def nmB : Value → ByteArray
  | .string s => s
  | _ => ⟨#[]⟩
def nm (op : Int) : ByteArray := nmB (allL.getD (2 * op).toNat undef)
theorem allIx1 (w : World) : (Instr.index 225 (.agg allL.toArray) (.int .u8 1)).run Try.prog w = .ok (.agg #[.string (nm 1), .bool (decide ((4:Int) ≤ 1 ∧ (1:Int) ≤ 6))]) w := by kernel_rfl
theorem allIx2 (w : World) : (Instr.index 225 (.agg allL.toArray) (.int .u8 2)).run Try.prog w = .ok (.agg #[.string (nm 2), .bool (decide ((4:Int) ≤ 2 ∧ (2:Int) ≤ 6))]) w := by kernel_rfl
theorem allIx3 (w : World) : (Instr.index 225 (.agg allL.toArray) (.int .u8 3)).run Try.prog w = .ok (.agg #[.string (nm 3), .bool (decide ((4:Int) ≤ 3 ∧ (3:Int) ≤ 6))]) w := by kernel_rfl
theorem allIx4 (w : World) : (Instr.index 225 (.agg allL.toArray) (.int .u8 4)).run Try.prog w = .ok (.agg #[.string (nm 4), .bool (decide ((4:Int) ≤ 4 ∧ (4:Int) ≤ 6))]) w := by kernel_rfl
theorem allIx5 (w : World) : (Instr.index 225 (.agg allL.toArray) (.int .u8 5)).run Try.prog w = .ok (.agg #[.string (nm 5), .bool (decide ((4:Int) ≤ 5 ∧ (5:Int) ≤ 6))]) w := by kernel_rfl
theorem allIx6 (w : World) : (Instr.index 225 (.agg allL.toArray) (.int .u8 6)).run Try.prog w = .ok (.agg #[.string (nm 6), .bool (decide ((4:Int) ≤ 6 ∧ (6:Int) ≤ 6))]) w := by kernel_rfl
theorem allIx7 (w : World) : (Instr.index 225 (.agg allL.toArray) (.int .u8 7)).run Try.prog w = .ok (.agg #[.string (nm 7), .bool (decide ((4:Int) ≤ 7 ∧ (7:Int) ≤ 6))]) w := by kernel_rfl
theorem allIx8 (w : World) : (Instr.index 225 (.agg allL.toArray) (.int .u8 8)).run Try.prog w = .ok (.agg #[.string (nm 8), .bool (decide ((4:Int) ≤ 8 ∧ (8:Int) ≤ 6))]) w := by kernel_rfl
theorem allIx9 (w : World) : (Instr.index 225 (.agg allL.toArray) (.int .u8 9)).run Try.prog w = .ok (.agg #[.string (nm 9), .bool (decide ((4:Int) ≤ 9 ∧ (9:Int) ≤ 6))]) w := by kernel_rfl
theorem allIx10 (w : World) : (Instr.index 225 (.agg allL.toArray) (.int .u8 10)).run Try.prog w = .ok (.agg #[.string (nm 10), .bool (decide ((4:Int) ≤ 10 ∧ (10:Int) ≤ 6))]) w := by kernel_rfl
theorem allIx11 (w : World) : (Instr.index 225 (.agg allL.toArray) (.int .u8 11)).run Try.prog w = .ok (.agg #[.string (nm 11), .bool (decide ((4:Int) ≤ 11 ∧ (11:Int) ≤ 6))]) w := by kernel_rfl
theorem allIx12 (w : World) : (Instr.index 225 (.agg allL.toArray) (.int .u8 12)).run Try.prog w = .ok (.agg #[.string (nm 12), .bool (decide ((4:Int) ≤ 12 ∧ (12:Int) ≤ 6))]) w := by kernel_rfl
theorem allIx13 (w : World) : (Instr.index 225 (.agg allL.toArray) (.int .u8 13)).run Try.prog w = .ok (.agg #[.string (nm 13), .bool (decide ((4:Int) ≤ 13 ∧ (13:Int) ≤ 6))]) w := by kernel_rfl
theorem allIx14 (w : World) : (Instr.index 225 (.agg allL.toArray) (.int .u8 14)).run Try.prog w = .ok (.agg #[.string (nm 14), .bool (decide ((4:Int) ≤ 14 ∧ (14:Int) ≤ 6))]) w := by kernel_rfl
theorem allIx15 (w : World) : (Instr.index 225 (.agg allL.toArray) (.int .u8 15)).run Try.prog w = .ok (.agg #[.string (nm 15), .bool (decide ((4:Int) ≤ 15 ∧ (15:Int) ≤ 6))]) w := by kernel_rfl
theorem allIx16 (w : World) : (Instr.index 225 (.agg allL.toArray) (.int .u8 16)).run Try.prog w = .ok (.agg #[.string (nm 16), .bool (decide ((4:Int) ≤ 16 ∧ (16:Int) ≤ 6))]) w := by kernel_rfl
theorem allIx17 (w : World) : (Instr.index 225 (.agg allL.toArray) (.int .u8 17)).run Try.prog w = .ok (.agg #[.string (nm 17), .bool (decide ((4:Int) ≤ 17 ∧ (17:Int) ≤ 6))]) w := by kernel_rfl
theorem allIxAt (op : Int) (h1 : 1 ≤ op) (h2 : op ≤ 17) (w : World) : (Instr.index 225 (.agg allL.toArray) (.int .u8 op)).run Try.prog w = .ok (.agg #[.string (nm op), .bool (decide (4 ≤ op ∧ op ≤ 6))]) w := by
  have h : op = 1 ∨ op = 2 ∨ op = 3 ∨ op = 4 ∨ op = 5 ∨ op = 6 ∨ op = 7 ∨ op = 8 ∨ op = 9 ∨ op = 10 ∨ op = 11 ∨ op = 12 ∨ op = 13 ∨ op = 14 ∨ op = 15 ∨ op = 16 ∨ op = 17 := by omega
  rcases h with h | h | h | h | h | h | h | h | h | h | h | h | h | h | h | h | h <;> subst h
  · exact allIx1 w
  · exact allIx2 w
  · exact allIx3 w
  · exact allIx4 w
  · exact allIx5 w
  · exact allIx6 w
  · exact allIx7 w
  · exact allIx8 w
  · exact allIx9 w
  · exact allIx10 w
  · exact allIx11 w
  · exact allIx12 w
  · exact allIx13 w
  · exact allIx14 w
  · exact allIx15 w
  · exact allIx16 w
  · exact allIx17 w

set_option maxHeartbeats 1000000 in
theorem wrong_bad (op b : Int) (w : World) (h : op < 1 ∨ 17 < op) : Calls Try.prog 130 #[.int .u8 op, .int .i64 b] w fun e w' => e = .returned (.int .i64 130) ∧ w = w' := by
  rcases h with h | h
  · go_enter Try.func130, Try.ntmps130
    go_wp2
    go_ret
    exact ⟨rfl, rfl⟩
  · have h' : ¬ op < 1 := by omega
    go_enter Try.func130, Try.ntmps130
    go_wp2
    go_ret
    exact ⟨rfl, rfl⟩
set_option maxHeartbeats 1000000 in
theorem wrong_ok (op b : Int) (w : World) (h1 : 1 ≤ op) (h2 : op ≤ 17) (hb : (b == 0) = false) : Calls Try.prog 130 #[.int .u8 op, .int .i64 b] w fun e w' => e = .returned (.int .i64 0) ∧ w = w' := by
  go_enter Try.func130, Try.ntmps130
  go_wp2
  go_ret
  exact ⟨rfl, rfl⟩
set_option maxRecDepth 100000 in
set_option maxHeartbeats 1000000 in
theorem wrong_z (op : Int) (w : World) (h1 : 1 ≤ op) (h2 : op ≤ 17) : Calls Try.prog 130 #[.int .u8 op, .int .i64 0] w fun e w' => e = .returned (.int .i64 (if 4 ≤ op ∧ op ≤ 6 then 131 else 0)) ∧ Below w.heap.size w w' := by
  have hs := allIxAt op h1 h2
  obtain ⟨V, hV⟩ : ∃ V, V = allL.toArray := ⟨_, rfl⟩
  have ha : ∀ w, Calls Try.prog 140 #[] w fun e w' => e = .returned (.agg V) ∧ Below w.heap.size w w' := hV ▸ all_c
  rw [← hV] at hs
  have HA := Lib.hid ha
  clear ha hV
  have hfl : ∀ (w : World) (s : ByteArray) (b : Bool), (Instr.field 224 (.agg #[.string s, .bool b]) 1).run Try.prog w = .ok (.bool b) w := fun w s b => by kernel_rfl
  go_enter Try.func130, Try.ntmps130
  go_wp2_with fail
  refine (HA.out _).mono ?_
  rintro e w' ⟨rfl, hb⟩
  go_wp2
  all_goals go_ret
  all_goals exact ⟨rfl, hb⟩

theorem wrong_c (op b : Int) (w : World) : Calls Try.prog 130 #[.int .u8 op, .int .i64 b] w fun e w' => e = .returned (.int .i64 (wrongE op b)) ∧ Below w.heap.size w w' := by
  by_cases h : op < 1 ∨ 17 < op
  · refine (wrong_bad op b w h).mono ?_
    rintro e w' ⟨rfl, rfl⟩
    exact ⟨ret_i64 (by rw [wrongE, if_pos h]), Below.refl _ _⟩
  · by_cases hb : b = 0
    · subst hb
      refine (wrong_z op w (by omega) (by omega)).mono ?_
      rintro e w' ⟨rfl, hB⟩
      refine ⟨ret_i64 ?_, hB⟩
      rw [wrongE, if_neg h]
      simp
    · refine (wrong_ok op b w (by omega) (by omega) (by simpa using hb)).mono ?_
      rintro e w' ⟨rfl, rfl⟩
      exact ⟨ret_i64 (by rw [wrongE, if_neg h, if_neg (fun x => hb x.1)]), Below.refl _ _⟩

set_option maxRecDepth 100000 in
set_option maxHeartbeats 1000000 in
theorem apply_bad (op a b : Int) (w : World) (h : (wrongE op b != 0) = true) : Calls Try.prog 117 #[.int .u8 op, .int .i64 a, .int .i64 b] w fun e w' => e = .returned (.tuple #[.int .i64 0, .int .i64 (wrongE op b)]) ∧ Below w.heap.size w w' := by
  have HW := Lib.hid (fun w => wrong_c op b w)
  obtain ⟨E, hE⟩ : ∃ E, E = wrongE op b := ⟨_, rfl⟩
  rw [← hE] at HW h ⊢
  clear hE
  go_enter Try.func117, Try.ntmps117
  go_wp2_with fail
  refine (HW.out _).mono ?_
  rintro e w' ⟨rfl, hb⟩
  go_wp2
  go_ret2
  exact ⟨rfl, hb⟩


def shB (b : Int) : Int := bits BinOp.and IntKind.u64 (IntKind.u64.wrap b) 63
theorem u64_wrap_bd (b : Int) : 0 ≤ IntKind.u64.wrap b ∧ IntKind.u64.wrap b < 18446744073709551616 := by
  simp only [IntKind.wrap, IntKind.bits, IntKind.signed]
  simp
  omega
theorem shB_eq (b : Int) : shB b = IntKind.u64.wrap b % 64 := by
  have hb := u64_wrap_bd b
  unfold shB
  rw [u64_and _ _ hb.1 hb.2 (by decide) (by decide)]
  have h63 : (63 : Int).toNat = 2 ^ 6 - 1 := by decide
  rw [h63, Nat.and_two_pow_sub_one_eq_mod]
  omega
theorem shB_bd (b : Int) : 0 ≤ shB b ∧ shB b ≤ 63 := by rw [shB_eq]; omega

def applyI (op a b : Int) : Int :=
  if op = 1 then wrap64 (a + b) else if op = 2 then wrap64 (a - b) else if op = 3 then wrap64 (a * b)
  else if op = 4 then wrap64 (a.tdiv b) else if op = 5 then a.tmod b else if op = 6 then modI a b
  else if op = 7 then bits .and .i64 a b else if op = 8 then bits .or .i64 a b else if op = 9 then bits .xor .i64 a b
  else if op = 10 then wrap64 (a * 2 ^ (shB b).toNat) else if op = 11 then wrap64 (IntKind.u64.wrap a / 2 ^ (shB b).toNat) else if op = 12 then a / 2 ^ (shB b).toNat
  else if op = 13 then truthI (decide (a < b)) else if op = 14 then truthI (decide (IntKind.u64.wrap a < IntKind.u64.wrap b)) else if op = 15 then truthI (a == b)
  else if op = 16 then (if b < a then b else a) else (if a < b then b else a)

end Go.Proofs.Ytjliakjbdcplcaa
end
