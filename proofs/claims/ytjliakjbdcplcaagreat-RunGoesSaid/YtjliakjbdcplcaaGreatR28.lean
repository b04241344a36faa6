import Derived.Test.YtjliakjbdcplcaaGreatR1
import Derived.Test.YtjliakjbdcplcaaGreatR19
import Derived.Test.YtjliakjbdcplcaaGreatR27
set_option linter.unusedSimpArgs false
set_option linter.unusedVariables false
set_option maxRecDepth 100000
set_option maxHeartbeats 4000000
section
namespace Go.Proofs.YtjliakjbdcplcaaGreat.Vm
open Go.RowKit
attribute [local push_cast] prS zm_ i64S xm_ y4_ y3_ y2_ y1_ y0_ xl_ yz_ yy_ yx_ zl_ zz_ z2_ zy_ zq_ zr_ iOf JM mS macP kF wF JE inR inN
def cD : FuncId → Option yt_ := y6_ [(162, mS (kF 1 false)), (163, mS (kF 2 false)), (164, mS (kF 3 false)), (165, mS (kF 4 false)), (166, mS (kF 5 false)), (167, mS (kF 6 false)), (168, mS (kF 7 false)), (169, mS (kF 8 true)), (170, mS (kF 9 false)), (171, mS (kF 10 false)), (172, mS (kF 11 false)), (173, mS wF)]
theorem xr_ : ∀ f S, cD f = some S → zh_ Tryz.prog f S := zn_ ⟨m_halt, m_fail, m_set, m_move, m_load, m_store, m_draw, m_send, m_jump, m_jumpZero, m_jumpNeg, m_word, trivial⟩
def kindF : Nat → SV := fun j => (SV.ite (decide (j = 10)) (.agg [.nat .u8 11, .fn 172 []]) (SV.ite (decide (j = 9)) (.agg [.nat .u8 10, .fn 171 []]) (SV.ite (decide (j = 8)) (.agg [.nat .u8 9, .fn 170 []]) (SV.ite (decide (j = 7)) (.agg [.nat .u8 8, .fn 169 []]) (SV.ite (decide (j = 6)) (.agg [.nat .u8 7, .fn 168 []]) (SV.ite (decide (j = 5)) (.agg [.nat .u8 6, .fn 167 []]) (SV.ite (decide (j = 4)) (.agg [.nat .u8 5, .fn 166 []]) (SV.ite (decide (j = 3)) (.agg [.nat .u8 4, .fn 165 []]) (SV.ite (decide (j = 2)) (.agg [.nat .u8 3, .fn 164 []]) (SV.ite (decide (j = 1)) (.agg [.nat .u8 2, .fn 163 []]) (SV.ite (decide (j = 0)) (.agg [.nat .u8 1, .fn 162 []]) (.agg [.nat .u8 0, .nilf]))))))))))))
theorem kindF_0 : kindF 0 = .agg [.nat .u8 1, .fn 162 []] := rfl
theorem kindF_1 : kindF 1 = .agg [.nat .u8 2, .fn 163 []] := rfl
theorem kindF_2 : kindF 2 = .agg [.nat .u8 3, .fn 164 []] := rfl
theorem kindF_3 : kindF 3 = .agg [.nat .u8 4, .fn 165 []] := rfl
theorem kindF_4 : kindF 4 = .agg [.nat .u8 5, .fn 166 []] := rfl
theorem kindF_5 : kindF 5 = .agg [.nat .u8 6, .fn 167 []] := rfl
theorem kindF_6 : kindF 6 = .agg [.nat .u8 7, .fn 168 []] := rfl
theorem kindF_7 : kindF 7 = .agg [.nat .u8 8, .fn 169 []] := rfl
theorem kindF_8 : kindF 8 = .agg [.nat .u8 9, .fn 170 []] := rfl
theorem kindF_9 : kindF 9 = .agg [.nat .u8 10, .fn 171 []] := rfl
theorem kindF_10 : kindF 10 = .agg [.nat .u8 11, .fn 172 []] := rfl
def doF : MF := fun ar s v x => match ar with
 | [] => some (RI x ∧ VOk v ∧ SOk s, fun _ => .int .i64 (doE s v x), doS s v x, x, true)
 | _ => none
theorem m_do : zh_ Tryz.prog 157 (mS doF) := mS_ok (by kernel_rfl) fun ar s v x cond val s' x' mv hF hc => by
 unfold doF at hF
 split at hF
 ·cases hF
  obtain ⟨R, V, S⟩ := hc
  obtain ⟨o0, o1, _, _, _, _, _, _, _, _⟩ := R.ok
  have hcls := R.cls
  refine ⟨fun _ => rfl, fun _ => trivial, fun _ _ => rfl, fun _ _ _ => trivial, ?_⟩
  refine ze_ (fn := Tryz.f157) 4 35 0 rfl rfl rfl rfl rfl u11_ rfl fun w0 M E hro => ?_
  repeat' (first | refine Ctl.h ?_ | ((with_reducible intro hif); first | (focus (cases hif; done)) | ((try simp only [JH] at hif); try (exfalso; omega))) | ((with_reducible first | apply J22 xr_ za_ | apply J23 fol xr_ za_ | apply J24); (·rfl); (· exact k93_); (try kernel_rfl); try exact y5_) | fail)
  refine WF.loopAt (fun k => k ≤ 11 ∧ ∀ j : Nat, j < k → x.op ≠ (j : Int) + 1) (fun k => [(0, .ptr 1 []), (16, .arr 11 2 kindF), (17, .nat .i64 k)]) (fun k => [.gone, mB s v x 2 3, cB s, sB s]) (fun k => 11 - k) 0 ⟨by omega, fun j h1 => by omega⟩ ?_ ?_ rfl ?_ ?_ rfl ?_
  ·exact k5_
  ·exact k6_
  ·exact y8_
  ·exact y8_
  rintro k ⟨hk, hop⟩
  have hk12 : k = 0 ∨ k = 1 ∨ k = 2 ∨ k = 3 ∨ k = 4 ∨ k = 5 ∨ k = 6 ∨ k = 7 ∨ k = 8 ∨ k = 9 ∨ k = 10 ∨ k = 11 := by omega
  rcases hk12 with rfl | rfl | rfl | rfl | rfl | rfl | rfl | rfl | rfl | rfl | rfl | rfl
  ·by_cases ho : x.op = 1
   ·exact d40_
   ·repeat' (first | refine Ctl.h ?_ | ((with_reducible intro hif); first | (focus (cases hif; done)) | ((try simp only [JH] at hif); try (exfalso; omega))) | ((with_reducible first | apply J22 xr_ za_ | apply J23 fol xr_ za_ | apply J24); (·rfl); (· exact k94_); (try kernel_rfl); try exact y5_) | fail)
    refine At.next 1 ?_ ?_ ?_ rfl ?_ ?_ rfl
    ·refine ⟨⟨by omega, fun j h1 => ?_⟩, by omega⟩; by_cases e : j = 0; (subst e; exact ho); exact hop j (by omega)
    ·exact k5_
    ·exact k6_
    ·exact y8_
    ·exact y8_
  ·by_cases ho : x.op = 2
   ·exact d40_
   ·repeat' (first | refine Ctl.h ?_ | ((with_reducible intro hif); first | (focus (cases hif; done)) | ((try simp only [JH] at hif); try (exfalso; omega))) | ((with_reducible first | apply J22 xr_ za_ | apply J23 fol xr_ za_ | apply J24); (·rfl); (· exact k94_); (try kernel_rfl); try exact y5_) | fail)
    refine At.next 2 ?_ ?_ ?_ rfl ?_ ?_ rfl
    ·refine ⟨⟨by omega, fun j h1 => ?_⟩, by omega⟩; by_cases e : j = 1; (subst e; exact ho); exact hop j (by omega)
    ·exact k5_
    ·exact k6_
    ·exact y8_
    ·exact y8_
  ·by_cases ho : x.op = 3
   ·exact d40_
   ·repeat' (first | refine Ctl.h ?_ | ((with_reducible intro hif); first | (focus (cases hif; done)) | ((try simp only [JH] at hif); try (exfalso; omega))) | ((with_reducible first | apply J22 xr_ za_ | apply J23 fol xr_ za_ | apply J24); (·rfl); (· exact k94_); (try kernel_rfl); try exact y5_) | fail)
    refine At.next 3 ?_ ?_ ?_ rfl ?_ ?_ rfl
    ·refine ⟨⟨by omega, fun j h1 => ?_⟩, by omega⟩; by_cases e : j = 2; (subst e; exact ho); exact hop j (by omega)
    ·exact k5_
    ·exact k6_
    ·exact y8_
    ·exact y8_
  ·by_cases ho : x.op = 4
   ·exact d40_
   ·repeat' (first | refine Ctl.h ?_ | ((with_reducible intro hif); first | (focus (cases hif; done)) | ((try simp only [JH] at hif); try (exfalso; omega))) | ((with_reducible first | apply J22 xr_ za_ | apply J23 fol xr_ za_ | apply J24); (·rfl); (· exact k94_); (try kernel_rfl); try exact y5_) | fail)
    refine At.next 4 ?_ ?_ ?_ rfl ?_ ?_ rfl
    ·refine ⟨⟨by omega, fun j h1 => ?_⟩, by omega⟩; by_cases e : j = 3; (subst e; exact ho); exact hop j (by omega)
    ·exact k5_
    ·exact k6_
    ·exact y8_
    ·exact y8_
  ·by_cases ho : x.op = 5
   ·exact d40_
   ·repeat' (first | refine Ctl.h ?_ | ((with_reducible intro hif); first | (focus (cases hif; done)) | ((try simp only [JH] at hif); try (exfalso; omega))) | ((with_reducible first | apply J22 xr_ za_ | apply J23 fol xr_ za_ | apply J24); (·rfl); (· exact k94_); (try kernel_rfl); try exact y5_) | fail)
    refine At.next 5 ?_ ?_ ?_ rfl ?_ ?_ rfl
    ·refine ⟨⟨by omega, fun j h1 => ?_⟩, by omega⟩; by_cases e : j = 4; (subst e; exact ho); exact hop j (by omega)
    ·exact k5_
    ·exact k6_
    ·exact y8_
    ·exact y8_
  ·by_cases ho : x.op = 6
   ·exact d40_
   ·repeat' (first | refine Ctl.h ?_ | ((with_reducible intro hif); first | (focus (cases hif; done)) | ((try simp only [JH] at hif); try (exfalso; omega))) | ((with_reducible first | apply J22 xr_ za_ | apply J23 fol xr_ za_ | apply J24); (·rfl); (· exact k94_); (try kernel_rfl); try exact y5_) | fail)
    refine At.next 6 ?_ ?_ ?_ rfl ?_ ?_ rfl
    ·refine ⟨⟨by omega, fun j h1 => ?_⟩, by omega⟩; by_cases e : j = 5; (subst e; exact ho); exact hop j (by omega)
    ·exact k5_
    ·exact k6_
    ·exact y8_
    ·exact y8_
  ·by_cases ho : x.op = 7
   ·exact d40_
   ·repeat' (first | refine Ctl.h ?_ | ((with_reducible intro hif); first | (focus (cases hif; done)) | ((try simp only [JH] at hif); try (exfalso; omega))) | ((with_reducible first | apply J22 xr_ za_ | apply J23 fol xr_ za_ | apply J24); (·rfl); (· exact k94_); (try kernel_rfl); try exact y5_) | fail)
    refine At.next 7 ?_ ?_ ?_ rfl ?_ ?_ rfl
    ·refine ⟨⟨by omega, fun j h1 => ?_⟩, by omega⟩; by_cases e : j = 6; (subst e; exact ho); exact hop j (by omega)
    ·exact k5_
    ·exact k6_
    ·exact y8_
    ·exact y8_
  ·by_cases ho : x.op = 8
   ·repeat' (first | refine Ctl.h ?_ | ((with_reducible intro hif); first | (focus (cases hif; done)) | ((try simp only [JH] at hif); try (exfalso; omega))) | ((with_reducible first | apply J22 xr_ za_ | apply J23 fol xr_ za_ | apply J24); (·rfl); (· exact k94_); (try kernel_rfl); try exact y5_) | fail)
    apply At.endsPick [0, 1, 2, 3, 5] za_ (fn := Tryz.f157) (rs := [.tmp 2]) Anc.refl hro (lb_ rfl) rfl
    ·exact yq_
    ·exact k12_
    ·rfl
    ·rfl
    ·rfl
    ·exact k92_
    ·rfl
    ·exact y8_
    ·exact zx_
    ·exact fun β => rfl
    ·exact y8_
   ·repeat' (first | refine Ctl.h ?_ | ((with_reducible intro hif); first | (focus (cases hif; done)) | ((try simp only [JH] at hif); try (exfalso; omega))) | ((with_reducible first | apply J22 xr_ za_ | apply J23 fol xr_ za_ | apply J24); (·rfl); (· exact k94_); (try kernel_rfl); try exact y5_) | fail)
    refine At.next 8 ?_ ?_ ?_ rfl ?_ ?_ rfl
    ·refine ⟨⟨by omega, fun j h1 => ?_⟩, by omega⟩; by_cases e : j = 7; (subst e; exact ho); exact hop j (by omega)
    ·exact k5_
    ·exact k6_
    ·exact y8_
    ·exact y8_
  ·by_cases ho : x.op = 9
   ·exact d40_
   ·repeat' (first | refine Ctl.h ?_ | ((with_reducible intro hif); first | (focus (cases hif; done)) | ((try simp only [JH] at hif); try (exfalso; omega))) | ((with_reducible first | apply J22 xr_ za_ | apply J23 fol xr_ za_ | apply J24); (·rfl); (· exact k94_); (try kernel_rfl); try exact y5_) | fail)
    refine At.next 9 ?_ ?_ ?_ rfl ?_ ?_ rfl
    ·refine ⟨⟨by omega, fun j h1 => ?_⟩, by omega⟩; by_cases e : j = 8; (subst e; exact ho); exact hop j (by omega)
    ·exact k5_
    ·exact k6_
    ·exact y8_
    ·exact y8_
  ·by_cases ho : x.op = 10
   ·exact d40_
   ·repeat' (first | refine Ctl.h ?_ | ((with_reducible intro hif); first | (focus (cases hif; done)) | ((try simp only [JH] at hif); try (exfalso; omega))) | ((with_reducible first | apply J22 xr_ za_ | apply J23 fol xr_ za_ | apply J24); (·rfl); (· exact k94_); (try kernel_rfl); try exact y5_) | fail)
    refine At.next 10 ?_ ?_ ?_ rfl ?_ ?_ rfl
    ·refine ⟨⟨by omega, fun j h1 => ?_⟩, by omega⟩; by_cases e : j = 9; (subst e; exact ho); exact hop j (by omega)
    ·exact k5_
    ·exact k6_
    ·exact y8_
    ·exact y8_
  ·by_cases ho : x.op = 11
   ·exact d40_
   ·repeat' (first | refine Ctl.h ?_ | ((with_reducible intro hif); first | (focus (cases hif; done)) | ((try simp only [JH] at hif); try (exfalso; omega))) | ((with_reducible first | apply J22 xr_ za_ | apply J23 fol xr_ za_ | apply J24); (·rfl); (· exact k94_); (try kernel_rfl); try exact y5_) | fail)
    refine At.next 11 ?_ ?_ ?_ rfl ?_ ?_ rfl
    ·refine ⟨⟨by omega, fun j h1 => ?_⟩, by omega⟩; by_cases e : j = 10; (subst e; exact ho); exact hop j (by omega)
    ·exact k5_
    ·exact k6_
    ·exact y8_
    ·exact y8_
  ·have h11 : ∀ j : Nat, j < 11 → x.op ≠ (j : Int) + 1 := hop
   have hw : 32 < x.op := by
    have q0 := h11 0 (by omega)
    have q1 := h11 1 (by omega)
    have q2 := h11 2 (by omega)
    have q3 := h11 3 (by omega)
    have q4 := h11 4 (by omega)
    have q5 := h11 5 (by omega)
    have q6 := h11 6 (by omega)
    have q7 := h11 7 (by omega)
    have q8 := h11 8 (by omega)
    have q9 := h11 9 (by omega)
    have q10 := h11 10 (by omega)
    omega
   repeat' (first | refine Ctl.h ?_ | ((with_reducible intro hif); first | (focus (cases hif; done)) | ((try simp only [JH] at hif); try (exfalso; omega))) | ((with_reducible first | apply J22 xr_ za_ | apply J23 fol xr_ za_ | apply J24); (·rfl); (· exact k93_); (try kernel_rfl); try exact y5_) | fail)
   apply At.endsPick [0, 1, 2, 3, 3] za_ (fn := Tryz.f157) (rs := [.tmp 2]) Anc.refl hro (lb_ rfl) rfl
   ·exact yq_
   ·exact k12_
   ·rfl
   ·rfl
   ·rfl
   ·exact k92_
   ·rfl
   ·exact y8_
   ·exact zx_
   ·exact fun β => rfl
   ·exact y8_
 ·cases hF
end Go.Proofs.YtjliakjbdcplcaaGreat.Vm
end
section
namespace Go.Proofs.YtjliakjbdcplcaaGreat.Vm
open Go.RowKit
def Bun1 (ρ : Nat → Nat) (c : HB) : HB → Prop
 | .own t u ex => Less c (.own t (u.ren ρ) ex)
 | .raw _ => False
 | b => Fit ρ b c
def BunL (ρ : Nat → Nat) (h : HM) : List HB → List Nat → Prop
 | [], _ => True
 | b :: L, n => match n with
  | j :: n => Bun1 ρ (h j) b ∧ BunL ρ h L n
  | [] => False
theorem bunL_get {ρ : Nat → Nat} {h : HM} : ∀ {L : List HB} {l : List Nat}, BunL ρ h L l → ∀ i, i < L.length → Bun1 ρ (h (l.getD i 0)) (hp L i)
 | [], l, _, i, hi => by simp at hi
 | b :: L, [], hf, _, _ => by exact hf.elim
 | b :: L, j :: l, hf, 0, _ => hf.1
 | b :: L, j :: l, hf, i + 1, hi => by
  have := bunL_get hf.2 i (by simpa using hi)
  unfold hp at this ⊢
  simpa using this
theorem fitL_of {ρ : Nat → Nat} {h : HM} : ∀ {L : List HB} {l : List Nat}, l.length = L.length → (∀ i, i < L.length → Fit ρ (hp L i) (h (l.getD i 0))) → FitL ρ h L l
 | [], l, _, _ => trivial
 | b :: L, [], hl, _ => by simp at hl
 | b :: L, j :: l, hl, hf => by
  refine ⟨?_, fitL_of (by simpa using hl) fun i hi => ?_⟩
  ·have := hf 0 (by simp)
   rwa [hp_zero] at this
  ·have := hf (i + 1) (by simpa using hi)
   rw [hp_cons] at this
   simpa using this
def z8_ : List Nat → Bool
 | [] => true
 | j :: l => !memN j l && z8_ l
theorem nodupN_spec : ∀ {l : List Nat}, z8_ l = true → ∀ i j, i < j → j < l.length → l.getD i 0 ≠ l.getD j 0
 | [], _, i, j, _, hj => by simp at hj
 | k :: l, h, i, j, hij, hj => by
  simp only [z8_, Bool.and_eq_true, Bool.not_eq_true'] at h
  obtain ⟨j, rfl⟩ : ∃ j', j = j' + 1 := ⟨j - 1, by omega⟩
  rw [List.getD_cons_succ]
  have hj' : j < l.length := by simpa using hj
  cases i with
  | zero =>
   rw [List.getD_cons_zero]
   intro e
   have : k ∈ l := by
    rw [e, List.getD_eq_getElem?_getD, List.getElem?_eq_getElem hj']
    exact List.getElem_mem hj'
   rw [memN_iff.2 this] at h
   cases h.1
  | succ i =>
   rw [List.getD_cons_succ]
   exact nodupN_spec h.2 i j (by omega) hj'
theorem nodupN_ne {l : List Nat} (h : z8_ l = true) {i j : Nat} (hi : i < l.length) (hj : j < l.length) (hne : i ≠ j) : l.getD i 0 ≠ l.getD j 0 := by
 rcases Nat.lt_or_gt_of_ne hne with h' | h'
 ·exact nodupN_spec h i j h' hj
 ·exact (nodupN_spec h j i h' hi).symm
theorem less_is_born {b c : HB} (h : Less b c) (hc : c.born = true) : b.born = true := by
 cases h with
 | same => exact hc
 | dead => cases hc
 | gone h => exact h
 | arr => rfl
 | loose => rfl
 | val => rfl
theorem bun1_born {ρ : Nat → Nat} {c b : HB} (h : Bun1 ρ c b) : c.born = true := by
 cases b with
 | own t u ex => exact less_is_born h rfl
 | ro u => exact Fit.born (ρ := ρ) (b := .ro u) h
 | gone => exact Fit.born (ρ := ρ) (b := .gone) h
 | raw o => exact h.elim
 | dead => exact Fit.born (ρ := ρ) (b := .dead) h
theorem bun_ok {f : FuncId} {args0 args : List SV} {L0 L1 : List HB} {v val : SV} {w0 w : World} {M : Nat → Prop} {β : Env} {h h' : HM} {m : Nat} {wr : List (Nat × HB)} (l : List Nat) (H : zp_ Tryz.prog f args0 L0 v L1) (R : Rep w0 M β h' w)
  (hlen : l.length = L0.length) (hpos : 0 < L0.length) (h00 : l.getD 0 0 = 0) (hz : hp L0 0 = .gone) (hnd : z8_ l = true) (hB : BunL (xw_ l m) h' L0 l)
  (hm : ∀ i, m ≤ i → h i = .dead) (hwr : ∀ p ∈ newB (xw_ l m) m (L1.drop L0.length), h' p.1 = h p.1) (hle : L0.length ≤ L1.length) (hno : noRo2 L0 L1 = true)
  (hst0 : xe_ (hp L0) L0) (hsta : zd_ (hp L0) args0) (hst1 : xe_ (hp (mrgL L0 L1)) (mrgL L0 L1)) (hv : Stable (hp (mrgL L0 L1)) v)
  (hargs : renL (xw_ l m) args0 = args) (hval : v.ren (xw_ l m) = val) (hw : oldB (xw_ l m) L0 L1 l ++ newB (xw_ l m) m (L1.drop L0.length) = wr) :
  Calls Tryz.prog f (denL β args).toArray w fun e w' => ∃ β', (∀ i, (h' i).born = true → β i = β' i) ∧ Rep w0 M β' (wrs h' wr) w' ∧ Stable (wrs h' wr) val ∧ e = .returned (val.den β') := by
 have hne : ∀ i j, i < L0.length → j < L0.length → i ≠ j → l.getD i 0 ≠ l.getD j 0 := fun i j hi hj hn => nodupN_ne hnd (by omega) (by omega) hn
 have hbun := bunL_get hB
 obtain ⟨H1, hH1⟩ : ∃ H1, H1 = wrs h' (oldB (xw_ l m) L0 L0 l) := ⟨_, rfl⟩
 have him : ∀ i, i < L0.length → (hp L0 i).mine = true → H1 (l.getD i 0) = (hp L0 i).ren (xw_ l m) := fun i hi hmi => by
  rw [hH1]
  exact wrs_oldB (Nat.le_refl _) hlen (fun a b hab hb _ _ => hne a b (by omega) hb (by omega)) i hi hmi
 have hneq : ∀ j, (∀ i, i < L0.length → (hp L0 i).mine = true → l.getD i 0 ≠ j) → H1 j = h' j := fun j hj => by
  rw [hH1]; exact wrs_oldB_ne hj
 have hrl : ∀ i, i < L0.length → xw_ l m i = l.getD i 0 := fun i hi => if_pos (by omega)
 have less1 : ∀ i, Less (h' i) (H1 i) := fun j => by
  by_cases hc : ∃ i, i < L0.length ∧ (hp L0 i).mine = true ∧ l.getD i 0 = j
  ·obtain ⟨i, hi, hmi, rfl⟩ := hc
   rw [him i hi hmi]
   have := hbun i hi
   cases hh : hp L0 i <;> rw [hh] at hmi this <;> first | (cases hmi; done) | exact this.elim | exact this
  ·rw [hneq j fun i hi hmi e => hc ⟨i, hi, hmi, e⟩]; exact .same _
 have born1 : ∀ i, (h' i).born = true → (H1 i).born = true := fun j hj => by
  by_cases hc : ∃ i, i < L0.length ∧ (hp L0 i).mine = true ∧ l.getD i 0 = j
  ·obtain ⟨i, hi, hmi, rfl⟩ := hc
   rw [him i hi hmi]
   cases hh : hp L0 i <;> rw [hh] at hmi <;> first | (cases hmi; done) | rfl
  ·rw [hneq j fun i hi hmi e => hc ⟨i, hi, hmi, e⟩]; exact hj
 have bornL : ∀ i, (hp L0 i).born = true → (H1 (xw_ l m i)).born = true := fun i hi => by
  have hlt : i < L0.length := by
   rcases Nat.lt_or_ge i L0.length with h' | h'
   ·exact h'
   ·rw [xc_ h'] at hi; cases hi
  rw [hrl i hlt]
  exact born1 _ (bun1_born (hbun i hlt))
 have H0 : H1 0 = .gone := by
  rw [hneq 0 fun i hi hmi e => ?_]
  ·exact R.nil0
  ·have : i = 0 := by
    by_cases hi0 : i = 0
    ·exact hi0
    ·exact absurd (e.trans h00.symm) (hne i 0 hi hpos hi0)
   subst this
   rw [hz] at hmi; cases hmi
 have R1 : Rep w0 M β H1 w := R.less less1 H0 fun j => by
  by_cases hc : ∃ i, i < L0.length ∧ (hp L0 i).mine = true ∧ l.getD i 0 = j
  ·obtain ⟨i, hi, hmi, rfl⟩ := hc
   rw [him i hi hmi]
   have hs := xx_ hst0 i
   have hb := hbun i hi
   cases hh : hp L0 i <;> rw [hh] at hmi hs hb <;> first | (cases hmi; done) | exact Stable.ren bornL hs | exact hb.elim
  ·rw [hneq j fun i hi hmi e => hc ⟨i, hi, hmi, e⟩]
   exact HB.stable_more (R.st j) born1
 have hfit : FitL (xw_ l m) H1 L0 l := fitL_of hlen fun i hi => by
  cases hh : hp L0 i with
  | own t u ex =>
   rw [him i hi (by rw [hh]; rfl), hh]
   exact .own
  | raw o => exact (by have hb := hbun i hi; rw [hh] at hb; exact hb.elim)
  | _ =>
   have hb := hbun i hi
   rw [hneq (l.getD i 0) fun k hk hmk e => by
    by_cases hki : k = i
    ·subst hki; rw [hh] at hmk; cases hmk
    ·exact hne k i hk hi hki e]
   rw [hh] at hb
   exact hb
 have hnew : ∀ p ∈ newB (xw_ l m) m (L1.drop L0.length), H1 p.1 = h p.1 := fun p hp => by
  have hge : m ≤ p.1 := by
   have : ∀ (L : List HB) (k : Nat), m ≤ k → p ∈ newB (xw_ l m) k L → m ≤ p.1 := by
    intro L
    induction L with
    | nil => intro k hk hp; cases hp
    | cons b L ih =>
     intro k hk hp
     cases hp with
     | head => exact hk
     | tail _ hp => exact ih (k + 1) (by omega) hp
   exact this _ m (Nat.le_refl _) hp
  rw [hneq p.1 fun i hi hmi e => ?_]
  ·exact hwr p hp
  ·have hb := bun1_born (hbun i hi)
   rw [e, hwr p hp, hm _ hge] at hb
   cases hb
 have C := callRW (h := h) (m := m) l H R1 hlen hpos h00 hz hfit (fun i j hi hj hn _ _ => hne i j hi hj hn) hm hnew hle hno hst0 hsta hst1 hv
 rw [hargs, hval, hw] at C
 have hww : wrs H1 wr = wrs h' wr := by
  rw [← hw, wrs_app, wrs_app]
  congr 1
  funext j
  by_cases hc : ∃ i, i < L0.length ∧ (hp L0 i).mine = true ∧ l.getD i 0 = j
  ·obtain ⟨i, hi, hmi, rfl⟩ := hc
   rw [wrs_oldB hle hlen (fun a b hab hb _ _ => hne a b (by omega) hb (by omega)) i hi hmi, wrs_oldB hle hlen (fun a b hab hb _ _ => hne a b (by omega) hb (by omega)) i hi hmi]
  ·rw [wrs_oldB_ne fun i hi hmi e => hc ⟨i, hi, hmi, e⟩, wrs_oldB_ne fun i hi hmi e => hc ⟨i, hi, hmi, e⟩]
   exact hneq j fun i hi hmi e => hc ⟨i, hi, hmi, e⟩
 rw [hww] at C
 exact C.mono fun e w' ⟨β', g1, g2, g3, g4⟩ => ⟨β', fun i hi => g1 i (born1 i hi), g2, g3, g4⟩
end Go.Proofs.YtjliakjbdcplcaaGreat.Vm
end
