import Derived.Test.YtmljmabbopkpiaaU1
import Derived.Test.YtmljmabbopkpiaaU8
import Derived.Test.YtmljmabbopkpiaaProg
section
namespace Go.Proofs.Ytmljmabbopkpiaa.Vm
theorem d1_ {P : Prop} (h : P := by
 have HW := Lib.hid hw
 clear hw
 go_enter Try.func29, Try.ntmps29
 go_wp2_with fail
 refine (HW.out _).mono ?_
 rintro e w' ⟨rfl, hb⟩
 go_wp2_with (first
  | (go_at_call 74; refine (truth_c _ _).mono ?_; rintro e w' ⟨rfl, rfl⟩)
  | (go_at_call 73; refine (mod_c _ _ _ (by assumption)).mono ?_; rintro e w' ⟨rfl, rfl⟩))
 all_goals (go_ret2; refine ⟨?_, hb⟩)
 all_goals first | rfl | (show Ending.returned (.tuple #[.int .i64 _, _]) = .returned (.tuple #[.int .i64 _, _]); congr 4; simp [zn_]; done) | (show Ending.returned (.tuple #[.int .i64 _, _]) = .returned (.tuple #[.int .i64 _, _]); congr 4; simp [zn_]; omega)) : P := h
theorem d2_ {P : Prop} (h : P := by
 have HW := Lib.hid hw
 clear hw
 have hs := shB_bd b
 have hs0 : 0 ≤ bits BinOp.and IntKind.u64 (IntKind.u64.wrap b) 63 := hs.1
 have hs1 : bits BinOp.and IntKind.u64 (IntKind.u64.wrap b) 63 ≤ 64 := Int.le_trans hs.2 (by decide)
 clear hs
 go_enter Try.func29, Try.ntmps29
 go_wp2_with fail
 refine (HW.out _).mono ?_
 rintro e w' ⟨rfl, hb⟩
 go_wp2_with (first
  | (go_at_call 74; refine (truth_c _ _).mono ?_; rintro e w' ⟨rfl, rfl⟩)
  | (go_at_call 73; refine (mod_c _ _ _ (by assumption)).mono ?_; rintro e w' ⟨rfl, rfl⟩))
 all_goals (go_ret2; refine ⟨?_, hb⟩)
 all_goals first | rfl | (show Ending.returned (.tuple #[.int .i64 _, _]) = .returned (.tuple #[.int .i64 _, _]); congr 4; simp [zn_]; done) | (show Ending.returned (.tuple #[.int .i64 _, _]) = .returned (.tuple #[.int .i64 _, _]); congr 4; simp [zn_]; omega)) : P := h
end Go.Proofs.Ytmljmabbopkpiaa.Vm
end
set_option linter.unusedSimpArgs false
set_option linter.unusedVariables false
set_option maxRecDepth 100000
section
namespace Go.Proofs.Ytmljmabbopkpiaa.Vm
open Go.RowKit
def rhoL (l : List Nat) (m : Nat) : Nat → Nat := fun i => if i < l.length then l.getD i 0 else m + (i - l.length)
def noMine : List HB → Bool
 | [] => true
 | b :: l => !b.mine && noMine l
theorem noMine_spec : ∀ {L : List HB}, noMine L = true → ∀ i, (hp L i).mine = false
 | [], _, i => by unfold hp; simp [HB.mine]
 | b :: l, h, 0 => by
  simp only [noMine, Bool.and_eq_true, Bool.not_eq_true'] at h
  exact h.1
 | b :: l, h, i + 1 => by
  simp only [noMine, Bool.and_eq_true] at h
  have := noMine_spec h.2 i
  unfold hp at this ⊢
  simpa using this
def FitL (ρ : Nat → Nat) (h : HM) : List HB → List Nat → Prop
 | [], _ => True
 | b :: l, n => match n with
  | j :: n => Fit ρ b (h j) ∧ FitL ρ h l n
  | [] => False
theorem fitL_get {ρ : Nat → Nat} {h : HM} : ∀ {L : List HB} {l : List Nat}, FitL ρ h L l → ∀ i, i < L.length → Fit ρ (hp L i) (h (l.getD i 0))
 | [], l, _, i, hi => by simp at hi
 | b :: L, [], hf, _, _ => by exact hf.elim
 | b :: L, j :: l, hf, 0, _ => hf.1
 | b :: L, j :: l, hf, i + 1, hi => by
  have := fitL_get hf.2 i (by simpa using hi)
  unfold hp at this ⊢
  simpa using this
def hG (n0 : Nat) (L0 L1 : List HB) : HM := fun i => if i < n0 then hp L0 i else hp L1 i
theorem laid_ro {L0 L1 : List HB} {h : HM} {l : List Nat} {m : Nat} {v : SV} (hlen : l.length = L0.length) (hpos : 0 < L0.length) (h00 : l.getD 0 0 = 0) (hz : hp L0 0 = .gone) (hno : noMine L0 = true) (hfit : FitL (rhoL l m) h L0 l) (hm : ∀ i, m ≤ i → i < m + (L1.length - L0.length) → h i = .dead) (hle : L0.length ≤ L1.length)
  (hst0 : yb_ (hp L0) L0) (hstb : ∀ j, (h j).stable h) (hnew : NewL (hG L0.length L0 L1) (L1.drop L0.length)) (hv : zb_ (hG L0.length L0 L1) v) :
  Laid L0 L1 h (wrs h (newB (rhoL l m) m (L1.drop L0.length))) (rhoL l m) m v := by
 obtain ⟨k, hk⟩ : ∃ k, k = L1.length - L0.length := ⟨_, rfl⟩
 have hdl : (L1.drop L0.length).length = k := by rw [List.length_drop, hk]
 have hrl : ∀ i, i < L0.length → rhoL l m i = l.getD i 0 := fun i hi => if_pos (by omega)
 have hrn : ∀ i, L0.length ≤ i → rhoL l m i = m + (i - L0.length) := fun i hi => by
  unfold rhoL; rw [if_neg (by omega), hlen]
 have hmin := noMine_spec hno
 have hget : ∀ j, m ≤ j → (L1.drop L0.length).getD (j - m) .dead = hp L1 (L0.length + (j - m)) := fun j hj => by
  unfold hp
  rw [List.getD_eq_getElem?_getD, List.getD_eq_getElem?_getD, List.getElem?_drop]
 have hnewj : ∀ j, m ≤ j → j < m + k → wrs h (newB (rhoL l m) m (L1.drop L0.length)) j = (hp L1 (L0.length + (j - m))).ren (rhoL l m) := fun j h1 h3 => by
  rw [wrs_newB, if_pos ⟨h1, by omega⟩, hget j h1]
 have holdj : ∀ j, ¬ (m ≤ j ∧ j < m + k) → wrs h (newB (rhoL l m) m (L1.drop L0.length)) j = h j := fun j hj => by
  rw [wrs_newB, if_neg (by rw [hdl]; exact hj)]
 have bornold : ∀ j, (h j).born = true → ¬ (m ≤ j ∧ j < m + k) := fun j hj hc => by
  rw [hm j hc.1 (by omega)] at hj; cases hj
 have more : ∀ i, (h i).born = true → (wrs h (newB (rhoL l m) m (L1.drop L0.length)) i).born = true := fun i hi => by rw [holdj i (bornold i hi)]; exact hi
 have hfit' : ∀ i, i < L0.length → Fit (rhoL l m) (hp L0 i) (h (rhoL l m i)) := fun i hi => by rw [hrl i hi]; exact fitL_get hfit i hi
 have moreG : ∀ i, (hG L0.length L0 L1 i).born = true → (wrs h (newB (rhoL l m) m (L1.drop L0.length)) (rhoL l m i)).born = true := fun i hi => by
  unfold hG at hi
  split at hi
  ·rename_i hlt
   exact more _ (hfit' i hlt).born
  ·rename_i hge
   have hlt : i < L1.length := by
    rcases Nat.lt_or_ge i L1.length with h' | h'
    ·exact h'
    ·rw [yh_ h'] at hi; cases hi
   rw [hrn i (by omega), hnewj _ (by omega) (by omega), show L0.length + (m + (i - L0.length) - m) = i by omega]
   cases hh : hp L1 i <;> rw [hh] at hi <;> first | rfl | (cases hi; done)
 have hnewS := newL_spec hnew
 refine { z := by rw [hrl 0 hpos, h00], z0 := hz, new := fun i hi => hrn i hi, pre := hfit', inj := fun i j hi hj hne hmi => absurd hmi (by rw [hmin i]; exact Bool.false_ne_true), img := fun i hi hmi => absurd hmi (by rw [hmin i]; exact Bool.false_ne_true), old := fun j hj _ => holdj j (bornold j hj), fresh := fun j hj => ?_, un := fun i hi hb => ?_, st0 := yo_ hst0, st2 := fun j => ?_, stv := hv.ren moreG }
 ·by_cases hc : m ≤ j ∧ j < m + k
  ·exact .inr ⟨hc.1, hnewj j hc.1 hc.2, (hnewS _ (by omega)).2⟩
  ·left
   rw [holdj j hc]
   cases hh : h j <;> rw [hh] at hj <;> first | rfl | (cases hj; done)
 ·exact d14_
 ·by_cases hc : m ≤ j ∧ j < m + k
  ·rw [hnewj j hc.1 hc.2]
   have hs := (hnewS (L0.length + (j - m)) (by omega)).1
   cases hh : hp L1 (L0.length + (j - m)) with
   | own t u ex => rw [hh] at hs; exact zb_.ren moreG hs
   | ro u => rw [hh] at hs; exact zb_.ren moreG hs
   | raw o => trivial
   | gone => trivial
   | dead => trivial
  ·rw [holdj j hc]
   have : (h j).stable h := hstb j
   exact HB.stable_more this more
theorem callG {P : Program} {f : FuncId} {args : List SV} {L0 L1 : List HB} {v : SV} {w0 w : World} {M : Nat → Prop} {β : Env} {h h' : HM} {m : Nat} (l : List Nat) (H : LitOk P f args L0 v L1) (R : Rep w0 M β h' w) (hlen : l.length = L0.length) (hpos : 0 < L0.length) (h00 : l.getD 0 0 = 0) (hz : hp L0 0 = .gone) (hno : noMine L0 = true) (hfit : FitL (rhoL l m) h' L0 l)
  (hm : ∀ i, m ≤ i → h i = .dead) (hwr : ∀ p ∈ newB (rhoL l m) m (L1.drop L0.length), h' p.1 = h p.1) (hle : L0.length ≤ L1.length)
  (hst0 : yb_ (hp L0) L0) (hsta : zc_ (hp L0) args) (hnew : NewL (hG L0.length L0 L1) (L1.drop L0.length)) (hv : zb_ (hG L0.length L0 L1) v) :
  Calls P f (denL β (renL (rhoL l m) args)).toArray w fun e w' => ∃ β', (∀ i, (h' i).born = true → β i = β' i) ∧ Rep w0 M β' (wrs h' (newB (rhoL l m) m (L1.drop L0.length))) w' ∧ zb_ (wrs h' (newB (rhoL l m) m (L1.drop L0.length))) (v.ren (rhoL l m)) ∧ e = .returned ((v.ren (rhoL l m)).den β') :=
 call_lit H R (laid_ro hlen hpos h00 hz hno hfit (fun i hi hlt => by
  obtain ⟨b, hb⟩ := newB_mem (ρ := rhoL l m) (l := L1.drop L0.length) hi (by rw [List.length_drop]; exact hlt)
  exact (hwr _ hb).trans (hm i hi)) hle hst0 R.st hnew hv) hsta
def sg (l : List Nat) : Nat → Nat := fun i => l.getD i 0
def PickL (σ : Nat → Nat) (h : HM) : List HB → List Nat → Prop
 | [], _ => True
 | b :: l, n => match n with
  | j :: n => (b = .gone ∨ Less (h j) (b.ren σ)) ∧ PickL σ h l n
  | [] => False
theorem pickL_get {σ : Nat → Nat} {h : HM} : ∀ {L : List HB} {l : List Nat}, PickL σ h L l → ∀ i, i < L.length → hp L i = .gone ∨ Less (h (l.getD i 0)) ((hp L i).ren σ)
 | [], l, _, i, hi => by simp at hi
 | b :: L, [], hf, _, _ => by exact hf.elim
 | b :: L, j :: l, hf, 0, _ => hf.1
 | b :: L, j :: l, hf, i + 1, hi => by
  have := pickL_get hf.2 i (by simpa using hi)
  unfold hp at this ⊢
  simpa using this
def injL : List HB → List Nat → List Nat → Bool
 | [], _, _ => true
 | b :: L, l, seen => match l with
  | j :: l => bif b.mine then !memN j seen && injL L l (j :: seen) else injL L l seen
  | [] => false
theorem injL_seen : ∀ {L : List HB} {l seen : List Nat}, injL L l seen = true → ∀ i, i < L.length → (hp L i).mine = true → l.getD i 0 ∉ seen
 | [], l, seen, _, i, hi, _ => by simp at hi
 | b :: L, [], seen, h, _, _, _ => by cases h
 | b :: L, j :: l, seen, h, i, hi, hm => by
  simp only [injL] at h
  cases i with
  | zero =>
   have hb : b.mine = true := hm
   rw [hb] at h
   simp only [cond_true, Bool.and_eq_true, Bool.not_eq_true'] at h
   intro hc
   have := memN_iff.2 hc
   simp only [List.getD_cons_zero] at this
   rw [h.1] at this
   cases this
  | succ i =>
   have hm' : (hp L i).mine = true := by unfold hp at hm ⊢; simpa using hm
   rw [List.getD_cons_succ]
   cases hb : b.mine with
   | false => rw [hb] at h; exact injL_seen h i (by simpa using hi) hm'
   | true =>
    rw [hb] at h
    simp only [cond_true, Bool.and_eq_true] at h
    exact fun hc => injL_seen h.2 i (by simpa using hi) hm' (.tail _ hc)
theorem injL_spec : ∀ {L : List HB} {l seen : List Nat}, injL L l seen = true → ∀ i j, i < j → j < L.length → (hp L i).mine = true → (hp L j).mine = true → l.getD i 0 ≠ l.getD j 0
 | [], l, seen, _, i, j, _, hj, _, _ => by simp at hj
 | b :: L, [], seen, h, _, _, _, _, _, _ => by cases h
 | b :: L, k :: l, seen, h, i, j, hij, hj, hi, hjm => by
  simp only [injL] at h
  obtain ⟨j, rfl⟩ : ∃ j', j = j' + 1 := ⟨j - 1, by omega⟩
  have hj' : j < L.length := by simpa using hj
  have hjm' : (hp L j).mine = true := by unfold hp at hjm ⊢; simpa using hjm
  rw [List.getD_cons_succ]
  cases i with
  | zero =>
   have hb : b.mine = true := hi
   rw [hb] at h
   simp only [cond_true, Bool.and_eq_true] at h
   rw [List.getD_cons_zero]
   exact fun e => injL_seen h.2 j hj' hjm' (by rw [← e]; exact .head _)
  | succ i =>
   have hi' : (hp L i).mine = true := by unfold hp at hi ⊢; simpa using hi
   rw [List.getD_cons_succ]
   cases hb : b.mine with
   | false => rw [hb] at h; exact injL_spec h i j (by omega) hj' hi' hjm'
   | true =>
    rw [hb] at h
    simp only [cond_true, Bool.and_eq_true] at h
    exact injL_spec h.2 i j (by omega) hj' hi' hjm'
theorem Rep.pick {w0 w : World} {M : Nat → Prop} {β : Env} {h : HM} {L : List HB} {l : List Nat} (R : Rep w0 M β h w) (h0 : l.getD 0 0 = 0) (hz : hp L 0 = .gone) (hp_ : PickL (sg l) h L l) (hi : injL L l [] = true) (hs : yb_ (hp L) L) : Rep w0 M (fun i => β (sg l i)) (hp L) w := by
 have get : ∀ i, (hp L i) = .dead ∨ hp L i = .gone ∨ (i < L.length ∧ Less (h (sg l i)) ((hp L i).ren (sg l))) := fun i => by
  rcases Nat.lt_or_ge i L.length with hlt | hge
  ·rcases pickL_get hp_ i hlt with e | e
   ·exact .inr (.inl e)
   ·exact .inr (.inr ⟨hlt, e⟩)
  ·exact .inl (yh_ hge)
 have mine : ∀ i, (hp L i).mine = true → i < L.length ∧ (h (sg l i)).mine = true := fun i hm => by
  rcases get i with e | e | ⟨hlt, e⟩
  ·rw [e] at hm; cases hm
  ·rw [e] at hm; cases hm
  ·refine ⟨hlt, less_mine e ?_⟩
   cases hh : hp L i <;> rw [hh] at hm <;> first | rfl | (cases hm; done)
 refine { os := R.os, tape := R.tape, output := R.output, size := R.size, frame := R.frame, nil := ?_, nil0 := hz, st := yo_ hs, blk := fun i => ?_, own := fun i a hm ha => R.own _ a (mine i hm).2 ha, ro := fun i v a hv ha hzz => ?_, dist := fun i j ai aj hne hmi hmj hai haj => ?_, lt := fun i a hm ha => R.lt _ a (mine i hm).2 ha }
 ·show β (l.getD 0 0) = _
  rw [h0]; exact R.nil
 ·rcases get i with e | e | ⟨hlt, e⟩
  ·rw [e]; trivial
  ·rw [e]; trivial
  ·have hB := R.blk (sg l i)
   exact holds_unren (β := fun i => β (sg l i)) (β' := β) (h := hp L) (ρ := sg l) (fun _ _ => rfl) (yo_ hs i) rfl (holds_less e hB)
 ·rcases get i with e | e | ⟨hlt, e⟩
  ·rw [e] at hv; cases hv
  ·rw [e] at hv; cases hv
  ·rw [hv] at e
   exact R.ro _ (v.ren (sg l)) a (less_ro e) ha (by rw [size_ren]; exact hzz)
 ·have h1 := mine i hmi
  have h2 := mine j hmj
  refine R.dist _ _ ai aj ?_ h1.2 h2.2 hai haj
  rcases Nat.lt_or_ge i j with hlt | hge
  ·exact injL_spec hi i j hlt h2.1 hmi hmj
  ·exact fun e => injL_spec hi j i (by omega) h1.1 hmj hmi e.symm
def idTo (n : Nat) (l : List Nat) : Bool := (List.range n).all fun i => Nat.beq (l.getD i 0) i
section
variable {P : Program} {T : Tab} {w0 w1 : World} {M M1 : Nat → Prop} {E : Env} {n0 N n : Nat} {D1 : List Deferred} {φ : Fr} {L L2 : List HB}
theorem At.endsPick (l : List Nat) (hT : TabOk P T) {fn : Func} {c : Prop} {vs : List SV} {v : SV} {rs : List ResultVar} {L0 : List HB} (A : Anc w0 M [] w1 M1 D1) (hro : RoOk w0 M E L0) (hL0 : L0.length ≤ n0) (hrs : fn.results.toList = rs) (hr : resV T φ (hp L) rs = some (c, vs)) (hc : c) (h00 : l.getD 0 0 = 0) (hz : hp L2 0 = .gone) (hid : idTo n0 l = true) (hpk : PickL (sg l) (hp L) L2 l) (hinj : injL L2 l [] = true) (hs : yb_ (hp L2) L2) (hsub : RoSub L L0) (hv : ∀ β, (resS vs).den β = (v.ren (sg l)).den β) (hst : zb_ (hp L2) v) :
  At w1 M1 E n0 N D1 φ L (EndsM n P fn w0 M E n0 v L2 .ret) := fun a w hS => by
 obtain ⟨⟨β, hE, R, F⟩, hbn, _, hd⟩ := hS
 subst hrs
 have R0 : Rep w0 M β (hp L) w := R.back A fun i u a hi ha hz => by
  obtain ⟨h1, h2⟩ := roSub_spec hsub i u hi
  exact hro i u a h1 (by rw [← hE i (Nat.lt_of_lt_of_le h2 hL0)]; exact ha) hz
 obtain ⟨rs, d1, n1, k1⟩ := A.marks
 simp only [EndsM, bodyPostM, hd, d1, List.append_nil]
 refine leaves_marks (β := β) (h := hp L) rs w R0 n1 (fun r hr => ?_) (fun w' R' => ?_)
 ·exact d13_
 ·obtain ⟨q1, q2⟩ := resV_ok ⟨hT, R', F⟩ hr hc
  refine ⟨_, q2, fun i => β (sg l i), fun i hi => ?_, R'.pick h00 hz hpk hinj hs, hst, ?_⟩
  ·exact d15_
  ·rw [hv]
   congr 1
   exact den_ren (h := hp L2) (fun _ _ => rfl) hst
end
theorem hp_append1 (L : List HB) (x : HB) : hp (L ++ [x]) = upd (hp L) L.length x := by
 funext i
 unfold hp upd
 by_cases h2 : i = L.length
 ·subst h2; simp
 ·rw [if_neg h2]
  rcases Nat.lt_or_ge i L.length with h | h
  ·simp [List.getElem?_append_left h]
  ·simp [List.getElem?_eq_none (show (L ++ [x]).length ≤ i by simp; omega), List.getElem?_eq_none h]
theorem At.nil {w0 : World} {M : Nat → Prop} {E : Env} {n0 N : Nat} {D : List Deferred} {φ : Fr} {L : List HB} {K : Act → World → Prop} (t : Tmp) (ty k : Nat) (f : Nat → SV) (hl : look φ t = some (.sl 0 0 [] 0 0 0 (some 0))) (hf : ∀ (h : HM) (q : Nat), zb_ h (f q))
  (h : At w0 M E n0 N D ((t, .sl L.length L.length [] k 0 0 none) :: φ) (L ++ [.own ty (.arr 0 k f) false]) K) : At w0 M E n0 N D φ L K := fun a w hS => by
 obtain ⟨⟨β, hE, R, F⟩, hbn, hsz, hd⟩ := hS
 have hm : hp L L.length = .dead := yh_ (Nat.le_refl _)
 have R1 := nothing R (e := ty) (k := k) (g := f) hm (fun q => hf _ q)
 have hag : ∀ i, (hp L i).born = true → β i = setE β L.length (none, 0) i := zu_ hm
 have hborn : ∀ i, (hp L i).born = true → (upd (hp L) L.length (.own ty (.arr 0 k f) false) i).born = true := fun i hi => by
  unfold Vm.upd; split
  ·rfl
  ·exact hi
 refine h a w ⟨⟨setE β L.length (none, 0), fun i hi => (hag i (hbn i hi)).symm.trans (hE i hi), by rw [hp_append1]; exact R1, fun u v hu => ?_⟩, fun i hi => by rw [hp_append1]; exact hborn i (hbn i hi), hsz, hd⟩
 rw [hp_append1]
 simp only [look] at hu
 cases hq : Nat.beq t u with
 | true =>
  rw [hq] at hu
  have := Nat.eq_of_beq_eq_true hq
  subst this
  injection hu with hu
  subst hu
  refine ⟨?_, ?_⟩
  ·simp only [zb_, zl_]; exact ⟨rfl, rfl⟩
  ·rw [(F t _ hl).2]
   simp [SV.den, zp_, R.nil]
 | false =>
  rw [hq] at hu
  obtain ⟨k1, k2⟩ := F u v hu
  exact ⟨k1.more hborn, by rw [k2]; exact k1.den hag⟩
end Go.Proofs.Ytmljmabbopkpiaa.Vm
end
section
namespace Go.Proofs.Ytmljmabbopkpiaa.Vm
open Go.RowKit
theorem insS_agg (i : Ins) : (insS i).isAgg = true := rfl
theorem insS_plain (i : Ins) : (insS i).plain = true := rfl
theorem nav_ins (i : Ins) : nav (insS i) [] = some (True, insS i) := rfl
theorem nav_ins0 (i : Ins) (pa : List Stp) : nav (insS i) (.f 0 0 :: pa) = nav (.int .u8 i.op) pa := rfl
theorem nav_ins1 (i : Ins) (pa : List Stp) : nav (insS i) (.f 1 1 :: pa) = nav (.int .u8 i.a) pa := rfl
theorem nav_ins2 (i : Ins) (pa : List Stp) : nav (insS i) (.f 2 2 :: pa) = nav (.int .u8 i.b) pa := rfl
theorem nav_ins3 (i : Ins) (pa : List Stp) : nav (insS i) (.f 3 3 :: pa) = nav (.int .u8 i.c) pa := rfl
theorem nav_ins4 (i : Ins) (pa : List Stp) : nav (insS i) (.f 4 4 :: pa) = nav (.int .i64 i.n) pa := rfl
theorem sndS_size (i : Snd) : (sndS i).size = 3 := rfl
theorem sndS_agg (i : Snd) : (sndS i).isAgg = true := rfl
theorem sndS_plain (i : Snd) : (sndS i).plain = true := rfl
theorem nav_snd (i : Snd) : nav (sndS i) [] = some (True, sndS i) := rfl
theorem nav_snd0 (i : Snd) (pa : List Stp) : nav (sndS i) (.f 0 0 :: pa) = nav (.int .i64 i.port) pa := rfl
theorem nav_snd1 (i : Snd) (pa : List Stp) : nav (sndS i) (.f 1 1 :: pa) = nav (.int .i64 i.delay) pa := rfl
theorem nav_snd2 (i : Snd) (pa : List Stp) : nav (sndS i) (.f 2 2 :: pa) = nav (.int .i64 i.value) pa := rfl
set_option linter.defProp false
def JK := And.intro @insS_size (And.intro @insS_agg (And.intro @insS_plain (And.intro @sndS_size (And.intro @sndS_agg @sndS_plain))))
end Go.Proofs.Ytmljmabbopkpiaa.Vm
end
section
namespace Go.Proofs.Ytmljmabbopkpiaa
open Go.RowKit
def yn_ (op b : Int) : Int := if op < 1 ∨ 17 < op then 130 else if b = 0 ∧ 4 ≤ op ∧ op ≤ 6 then 131 else 0
def allL : List Value := [.string ⟨#[]⟩, .bool false, .string ⟨#[97, 100, 100]⟩, .bool false, .string ⟨#[115, 117, 98]⟩, .bool false, .string ⟨#[109, 117, 108]⟩, .bool false,
 .string ⟨#[100, 105, 118]⟩, .bool true, .string ⟨#[114, 101, 109]⟩, .bool true, .string ⟨#[109, 111, 100]⟩, .bool true, .string ⟨#[97, 110, 100]⟩, .bool false, .string ⟨#[111, 114]⟩, .bool false,
 .string ⟨#[120, 111, 114]⟩, .bool false, .string ⟨#[115, 104, 108]⟩, .bool false, .string ⟨#[115, 104, 114]⟩, .bool false, .string ⟨#[115, 97, 114]⟩, .bool false, .string ⟨#[108, 101, 115, 115]⟩, .bool false,
 .string ⟨#[98, 101, 108, 111, 119]⟩, .bool false, .string ⟨#[101, 113, 117, 97, 108]⟩, .bool false, .string ⟨#[109, 105, 110]⟩, .bool false, .string ⟨#[109, 97, 120]⟩, .bool false]
theorem truth_t (w : World) : Calls Try.prog 74 #[.bool true] w fun e w' => e = .returned (.int .i64 1) ∧ w = w' := by
 go_enter Try.func74, Try.ntmps74
 go_wp2
 go_ret
 exact ⟨rfl, rfl⟩
theorem truth_f (w : World) : Calls Try.prog 74 #[.bool false] w fun e w' => e = .returned (.int .i64 0) ∧ w = w' := by
 go_enter Try.func74, Try.ntmps74
 go_wp2
 go_ret
 exact ⟨rfl, rfl⟩
def truthI (b : Bool) : Int := if b then 1 else 0
theorem truth_c (b : Bool) (w : World) : Calls Try.prog 74 #[.bool b] w fun e w' => e = .returned (.int .i64 (truthI b)) ∧ w = w' := by
 cases b
 ·exact truth_f w
 ·exact truth_t w
def modI (a b : Int) : Int := if 0 ≤ a.tmod b then a.tmod b else if b < 0 then wrap64 (a.tmod b - b) else wrap64 (a.tmod b + b)
theorem mod_c (a b : Int) (w : World) (hb : b ≠ 0) : Calls Try.prog 73 #[.int .i64 a, .int .i64 b] w fun e w' => e = .returned (.int .i64 (modI a b)) ∧ w = w' := by
 go_enter Try.func73, Try.ntmps73
 go_wp2
 all_goals go_ret
 all_goals refine ⟨ret_i64 ?_, rfl⟩
 ·rw [modI, if_pos (by assumption)]
 ·rw [modI, if_neg (by omega), if_pos (by assumption)]
 ·rw [modI, if_neg (by omega), if_neg (by omega)]
set_option maxRecDepth 100000 in
set_option maxHeartbeats 4000000 in
theorem all_c (w : World) : Calls Try.prog 108 #[] w fun e w' => e = .returned (.agg allL.toArray) ∧ Below w.heap.size w w' := by
 go_enter Try.func108, Try.ntmps108
 go_wp2_with (refine wpList_store_row rfl 205 (.tmp 0) (.tmp 19) rfl w.heap.size allL.toArray rfl rfl 205 _ (heap_alloc_new w _) (by kernel_rfl) rfl (by kernel_rfl) ?_)
 exact bodyPost_ret (v := .agg allL.toArray) (results_cell_row (P := Try.prog) (p := 0) (ty := 205) rfl _ _ w.heap.size 205 allL.toArray (0, 0) _ rfl (setRow_heap _ _ _ _ _ _ (heap_alloc_new w _)) Try.underlying205 rfl (by kernel_rfl)) rfl
  ⟨rfl, below_setRow ((Below.refl _ _).alloc (Nat.le_refl _) _) (Nat.le_refl _) _⟩
def nmB : Value → ByteArray
 | .string s => s
 | _ => ⟨#[]⟩
def nm (op : Int) : ByteArray := nmB (allL.getD (2 * op).toNat undef)
theorem allIx1 (w : World) : (Instr.index 205 (.agg allL.toArray) (.int .u8 1)).run Try.prog w = .ok (.agg #[.string (nm 1), .bool (decide ((4:Int) ≤ 1 ∧ (1:Int) ≤ 6))]) w := by kernel_rfl
theorem allIx2 (w : World) : (Instr.index 205 (.agg allL.toArray) (.int .u8 2)).run Try.prog w = .ok (.agg #[.string (nm 2), .bool (decide ((4:Int) ≤ 2 ∧ (2:Int) ≤ 6))]) w := by kernel_rfl
theorem allIx3 (w : World) : (Instr.index 205 (.agg allL.toArray) (.int .u8 3)).run Try.prog w = .ok (.agg #[.string (nm 3), .bool (decide ((4:Int) ≤ 3 ∧ (3:Int) ≤ 6))]) w := by kernel_rfl
theorem allIx4 (w : World) : (Instr.index 205 (.agg allL.toArray) (.int .u8 4)).run Try.prog w = .ok (.agg #[.string (nm 4), .bool (decide ((4:Int) ≤ 4 ∧ (4:Int) ≤ 6))]) w := by kernel_rfl
theorem allIx5 (w : World) : (Instr.index 205 (.agg allL.toArray) (.int .u8 5)).run Try.prog w = .ok (.agg #[.string (nm 5), .bool (decide ((4:Int) ≤ 5 ∧ (5:Int) ≤ 6))]) w := by kernel_rfl
theorem allIx6 (w : World) : (Instr.index 205 (.agg allL.toArray) (.int .u8 6)).run Try.prog w = .ok (.agg #[.string (nm 6), .bool (decide ((4:Int) ≤ 6 ∧ (6:Int) ≤ 6))]) w := by kernel_rfl
theorem allIx7 (w : World) : (Instr.index 205 (.agg allL.toArray) (.int .u8 7)).run Try.prog w = .ok (.agg #[.string (nm 7), .bool (decide ((4:Int) ≤ 7 ∧ (7:Int) ≤ 6))]) w := by kernel_rfl
theorem allIx8 (w : World) : (Instr.index 205 (.agg allL.toArray) (.int .u8 8)).run Try.prog w = .ok (.agg #[.string (nm 8), .bool (decide ((4:Int) ≤ 8 ∧ (8:Int) ≤ 6))]) w := by kernel_rfl
theorem allIx9 (w : World) : (Instr.index 205 (.agg allL.toArray) (.int .u8 9)).run Try.prog w = .ok (.agg #[.string (nm 9), .bool (decide ((4:Int) ≤ 9 ∧ (9:Int) ≤ 6))]) w := by kernel_rfl
theorem allIx10 (w : World) : (Instr.index 205 (.agg allL.toArray) (.int .u8 10)).run Try.prog w = .ok (.agg #[.string (nm 10), .bool (decide ((4:Int) ≤ 10 ∧ (10:Int) ≤ 6))]) w := by kernel_rfl
theorem allIx11 (w : World) : (Instr.index 205 (.agg allL.toArray) (.int .u8 11)).run Try.prog w = .ok (.agg #[.string (nm 11), .bool (decide ((4:Int) ≤ 11 ∧ (11:Int) ≤ 6))]) w := by kernel_rfl
theorem allIx12 (w : World) : (Instr.index 205 (.agg allL.toArray) (.int .u8 12)).run Try.prog w = .ok (.agg #[.string (nm 12), .bool (decide ((4:Int) ≤ 12 ∧ (12:Int) ≤ 6))]) w := by kernel_rfl
theorem allIx13 (w : World) : (Instr.index 205 (.agg allL.toArray) (.int .u8 13)).run Try.prog w = .ok (.agg #[.string (nm 13), .bool (decide ((4:Int) ≤ 13 ∧ (13:Int) ≤ 6))]) w := by kernel_rfl
theorem allIx14 (w : World) : (Instr.index 205 (.agg allL.toArray) (.int .u8 14)).run Try.prog w = .ok (.agg #[.string (nm 14), .bool (decide ((4:Int) ≤ 14 ∧ (14:Int) ≤ 6))]) w := by kernel_rfl
theorem allIx15 (w : World) : (Instr.index 205 (.agg allL.toArray) (.int .u8 15)).run Try.prog w = .ok (.agg #[.string (nm 15), .bool (decide ((4:Int) ≤ 15 ∧ (15:Int) ≤ 6))]) w := by kernel_rfl
theorem allIx16 (w : World) : (Instr.index 205 (.agg allL.toArray) (.int .u8 16)).run Try.prog w = .ok (.agg #[.string (nm 16), .bool (decide ((4:Int) ≤ 16 ∧ (16:Int) ≤ 6))]) w := by kernel_rfl
theorem allIx17 (w : World) : (Instr.index 205 (.agg allL.toArray) (.int .u8 17)).run Try.prog w = .ok (.agg #[.string (nm 17), .bool (decide ((4:Int) ≤ 17 ∧ (17:Int) ≤ 6))]) w := by kernel_rfl
theorem allIxAt (op : Int) (h1 : 1 ≤ op) (h2 : op ≤ 17) (w : World) : (Instr.index 205 (.agg allL.toArray) (.int .u8 op)).run Try.prog w = .ok (.agg #[.string (nm op), .bool (decide (4 ≤ op ∧ op ≤ 6))]) w := by
 have h : op = 1 ∨ op = 2 ∨ op = 3 ∨ op = 4 ∨ op = 5 ∨ op = 6 ∨ op = 7 ∨ op = 8 ∨ op = 9 ∨ op = 10 ∨ op = 11 ∨ op = 12 ∨ op = 13 ∨ op = 14 ∨ op = 15 ∨ op = 16 ∨ op = 17 := by omega
 rcases h with h | h | h | h | h | h | h | h | h | h | h | h | h | h | h | h | h <;> subst h
 ·exact allIx1 w
 ·exact allIx2 w
 ·exact allIx3 w
 ·exact allIx4 w
 ·exact allIx5 w
 ·exact allIx6 w
 ·exact allIx7 w
 ·exact allIx8 w
 ·exact allIx9 w
 ·exact allIx10 w
 ·exact allIx11 w
 ·exact allIx12 w
 ·exact allIx13 w
 ·exact allIx14 w
 ·exact allIx15 w
 ·exact allIx16 w
 ·exact allIx17 w
set_option maxHeartbeats 1000000 in
theorem wrong_bad (op b : Int) (w : World) (h : op < 1 ∨ 17 < op) : Calls Try.prog 72 #[.int .u8 op, .int .i64 b] w fun e w' => e = .returned (.int .i64 130) ∧ w = w' := by
 rcases h with h | h
 ·go_enter Try.func72, Try.ntmps72
  go_wp2
  go_ret
  exact ⟨rfl, rfl⟩
 ·have h' : ¬ op < 1 := by omega
  go_enter Try.func72, Try.ntmps72
  go_wp2
  go_ret
  exact ⟨rfl, rfl⟩
set_option maxHeartbeats 1000000 in
theorem wrong_ok (op b : Int) (w : World) (h1 : 1 ≤ op) (h2 : op ≤ 17) (hb : (b == 0) = false) : Calls Try.prog 72 #[.int .u8 op, .int .i64 b] w fun e w' => e = .returned (.int .i64 0) ∧ w = w' := by
 go_enter Try.func72, Try.ntmps72
 go_wp2
 go_ret
 exact ⟨rfl, rfl⟩
set_option maxRecDepth 100000 in
set_option maxHeartbeats 1000000 in
theorem wrong_z (op : Int) (w : World) (h1 : 1 ≤ op) (h2 : op ≤ 17) : Calls Try.prog 72 #[.int .u8 op, .int .i64 0] w fun e w' => e = .returned (.int .i64 (if 4 ≤ op ∧ op ≤ 6 then 131 else 0)) ∧ Below w.heap.size w w' := by
 have hs := allIxAt op h1 h2
 obtain ⟨V, hV⟩ : ∃ V, V = allL.toArray := ⟨_, rfl⟩
 have ha : ∀ w, Calls Try.prog 108 #[] w fun e w' => e = .returned (.agg V) ∧ Below w.heap.size w w' := hV ▸ all_c
 rw [← hV] at hs
 have HA := Lib.hid ha
 clear ha hV
 have hfl : ∀ (w : World) (s : ByteArray) (b : Bool), (Instr.field 204 (.agg #[.string s, .bool b]) 1).run Try.prog w = .ok (.bool b) w := fun w s b => by kernel_rfl
 go_enter Try.func72, Try.ntmps72
 go_wp2_with fail
 refine (HA.out _).mono ?_
 rintro e w' ⟨rfl, hb⟩
 go_wp2
 all_goals go_ret
 all_goals exact ⟨rfl, hb⟩
theorem wrong_c (op b : Int) (w : World) : Calls Try.prog 72 #[.int .u8 op, .int .i64 b] w fun e w' => e = .returned (.int .i64 (yn_ op b)) ∧ Below w.heap.size w w' := by
 by_cases h : op < 1 ∨ 17 < op
 ·refine (wrong_bad op b w h).mono ?_
  rintro e w' ⟨rfl, rfl⟩
  exact ⟨ret_i64 (by rw [yn_, if_pos h]), Below.refl _ _⟩
 ·by_cases hb : b = 0
  ·subst hb
   refine (wrong_z op w (by omega) (by omega)).mono ?_
   rintro e w' ⟨rfl, hB⟩
   refine ⟨ret_i64 ?_, hB⟩
   rw [yn_, if_neg h]
   simp
  ·refine (wrong_ok op b w (by omega) (by omega) (by simpa using hb)).mono ?_
   rintro e w' ⟨rfl, rfl⟩
   exact ⟨ret_i64 (by rw [yn_, if_neg h, if_neg (fun x => hb x.1)]), Below.refl _ _⟩
set_option maxRecDepth 100000 in
set_option maxHeartbeats 1000000 in
theorem apply_bad (op a b : Int) (w : World) (h : (yn_ op b != 0) = true) : Calls Try.prog 29 #[.int .u8 op, .int .i64 a, .int .i64 b] w fun e w' => e = .returned (.tuple #[.int .i64 0, .int .i64 (yn_ op b)]) ∧ Below w.heap.size w w' := by
 have HW := Lib.hid (fun w => wrong_c op b w)
 obtain ⟨E, hE⟩ : ∃ E, E = yn_ op b := ⟨_, rfl⟩
 rw [← hE] at HW h ⊢
 clear hE
 go_enter Try.func29, Try.ntmps29
 go_wp2_with fail
 refine (HW.out _).mono ?_
 rintro e w' ⟨rfl, hb⟩
 go_wp2
 go_ret2
 exact ⟨rfl, hb⟩
def shB (b : Int) : Int := bits BinOp.and IntKind.u64 (IntKind.u64.wrap b) 63
theorem u64_wrap_bd (b : Int) : 0 ≤ IntKind.u64.wrap b ∧ IntKind.u64.wrap b < 18446744073709551616 := by
 simp only [IntKind.wrap, IntKind.bits, IntKind.signed]
 simp
 omega
theorem shB_eq (b : Int) : shB b = IntKind.u64.wrap b % 64 := by
 have hb := u64_wrap_bd b
 unfold shB
 rw [u64_and _ _ hb.1 hb.2 (by decide) (by decide)]
 have h63 : (63 : Int).toNat = 2 ^ 6 - 1 := by decide
 rw [h63, Nat.and_two_pow_sub_one_eq_mod]
 omega
theorem shB_bd (b : Int) : 0 ≤ shB b ∧ shB b ≤ 63 := by rw [shB_eq]; omega
def zn_ (op a b : Int) : Int :=
 if op = 1 then wrap64 (a + b) else if op = 2 then wrap64 (a - b) else if op = 3 then wrap64 (a * b)
 else if op = 4 then wrap64 (a.tdiv b) else if op = 5 then a.tmod b else if op = 6 then modI a b
 else if op = 7 then bits .and .i64 a b else if op = 8 then bits .or .i64 a b else if op = 9 then bits .xor .i64 a b
 else if op = 10 then wrap64 (a * 2 ^ (shB b).toNat) else if op = 11 then wrap64 (IntKind.u64.wrap a / 2 ^ (shB b).toNat) else if op = 12 then a / 2 ^ (shB b).toNat
 else if op = 13 then truthI (decide (a < b)) else if op = 14 then truthI (decide (IntKind.u64.wrap a < IntKind.u64.wrap b)) else if op = 15 then truthI (a == b)
 else if op = 16 then (if b < a then b else a) else (if a < b then b else a)
set_option maxRecDepth 100000 in
set_option maxHeartbeats 4000000 in
theorem apply_1 (a b : Int) (w : World)
 (hw : ∀ w, Calls Try.prog 72 #[.int .u8 1, .int .i64 b] w fun e w' => e = .returned (.int .i64 0) ∧ Below w.heap.size w w') : Calls Try.prog 29 #[.int .u8 1, .int .i64 a, .int .i64 b] w fun e w' => e = .returned (.tuple #[.int .i64 (zn_ 1 a b), .int .i64 0]) ∧ Below w.heap.size w w' :=  Vm.d1_
set_option maxRecDepth 100000 in
set_option maxHeartbeats 4000000 in
theorem apply_2 (a b : Int) (w : World)
 (hw : ∀ w, Calls Try.prog 72 #[.int .u8 2, .int .i64 b] w fun e w' => e = .returned (.int .i64 0) ∧ Below w.heap.size w w') : Calls Try.prog 29 #[.int .u8 2, .int .i64 a, .int .i64 b] w fun e w' => e = .returned (.tuple #[.int .i64 (zn_ 2 a b), .int .i64 0]) ∧ Below w.heap.size w w' :=  Vm.d1_
set_option maxRecDepth 100000 in
set_option maxHeartbeats 4000000 in
theorem apply_3 (a b : Int) (w : World)
 (hw : ∀ w, Calls Try.prog 72 #[.int .u8 3, .int .i64 b] w fun e w' => e = .returned (.int .i64 0) ∧ Below w.heap.size w w') : Calls Try.prog 29 #[.int .u8 3, .int .i64 a, .int .i64 b] w fun e w' => e = .returned (.tuple #[.int .i64 (zn_ 3 a b), .int .i64 0]) ∧ Below w.heap.size w w' :=  Vm.d1_
set_option maxRecDepth 100000 in
set_option maxHeartbeats 4000000 in
theorem apply_4 (a b : Int) (w : World) (hb0 : b ≠ 0)
 (hw : ∀ w, Calls Try.prog 72 #[.int .u8 4, .int .i64 b] w fun e w' => e = .returned (.int .i64 0) ∧ Below w.heap.size w w') : Calls Try.prog 29 #[.int .u8 4, .int .i64 a, .int .i64 b] w fun e w' => e = .returned (.tuple #[.int .i64 (zn_ 4 a b), .int .i64 0]) ∧ Below w.heap.size w w' :=  Vm.d1_
set_option maxRecDepth 100000 in
set_option maxHeartbeats 4000000 in
theorem apply_5 (a b : Int) (w : World) (hb0 : b ≠ 0)
 (hw : ∀ w, Calls Try.prog 72 #[.int .u8 5, .int .i64 b] w fun e w' => e = .returned (.int .i64 0) ∧ Below w.heap.size w w') : Calls Try.prog 29 #[.int .u8 5, .int .i64 a, .int .i64 b] w fun e w' => e = .returned (.tuple #[.int .i64 (zn_ 5 a b), .int .i64 0]) ∧ Below w.heap.size w w' :=  Vm.d1_
set_option maxRecDepth 100000 in
set_option maxHeartbeats 4000000 in
theorem apply_6 (a b : Int) (w : World) (hb0 : b ≠ 0)
 (hw : ∀ w, Calls Try.prog 72 #[.int .u8 6, .int .i64 b] w fun e w' => e = .returned (.int .i64 0) ∧ Below w.heap.size w w') : Calls Try.prog 29 #[.int .u8 6, .int .i64 a, .int .i64 b] w fun e w' => e = .returned (.tuple #[.int .i64 (zn_ 6 a b), .int .i64 0]) ∧ Below w.heap.size w w' :=  Vm.d1_
set_option maxRecDepth 100000 in
set_option maxHeartbeats 4000000 in
theorem apply_7 (a b : Int) (w : World)
 (hw : ∀ w, Calls Try.prog 72 #[.int .u8 7, .int .i64 b] w fun e w' => e = .returned (.int .i64 0) ∧ Below w.heap.size w w') : Calls Try.prog 29 #[.int .u8 7, .int .i64 a, .int .i64 b] w fun e w' => e = .returned (.tuple #[.int .i64 (zn_ 7 a b), .int .i64 0]) ∧ Below w.heap.size w w' :=  Vm.d1_
set_option maxRecDepth 100000 in
set_option maxHeartbeats 4000000 in
theorem apply_8 (a b : Int) (w : World)
 (hw : ∀ w, Calls Try.prog 72 #[.int .u8 8, .int .i64 b] w fun e w' => e = .returned (.int .i64 0) ∧ Below w.heap.size w w') : Calls Try.prog 29 #[.int .u8 8, .int .i64 a, .int .i64 b] w fun e w' => e = .returned (.tuple #[.int .i64 (zn_ 8 a b), .int .i64 0]) ∧ Below w.heap.size w w' :=  Vm.d1_
set_option maxRecDepth 100000 in
set_option maxHeartbeats 4000000 in
theorem apply_9 (a b : Int) (w : World)
 (hw : ∀ w, Calls Try.prog 72 #[.int .u8 9, .int .i64 b] w fun e w' => e = .returned (.int .i64 0) ∧ Below w.heap.size w w') : Calls Try.prog 29 #[.int .u8 9, .int .i64 a, .int .i64 b] w fun e w' => e = .returned (.tuple #[.int .i64 (zn_ 9 a b), .int .i64 0]) ∧ Below w.heap.size w w' :=  Vm.d1_
set_option maxRecDepth 100000 in
set_option maxHeartbeats 4000000 in
theorem apply_10 (a b : Int) (w : World)
 (hw : ∀ w, Calls Try.prog 72 #[.int .u8 10, .int .i64 b] w fun e w' => e = .returned (.int .i64 0) ∧ Below w.heap.size w w') : Calls Try.prog 29 #[.int .u8 10, .int .i64 a, .int .i64 b] w fun e w' => e = .returned (.tuple #[.int .i64 (zn_ 10 a b), .int .i64 0]) ∧ Below w.heap.size w w' :=  Vm.d2_
set_option maxRecDepth 100000 in
set_option maxHeartbeats 4000000 in
theorem apply_11 (a b : Int) (w : World)
 (hw : ∀ w, Calls Try.prog 72 #[.int .u8 11, .int .i64 b] w fun e w' => e = .returned (.int .i64 0) ∧ Below w.heap.size w w') : Calls Try.prog 29 #[.int .u8 11, .int .i64 a, .int .i64 b] w fun e w' => e = .returned (.tuple #[.int .i64 (zn_ 11 a b), .int .i64 0]) ∧ Below w.heap.size w w' :=  Vm.d2_
set_option maxRecDepth 100000 in
set_option maxHeartbeats 4000000 in
theorem apply_12 (a b : Int) (w : World)
 (hw : ∀ w, Calls Try.prog 72 #[.int .u8 12, .int .i64 b] w fun e w' => e = .returned (.int .i64 0) ∧ Below w.heap.size w w') : Calls Try.prog 29 #[.int .u8 12, .int .i64 a, .int .i64 b] w fun e w' => e = .returned (.tuple #[.int .i64 (zn_ 12 a b), .int .i64 0]) ∧ Below w.heap.size w w' :=  Vm.d2_
set_option maxRecDepth 100000 in
set_option maxHeartbeats 4000000 in
theorem apply_13 (a b : Int) (w : World)
 (hw : ∀ w, Calls Try.prog 72 #[.int .u8 13, .int .i64 b] w fun e w' => e = .returned (.int .i64 0) ∧ Below w.heap.size w w') : Calls Try.prog 29 #[.int .u8 13, .int .i64 a, .int .i64 b] w fun e w' => e = .returned (.tuple #[.int .i64 (zn_ 13 a b), .int .i64 0]) ∧ Below w.heap.size w w' :=  Vm.d1_
set_option maxRecDepth 100000 in
set_option maxHeartbeats 4000000 in
theorem apply_14 (a b : Int) (w : World)
 (hw : ∀ w, Calls Try.prog 72 #[.int .u8 14, .int .i64 b] w fun e w' => e = .returned (.int .i64 0) ∧ Below w.heap.size w w') : Calls Try.prog 29 #[.int .u8 14, .int .i64 a, .int .i64 b] w fun e w' => e = .returned (.tuple #[.int .i64 (zn_ 14 a b), .int .i64 0]) ∧ Below w.heap.size w w' :=  Vm.d1_
set_option maxRecDepth 100000 in
set_option maxHeartbeats 4000000 in
theorem apply_15 (a b : Int) (w : World)
 (hw : ∀ w, Calls Try.prog 72 #[.int .u8 15, .int .i64 b] w fun e w' => e = .returned (.int .i64 0) ∧ Below w.heap.size w w') : Calls Try.prog 29 #[.int .u8 15, .int .i64 a, .int .i64 b] w fun e w' => e = .returned (.tuple #[.int .i64 (zn_ 15 a b), .int .i64 0]) ∧ Below w.heap.size w w' :=  Vm.d1_
set_option maxRecDepth 100000 in
set_option maxHeartbeats 4000000 in
theorem apply_16 (a b : Int) (w : World)
 (hw : ∀ w, Calls Try.prog 72 #[.int .u8 16, .int .i64 b] w fun e w' => e = .returned (.int .i64 0) ∧ Below w.heap.size w w') : Calls Try.prog 29 #[.int .u8 16, .int .i64 a, .int .i64 b] w fun e w' => e = .returned (.tuple #[.int .i64 (zn_ 16 a b), .int .i64 0]) ∧ Below w.heap.size w w' :=  Vm.d1_
set_option maxRecDepth 100000 in
set_option maxHeartbeats 4000000 in
theorem apply_17 (a b : Int) (w : World)
 (hw : ∀ w, Calls Try.prog 72 #[.int .u8 17, .int .i64 b] w fun e w' => e = .returned (.int .i64 0) ∧ Below w.heap.size w w') : Calls Try.prog 29 #[.int .u8 17, .int .i64 a, .int .i64 b] w fun e w' => e = .returned (.tuple #[.int .i64 (zn_ 17 a b), .int .i64 0]) ∧ Below w.heap.size w w' :=  Vm.d1_
def applyV (op a b : Int) : Int := if yn_ op b = 0 then zn_ op a b else 0
theorem apply_c (op a b : Int) (w : World) : Calls Try.prog 29 #[.int .u8 op, .int .i64 a, .int .i64 b] w fun e w' => e = .returned (.tuple #[.int .i64 (applyV op a b), .int .i64 (yn_ op b)]) ∧ Below w.heap.size w w' := by
 by_cases h : yn_ op b = 0
 ·have hw : ∀ w, Calls Try.prog 72 #[.int .u8 op, .int .i64 b] w fun e w' => e = .returned (.int .i64 0) ∧ Below w.heap.size w w' := by rw [← h]; exact wrong_c op b
  have hz : 4 ≤ op → op ≤ 6 → b ≠ 0 := by
   intro x y z
   rw [yn_, if_neg (by omega), if_pos ⟨z, x, y⟩] at h
   exact absurd h (by decide)
  have hop : 1 ≤ op ∧ op ≤ 17 := by
   refine ⟨?_, ?_⟩
   ·by_cases q : op < 1
    ·rw [yn_, if_pos (.inl q)] at h; exact absurd h (by decide)
    ·omega
   ·by_cases q : 17 < op
    ·rw [yn_, if_pos (.inr q)] at h; exact absurd h (by decide)
    ·omega
  rw [applyV, if_pos h, h]
  have h : op = 1 ∨ op = 2 ∨ op = 3 ∨ op = 4 ∨ op = 5 ∨ op = 6 ∨ op = 7 ∨ op = 8 ∨ op = 9 ∨ op = 10 ∨ op = 11 ∨ op = 12 ∨ op = 13 ∨ op = 14 ∨ op = 15 ∨ op = 16 ∨ op = 17 := by omega
  rcases h with h | h | h | h | h | h | h | h | h | h | h | h | h | h | h | h | h <;> subst h
  ·exact apply_1 a b w hw
  ·exact apply_2 a b w hw
  ·exact apply_3 a b w hw
  ·exact apply_4 a b w (hz (by decide) (by decide)) hw
  ·exact apply_5 a b w (hz (by decide) (by decide)) hw
  ·exact apply_6 a b w (hz (by decide) (by decide)) hw
  ·exact apply_7 a b w hw
  ·exact apply_8 a b w hw
  ·exact apply_9 a b w hw
  ·exact apply_10 a b w hw
  ·exact apply_11 a b w hw
  ·exact apply_12 a b w hw
  ·exact apply_13 a b w hw
  ·exact apply_14 a b w hw
  ·exact apply_15 a b w hw
  ·exact apply_16 a b w hw
  ·exact apply_17 a b w hw
 ·rw [applyV, if_neg h]
  exact apply_bad op a b w (by rw [bne_iff_ne]; exact h)
end Go.Proofs.Ytmljmabbopkpiaa
end
