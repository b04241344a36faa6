import Derived.Test.YtjliakjbdcplcaaGreatR1
import Derived.Test.YtjliakjbdcplcaaGreatR8
import Derived.Test.YtjliakjbdcplcaaGreatR10
set_option linter.unusedSimpArgs false
set_option linter.unusedVariables false
set_option maxRecDepth 100000
set_option maxHeartbeats 4000000
section
namespace Go.Proofs.YtjliakjbdcplcaaGreat.Vm
open Go.RowKit
def xw_ (l : List Nat) (m : Nat) : Nat → Nat := fun i => if i < l.length then l.getD i 0 else m + (i - l.length)
def noMine : List HB → Bool
 | [] => true
 | b :: l => !b.mine && noMine l
theorem noMine_spec : ∀ {L : List HB}, noMine L = true → ∀ i, (hp L i).mine = false
 | [], _, i => by unfold hp; simp [HB.mine]
 | b :: l, h, 0 => by
  simp only [noMine, Bool.and_eq_true, Bool.not_eq_true'] at h
  exact h.1
 | b :: l, h, i + 1 => by
  simp only [noMine, Bool.and_eq_true] at h
  have := noMine_spec h.2 i
  unfold hp at this ⊢
  simpa using this
def FitL (ρ : Nat → Nat) (h : HM) : List HB → List Nat → Prop
 | [], _ => True
 | b :: l, n => match n with
  | j :: n => Fit ρ b (h j) ∧ FitL ρ h l n
  | [] => False
theorem fitL_get {ρ : Nat → Nat} {h : HM} : ∀ {L : List HB} {l : List Nat}, FitL ρ h L l → ∀ i, i < L.length → Fit ρ (hp L i) (h (l.getD i 0))
 | [], l, _, i, hi => by simp at hi
 | b :: L, [], hf, _, _ => by exact hf.elim
 | b :: L, j :: l, hf, 0, _ => hf.1
 | b :: L, j :: l, hf, i + 1, hi => by
  have := fitL_get hf.2 i (by simpa using hi)
  unfold hp at this ⊢
  simpa using this
def hG (n0 : Nat) (L0 L1 : List HB) : HM := fun i => if i < n0 then hp L0 i else hp L1 i
theorem laid_ro {L0 L1 : List HB} {h : HM} {l : List Nat} {m : Nat} {v : SV} (hlen : l.length = L0.length) (hpos : 0 < L0.length) (h00 : l.getD 0 0 = 0) (hz : hp L0 0 = .gone) (hno : noMine L0 = true) (hfit : FitL (xw_ l m) h L0 l) (hm : ∀ i, m ≤ i → i < m + (L1.length - L0.length) → h i = .dead) (hle : L0.length ≤ L1.length)
  (hst0 : xe_ (hp L0) L0) (hstb : ∀ j, (h j).stable h) (hnew : NewL (hG L0.length L0 L1) (L1.drop L0.length)) (hv : Stable (hG L0.length L0 L1) v) :
  Laid L0 L1 h (wrs h (newB (xw_ l m) m (L1.drop L0.length))) (xw_ l m) m v := by
 obtain ⟨k, hk⟩ : ∃ k, k = L1.length - L0.length := ⟨_, rfl⟩
 have hdl : (L1.drop L0.length).length = k := by rw [List.length_drop, hk]
 have hrl : ∀ i, i < L0.length → xw_ l m i = l.getD i 0 := fun i hi => if_pos (by omega)
 have hrn : ∀ i, L0.length ≤ i → xw_ l m i = m + (i - L0.length) := fun i hi => by
  unfold xw_; rw [if_neg (by omega), hlen]
 have hmin := noMine_spec hno
 have hget : ∀ j, m ≤ j → (L1.drop L0.length).getD (j - m) .dead = hp L1 (L0.length + (j - m)) := fun j hj => by
  unfold hp
  rw [List.getD_eq_getElem?_getD, List.getD_eq_getElem?_getD, List.getElem?_drop]
 have hnewj : ∀ j, m ≤ j → j < m + k → wrs h (newB (xw_ l m) m (L1.drop L0.length)) j = (hp L1 (L0.length + (j - m))).ren (xw_ l m) := fun j h1 h3 => by
  rw [wrs_newB, if_pos ⟨h1, by omega⟩, hget j h1]
 have holdj : ∀ j, ¬ (m ≤ j ∧ j < m + k) → wrs h (newB (xw_ l m) m (L1.drop L0.length)) j = h j := fun j hj => by
  rw [wrs_newB, if_neg (by rw [hdl]; exact hj)]
 have bornold : ∀ j, (h j).born = true → ¬ (m ≤ j ∧ j < m + k) := fun j hj hc => by
  rw [hm j hc.1 (by omega)] at hj; cases hj
 have more : ∀ i, (h i).born = true → (wrs h (newB (xw_ l m) m (L1.drop L0.length)) i).born = true := fun i hi => by rw [holdj i (bornold i hi)]; exact hi
 have hfit' : ∀ i, i < L0.length → Fit (xw_ l m) (hp L0 i) (h (xw_ l m i)) := fun i hi => by rw [hrl i hi]; exact fitL_get hfit i hi
 have moreG : ∀ i, (hG L0.length L0 L1 i).born = true → (wrs h (newB (xw_ l m) m (L1.drop L0.length)) (xw_ l m i)).born = true := fun i hi => by
  unfold hG at hi
  split at hi
  ·rename_i hlt
   exact more _ (hfit' i hlt).born
  ·rename_i hge
   have hlt : i < L1.length := by
    rcases Nat.lt_or_ge i L1.length with h' | h'
    ·exact h'
    ·rw [xc_ h'] at hi; cases hi
   rw [hrn i (by omega), hnewj _ (by omega) (by omega), show L0.length + (m + (i - L0.length) - m) = i by omega]
   cases hh : hp L1 i <;> rw [hh] at hi <;> first | rfl | (cases hi; done)
 have hnewS := newL_spec hnew
 refine { z := by rw [hrl 0 hpos, h00], z0 := hz, new := fun i hi => hrn i hi, pre := hfit', inj := fun i j hi hj hne hmi => absurd hmi (by rw [hmin i]; exact Bool.false_ne_true), img := fun i hi hmi => absurd hmi (by rw [hmin i]; exact Bool.false_ne_true), old := fun j hj _ => holdj j (bornold j hj), fresh := fun j hj => ?_, un := fun i hi hb => ?_, st0 := xx_ hst0, st2 := fun j => ?_, stv := hv.ren moreG }
 ·by_cases hc : m ≤ j ∧ j < m + k
  ·exact .inr ⟨hc.1, hnewj j hc.1 hc.2, (hnewS _ (by omega)).2⟩
  ·left
   rw [holdj j hc]
   cases hh : h j <;> rw [hh] at hj <;> first | rfl | (cases hj; done)
 ·exact d23_
 ·by_cases hc : m ≤ j ∧ j < m + k
  ·rw [hnewj j hc.1 hc.2]
   have hs := (hnewS (L0.length + (j - m)) (by omega)).1
   cases hh : hp L1 (L0.length + (j - m)) with
   | own t u ex => rw [hh] at hs; exact Stable.ren moreG hs
   | ro u => rw [hh] at hs; exact Stable.ren moreG hs
   | raw o => trivial
   | gone => trivial
   | dead => trivial
  ·rw [holdj j hc]
   have : (h j).stable h := hstb j
   exact HB.stable_more this more
theorem callG {P : Program} {f : FuncId} {args : List SV} {L0 L1 : List HB} {v : SV} {w0 w : World} {M : Nat → Prop} {β : Env} {h h' : HM} {m : Nat} (l : List Nat) (H : zp_ P f args L0 v L1) (R : Rep w0 M β h' w) (hlen : l.length = L0.length) (hpos : 0 < L0.length) (h00 : l.getD 0 0 = 0) (hz : hp L0 0 = .gone) (hno : noMine L0 = true) (hfit : FitL (xw_ l m) h' L0 l)
  (hm : ∀ i, m ≤ i → h i = .dead) (hwr : ∀ p ∈ newB (xw_ l m) m (L1.drop L0.length), h' p.1 = h p.1) (hle : L0.length ≤ L1.length)
  (hst0 : xe_ (hp L0) L0) (hsta : zd_ (hp L0) args) (hnew : NewL (hG L0.length L0 L1) (L1.drop L0.length)) (hv : Stable (hG L0.length L0 L1) v) :
  Calls P f (denL β (renL (xw_ l m) args)).toArray w fun e w' => ∃ β', (∀ i, (h' i).born = true → β i = β' i) ∧ Rep w0 M β' (wrs h' (newB (xw_ l m) m (L1.drop L0.length))) w' ∧ Stable (wrs h' (newB (xw_ l m) m (L1.drop L0.length))) (v.ren (xw_ l m)) ∧ e = .returned ((v.ren (xw_ l m)).den β') :=
 call_lit H R (laid_ro hlen hpos h00 hz hno hfit (fun i hi hlt => by
  obtain ⟨b, hb⟩ := newB_mem (ρ := xw_ l m) (l := L1.drop L0.length) hi (by rw [List.length_drop]; exact hlt)
  exact (hwr _ hb).trans (hm i hi)) hle hst0 R.st hnew hv) hsta
def sg (l : List Nat) : Nat → Nat := fun i => l.getD i 0
def PickL (σ : Nat → Nat) (h : HM) : List HB → List Nat → Prop
 | [], _ => True
 | b :: l, n => match n with
  | j :: n => (b = .gone ∨ Less (h j) (b.ren σ)) ∧ PickL σ h l n
  | [] => False
theorem pickL_get {σ : Nat → Nat} {h : HM} : ∀ {L : List HB} {l : List Nat}, PickL σ h L l → ∀ i, i < L.length → hp L i = .gone ∨ Less (h (l.getD i 0)) ((hp L i).ren σ)
 | [], l, _, i, hi => by simp at hi
 | b :: L, [], hf, _, _ => by exact hf.elim
 | b :: L, j :: l, hf, 0, _ => hf.1
 | b :: L, j :: l, hf, i + 1, hi => by
  have := pickL_get hf.2 i (by simpa using hi)
  unfold hp at this ⊢
  simpa using this
def injL : List HB → List Nat → List Nat → Bool
 | [], _, _ => true
 | b :: L, l, seen => match l with
  | j :: l => bif b.mine then !memN j seen && injL L l (j :: seen) else injL L l seen
  | [] => false
theorem injL_seen : ∀ {L : List HB} {l seen : List Nat}, injL L l seen = true → ∀ i, i < L.length → (hp L i).mine = true → l.getD i 0 ∉ seen
 | [], l, seen, _, i, hi, _ => by simp at hi
 | b :: L, [], seen, h, _, _, _ => by cases h
 | b :: L, j :: l, seen, h, i, hi, hm => by
  simp only [injL] at h
  cases i with
  | zero =>
   have hb : b.mine = true := hm
   rw [hb] at h
   simp only [cond_true, Bool.and_eq_true, Bool.not_eq_true'] at h
   intro hc
   have := memN_iff.2 hc
   simp only [List.getD_cons_zero] at this
   rw [h.1] at this
   cases this
  | succ i =>
   have hm' : (hp L i).mine = true := by unfold hp at hm ⊢; simpa using hm
   rw [List.getD_cons_succ]
   cases hb : b.mine with
   | false => rw [hb] at h; exact injL_seen h i (by simpa using hi) hm'
   | true =>
    rw [hb] at h
    simp only [cond_true, Bool.and_eq_true] at h
    exact fun hc => injL_seen h.2 i (by simpa using hi) hm' (.tail _ hc)
theorem injL_spec : ∀ {L : List HB} {l seen : List Nat}, injL L l seen = true → ∀ i j, i < j → j < L.length → (hp L i).mine = true → (hp L j).mine = true → l.getD i 0 ≠ l.getD j 0
 | [], l, seen, _, i, j, _, hj, _, _ => by simp at hj
 | b :: L, [], seen, h, _, _, _, _, _, _ => by cases h
 | b :: L, k :: l, seen, h, i, j, hij, hj, hi, hjm => by
  simp only [injL] at h
  obtain ⟨j, rfl⟩ : ∃ j', j = j' + 1 := ⟨j - 1, by omega⟩
  have hj' : j < L.length := by simpa using hj
  have hjm' : (hp L j).mine = true := by unfold hp at hjm ⊢; simpa using hjm
  rw [List.getD_cons_succ]
  cases i with
  | zero =>
   have hb : b.mine = true := hi
   rw [hb] at h
   simp only [cond_true, Bool.and_eq_true] at h
   rw [List.getD_cons_zero]
   exact fun e => injL_seen h.2 j hj' hjm' (by rw [← e]; exact .head _)
  | succ i =>
   have hi' : (hp L i).mine = true := by unfold hp at hi ⊢; simpa using hi
   rw [List.getD_cons_succ]
   cases hb : b.mine with
   | false => rw [hb] at h; exact injL_spec h i j (by omega) hj' hi' hjm'
   | true =>
    rw [hb] at h
    simp only [cond_true, Bool.and_eq_true] at h
    exact injL_spec h.2 i j (by omega) hj' hi' hjm'
theorem Rep.pick {w0 w : World} {M : Nat → Prop} {β : Env} {h : HM} {L : List HB} {l : List Nat} (R : Rep w0 M β h w) (h0 : l.getD 0 0 = 0) (hz : hp L 0 = .gone) (hp_ : PickL (sg l) h L l) (hi : injL L l [] = true) (hs : xe_ (hp L) L) : Rep w0 M (fun i => β (sg l i)) (hp L) w := by
 have get : ∀ i, (hp L i) = .dead ∨ hp L i = .gone ∨ (i < L.length ∧ Less (h (sg l i)) ((hp L i).ren (sg l))) := fun i => by
  rcases Nat.lt_or_ge i L.length with hlt | hge
  ·rcases pickL_get hp_ i hlt with e | e
   ·exact .inr (.inl e)
   ·exact .inr (.inr ⟨hlt, e⟩)
  ·exact .inl (xc_ hge)
 have mine : ∀ i, (hp L i).mine = true → i < L.length ∧ (h (sg l i)).mine = true := fun i hm => by
  rcases get i with e | e | ⟨hlt, e⟩
  ·rw [e] at hm; cases hm
  ·rw [e] at hm; cases hm
  ·refine ⟨hlt, less_mine e ?_⟩
   cases hh : hp L i <;> rw [hh] at hm <;> first | rfl | (cases hm; done)
 refine { os := R.os, tape := R.tape, output := R.output, size := R.size, frame := R.frame, nil := ?_, nil0 := hz, st := xx_ hs, blk := fun i => ?_, own := fun i a hm ha => R.own _ a (mine i hm).2 ha, ro := fun i v a hv ha hzz => ?_, dist := fun i j ai aj hne hmi hmj hai haj => ?_, lt := fun i a hm ha => R.lt _ a (mine i hm).2 ha }
 ·show β (l.getD 0 0) = _
  rw [h0]; exact R.nil
 ·rcases get i with e | e | ⟨hlt, e⟩
  ·rw [e]; trivial
  ·rw [e]; trivial
  ·have hB := R.blk (sg l i)
   exact holds_unren (β := fun i => β (sg l i)) (β' := β) (h := hp L) (ρ := sg l) (fun _ _ => rfl) (xx_ hs i) rfl (holds_less e hB)
 ·rcases get i with e | e | ⟨hlt, e⟩
  ·rw [e] at hv; cases hv
  ·rw [e] at hv; cases hv
  ·rw [hv] at e
   exact R.ro _ (v.ren (sg l)) a (less_ro e) ha (by rw [size_ren]; exact hzz)
 ·have h1 := mine i hmi
  have h2 := mine j hmj
  refine R.dist _ _ ai aj ?_ h1.2 h2.2 hai haj
  rcases Nat.lt_or_ge i j with hlt | hge
  ·exact injL_spec hi i j hlt h2.1 hmi hmj
  ·exact fun e => injL_spec hi j i (by omega) h1.1 hmj hmi e.symm
def idTo (n : Nat) (l : List Nat) : Bool := (List.range n).all fun i => Nat.beq (l.getD i 0) i
section
variable {P : Program} {T : Tab} {w0 w1 : World} {M M1 : Nat → Prop} {E : Env} {n0 N n : Nat} {D1 : List Deferred} {φ : Fr} {L L2 : List HB}
theorem At.endsPick (l : List Nat) (hT : TabOk P T) {fn : Func} {c : Prop} {vs : List SV} {v : SV} {rs : List ResultVar} {L0 : List HB} (A : Anc w0 M [] w1 M1 D1) (hro : RoOk w0 M E L0) (hL0 : L0.length ≤ n0) (hrs : fn.results.toList = rs) (hr : resV T φ (hp L) rs = some (c, vs)) (hc : c) (h00 : l.getD 0 0 = 0) (hz : hp L2 0 = .gone) (hid : idTo n0 l = true) (hpk : PickL (sg l) (hp L) L2 l) (hinj : injL L2 l [] = true) (hs : xe_ (hp L2) L2) (hsub : RoSub L L0) (hv : ∀ β, (resS vs).den β = (v.ren (sg l)).den β) (hst : Stable (hp L2) v) :
  At w1 M1 E n0 N D1 φ L (EndsM n P fn w0 M E n0 v L2 .ret) := fun a w hS => by
 obtain ⟨⟨β, hE, R, F⟩, hbn, _, hd⟩ := hS
 subst hrs
 have R0 : Rep w0 M β (hp L) w := R.back A fun i u a hi ha hz => by
  obtain ⟨h1, h2⟩ := roSub_spec hsub i u hi
  exact hro i u a h1 (by rw [← hE i (Nat.lt_of_lt_of_le h2 hL0)]; exact ha) hz
 obtain ⟨rs, d1, n1, k1⟩ := A.marks
 simp only [EndsM, bodyPostM, hd, d1, List.append_nil]
 refine leaves_marks (β := β) (h := hp L) rs w R0 n1 (fun r hr => ?_) (fun w' R' => ?_)
 ·exact d22_
 ·obtain ⟨q1, q2⟩ := resV_ok ⟨hT, R', F⟩ hr hc
  refine ⟨_, q2, fun i => β (sg l i), fun i hi => ?_, R'.pick h00 hz hpk hinj hs, hst, ?_⟩
  ·exact d24_
  ·rw [hv]
   congr 1
   exact den_ren (h := hp L2) (fun _ _ => rfl) hst
end
theorem hp_append1 (L : List HB) (x : HB) : hp (L ++ [x]) = upd (hp L) L.length x := by
 funext i
 unfold hp upd
 by_cases h2 : i = L.length
 ·subst h2; simp
 ·rw [if_neg h2]
  rcases Nat.lt_or_ge i L.length with h | h
  ·simp [List.getElem?_append_left h]
  ·simp [List.getElem?_eq_none (show (L ++ [x]).length ≤ i by simp; omega), List.getElem?_eq_none h]
theorem At.nil {w0 : World} {M : Nat → Prop} {E : Env} {n0 N : Nat} {D : List Deferred} {φ : Fr} {L : List HB} {K : Act → World → Prop} (t : Tmp) (ty k : Nat) (f : Nat → SV) (hl : look φ t = some (.sl 0 0 [] 0 0 0 (some 0))) (hf : ∀ (h : HM) (q : Nat), Stable h (f q))
  (h : At w0 M E n0 N D ((t, .sl L.length L.length [] k 0 0 none) :: φ) (L ++ [.own ty (.arr 0 k f) false]) K) : At w0 M E n0 N D φ L K := fun a w hS => by
 obtain ⟨⟨β, hE, R, F⟩, hbn, hsz, hd⟩ := hS
 have hm : hp L L.length = .dead := xc_ (Nat.le_refl _)
 have R1 := nothing R (e := ty) (k := k) (g := f) hm (fun q => hf _ q)
 have hag : ∀ i, (hp L i).born = true → β i = setE β L.length (none, 0) i := ye_ hm
 have hborn : ∀ i, (hp L i).born = true → (upd (hp L) L.length (.own ty (.arr 0 k f) false) i).born = true := fun i hi => by
  unfold Vm.upd; split
  ·rfl
  ·exact hi
 refine h a w ⟨⟨setE β L.length (none, 0), fun i hi => (hag i (hbn i hi)).symm.trans (hE i hi), by rw [hp_append1]; exact R1, fun u v hu => ?_⟩, fun i hi => by rw [hp_append1]; exact hborn i (hbn i hi), hsz, hd⟩
 rw [hp_append1]
 simp only [look] at hu
 cases hq : Nat.beq t u with
 | true =>
  rw [hq] at hu
  have := Nat.eq_of_beq_eq_true hq
  subst this
  injection hu with hu
  subst hu
  refine ⟨?_, ?_⟩
  ·simp only [Stable, zt_]; exact ⟨rfl, rfl⟩
  ·rw [(F t _ hl).2]
   simp [SV.den, z7_, R.nil]
 | false =>
  rw [hq] at hu
  obtain ⟨k1, k2⟩ := F u v hu
  exact ⟨k1.more hborn, by rw [k2]; exact k1.den hag⟩
end Go.Proofs.YtjliakjbdcplcaaGreat.Vm
end
section
open Go.Proofs.YtjliakjbdcplcaaGreat.Vm Go.RowKit
attribute [push_cast] runR opG gtmp gval gus opX tmpsOf tm tmO tmP restr look y6_ tab tys zs ets eqB eqBL allB numOf ieq Int.cast_ofNat_Int Int.ofNat_zero beq_true beq_false frameOf ev evL ofV opV loadV noW pushF wrsL setH allBorn allGone HB.born HB.isGone HB.val SV.plain dstOk hp nav fitsT SV.size sizeL SV.isAgg TK.size TK.agg bin binE binN binI arN arI cmpN cmpI keq kn narrow callV storeV setp fillV buildV buildSliceV makeV sliceV appendV appendFV slice3V copyV List.isEmpty_nil xv_ evO asN ite_t ite_f ite_bool ite_int ite_nat maxV v_beq v_ble v_blt cond_true cond_false List.getElem?_cons_zero List.getElem?_cons_succ List.getD_cons_zero List.getD_cons_succ List.getD_nil List.length_cons List.length_nil List.take_succ_cons List.take_zero List.set_cons_zero List.set_cons_succ List.cons_append List.nil_append List.append_assoc List.replicate_succ List.replicate_zero Nat.zero_add Nat.add_zero decide_true decide_false Bool.true_and Bool.and_true Bool.false_and Bool.and_false Bool.true_or Bool.or_true Bool.false_or Bool.or_false beq_self_eq_true Bool.or_self Nat.lt_irrefl Nat.not_lt_zero Nat.le_refl Option.getD_some Option.getD_none BEq.rfl Bool.not_true Bool.not_false Bool.cond_true_left Bool.cond_false_right
section
namespace Go.Proofs.YtjliakjbdcplcaaGreat.Vm
open Go.RowKit
theorem ext_getD {α : Type} {xs ys : List α} (d : α) (hl : xs.length = ys.length) (h : ∀ q, q < xs.length → xs.getD q d = ys.getD q d) : xs = ys := by
 apply List.ext_getElem hl
 intro q h1 h2
 have := h q h1
 simpa [List.getD_eq_getElem?_getD, List.getElem?_eq_getElem h1, List.getElem?_eq_getElem h2] using this
theorem snd_ext {a b : Snd} (h1 : a.port = b.port) (h2 : a.delay = b.delay) (h3 : a.value = b.value) : a = b := by cases a; cases b; simp_all
def eqL {α : Type} [DecidableEq α] (xs ys : List α) : Bool := decide (xs = ys)
theorem eqL_true {α : Type} [DecidableEq α] {xs ys : List α} (h : xs = ys) : eqL xs ys = true := by unfold eqL; simp [h]
theorem eqL_false {α : Type} [DecidableEq α] {xs ys : List α} (h : xs ≠ ys) : eqL xs ys = false := by unfold eqL; simp [h]
theorem zq_ (k k' : IntKind) (n : Int) : isI k (.int k' n) = keq k k' := rfl
theorem zr_ (k k' : IntKind) (n : Nat) : isI k (.nat k' n) = keq k k' := rfl
theorem xi_ (l : List Int) : ls iOf l.length (i64S l) = l := ls_of (g := iOf) (e := fun x => .int .i64 x) (fun _ => rfl) l 0
theorem xb_ (l : List Int) : ls iOf l.length (fun q => i64S l q) = l := xi_ l
theorem ls_prS (l : List Ins) : ls zo_ l.length (prS l) = l := ls_of zz_ l _
theorem ls_prS' (l : List Ins) : ls zo_ l.length (fun q => prS l q) = l := ls_prS l
theorem ls_sndsS (l : List Snd) : ls zw_ l.length (zm_ l) = l := ls_of zy_ l _
theorem ls_sndsS' (l : List Snd) : ls zw_ l.length (fun q => zm_ l q) = l := ls_sndsS l
def bI (b : Bool) : Int := if b then 1 else 0
def bl (x : BitVec 64) : List Int := (List.range 64).map fun i => bI (x.getLsbD i)
theorem ya_ (x : BitVec 64) : (bl x).length = 64 := by simp [bl]
theorem zg_ {x : BitVec 64} {i : Nat} (h : i < 64) : (bl x).getD i 0 = bI (x.getLsbD i) := by simp [bl, h]
def vbN (l : List Int) : Nat → BitVec 64
 | 0 => 0
 | n + 1 => vbN l n ||| (if l.getD n 0 = 1 then BitVec.twoPow 64 n else 0#64)
theorem vbN_get (l : List Int) : ∀ n j, j < 64 → (vbN l n).getLsbD j = (decide (j < n) && decide (l.getD j 0 = 1))
 | 0, j, _ => by simp [vbN]
 | n + 1, j, hj => by
  rw [vbN, BitVec.getLsbD_or, vbN_get l n j hj]
  by_cases h : l.getD n 0 = 1
  ·rw [if_pos h, BitVec.getLsbD_twoPow]
   by_cases e : n = j
   ·subst e; simp [h, hj]
    simpa using h
   ·have : (j < n + 1) ↔ (j < n) := by omega
    simp [e, this]
  ·rw [if_neg h]
   by_cases e : n = j
   ·subst e
    have h' : decide (l.getD n 0 = 1) = false := decide_eq_false h
    simp only [h', Bool.and_false, Bool.false_or]
    simp
   ·have : (j < n + 1) ↔ (j < n) := by omega
    simp [this]
def vb (l : List Int) : BitVec 64 := vbN l 64
theorem bI_one (b : Bool) : decide (bI b = 1) = b := by cases b <;> rfl
theorem vb_bl (x : BitVec 64) : vb (bl x) = x := by
 apply BitVec.eq_of_getLsbD_eq
 intro i hi
 rw [vb, vbN_get _ _ _ hi, zg_ hi, bI_one]
 simp [hi]
theorem bl_ext {x : BitVec 64} {l : List Int} (hl : l.length = 64) (h : ∀ i, i < 64 → l.getD i 0 = bI (x.getLsbD i)) : l = bl x :=
 ext_getD 0 (by rw [hl, ya_]) fun q hq => by rw [zg_ (by omega)]; exact h q (by omega)
theorem bit_ofInt (a : Int) {j : Nat} (hj : j < 64) : (BitVec.ofInt 64 a).getLsbD j = decide (a / 2 ^ j % 2 = 1) := by
 rw [← BitVec.testBit_toNat, Nat.testBit_eq_decide_div_mod_eq, BitVec.toNat_ofInt]
 have hp : (0 : Int) < 2 ^ j := Int.pow_pos (by decide)
 have e64 : (2 : Int) ^ 64 = 2 ^ j * (2 * 2 ^ (63 - j)) := by
  rw [← Int.mul_assoc, Int.mul_comm (2 ^ j) 2, Int.mul_assoc, ← Int.pow_add, ← Int.pow_succ']
  congr 1
  omega
 have hr0 : 0 ≤ a % (2 : Int) ^ 64 := Int.emod_nonneg _ (by decide)
 have ha := Int.mul_ediv_add_emod a (2 ^ 64)
 obtain ⟨r, hr⟩ : ∃ r, a % (2 : Int) ^ 64 = r := ⟨_, rfl⟩
 obtain ⟨q, hq⟩ : ∃ q, a / (2 : Int) ^ 64 = q := ⟨_, rfl⟩
 rw [hr, hq] at ha
 rw [hr] at hr0
 have e1 : a / 2 ^ j = 2 * 2 ^ (63 - j) * q + r / 2 ^ j := by
  rw [← ha, e64, Int.mul_assoc, Int.add_comm, Int.add_mul_ediv_left _ _ (by omega), Int.add_comm]
 have e2 : a / 2 ^ j % 2 = r / 2 ^ j % 2 := by
  rw [e1, Int.mul_assoc, Int.add_comm, Int.add_mul_emod_self_left]
 have e3 : ((r.toNat / 2 ^ j % 2 : Nat) : Int) = r / 2 ^ j % 2 := by
  have : (r.toNat : Int) = r := by omega
  push_cast
  rw [this]
 rw [e2, ← e3]
 have : ((2 ^ 64 : Nat) : Int) = (2 : Int) ^ 64 := by decide
 rw [this, hr]
 simp only [decide_eq_decide]
 omega
def sumV (x y : BitVec 64) (c : Bool) : BitVec 64 := x + y + BitVec.setWidth 64 (BitVec.ofBool c)
theorem sumV_bit {x y : BitVec 64} {c : Bool} {i : Nat} (h : i < 64) : bI ((sumV x y c).getLsbD i) = (bI (x.getLsbD i) + bI (y.getLsbD i) + bI (BitVec.carry i x y c)).tmod 2 := by
 unfold sumV
 rw [BitVec.getLsbD_add_add_bool h]
 cases x.getLsbD i <;> cases y.getLsbD i <;> cases BitVec.carry i x y c <;> rfl
theorem carry_next (x y : BitVec 64) (c : Bool) (i : Nat) : bI (BitVec.carry (i + 1) x y c) = (bI (x.getLsbD i) + bI (y.getLsbD i) + bI (BitVec.carry i x y c)).tdiv 2 := by
 rw [BitVec.carry_succ]
 cases x.getLsbD i <;> cases y.getLsbD i <;> cases BitVec.carry i x y c <;> rfl
theorem carry_zero1 (x y : BitVec 64) (c : Bool) : BitVec.carry 0 x y c = c := BitVec.carry_zero
theorem z3_ (b : Bool) : 0 ≤ bI b ∧ bI b ≤ 1 := by cases b <;> decide
theorem arrCl {β : Env} {n k : Nat} {f g : Nat → SV} (h : ∀ q, q < n → (f q).cl β = (g q).cl β) : (SV.arr n k f).cl β = (SV.arr n k g).cl β := by
 have e : (List.range n).flatMap (fun i => fit k (((f i).den β).cells.toList.map sane)) = (List.range n).flatMap (fun i => fit k (((g i).den β).cells.toList.map sane)) := by
  rw [List.flatMap_def, List.flatMap_def]
  exact congrArg List.flatten (List.map_congr_left fun q hq => congrArg (fit k) (h q (List.mem_range.1 hq)))
 simp only [SV.cl, SV.den, e]
theorem At.empty {w0 : World} {M : Nat → Prop} {E : Env} {n0 N : Nat} {D : List Deferred} {φ : Fr} {L : List HB} {K : Act → World → Prop} (ty k : Nat) (f : Nat → SV) (hf : ∀ (h : HM) (q : Nat), Stable h (f q))
  (h : At w0 M E n0 N D φ (L ++ [.own ty (.arr 0 k f) false]) K) : At w0 M E n0 N D φ L K := fun a w hS => by
 obtain ⟨⟨β, hE, R, F⟩, hbn, hsz, hd⟩ := hS
 have hm : hp L L.length = .dead := xc_ (Nat.le_refl _)
 have R1 := nothing R (e := ty) (k := k) (g := f) hm (fun q => hf _ q)
 have hag : ∀ i, (hp L i).born = true → β i = setE β L.length (none, 0) i := ye_ hm
 have hborn : ∀ i, (hp L i).born = true → (upd (hp L) L.length (.own ty (.arr 0 k f) false) i).born = true := fun i hi => by
  unfold Vm.upd; split
  ·rfl
  ·exact hi
 refine h a w ⟨⟨setE β L.length (none, 0), fun i hi => (hag i (hbn i hi)).symm.trans (hE i hi), by rw [hp_append1]; exact R1, fun u v hu => ?_⟩, fun i hi => by rw [hp_append1]; exact hborn i (hbn i hi), hsz, hd⟩
 rw [hp_append1]
 obtain ⟨k1, k2⟩ := F u v hu
 exact ⟨k1.more hborn, by rw [k2]; exact k1.den hag⟩
theorem WF.empty {P : Program} {w0 : World} {M : Nat → Prop} {E : Env} {n0 N n : Nat} {D : List Deferred} {φ : Fr} {L : List HB} {c : Code} {ro : Option Nat} {Q : Exit → Act → World → Prop} (ty k : Nat) (f : Nat → SV) (hf : ∀ (h : HM) (q : Nat), Stable h (f q))
  (h : WF ro n P c w0 M E n0 N D φ (L ++ [.own ty (.arr 0 k f) false]) Q) : WF ro n P c w0 M E n0 N D φ L Q := At.empty ty k f hf h
theorem Rep.reval {w0 w : World} {M : Nat → Prop} {β : Env} {h : HM} (R : Rep w0 M β h w) {i : Nat} {t : TypeId} {v v' : SV} {ex : Bool} (hi : h i = .own t v ex) (hcl : v'.cl β = v.cl β) (hst : Stable h v') (hn : ∀ n k f, v' ≠ .arr n k f) (hv : ∀ n k f, v ≠ .arr n k f) :
  Rep w0 M β (upd h i (.own t v' ex)) w := by
 have mine : ∀ j, (upd h i (.own t v' ex) j).mine = true → (h j).mine = true := fun j hj => by
  by_cases e : j = i
  ·subst e; rw [hi]; rfl
  ·rwa [yb_ e] at hj
 have born : ∀ j, (h j).born = true → (upd h i (.own t v' ex) j).born = true := fun j hj => by
  by_cases e : j = i
  ·subst e; rw [zt_]; rfl
  ·rwa [yb_ e]
 have i0 : (0 : Nat) ≠ i := fun e => by
  rw [← e, R.nil0] at hi; cases hi
 refine { os := R.os, tape := R.tape, output := R.output, size := R.size, frame := R.frame, nil := R.nil, nil0 := ?_, st := ?_, blk := ?_, own := fun j a hj ha => R.own j a (mine j hj) ha, ro := ?_, dist := fun a b x y hab ha hb hx hy => R.dist a b x y hab (mine a ha) (mine b hb) hx hy, lt := fun j a hj ha => R.lt j a (mine j hj) ha }
 ·rw [yb_ i0]; exact R.nil0
 ·intro j
  by_cases e : j = i
  ·subst e; rw [zt_]; exact hst.more born
  ·rw [yb_ e]; exact HB.stable_more (R.st j) born
 ·intro j
  by_cases e : j = i
  ·subst e
   rw [zt_]
   have := R.blk j
   rw [hi] at this
   rcases this with ⟨g, cs, h1, h2, ⟨tl, h3, h4⟩, h5⟩ | ⟨h1, h2, k, f, h3⟩
   ·exact .inl ⟨g, cs, h1, h2, ⟨tl, by rw [hcl]; exact h3, h4⟩, fun n k f e => absurd e (hn n k f)⟩
   ·exact absurd h3 (hv _ _ _)
  ·rw [yb_ e]; exact R.blk j
 ·intro j u a hj
  by_cases e : j = i
  ·subst e; rw [zt_] at hj; cases hj
  ·rw [yb_ e] at hj; exact R.ro j u a hj
theorem At.nilIn {w0 : World} {M : Nat → Prop} {E : Env} {n0 N : Nat} {D : List Deferred} {φ : Fr} {L L2 : List HB} {K : Act → World → Prop} (ty k : Nat) (f : Nat → SV) (i t : Nat) (v v' : SV) (ex : Bool) (hf : ∀ (h : HM) (q : Nat), Stable h (f q))
  (hi : hp L i = .own t v ex) (hcl : ∀ β : Env, β 0 = (none, 0) → β L.length = (none, 0) → v'.cl β = v.cl β) (hst : ∀ h : HM, (∀ j, j ≤ L.length → (h j).born = true) → Stable h v') (hbn : bornTo L.length L = true) (hn : ∀ n k f, v' ≠ .arr n k f) (hv : ∀ n k f, v ≠ .arr n k f)
  (hL2 : L2 = setH (L ++ [.own ty (.arr 0 k f) false]) i (.own t v' ex)) (h : At w0 M E n0 N D φ L2 K) : At w0 M E n0 N D φ L K := fun a w hS => by
 obtain ⟨⟨β, hE, R, F⟩, hbn', hsz, hd⟩ := hS
 have hm : hp L L.length = .dead := xc_ (Nat.le_refl _)
 have R1 := nothing R (e := ty) (k := k) (g := f) hm (fun q => hf _ q)
 have hag : ∀ i, (hp L i).born = true → β i = setE β L.length (none, 0) i := ye_ hm
 have hborn : ∀ i, (hp L i).born = true → (upd (hp L) L.length (.own ty (.arr 0 k f) false) i).born = true := fun i hi => by
  unfold Vm.upd; split
  ·rfl
  ·exact hi
 have hlt : i < L.length := by
  rcases Nat.lt_or_ge i L.length with h | h
  ·exact h
  ·rw [xc_ h] at hi; cases hi
 have hi1 : upd (hp L) L.length (.own ty (.arr 0 k f) false) i = .own t v ex := by rw [yb_ (by omega)]; exact hi
 have ball : ∀ j, j ≤ L.length → (upd (hp L) L.length (.own ty (.arr 0 k f) false) j).born = true := fun j hj => by
  by_cases e : j = L.length
  ·subst e; rw [zt_]; rfl
  ·rw [yb_ e]
   simp only [bornTo, List.all_eq_true] at hbn
   exact hbn j (List.mem_range.2 (by omega))
 have R2 := R1.reval hi1 (hcl _ R1.nil (z7_ _ _ _)) (hst _ ball) hn hv
 have e2 : hp L2 = upd (upd (hp L) L.length (.own ty (.arr 0 k f) false)) i (.own t v' ex) := by
  rw [hL2, hp_setH, hp_append1]
 have hborn2 : ∀ j, (upd (hp L) L.length (.own ty (.arr 0 k f) false) j).born = true → (hp L2 j).born = true := fun j hj => by
  rw [e2]
  by_cases e : j = i
  ·subst e; rw [zt_]; rfl
  ·rwa [yb_ e]
 refine h a w ⟨⟨setE β L.length (none, 0), fun j hj => (hag j (hbn' j hj)).symm.trans (hE j hj), by rw [e2]; exact R2, fun u v hu => ?_⟩, fun j hj => hborn2 j (hborn j (hbn' j hj)), hsz, hd⟩
 obtain ⟨k1, k2⟩ := F u v hu
 exact ⟨(k1.more hborn).more hborn2, by rw [k2]; exact k1.den hag⟩
theorem WF.nilIn {P : Program} {w0 : World} {M : Nat → Prop} {E : Env} {n0 N n : Nat} {D : List Deferred} {φ : Fr} {L L2 : List HB} {c : Code} {ro : Option Nat} {Q : Exit → Act → World → Prop} (ty k : Nat) (f : Nat → SV) (i t : Nat) (v v' : SV) (ex : Bool) (hf : ∀ (h : HM) (q : Nat), Stable h (f q))
  (hi : hp L i = .own t v ex) (hcl : ∀ β : Env, β 0 = (none, 0) → β L.length = (none, 0) → v'.cl β = v.cl β) (hst : ∀ h : HM, (∀ j, j ≤ L.length → (h j).born = true) → Stable h v') (hbn : bornTo L.length L = true) (hn : ∀ n k f, v' ≠ .arr n k f) (hv : ∀ n k f, v ≠ .arr n k f)
  (hL2 : L2 = setH (L ++ [.own ty (.arr 0 k f) false]) i (.own t v' ex)) (h : WF ro n P c w0 M E n0 N D φ L2 Q) : WF ro n P c w0 M E n0 N D φ L Q := At.nilIn ty k f i t v v' ex hf hi hcl hst hbn hn hv hL2 h
def NilF (L : List HB) (φ : Fr) : Fr → Prop
 | [] => True
 | p :: l => (∃ u, look φ p.1 = some u ∧ (∀ β : Env, β 0 = (none, 0) → β L.length = (none, 0) → u.den β = p.2.den β)) ∧ NilF L φ l
theorem nilF_spec {L : List HB} {φ : Fr} : ∀ {φ2 : Fr}, NilF L φ φ2 → ∀ p ∈ φ2, ∃ u, look φ p.1 = some u ∧ (∀ β : Env, β 0 = (none, 0) → β L.length = (none, 0) → u.den β = p.2.den β)
 | [], _, p, hp => by cases hp
 | q :: l, h, p, hp => by
  rcases List.mem_cons.1 hp with rfl | hp
  ·exact h.1
  ·exact nilF_spec h.2 p hp
theorem At.nilFr {w0 : World} {M : Nat → Prop} {E : Env} {n0 N : Nat} {D : List Deferred} {φ φ2 : Fr} {L L2 : List HB} {K : Act → World → Prop} (ty k : Nat) (f : Nat → SV) (hf : ∀ (h : HM) (q : Nat), Stable h (f q))
  (hL2 : L2 = L ++ [.own ty (.arr 0 k f) false]) (hφ : NilF L φ φ2) (hst : StableF (hp L2) φ2) (h : At w0 M E n0 N D φ2 L2 K) : At w0 M E n0 N D φ L K := fun a w hS => by
 subst hL2
 obtain ⟨⟨β, hE, R, F⟩, hbn, hsz, hd⟩ := hS
 have hm : hp L L.length = .dead := xc_ (Nat.le_refl _)
 have R1 := nothing R (e := ty) (k := k) (g := f) hm (fun q => hf _ q)
 have hag : ∀ i, (hp L i).born = true → β i = setE β L.length (none, 0) i := ye_ hm
 have hborn : ∀ i, (hp L i).born = true → (upd (hp L) L.length (.own ty (.arr 0 k f) false) i).born = true := fun i hi => by
  unfold Vm.upd; split
  ·rfl
  ·exact hi
 refine h a w ⟨⟨setE β L.length (none, 0), fun i hi => (hag i (hbn i hi)).symm.trans (hE i hi), by rw [hp_append1]; exact R1, fun u v hu => ?_⟩, fun i hi => by rw [hp_append1]; exact hborn i (hbn i hi), hsz, hd⟩
 have hmem := look_mem hu
 obtain ⟨x, hx, hden⟩ := nilF_spec hφ _ hmem
 obtain ⟨k1, k2⟩ := F u x hx
 refine ⟨stableF_spec hst _ hmem, ?_⟩
 rw [k2, k1.den hag]
 exact hden _ R1.nil (z7_ _ _ _)
theorem WF.nilFr {P : Program} {w0 : World} {M : Nat → Prop} {E : Env} {n0 N n : Nat} {D : List Deferred} {φ φ2 : Fr} {L L2 : List HB} {c : Code} {ro : Option Nat} {Q : Exit → Act → World → Prop} (ty k : Nat) (f : Nat → SV) (hf : ∀ (h : HM) (q : Nat), Stable h (f q))
  (hL2 : L2 = L ++ [.own ty (.arr 0 k f) false]) (hφ : NilF L φ φ2) (hst : StableF (hp L2) φ2) (h : WF ro n P c w0 M E n0 N D φ2 L2 Q) : WF ro n P c w0 M E n0 N D φ L Q := At.nilFr ty k f hf hL2 hφ hst h
end Go.Proofs.YtjliakjbdcplcaaGreat.Vm
end
section
namespace Go.Proofs.YtjliakjbdcplcaaGreat.Vm
open Go.RowKit
def PickF (σ : Nat → Nat) (φ : Fr) : Fr → Prop
 | [] => True
 | p :: l => (∃ u, look φ p.1 = some u ∧ ∀ β, u.den β = (p.2.ren σ).den β) ∧ PickF σ φ l
theorem pickF_spec {σ : Nat → Nat} {φ : Fr} : ∀ {φ2 : Fr}, PickF σ φ φ2 → ∀ p ∈ φ2, ∃ u, look φ p.1 = some u ∧ ∀ β, u.den β = (p.2.ren σ).den β
 | [], _, p, hp => by cases hp
 | q :: l, h, p, hp => by
  rcases List.mem_cons.1 hp with rfl | hp
  ·exact h.1
  ·exact pickF_spec h.2 p hp
section
variable {w0 : World} {M : Nat → Prop} {E : Env} {n0 N : Nat} {D : List Deferred} {φ φ2 : Fr} {L L2 : List HB}
theorem St.pick {a : Act} {w : World} (l : List Nat) (h : St w0 M E n0 N D φ L a w) (h00 : l.getD 0 0 = 0) (hz : hp L2 0 = .gone) (hid : idTo n0 l = true) (hpk : PickL (sg l) (hp L) L2 l) (hinj : injL L2 l [] = true) (hs : xe_ (hp L2) L2) (hφ : PickF (sg l) φ φ2) (hf : StableF (hp L2) φ2) (hb : bornTo n0 L2 = true) : St w0 M E n0 N D φ2 L2 a w := by
 obtain ⟨⟨β, hE, R, F⟩, _, h3, h4⟩ := h
 refine ⟨⟨fun i => β (sg l i), fun i hi => ?_, R.pick h00 hz hpk hinj hs, fun t v hv => ?_⟩, fun i hi => ?_, h3, h4⟩
 ·exact d24_
 ·have hm := look_mem hv
  obtain ⟨u, h1, h2⟩ := pickF_spec hφ _ hm
  have hst := stableF_spec hf _ hm
  refine ⟨hst, ?_⟩
  rw [(F t u h1).2, h2]
  exact den_ren (h := hp L2) (fun _ _ => rfl) hst
 ·simp only [bornTo, List.all_eq_true] at hb
  exact hb i (List.mem_range.2 hi)
theorem At.nextPick {α : Type} {p : α → Prop} {φi : α → Fr} {Li : α → List HB} (l : List Nat) (y : α) (hy : p y) (h00 : l.getD 0 0 = 0) (hz : hp (Li y) 0 = .gone) (hid : idTo n0 l = true) (hpk : PickL (sg l) (hp L) (Li y) l) (hinj : injL (Li y) l [] = true) (hs : xe_ (hp (Li y)) (Li y)) (hφ : PickF (sg l) φ (φi y)) (hf : StableF (hp (Li y)) (φi y)) (hb : bornTo n0 (Li y) = true) : At w0 M E n0 N D φ L (fun a w => ∃ y, p y ∧ St w0 M E n0 N D (φi y) (Li y) a w) :=
 fun a w hS => ⟨y, hy, hS.pick l h00 hz hid hpk hinj hs hφ hf hb⟩
theorem At.pick {K : Act → World → Prop} (l : List Nat) (h00 : l.getD 0 0 = 0) (hz : hp L2 0 = .gone) (hid : idTo n0 l = true) (hpk : PickL (sg l) (hp L) L2 l) (hinj : injL L2 l [] = true) (hs : xe_ (hp L2) L2) (hφ : PickF (sg l) φ φ2) (hf : StableF (hp L2) φ2) (hb : bornTo n0 L2 = true) (h : At w0 M E n0 N D φ2 L2 K) : At w0 M E n0 N D φ L K :=
 fun a w hS => h a w (hS.pick l h00 hz hid hpk hinj hs hφ hf hb)
end
end Go.Proofs.YtjliakjbdcplcaaGreat.Vm
end
section
namespace Go.Proofs.YtjliakjbdcplcaaGreat.Vm
open Go.RowKit
def bO (l : List Int) : HB := .own 3 (.arr l.length 1 (i64S l)) false
theorem nilB_cl {β : Env} {x : Nat} (h0 : β 0 = (none, 0)) (hx : β x = (none, 0)) (k : Nat) : (SV.sl x x [] k 0 0 none).den β = (SV.sl 0 0 [] 0 0 0 (some 0)).den β := by
 simp [SV.den, h0, hx]
theorem less_apB {t n : Nat} {σ : Nat → Nat} (S : List Int) (x : Int) {U : List Int} (hn : S.length = n) (hU : S ++ [x] = U) {g : Nat → SV} {xv z : SV} (hg : g = fun q => SV.ite (decide (q < n)) (i64S S q) ([xv].getD (q - n) z)) (hx : ∀ β, xv.cl β = [.int .i64 x]) :
  Less (.own t (.arr (n + 1) 1 g) false) ((HB.own t (.arr (n + 1) 1 (i64S U)) false).ren σ) := by
 subst hU
 have e : (HB.own t (.arr (n + 1) 1 (i64S (S ++ [x]))) false).ren σ = .own t (.arr (n + 1) 1 (i64S (S ++ [x]))) false := rfl
 rw [e]
 refine .val (fun β => arrCl fun q hq => ?_) (fun n1 k1 f1 e => by injection e with e1 e2 e3; subst e1 e2; exact ⟨_, rfl⟩) (fun n1 k1 f1 e => by injection e with e1 e2 e3; subst e1 e2; exact ⟨_, rfl⟩)
 subst hg hn
 dsimp only
 rw [xf_]
 by_cases h : q < S.length
 ·simp only [h, decide_true, cond_true]
  unfold i64S
  rw [List.getD_eq_getElem?_getD, List.getD_eq_getElem?_getD, List.getElem?_append_left h]
 ·have hq' : q = S.length := by omega
  subst hq'
  simp only [h, decide_false, cond_false, Nat.sub_self, List.getD_cons_zero, hx]
  unfold i64S
  rw [List.getD_eq_getElem?_getD, List.getElem?_append_right (Nat.le_refl _), Nat.sub_self]; rfl
theorem take_snB {l : List Int} {k : Nat} (hk : k < l.length) : l.take k ++ [l.getD k 0] = l.take (k + 1) :=  d3_
theorem i64S_st (l : List Int) (h : HM) (q : Nat) : Stable h (i64S l q) := trivial
theorem tm2 (A : Int) : A.tmod 2 = 0 ↔ A % 2 = 0 := by
 rw [← Int.dvd_iff_tmod_eq_zero, Int.dvd_iff_emod_eq_zero]
theorem td2 {A : Int} (h : A % 2 = 0) : A.tdiv 2 = A / 2 := Int.tdiv_eq_ediv_of_dvd (Int.dvd_of_emod_eq_zero h)
theorem tdB {A : Int} (h0 : -9223372036854775808 ≤ A) (h1 : A ≤ 9223372036854775807) : -9223372036854775808 ≤ A.tdiv 2 ∧ A.tdiv 2 ≤ 9223372036854775807 := by
 rcases Int.le_total 0 A with h | h
 ·rw [Int.tdiv_eq_ediv_of_nonneg h]; omega
 ·have e : A = -(-A) := by omega
  rw [e, Int.neg_tdiv, Int.tdiv_eq_ediv_of_nonneg (by omega)]; omega
theorem nat_zero_i : ((0 : Nat) : Int) = 0 := rfl
theorem nat_one_i : ((1 : Nat) : Int) = 1 := rfl
theorem half_next (a : Int) (j : Nat) : a / 2 ^ j / 2 = a / 2 ^ (j + 1) := by
 rw [Int.pow_succ, Int.ediv_ediv_of_nonneg (Int.pow_nonneg (by decide))]
structure ZB where
 j : Nat
 A : Int
theorem bits_lit (a : Int) (h0 : -9223372036854775808 ≤ a) (h1 : a ≤ 9223372036854775807) : zp_ Tryz.prog 144 [.int .i64 a] [.gone] (.sl 1 1 [] 1 0 (bl (BitVec.ofInt 64 a)).length none) [.gone, bO (bl (BitVec.ofInt 64 a))] := by
 obtain ⟨X, hX⟩ : ∃ X, BitVec.ofInt 64 a = X := ⟨_, rfl⟩
 rw [hX]
 have hlX := ya_ X
 refine ze_ (fn := Tryz.f144) 1 22 0 rfl rfl rfl rfl rfl u2_ rfl fun w0 M E hro => ?_
 repeat' (first | refine Ctl.h ?_ | ((with_reducible intro hif); first | (focus (cases hif; done)) | ((try simp only [JH] at hif); try (exfalso; omega))) | ((with_reducible first | apply J22 zs_ za_ | apply J23 fol zs_ za_ | apply J24); (·rfl); (· exact k15_); (try kernel_rfl); try exact y5_) | fail)
 refine WF.nilFr (φ2 := [(0, .int .i64 a), (3, .sl 1 1 [] 1 0 0 none), (4, .nat .i64 0)]) 3 1 (i64S []) (fun h q => i64S_st [] h q) rfl ?_ ?_ ?_
 ·refine ⟨⟨_, rfl, fun β _ _ => rfl⟩, ⟨_, rfl, fun β h0 hx => (nilB_cl h0 (show β 1 = (none, 0) from hx) 1).symm⟩, ⟨_, rfl, fun β _ _ => rfl⟩, trivial⟩
 ·simp [StableF, Stable, hp, HB.born]
 simp only [List.cons_append, List.nil_append]
 have hz : Less (.own 3 (.arr 0 1 (i64S [])) false) (.own 3 (.arr 0 1 (i64S ((bl X).take 0))) false) := .same _
 refine WF.loopAt (fun (z : ZB) => z.j ≤ 64 ∧ z.A = a / 2 ^ z.j ∧ -9223372036854775808 ≤ z.A ∧ z.A ≤ 9223372036854775807) (fun (z : ZB) => [(0, .int .i64 z.A), (3, .sl 1 1 [] 1 0 z.j none), (4, .nat .i64 z.j)]) (fun (z : ZB) => [.gone, .own 3 (.arr z.j 1 (i64S ((bl X).take z.j))) false]) (fun (z : ZB) => 64 - z.j) ⟨0, a⟩ ⟨Nat.zero_le _, by simp, h0, h1⟩ ?_ ?_ rfl ?_ ?_ rfl ?_
 ·exact k5_
 ·exact k6_
 ·exact k7_
 ·exact k7_
 rintro ⟨j, A⟩ ⟨hj, hA, b0, b1⟩
 dsimp only at hj hA b0 b1 ⊢
 by_cases hjl : j < 64
 ·have hA' : A / 2 = a / 2 ^ (j + 1) := by rw [hA]; exact half_next a j
  have hbit := bit_ofInt a hjl
  rw [hX, ← hA] at hbit
  have hTl : ((bl X).take j).length = j := by rw [List.length_take]; omega
  have hU := take_snB (l := bl X) (k := j) (by omega)
  rw [zg_ hjl, hbit] at hU
  by_cases hp : A % 2 = 0
  ·have ht : A.tmod 2 = 0 := (tm2 A).2 hp
   have e1 : bI (decide (A % 2 = 1)) = 0 := by rw [decide_eq_false (by omega)]; rfl
   rw [e1] at hU
   have hden : ∀ β, (SV.int .i64 ((A - 0).tdiv 2)).den β = (SV.int .i64 (A / 2)).den β := fun β => by rw [Int.sub_zero, td2 hp]
   repeat' (first | refine Ctl.h ?_ | ((with_reducible intro hif); first | (focus (cases hif; done)) | ((try simp only [JH] at hif); try (exfalso; omega))) | ((with_reducible first | apply J22 zs_ za_ | apply J23 fol zs_ za_ | apply J24); (·rfl); (· (simp only [push_cast, ↓JP, Nat.reduceAdd, Nat.reduceEqDiff, Nat.reduceLT, Nat.reduceMul, Nat.reduceLeDiff, reduceCtorEq, reduceIte, hjl, ht, inR, inN, nat_zero_i, List.all_cons, List.all_nil]; rfl)); (try kernel_rfl); try exact k16_) | fail)
   refine At.nextPick [0, 3] (ZB.mk (j + 1) (A / 2)) ?_ rfl rfl rfl ?_ rfl ?_ ?_ ?_ rfl
   ·exact k8_
   ·exact k9_
   ·exact k7_
   ·exact k10_
   ·exact k7_
  ·have ht : ¬ A.tmod 2 = 0 := fun h => hp ((tm2 A).1 h)
   have e1 : bI (decide (A % 2 = 1)) = 1 := by rw [decide_eq_true (by omega)]; rfl
   rw [e1] at hU
   have hden : ∀ β, (SV.int .i64 ((A - 1).tdiv 2)).den β = (SV.int .i64 (A / 2)).den β := fun β => by rw [td2 (by omega), show (A - 1) / 2 = A / 2 by omega]
   repeat' (first | refine Ctl.h ?_ | ((with_reducible intro hif); first | (focus (cases hif; done)) | ((try simp only [JH] at hif); try (exfalso; omega))) | ((with_reducible first | apply J22 zs_ za_ | apply J23 fol zs_ za_ | apply J24); (·rfl); (· (simp only [push_cast, ↓JP, Nat.reduceAdd, Nat.reduceEqDiff, Nat.reduceLT, Nat.reduceMul, Nat.reduceLeDiff, reduceCtorEq, reduceIte, hjl, ht, inR, inN, nat_one_i, List.all_cons, List.all_nil]; rfl)); (try kernel_rfl); try exact k16_) | fail)
   refine At.nextPick [0, 3] (ZB.mk (j + 1) (A / 2)) ?_ rfl rfl rfl ?_ rfl ?_ ?_ ?_ rfl
   ·exact k8_
   ·exact k9_
   ·exact k7_
   ·exact k10_
   ·exact k7_
 ·obtain rfl : j = 64 := by omega
  have hTk : (bl X).take 64 = bl X := List.take_of_length_le (by omega)
  repeat' (first | refine Ctl.h ?_ | ((with_reducible intro hif); first | (focus (cases hif; done)) | ((try simp only [JH] at hif); try (exfalso; omega))) | ((with_reducible first | apply J22 zs_ za_ | apply J23 fol zs_ za_ | apply J24); (·rfl); (· exact k17_); (try kernel_rfl); try exact y5_) | fail)
  apply At.endsPick [0, 1] za_ (fn := Tryz.f144) (rs := [.tmp 2]) Anc.refl hro (lb_ rfl) rfl
  ·exact k11_
  ·exact k12_
  ·rfl
  ·rfl
  ·rfl
  ·(repeat' (first | exact trivial | exact .inl rfl | exact .inr (.same _) | exact .inr .loose | exact .inr (.arr (by assumption)) | apply And.intro | (simp only [bO, hlX, hTk]; exact .inr (.same _))))
  ·rfl
  ·exact k7_
  ·exact zx_
  ·(intro β; rw [hlX]; rfl)
  ·exact k7_
end Go.Proofs.YtjliakjbdcplcaaGreat.Vm
end
end
