import Derived.Test.YtmljmabbopkpiaaM1
import Derived.Test.YtmljmabbopkpiaaM8
set_option linter.unusedSimpArgs false
set_option linter.unusedVariables false
set_option maxRecDepth 100000
set_option maxHeartbeats 4000000
section
open Go.Proofs.Ytmljmabbopkpiaa.Vm Go.RowKit
attribute [push_cast] runR opG gtmp gval gus opX tmpsOf tm tmO tmP restr look yy_ tab tys zs ets eqB eqBL allB numOf ieq Int.cast_ofNat_Int Int.ofNat_zero beq_true beq_false frameOf ev evL ofV opV loadV noW pushF wrsL setH allBorn allGone HB.born HB.isGone HB.val SV.plain dstOk hp nav fitsT SV.size sizeL SV.isAgg TK.size TK.agg bin binE binN binI arN arI cmpN cmpI keq kn narrow callV storeV setp fillV buildV buildSliceV makeV sliceV appendV appendFV slice3V isC1 sliceRV Option.isNone_none Option.isNone_some copyV copyPV List.isEmpty_nil y6_ evO asN ite_t ite_f ite_bool ite_int ite_nat maxV v_beq v_ble v_blt cond_true cond_false List.getElem?_cons_zero List.getElem?_cons_succ List.getD_cons_zero List.getD_cons_succ List.getD_nil List.length_cons List.length_nil List.take_succ_cons List.take_zero List.set_cons_zero List.set_cons_succ List.cons_append List.nil_append List.append_assoc List.replicate_succ List.replicate_zero Nat.zero_add Nat.add_zero decide_true decide_false Bool.true_and Bool.and_true Bool.false_and Bool.and_false Bool.true_or Bool.or_true Bool.false_or Bool.or_false beq_self_eq_true Bool.or_self Nat.lt_irrefl Nat.not_lt_zero Nat.le_refl Option.getD_some Option.getD_none BEq.rfl Bool.not_true Bool.not_false Bool.cond_true_left Bool.cond_false_right
section
namespace Go.Proofs.Ytmljmabbopkpiaa.Vm
open Go.RowKit
theorem ext_getD {α : Type} {xs ys : List α} (d : α) (hl : xs.length = ys.length) (h : ∀ q, q < xs.length → xs.getD q d = ys.getD q d) : xs = ys := by
 apply List.ext_getElem hl
 intro q h1 h2
 have := h q h1
 simpa [List.getD_eq_getElem?_getD, List.getElem?_eq_getElem h1, List.getElem?_eq_getElem h2] using this
theorem ins_ext {a b : Ins} (h1 : a.op = b.op) (h2 : a.a = b.a) (h3 : a.b = b.b) (h4 : a.c = b.c) (h5 : a.n = b.n) : a = b := by cases a; cases b; simp_all
theorem snd_ext {a b : Snd} (h1 : a.port = b.port) (h2 : a.delay = b.delay) (h3 : a.value = b.value) : a = b := by cases a; cases b; simp_all
def eqL {α : Type} [DecidableEq α] (xs ys : List α) : Bool := decide (xs = ys)
theorem eqL_true {α : Type} [DecidableEq α] {xs ys : List α} (h : xs = ys) : eqL xs ys = true := by unfold eqL; simp [h]
theorem eqL_false {α : Type} [DecidableEq α] {xs ys : List α} (h : xs ≠ ys) : eqL xs ys = false := by unfold eqL; simp [h]
theorem eqSnd_lit (xs ys : List Snd) (p1 p2 : Nat) (hx : xs.length ≤ 281474976710656) : zp_ Try.prog 52 [.sl 1 2 [] 3 0 xs.length (some p1), .sl 3 4 [] 3 0 ys.length (some p2)] [.gone, .gone, .ro (.arr xs.length 3 (zm_ xs)), .gone, .ro (.arr ys.length 3 (zm_ ys))] (.bool (eqL xs ys)) [.gone] := by
 refine zf_ (fn := Try.f52) 5 26 0 rfl rfl rfl rfl rfl u2_ rfl fun w0 M E hro => ?_
 repeat' (first | refine Ctl.h ?_ | ((with_reducible intro hif); first | (focus (cases hif; done)) | ((try simp only [JH] at hif); try (exfalso; omega))) | ((with_reducible first | apply J22 zx_ za_ | apply J23 fol zx_ za_ | apply J24); (·rfl); (· exact k16_); (try kernel_rfl); try exact xi_) | fail)
 ·have hne : xs ≠ ys := fun e => hif (by rw [e])
  apply At.endsRet za_ (fn := Try.f52) (rs := [.tmp 4]) Anc.refl hro (lb_ rfl) rfl
  ·exact k3_
  ·exact k4_
  ·exact k5_
  ·rfl
  ·exact k6_
  ·exact k7_
  ·rw [eqL_false hne]; exact fun β => rfl
  ·exact k6_
 ·refine WF.loopAt (fun j => j ≤ xs.length ∧ ∀ q, q < j → xs.getD q ⟨0, 0, 0⟩ = ys.getD q ⟨0, 0, 0⟩) (fun j => [(0, .sl 1 2 [] 3 0 xs.length (some p1)), (1, .sl 3 4 [] 3 0 ys.length (some p2)), (12, .nat .i64 xs.length), (13, .nat .i64 j)]) (fun j => [.gone, .gone, .ro (.arr xs.length 3 (zm_ xs)), .gone, .ro (.arr ys.length 3 (zm_ ys))]) (fun j => xs.length - j) 0 ⟨Nat.zero_le _, fun q hq => absurd hq (Nat.not_lt_zero q)⟩ ?_ ?_ rfl ?_ ?_ rfl ?_
  ·exact k8_
  ·exact k5_
  ·exact k6_
  ·exact k6_
  have hlen := hif
  rintro j ⟨hj, heq⟩
  repeat' (first | refine Ctl.h ?_ | ((with_reducible intro hif); first | (focus (cases hif; done)) | ((try simp only [JH] at hif); try (exfalso; omega))) | ((with_reducible first | apply J22 zx_ za_ | apply J23 fol zx_ za_ | apply J24); (·rfl); (· (simp only [push_cast, ↓JP, Nat.reduceAdd, Nat.reduceEqDiff, Nat.reduceLT, Nat.reduceMul, Nat.reduceLeDiff, reduceCtorEq, reduceIte, zm_, sndS, inN]; rfl)); (try kernel_rfl); try exact k17_) | fail)
  ·have hne : xs ≠ ys := by rintro rfl; simp at hif
   apply At.endsRet za_ (fn := Try.f52) (rs := [.tmp 4]) Anc.refl hro (lb_ rfl) rfl
   ·exact k3_
   ·exact k4_
   ·exact k5_
   ·rfl
   ·exact k6_
   ·exact k7_
   ·rw [eqL_false hne]; exact fun β => rfl
   ·exact k6_
  ·have hq : xs.getD j ⟨0, 0, 0⟩ = ys.getD j ⟨0, 0, 0⟩ := snd_ext (of_decide_eq_true hif.1) (of_decide_eq_true hif.2.1) (of_decide_eq_true hif.2.2)
   refine At.next (j + 1) ?_ ?_ ?_ rfl ?_ ?_ rfl
   ·exact k9_
   ·exact k8_
   ·exact k5_
   ·exact k6_
   ·exact k6_
  ·have hjn : j = xs.length := by omega
   subst hjn
   have he : xs = ys := ext_getD ⟨0, 0, 0⟩ hlen heq
   apply At.endsRet za_ (fn := Try.f52) (rs := [.tmp 4]) Anc.refl hro (lb_ rfl) rfl
   ·exact k3_
   ·exact k4_
   ·exact k5_
   ·rfl
   ·exact k6_
   ·exact k7_
   ·rw [eqL_true he]; exact fun β => rfl
   ·exact k6_
def sEqSnd : yp_ := fun args h m => match args with
 | [v1, v2] => match y6_ h 3 (.tup []) v1, y6_ h 3 (.tup []) v2 with
  | some (c1, n1, f1, r1), some (c2, n2, f2, r2) => some (c1 ∧ c2 ∧ (∀ q, q < n1 → isSnd (f1 q) = true) ∧ (∀ q, q < n2 → isSnd (f2 q) = true) ∧ ((ls zn_ n1 f1).length ≤ 281474976710656), .bool (eqL (ls zn_ n1 f1) (ls zn_ n2 f2)), r1 ++ r2, [])
  | _, _ => none
 | _ => none
theorem sEqSnd_ok : zj_ Try.prog 52 sEqSnd := by
 refine ⟨zi_ (by kernel_rfl), fun args h m c v rd wr hs hm hc w0 M β h' w R hrd hwr hst => ?_⟩
 unfold sEqSnd at hs
 split at hs
 ·rename_i v1 v2
  split at hs
  ·rename_i c1 n1 f1 r1 c2 n2 f2 r2 a1 a2
   simp only [Option.some.injEq, Prod.mk.injEq] at hs
   obtain ⟨rfl, rfl, rfl, rfl⟩ := hs
   obtain ⟨k1, k2, g1, g2, y1⟩ := hc
   obtain ⟨A1, p1, d1, e1, t1⟩ := zg_ R a1 k1 (fun i hi => hrd i (List.mem_append_left _ hi)) (by omega)
   obtain ⟨A2, p2, d2, e2, t2⟩ := zg_ R a2 k2 (fun i hi => hrd i (List.mem_append_right _ hi)) (by omega)
   refine yl_ (views := [⟨3, (ls zn_ n1 f1).length, zm_ (ls zn_ n1 f1), A1, p1⟩, ⟨3, (ls zn_ n2 f2).length, zm_ (ls zn_ n2 f2), A2, p2⟩]) (eqSnd_lit (ls zn_ n1 f1) (ls zn_ n2 f2) p1 p2 y1) ?_ R hm hwr ?_ ?_ ?_
   ·intro x hx
    simp only [List.mem_cons, List.not_mem_nil, or_false] at hx
    rcases hx with rfl | rfl
    ·exact y3_ t1 e1 g1
    ·exact y3_ t2 e2 g2
   ·exact d26_
   ·exact k6_
   ·exact k6_
  ·cases hs
 ·cases hs
theorem ya_ (k k' : IntKind) (n : Int) : isI k (.int k' n) = keq k k' := rfl
theorem z9_ (k k' : IntKind) (n : Nat) : isI k (.nat k' n) = keq k k' := rfl
theorem xj_ (l : List Int) : ls iOf l.length (zo_ l) = l := ls_of (g := iOf) (e := fun x => .int .i64 x) (fun _ => rfl) l 0
theorem xm_ (l : List Int) : ls iOf l.length (fun q => zo_ l q) = l := xj_ l
theorem ls_prS (l : List Ins) : ls zt_ l.length (prS l) = l := ls_of z7_ l _
theorem ls_prS' (l : List Ins) : ls zt_ l.length (fun q => prS l q) = l := ls_prS l
theorem ls_sndsS (l : List Snd) : ls zn_ l.length (zm_ l) = l := ls_of z5_ l _
theorem ls_sndsS' (l : List Snd) : ls zn_ l.length (fun q => zm_ l q) = l := ls_sndsS l
def bI (b : Bool) : Int := if b then 1 else 0
def bl (x : BitVec 64) : List Int := (List.range 64).map fun i => bI (x.getLsbD i)
theorem yb_ (x : BitVec 64) : (bl x).length = 64 := by simp [bl]
theorem zh_ {x : BitVec 64} {i : Nat} (h : i < 64) : (bl x).getD i 0 = bI (x.getLsbD i) := by simp [bl, h]
def vbN (l : List Int) : Nat → BitVec 64
 | 0 => 0
 | n + 1 => vbN l n ||| (if l.getD n 0 = 1 then BitVec.twoPow 64 n else 0#64)
theorem vbN_get (l : List Int) : ∀ n j, j < 64 → (vbN l n).getLsbD j = (decide (j < n) && decide (l.getD j 0 = 1))
 | 0, j, _ => by simp [vbN]
 | n + 1, j, hj => by
  rw [vbN, BitVec.getLsbD_or, vbN_get l n j hj]
  by_cases h : l.getD n 0 = 1
  ·rw [if_pos h, BitVec.getLsbD_twoPow]
   by_cases e : n = j
   ·subst e; simp [h, hj]
    simpa using h
   ·have : (j < n + 1) ↔ (j < n) := by omega
    simp [e, this]
  ·rw [if_neg h]
   by_cases e : n = j
   ·subst e
    have h' : decide (l.getD n 0 = 1) = false := decide_eq_false h
    simp only [h', Bool.and_false, Bool.false_or]
    simp
   ·have : (j < n + 1) ↔ (j < n) := by omega
    simp [this]
def vb (l : List Int) : BitVec 64 := vbN l 64
theorem bI_one (b : Bool) : decide (bI b = 1) = b := by cases b <;> rfl
theorem vb_bl (x : BitVec 64) : vb (bl x) = x := by
 apply BitVec.eq_of_getLsbD_eq
 intro i hi
 rw [vb, vbN_get _ _ _ hi, zh_ hi, bI_one]
 simp [hi]
theorem bl_ext {x : BitVec 64} {l : List Int} (hl : l.length = 64) (h : ∀ i, i < 64 → l.getD i 0 = bI (x.getLsbD i)) : l = bl x :=
 ext_getD 0 (by rw [hl, yb_]) fun q hq => by rw [zh_ (by omega)]; exact h q (by omega)
theorem bit_ofInt (a : Int) {j : Nat} (hj : j < 64) : (BitVec.ofInt 64 a).getLsbD j = decide (a / 2 ^ j % 2 = 1) := by
 rw [← BitVec.testBit_toNat, Nat.testBit_eq_decide_div_mod_eq, BitVec.toNat_ofInt]
 have hp : (0 : Int) < 2 ^ j := Int.pow_pos (by decide)
 have e64 : (2 : Int) ^ 64 = 2 ^ j * (2 * 2 ^ (63 - j)) := by
  rw [← Int.mul_assoc, Int.mul_comm (2 ^ j) 2, Int.mul_assoc, ← Int.pow_add, ← Int.pow_succ']
  congr 1
  omega
 have hr0 : 0 ≤ a % (2 : Int) ^ 64 := Int.emod_nonneg _ (by decide)
 have ha := Int.mul_ediv_add_emod a (2 ^ 64)
 obtain ⟨r, hr⟩ : ∃ r, a % (2 : Int) ^ 64 = r := ⟨_, rfl⟩
 obtain ⟨q, hq⟩ : ∃ q, a / (2 : Int) ^ 64 = q := ⟨_, rfl⟩
 rw [hr, hq] at ha
 rw [hr] at hr0
 have e1 : a / 2 ^ j = 2 * 2 ^ (63 - j) * q + r / 2 ^ j := by
  rw [← ha, e64, Int.mul_assoc, Int.add_comm, Int.add_mul_ediv_left _ _ (by omega), Int.add_comm]
 have e2 : a / 2 ^ j % 2 = r / 2 ^ j % 2 := by
  rw [e1, Int.mul_assoc, Int.add_comm, Int.add_mul_emod_self_left]
 have e3 : ((r.toNat / 2 ^ j % 2 : Nat) : Int) = r / 2 ^ j % 2 := by
  have : (r.toNat : Int) = r := by omega
  push_cast
  rw [this]
 rw [e2, ← e3]
 have : ((2 ^ 64 : Nat) : Int) = (2 : Int) ^ 64 := by decide
 rw [this, hr]
 simp only [decide_eq_decide]
 omega
def sumV (x y : BitVec 64) (c : Bool) : BitVec 64 := x + y + BitVec.setWidth 64 (BitVec.ofBool c)
theorem sumV_bit {x y : BitVec 64} {c : Bool} {i : Nat} (h : i < 64) : bI ((sumV x y c).getLsbD i) = (bI (x.getLsbD i) + bI (y.getLsbD i) + bI (BitVec.carry i x y c)).tmod 2 := by
 unfold sumV
 rw [BitVec.getLsbD_add_add_bool h]
 cases x.getLsbD i <;> cases y.getLsbD i <;> cases BitVec.carry i x y c <;> rfl
theorem carry_next (x y : BitVec 64) (c : Bool) (i : Nat) : bI (BitVec.carry (i + 1) x y c) = (bI (x.getLsbD i) + bI (y.getLsbD i) + bI (BitVec.carry i x y c)).tdiv 2 := by
 rw [BitVec.carry_succ]
 cases x.getLsbD i <;> cases y.getLsbD i <;> cases BitVec.carry i x y c <;> rfl
theorem carry_zero1 (x y : BitVec 64) (c : Bool) : BitVec.carry 0 x y c = c := BitVec.carry_zero
theorem zz_ (b : Bool) : 0 ≤ bI b ∧ bI b ≤ 1 := by cases b <;> decide
theorem arrCl {β : Env} {n k : Nat} {f g : Nat → SV} (h : ∀ q, q < n → (f q).cl β = (g q).cl β) : (SV.arr n k f).cl β = (SV.arr n k g).cl β := by
 have e : (List.range n).flatMap (fun i => fit k (((f i).den β).cells.toList.map sane)) = (List.range n).flatMap (fun i => fit k (((g i).den β).cells.toList.map sane)) := by
  rw [List.flatMap_def, List.flatMap_def]
  exact congrArg List.flatten (List.map_congr_left fun q hq => congrArg (fit k) (h q (List.mem_range.1 hq)))
 simp only [SV.cl, SV.den, e]
theorem Rep.reval {w0 w : World} {M : Nat → Prop} {β : Env} {h : HM} (R : Rep w0 M β h w) {i : Nat} {t : TypeId} {v v' : SV} {ex : Bool} (hi : h i = .own t v ex) (hcl : v'.cl β = v.cl β) (hst : zb_ h v') (hn : ∀ n k f, v' ≠ .arr n k f) (hv : ∀ n k f, v ≠ .arr n k f) :
  Rep w0 M β (upd h i (.own t v' ex)) w := by
 have mine : ∀ j, (upd h i (.own t v' ex) j).mine = true → (h j).mine = true := fun j hj => by
  by_cases e : j = i
  ·subst e; rw [hi]; rfl
  ·rwa [z8_ e] at hj
 have born : ∀ j, (h j).born = true → (upd h i (.own t v' ex) j).born = true := fun j hj => by
  by_cases e : j = i
  ·subst e; rw [zr_]; rfl
  ·rwa [z8_ e]
 have i0 : (0 : Nat) ≠ i := fun e => by
  rw [← e, R.nil0] at hi; cases hi
 refine { os := R.os, tape := R.tape, output := R.output, size := R.size, frame := R.frame, nil := R.nil, nil0 := ?_, st := ?_, blk := ?_, own := fun j a hj ha => R.own j a (mine j hj) ha, ro := ?_, dist := fun a b x y hab ha hb hx hy => R.dist a b x y hab (mine a ha) (mine b hb) hx hy, lt := fun j a hj ha => R.lt j a (mine j hj) ha }
 ·rw [z8_ i0]; exact R.nil0
 ·intro j
  by_cases e : j = i
  ·subst e; rw [zr_]; exact hst.more born
  ·rw [z8_ e]; exact HB.stable_more (R.st j) born
 ·intro j
  by_cases e : j = i
  ·subst e
   rw [zr_]
   have := R.blk j
   rw [hi] at this
   rcases this with ⟨g, pr0, cs, h1, h2, ⟨tl, h3, h4⟩, h5⟩ | ⟨h1, h2, k, f, h3⟩
   ·exact .inl ⟨g, pr0, cs, h1, h2, ⟨tl, by rw [hcl]; exact h3, h4⟩, fun n k f e => absurd e (hn n k f)⟩
   ·exact absurd h3 (hv _ _ _)
  ·rw [z8_ e]; exact R.blk j
 ·intro j u a hj
  by_cases e : j = i
  ·subst e; rw [zr_] at hj; cases hj
  ·rw [z8_ e] at hj; exact R.ro j u a hj
theorem At.nilIn {w0 : World} {M : Nat → Prop} {E : Env} {n0 N : Nat} {D : List Deferred} {φ : Fr} {L L2 : List HB} {K : Act → World → Prop} (ty k : Nat) (f : Nat → SV) (i t : Nat) (v v' : SV) (ex : Bool) (hf : ∀ (h : HM) (q : Nat), zb_ h (f q))
  (hi : hp L i = .own t v ex) (hcl : ∀ β : Env, β 0 = (none, 0) → β L.length = (none, 0) → v'.cl β = v.cl β) (hst : ∀ h : HM, (∀ j, j ≤ L.length → (h j).born = true) → zb_ h v') (hbn : bornTo L.length L = true) (hn : ∀ n k f, v' ≠ .arr n k f) (hv : ∀ n k f, v ≠ .arr n k f)
  (hL2 : L2 = setH (L ++ [.own ty (.arr 0 k f) false]) i (.own t v' ex)) (h : At w0 M E n0 N D φ L2 K) : At w0 M E n0 N D φ L K := fun a w hS => by
 obtain ⟨⟨β, hE, R, F⟩, hbn', hsz, hd⟩ := hS
 have hm : hp L L.length = .dead := y1_ (Nat.le_refl _)
 have R1 := nothing R (e := ty) (k := k) (g := f) hm (fun q => hf _ q)
 have hag : ∀ i, (hp L i).born = true → β i = setE β L.length (none, 0) i := ye_ hm
 have hborn : ∀ i, (hp L i).born = true → (upd (hp L) L.length (.own ty (.arr 0 k f) false) i).born = true := fun i hi => by
  unfold Vm.upd; split
  ·rfl
  ·exact hi
 have hlt : i < L.length := by
  rcases Nat.lt_or_ge i L.length with h | h
  ·exact h
  ·rw [y1_ h] at hi; cases hi
 have hi1 : upd (hp L) L.length (.own ty (.arr 0 k f) false) i = .own t v ex := by rw [z8_ (by omega)]; exact hi
 have ball : ∀ j, j ≤ L.length → (upd (hp L) L.length (.own ty (.arr 0 k f) false) j).born = true := fun j hj => by
  by_cases e : j = L.length
  ·subst e; rw [zr_]; rfl
  ·rw [z8_ e]
   simp only [bornTo, List.all_eq_true] at hbn
   exact hbn j (List.mem_range.2 (by omega))
 have R2 := R1.reval hi1 (hcl _ R1.nil (z0_ _ _ _)) (hst _ ball) hn hv
 have e2 : hp L2 = upd (upd (hp L) L.length (.own ty (.arr 0 k f) false)) i (.own t v' ex) := by
  rw [hL2, hp_setH, hp_append1]
 have hborn2 : ∀ j, (upd (hp L) L.length (.own ty (.arr 0 k f) false) j).born = true → (hp L2 j).born = true := fun j hj => by
  rw [e2]
  by_cases e : j = i
  ·subst e; rw [zr_]; rfl
  ·rwa [z8_ e]
 refine h a w ⟨⟨setE β L.length (none, 0), fun j hj => (hag j (hbn' j hj)).symm.trans (hE j hj), by rw [e2]; exact R2, fun u v hu => ?_⟩, fun j hj => hborn2 j (hborn j (hbn' j hj)), hsz, hd⟩
 obtain ⟨k1, k2⟩ := F u v hu
 exact ⟨(k1.more hborn).more hborn2, by rw [k2]; exact k1.den hag⟩
theorem WF.nilIn {P : Program} {w0 : World} {M : Nat → Prop} {E : Env} {n0 N n : Nat} {D : List Deferred} {φ : Fr} {L L2 : List HB} {c : Code} {ro : Option Nat} {Q : Exit → Act → World → Prop} (ty k : Nat) (f : Nat → SV) (i t : Nat) (v v' : SV) (ex : Bool) (hf : ∀ (h : HM) (q : Nat), zb_ h (f q))
  (hi : hp L i = .own t v ex) (hcl : ∀ β : Env, β 0 = (none, 0) → β L.length = (none, 0) → v'.cl β = v.cl β) (hst : ∀ h : HM, (∀ j, j ≤ L.length → (h j).born = true) → zb_ h v') (hbn : bornTo L.length L = true) (hn : ∀ n k f, v' ≠ .arr n k f) (hv : ∀ n k f, v ≠ .arr n k f)
  (hL2 : L2 = setH (L ++ [.own ty (.arr 0 k f) false]) i (.own t v' ex)) (h : WF ro n P c w0 M E n0 N D φ L2 Q) : WF ro n P c w0 M E n0 N D φ L Q := At.nilIn ty k f i t v v' ex hf hi hcl hst hbn hn hv hL2 h
def NilF (L : List HB) (φ : Fr) : Fr → Prop
 | [] => True
 | p :: l => (∃ u, look φ p.1 = some u ∧ (∀ β : Env, β 0 = (none, 0) → β L.length = (none, 0) → u.den β = p.2.den β)) ∧ NilF L φ l
theorem nilF_spec {L : List HB} {φ : Fr} : ∀ {φ2 : Fr}, NilF L φ φ2 → ∀ p ∈ φ2, ∃ u, look φ p.1 = some u ∧ (∀ β : Env, β 0 = (none, 0) → β L.length = (none, 0) → u.den β = p.2.den β)
 | [], _, p, hp => by cases hp
 | q :: l, h, p, hp => by
  rcases List.mem_cons.1 hp with rfl | hp
  ·exact h.1
  ·exact nilF_spec h.2 p hp
theorem At.nilFr {w0 : World} {M : Nat → Prop} {E : Env} {n0 N : Nat} {D : List Deferred} {φ φ2 : Fr} {L L2 : List HB} {K : Act → World → Prop} (ty k : Nat) (f : Nat → SV) (hf : ∀ (h : HM) (q : Nat), zb_ h (f q))
  (hL2 : L2 = L ++ [.own ty (.arr 0 k f) false]) (hφ : NilF L φ φ2) (hst : StableF (hp L2) φ2) (h : At w0 M E n0 N D φ2 L2 K) : At w0 M E n0 N D φ L K := fun a w hS => by
 subst hL2
 obtain ⟨⟨β, hE, R, F⟩, hbn, hsz, hd⟩ := hS
 have hm : hp L L.length = .dead := y1_ (Nat.le_refl _)
 have R1 := nothing R (e := ty) (k := k) (g := f) hm (fun q => hf _ q)
 have hag : ∀ i, (hp L i).born = true → β i = setE β L.length (none, 0) i := ye_ hm
 have hborn : ∀ i, (hp L i).born = true → (upd (hp L) L.length (.own ty (.arr 0 k f) false) i).born = true := fun i hi => by
  unfold Vm.upd; split
  ·rfl
  ·exact hi
 refine h a w ⟨⟨setE β L.length (none, 0), fun i hi => (hag i (hbn i hi)).symm.trans (hE i hi), by rw [hp_append1]; exact R1, fun u v hu => ?_⟩, fun i hi => by rw [hp_append1]; exact hborn i (hbn i hi), hsz, hd⟩
 have hmem := look_mem hu
 obtain ⟨x, hx, hden⟩ := nilF_spec hφ _ hmem
 obtain ⟨k1, k2⟩ := F u x hx
 refine ⟨stableF_spec hst _ hmem, ?_⟩
 rw [k2, k1.den hag]
 exact hden _ R1.nil (z0_ _ _ _)
theorem WF.nilFr {P : Program} {w0 : World} {M : Nat → Prop} {E : Env} {n0 N n : Nat} {D : List Deferred} {φ φ2 : Fr} {L L2 : List HB} {c : Code} {ro : Option Nat} {Q : Exit → Act → World → Prop} (ty k : Nat) (f : Nat → SV) (hf : ∀ (h : HM) (q : Nat), zb_ h (f q))
  (hL2 : L2 = L ++ [.own ty (.arr 0 k f) false]) (hφ : NilF L φ φ2) (hst : StableF (hp L2) φ2) (h : WF ro n P c w0 M E n0 N D φ2 L2 Q) : WF ro n P c w0 M E n0 N D φ L Q := At.nilFr ty k f hf hL2 hφ hst h
end Go.Proofs.Ytmljmabbopkpiaa.Vm
end
section
namespace Go.Proofs.Ytmljmabbopkpiaa.Vm
open Go.RowKit
def PickF (σ : Nat → Nat) (φ : Fr) : Fr → Prop
 | [] => True
 | p :: l => (∃ u, look φ p.1 = some u ∧ ∀ β, u.den β = (p.2.ren σ).den β) ∧ PickF σ φ l
theorem pickF_spec {σ : Nat → Nat} {φ : Fr} : ∀ {φ2 : Fr}, PickF σ φ φ2 → ∀ p ∈ φ2, ∃ u, look φ p.1 = some u ∧ ∀ β, u.den β = (p.2.ren σ).den β
 | [], _, p, hp => by cases hp
 | q :: l, h, p, hp => by
  rcases List.mem_cons.1 hp with rfl | hp
  ·exact h.1
  ·exact pickF_spec h.2 p hp
section
variable {w0 : World} {M : Nat → Prop} {E : Env} {n0 N : Nat} {D : List Deferred} {φ φ2 : Fr} {L L2 : List HB}
theorem St.pick {a : Act} {w : World} (l : List Nat) (h : St w0 M E n0 N D φ L a w) (h00 : l.getD 0 0 = 0) (hz : hp L2 0 = .gone) (hid : idTo n0 l = true) (hpk : PickL (sg l) (hp L) L2 l) (hinj : injL L2 l [] = true) (hs : y5_ (hp L2) L2) (hφ : PickF (sg l) φ φ2) (hf : StableF (hp L2) φ2) (hb : bornTo n0 L2 = true) : St w0 M E n0 N D φ2 L2 a w := by
 obtain ⟨⟨β, hE, R, F⟩, _, h3, h4⟩ := h
 refine ⟨⟨fun i => β (sg l i), fun i hi => ?_, R.pick h00 hz hpk hinj hs, fun t v hv => ?_⟩, fun i hi => ?_, h3, h4⟩
 ·exact d25_
 ·have hm := look_mem hv
  obtain ⟨u, h1, h2⟩ := pickF_spec hφ _ hm
  have hst := stableF_spec hf _ hm
  refine ⟨hst, ?_⟩
  rw [(F t u h1).2, h2]
  exact den_ren (h := hp L2) (fun _ _ => rfl) hst
 ·simp only [bornTo, List.all_eq_true] at hb
  exact hb i (List.mem_range.2 hi)
theorem At.nextPick {α : Type} {p : α → Prop} {φi : α → Fr} {Li : α → List HB} (l : List Nat) (y : α) (hy : p y) (h00 : l.getD 0 0 = 0) (hz : hp (Li y) 0 = .gone) (hid : idTo n0 l = true) (hpk : PickL (sg l) (hp L) (Li y) l) (hinj : injL (Li y) l [] = true) (hs : y5_ (hp (Li y)) (Li y)) (hφ : PickF (sg l) φ (φi y)) (hf : StableF (hp (Li y)) (φi y)) (hb : bornTo n0 (Li y) = true) : At w0 M E n0 N D φ L (fun a w => ∃ y, p y ∧ St w0 M E n0 N D (φi y) (Li y) a w) :=
 fun a w hS => ⟨y, hy, hS.pick l h00 hz hid hpk hinj hs hφ hf hb⟩
theorem At.pick {K : Act → World → Prop} (l : List Nat) (h00 : l.getD 0 0 = 0) (hz : hp L2 0 = .gone) (hid : idTo n0 l = true) (hpk : PickL (sg l) (hp L) L2 l) (hinj : injL L2 l [] = true) (hs : y5_ (hp L2) L2) (hφ : PickF (sg l) φ φ2) (hf : StableF (hp L2) φ2) (hb : bornTo n0 L2 = true) (h : At w0 M E n0 N D φ2 L2 K) : At w0 M E n0 N D φ L K :=
 fun a w hS => h a w (hS.pick l h00 hz hid hpk hinj hs hφ hf hb)
end
end Go.Proofs.Ytmljmabbopkpiaa.Vm
end
section
namespace Go.Proofs.Ytmljmabbopkpiaa.Vm
open Go.RowKit
def bO (l : List Int) : HB := .own 3 (.arr l.length 1 (zo_ l)) false
theorem nilB_cl {β : Env} {x : Nat} (h0 : β 0 = (none, 0)) (hx : β x = (none, 0)) (k : Nat) : (SV.sl x x [] k 0 0 none).den β = (SV.sl 0 0 [] 0 0 0 (some 0)).den β := by
 simp [SV.den, h0, hx]
theorem less_apB {t n : Nat} {σ : Nat → Nat} (S : List Int) (x : Int) {U : List Int} (hn : S.length = n) (hU : S ++ [x] = U) {g : Nat → SV} {xv z : SV} (hg : g = fun q => SV.ite (decide (q < n)) (zo_ S q) ([xv].getD (q - n) z)) (hx : ∀ β, xv.cl β = [.int .i64 x]) :
  Less (.own t (.arr (n + 1) 1 g) false) ((HB.own t (.arr (n + 1) 1 (zo_ U)) false).ren σ) := by
 subst hU
 have e : (HB.own t (.arr (n + 1) 1 (zo_ (S ++ [x]))) false).ren σ = .own t (.arr (n + 1) 1 (zo_ (S ++ [x]))) false := rfl
 rw [e]
 refine .val (fun β => arrCl fun q hq => ?_) (fun n1 k1 f1 e => by injection e with e1 e2 e3; subst e1 e2; exact ⟨_, rfl⟩) (fun n1 k1 f1 e => by injection e with e1 e2 e3; subst e1 e2; exact ⟨_, rfl⟩)
 subst hg hn
 dsimp only
 rw [ite_eq]
 by_cases h : q < S.length
 ·simp only [h, decide_true, cond_true]
  unfold zo_
  rw [List.getD_eq_getElem?_getD, List.getD_eq_getElem?_getD, List.getElem?_append_left h]
 ·have hq' : q = S.length := by omega
  subst hq'
  simp only [h, decide_false, cond_false, Nat.sub_self, List.getD_cons_zero, hx]
  unfold zo_
  rw [List.getD_eq_getElem?_getD, List.getElem?_append_right (Nat.le_refl _), Nat.sub_self]; rfl
theorem take_snB {l : List Int} {k : Nat} (hk : k < l.length) : l.take k ++ [l.getD k 0] = l.take (k + 1) :=  d1_
theorem i64S_st (l : List Int) (h : HM) (q : Nat) : zb_ h (zo_ l q) := trivial
theorem tm2 (A : Int) : A.tmod 2 = 0 ↔ A % 2 = 0 := by
 rw [← Int.dvd_iff_tmod_eq_zero, Int.dvd_iff_emod_eq_zero]
theorem td2 {A : Int} (h : A % 2 = 0) : A.tdiv 2 = A / 2 := Int.tdiv_eq_ediv_of_dvd (Int.dvd_of_emod_eq_zero h)
theorem tdB {A : Int} (h0 : -9223372036854775808 ≤ A) (h1 : A ≤ 9223372036854775807) : -9223372036854775808 ≤ A.tdiv 2 ∧ A.tdiv 2 ≤ 9223372036854775807 := by
 rcases Int.le_total 0 A with h | h
 ·rw [Int.tdiv_eq_ediv_of_nonneg h]; omega
 ·have e : A = -(-A) := by omega
  rw [e, Int.neg_tdiv, Int.tdiv_eq_ediv_of_nonneg (by omega)]; omega
theorem nat_zero_i : ((0 : Nat) : Int) = 0 := rfl
theorem nat_one_i : ((1 : Nat) : Int) = 1 := rfl
theorem half_next (a : Int) (j : Nat) : a / 2 ^ j / 2 = a / 2 ^ (j + 1) := by
 rw [Int.pow_succ, Int.ediv_ediv_of_nonneg (Int.pow_nonneg (by decide))]
structure ZB where
 j : Nat
 A : Int
theorem bits_lit (a : Int) (h0 : -9223372036854775808 ≤ a) (h1 : a ≤ 9223372036854775807) : zp_ Try.prog 153 [.int .i64 a] [.gone] (.sl 1 1 [] 1 0 (bl (BitVec.ofInt 64 a)).length none) [.gone, bO (bl (BitVec.ofInt 64 a))] := by
 obtain ⟨X, hX⟩ : ∃ X, BitVec.ofInt 64 a = X := ⟨_, rfl⟩
 rw [hX]
 have hlX := yb_ X
 refine zf_ (fn := Try.f153) 1 22 0 rfl rfl rfl rfl rfl u3_ rfl fun w0 M E hro => ?_
 repeat' (first | refine Ctl.h ?_ | ((with_reducible intro hif); first | (focus (cases hif; done)) | ((try simp only [JH] at hif); try (exfalso; omega))) | ((with_reducible first | apply J22 zx_ za_ | apply J23 fol zx_ za_ | apply J24); (·rfl); (· exact k16_); (try kernel_rfl); try exact xi_) | fail)
 refine WF.nilFr (φ2 := [(0, .int .i64 a), (3, .sl 1 1 [] 1 0 0 none), (4, .nat .i64 0)]) 3 1 (zo_ []) (fun h q => i64S_st [] h q) rfl ?_ ?_ ?_
 ·refine ⟨⟨_, rfl, fun β _ _ => rfl⟩, ⟨_, rfl, fun β h0 hx => (nilB_cl h0 (show β 1 = (none, 0) from hx) 1).symm⟩, ⟨_, rfl, fun β _ _ => rfl⟩, trivial⟩
 ·simp [StableF, zb_, hp, HB.born]
 simp only [List.cons_append, List.nil_append]
 have hz : Less (.own 3 (.arr 0 1 (zo_ [])) false) (.own 3 (.arr 0 1 (zo_ ((bl X).take 0))) false) := .same _
 refine WF.loopAt (fun (z : ZB) => z.j ≤ 64 ∧ z.A = a / 2 ^ z.j ∧ -9223372036854775808 ≤ z.A ∧ z.A ≤ 9223372036854775807) (fun (z : ZB) => [(0, .int .i64 z.A), (3, .sl 1 1 [] 1 0 z.j none), (4, .nat .i64 z.j)]) (fun (z : ZB) => [.gone, .own 3 (.arr z.j 1 (zo_ ((bl X).take z.j))) false]) (fun (z : ZB) => 64 - z.j) ⟨0, a⟩ ⟨Nat.zero_le _, by simp, h0, h1⟩ ?_ ?_ rfl ?_ ?_ rfl ?_
 ·exact k8_
 ·exact k5_
 ·exact yh_
 ·exact yh_
 rintro ⟨j, A⟩ ⟨hj, hA, b0, b1⟩
 dsimp only at hj hA b0 b1 ⊢
 by_cases hjl : j < 64
 ·have hA' : A / 2 = a / 2 ^ (j + 1) := by rw [hA]; exact half_next a j
  have hbit := bit_ofInt a hjl
  rw [hX, ← hA] at hbit
  have hTl : ((bl X).take j).length = j := by rw [List.length_take]; omega
  have hU := take_snB (l := bl X) (k := j) (by omega)
  rw [zh_ hjl, hbit] at hU
  by_cases hp : A % 2 = 0
  ·have ht : A.tmod 2 = 0 := (tm2 A).2 hp
   have e1 : bI (decide (A % 2 = 1)) = 0 := by rw [decide_eq_false (by omega)]; rfl
   rw [e1] at hU
   have hden : ∀ β, (SV.int .i64 ((A - 0).tdiv 2)).den β = (SV.int .i64 (A / 2)).den β := fun β => by rw [Int.sub_zero, td2 hp]
   repeat' (first | refine Ctl.h ?_ | ((with_reducible intro hif); first | (focus (cases hif; done)) | ((try simp only [JH] at hif); try (exfalso; omega))) | ((with_reducible first | apply J22 zx_ za_ | apply J23 fol zx_ za_ | apply J24); (·rfl); (· (simp only [push_cast, ↓JP, Nat.reduceAdd, Nat.reduceEqDiff, Nat.reduceLT, Nat.reduceMul, Nat.reduceLeDiff, reduceCtorEq, reduceIte, hjl, ht, inR, inN, nat_zero_i, List.all_cons, List.all_nil]; rfl)); (try kernel_rfl); try exact k18_) | fail)
   refine At.nextPick [0, 3] (ZB.mk (j + 1) (A / 2)) ?_ rfl rfl rfl ?_ rfl ?_ ?_ ?_ rfl
   ·exact k11_
   ·exact k12_
   ·exact yh_
   ·exact k13_
   ·exact yh_
  ·have ht : ¬ A.tmod 2 = 0 := fun h => hp ((tm2 A).1 h)
   have e1 : bI (decide (A % 2 = 1)) = 1 := by rw [decide_eq_true (by omega)]; rfl
   rw [e1] at hU
   have hden : ∀ β, (SV.int .i64 ((A - 1).tdiv 2)).den β = (SV.int .i64 (A / 2)).den β := fun β => by rw [td2 (by omega), show (A - 1) / 2 = A / 2 by omega]
   repeat' (first | refine Ctl.h ?_ | ((with_reducible intro hif); first | (focus (cases hif; done)) | ((try simp only [JH] at hif); try (exfalso; omega))) | ((with_reducible first | apply J22 zx_ za_ | apply J23 fol zx_ za_ | apply J24); (·rfl); (· (simp only [push_cast, ↓JP, Nat.reduceAdd, Nat.reduceEqDiff, Nat.reduceLT, Nat.reduceMul, Nat.reduceLeDiff, reduceCtorEq, reduceIte, hjl, ht, inR, inN, nat_one_i, List.all_cons, List.all_nil]; rfl)); (try kernel_rfl); try exact k18_) | fail)
   refine At.nextPick [0, 3] (ZB.mk (j + 1) (A / 2)) ?_ rfl rfl rfl ?_ rfl ?_ ?_ ?_ rfl
   ·exact k11_
   ·exact k12_
   ·exact yh_
   ·exact k13_
   ·exact yh_
 ·obtain rfl : j = 64 := by omega
  have hTk : (bl X).take 64 = bl X := List.take_of_length_le (by omega)
  repeat' (first | refine Ctl.h ?_ | ((with_reducible intro hif); first | (focus (cases hif; done)) | ((try simp only [JH] at hif); try (exfalso; omega))) | ((with_reducible first | apply J22 zx_ za_ | apply J23 fol zx_ za_ | apply J24); (·rfl); (· exact k19_); (try kernel_rfl); try exact xi_) | fail)
  apply At.endsPick [0, 1] za_ (fn := Try.f153) (rs := [.tmp 2]) Anc.refl hro (lb_ rfl) rfl
  ·exact k3_
  ·exact k14_
  ·rfl
  ·rfl
  ·rfl
  ·(repeat' (first | exact trivial | exact .inl rfl | exact .inr (.same _) | exact .inr .loose | exact .inr (.arr (by assumption)) | apply And.intro | (simp only [bO, hlX, hTk]; exact .inr (.same _))))
  ·rfl
  ·exact yh_
  ·exact k7_
  ·(intro β; rw [hlX]; rfl)
  ·exact yh_
end Go.Proofs.Ytmljmabbopkpiaa.Vm
end
end
