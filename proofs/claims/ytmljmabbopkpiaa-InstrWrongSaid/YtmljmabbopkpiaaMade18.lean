/- fermatalaw18.Made: a right state of numbers. -/
import Derived.Test.YtmljmabbopkpiaaAw3
import Derived.Test.YtmljmabbopkpiaaSend
import Derived.Test.YtmljmabbopkpiaaCopied
import Derived.IntWalk
namespace Go.Proofs.Ytmljmabbopkpiaa
open Go.RowKit
set_option linter.unusedVariables false
set_option linter.unusedSimpArgs false

structure Sm where
  at_ : Int
  regs : Nat → Int
  cells : List Int
  draws : Int
  sends : Int
def Sm.cs (x : Sm) (C : Value) : Array Value := #[.int .u8 x.at_, .int .i64 (x.regs 0), .int .i64 (x.regs 1), .int .i64 (x.regs 2), .int .i64 (x.regs 3), .int .i64 (x.regs 4), .int .i64 (x.regs 5), .int .i64 (x.regs 6), .int .i64 (x.regs 7), C, .int .u32 x.draws, .int .u8 x.sends]
structure Sm.ok (x : Sm) : Prop where
  a0 : 0 ≤ x.at_
  a1 : x.at_ ≤ 255
  r0 : ∀ k, -9223372036854775808 ≤ x.regs k ∧ x.regs k ≤ 9223372036854775807
  d0 : 0 ≤ x.draws
  d1 : x.draws ≤ 4294967295
  s0 : 0 ≤ x.sends
  s1 : x.sends ≤ 255
/-- n events: number i to port i, with delay i -/
def mSends (n : Nat) : List Snd := (List.range n).map fun i : Nat => ⟨(i : Int), (i : Int), 1⟩
def made18 (x : Sm) (l : Nat) : St := ⟨x.at_ % max l 1, false, x.regs, x.cells.take 12, x.draws, mSends (x.sends % 21).toNat⟩
theorem Reads.take {w : World} {B size n : Nat} {A : Option Addr} {xs : List Value} (h : Reads w B size A n xs) {k : Nat} (hk : k ≤ n) : Reads w B size A k (xs.take (k * size)) := by
  refine ⟨by rw [List.length_take, h.1, Nat.min_eq_left (Nat.mul_le_mul_right _ hk)], fun hn => ?_⟩
  obtain ⟨ad, rfl, hb, hc⟩ := h.2 (by omega)
  refine ⟨ad, rfl, hb, fun j u hu => hc j u ?_⟩
  rw [List.getElem?_take] at hu
  split at hu
  · exact hu
  · cases hu
theorem int64s_take (xs : List Int) (k : Nat) : (int64s xs).take k = int64s (xs.take k) := by simp [int64s, List.map_take]

theorem max_i64 (a b M : Int) (t u : TypeId) (v : Array TypeId) (h : (if a < b then b else a) = M) (w : World) : (Builtin.max_ v t #[.int .i64 a, .int .i64 b]).run Try.prog w = .ok (.int .i64 M) w := by
  subst h
  unfold Builtin.max_
  simp [Builtin.max2]
theorem min_i64 (a b M : Int) (t u : TypeId) (v : Array TypeId) (h : (if b < a then b else a) = M) (w : World) : (Builtin.min_ v t #[.int .i64 a, .int .i64 b]).run Try.prog w = .ok (.int .i64 M) w := by
  subst h
  unfold Builtin.min_
  simp [Builtin.min2]
/-- behind the region that makes the state -/
structure M18 (w W0 : World) (g : Nat) (C : Value) (CS : Array Value) (m : Nat) (ys : List Value) (X : World) : Prop where
  lt : W0.heap.size ≤ g
  own : X.ownsRow w.heap.size 2 1 C m ys
  blk : Blk X g 53 CS
  below : Below W0.heap.size W0 X
section
variable {w W0 X u : World} {C : Value} {CS Z : Array Value} {m : Nat} {ys : List Value}
theorem m18_a (hw : w.heap.size ≤ W0.heap.size) (hX : Below W0.heap.size W0 X) (hb : Below X.heap.size X u) (ho : u.ownsRow X.heap.size 2 1 C m ys) : M18 w W0 u.heap.size C CS m ys (u.alloc (.cells CS 53)) :=
  ⟨Nat.le_trans hX.size hb.size, own_alloc (own_more ho (Nat.le_trans hw hX.size)) _, Blk.new _ _ _, (hX.trans (hb.mono hX.size)).alloc (Nat.le_trans hX.size hb.size) _⟩
theorem m18_b (hw : w.heap.size ≤ W0.heap.size) (hX : Below W0.heap.size W0 X) (hb : Below (X.alloc (.cells Z 53)).heap.size (X.alloc (.cells Z 53)) u) (ho : u.ownsRow (X.alloc (.cells Z 53)).heap.size 2 1 C m ys) : M18 w W0 X.heap.size C CS m ys (u.setRow X.heap.size CS) := by
  have hB : Blk u X.heap.size 53 Z := (Blk.new _ _ _).below hb (by simp)
  have hs : X.heap.size ≤ (X.alloc (.cells Z 53)).heap.size := by simp
  exact ⟨hX.size, own_row hB (own_more ho (Nat.le_trans hw (Nat.le_trans hX.size hs))) (by decide), hB.row CS, below_setRow ((hX.alloc hX.size _).trans (hb.mono (Nat.le_trans hX.size hs))) hX.size _⟩
theorem m18_c (hw : w.heap.size ≤ W0.heap.size) (hX : Below W0.heap.size W0 X) (hb : Below X.heap.size X u) (ho : u.ownsRow X.heap.size 2 1 C m ys) : M18 w W0 u.heap.size C CS m ys ((u.alloc (.cells Z 53)).setRow u.heap.size CS) := by
  have h := m18_a (CS := Z) hw hX hb ho
  exact ⟨h.lt, own_row h.blk h.own (by decide), h.blk.row CS, below_setRow h.below h.lt _⟩
end
theorem mSends_len (j : Nat) : (mSends j).length = j := by simp [mSends]
theorem mSends_succ (j : Nat) : sndsV (mSends j) ++ [.int .i64 (j : Int), .int .i64 (j : Int), .int .i64 1] = sndsV (mSends (j + 1)) := by
  simp [mSends, sndsV, List.range_succ, Snd.cells]
structure ML (w : World) (g : Nat) (at_ : Int) (q : Nat → Int) (d : Int) (C : Value) (m : Nat) (ys : List Value) (j : Nat) (S : Value) (X : World) : Prop where
  own : X.ownsRow w.heap.size 2 1 C m ys
  snd : X.ownsRow w.heap.size 64 3 S j (sndsV (mSends j))
  blk : Blk X g 53 #[.int .i64 (at_), .bool false, .int .i64 (q 0), .int .i64 (q 1), .int .i64 (q 2), .int .i64 (q 3), .int .i64 (q 4), .int .i64 (q 5), .int .i64 (q 6), .int .i64 (q 7), C, .int .i64 d, S]
  blk4 : Blk X (w.heap.size + 1) 53 #[.int .i64 0, .bool false, .int .i64 0, .int .i64 0, .int .i64 0, .int .i64 0, .int .i64 0, .int .i64 0, .int .i64 0, .int .i64 0, .slice none 0 0, .int .i64 0, .slice none 0 0]
  below : Below w.heap.size w X
  hg : w.heap.size + 1 < g
theorem ML.cell {w X X1 : World} {g : Nat} {at_ : Int} {q : Nat → Int} {d : Int} {C : Value} {m : Nat} {ys : List Value} {j : Nat} {S : Value} (h : ML w g at_ q d C m ys j S X) (o : Obj) (hgr : (X.alloc o).grownBy X1 S.ownBlock) :
    X1.cell? ⟨g, 12, none⟩ = some S ∧ X1.frozen? ⟨g, 12, none⟩ = false := by
  have hb : Blk X1 g _ _ := (h.blk.alloc o).grown hgr (fun e => own_blk_ne h.snd h.blk (by decide) e.symm)
  exact ⟨hb.cell 12, hb.frozen 12⟩
theorem ML.step {w X X1 : World} {g : Nat} {at_ : Int} {q : Nat → Int} {d : Int} {C : Value} {m : Nat} {ys : List Value} {j : Nat} {S S1 : Value} (h : ML w g at_ q d C m ys j S X) (o : Obj) (hgr : (X.alloc o).grownBy X1 S.ownBlock)
    (ho : X1.ownsRow w.heap.size 64 3 S1 (j + 1) (sndsV (mSends (j + 1)))) : ML w g at_ q d C m ys (j + 1) S1 (X1.setCell ⟨g, 12, none⟩ S1) := by
  have hb : Blk X1 g _ _ := (h.blk.alloc o).grown hgr (fun e => own_blk_ne h.snd h.blk (by decide) e.symm)
  have hb4 : Blk X1 (w.heap.size + 1) _ _ := (h.blk4.alloc o).grown hgr (fun e => own_blk_ne h.snd h.blk4 (by decide) e.symm)
  have hc : X1.ownsRow w.heap.size 2 1 C m ys := ownsRow_keep (own_alloc h.own o) fun k hk hlt => hgr.block k hlt (fun e => own_own_ne h.own h.snd (by decide) k hk e.symm)
  have hB : Below w.heap.size w X1 := (h.below.alloc h.below.size o).grown hgr (Nat.le_trans h.below.size (by simp)) (fun k hk => own_base h.snd k hk)
  refine ⟨?_, ?_, hb.set_ 12 S1, hb4.far (p := ⟨g, 12, none⟩) (by have := h.hg; show w.heap.size + 1 ≠ g; omega) S1, hB.setCell (p := ⟨g, 12, none⟩) (by have := h.hg; show w.heap.size ≤ g; omega) S1, h.hg⟩
  · exact ownsRow_keep hc fun k hk _ => Below.heap_setCell _ _ _ _ (fun e => own_blk_ne hc hb (by decide) (by rw [hk, e]))
  · exact ownsRow_keep ho fun k hk _ => Below.heap_setCell _ _ _ _ (fun e => own_blk_ne ho hb (by decide) (by rw [hk, e]))
theorem preRow' {w1 W : World} (h : Below w1.heap.size w1 W ∧ ∀ b o, b < w1.heap.size → W.cell? ⟨b, o, none⟩ = w1.cell? ⟨b, o, none⟩) {g : Nat} (hg : w1.heap.size ≤ g) (cs : Array Value) : Below w1.heap.size w1 (W.setRow g cs) ∧ ∀ b o, b < w1.heap.size → (W.setRow g cs).cell? ⟨b, o, none⟩ = w1.cell? ⟨b, o, none⟩ :=
  preOf (below_setRow h.1 hg cs)

attribute [local go_sem ↓] wp_load53 wp_load56 wp_load28 wp_store53 wp_store56
attribute [local go_sem] blockOf aggOf Value.oneCell' isRow_alloc rowOf_alloc5 rowOf_alloc13 isRow_drew isRow_drewN rowOf_drew rowOf_drewN

set_option maxRecDepth 100000 in
set_option maxHeartbeats 4000000 in
theorem made18_c (x : Sm) (hx : x.ok) (A P : Option Addr) (n c l k : Nat) (w : World) (hA : Reads w w.heap.size 1 A n (int64s x.cells)) (hc : n ≤ c) (hcm : c ≤ 9223372036854775807) (hl : l ≤ 1000000) :
    Calls Try.prog 24 #[.agg (x.cs (.slice A n c)), .slice P l k] w fun e w' => ∃ C S, e = .returned ((made18 x l).v C S) ∧ w'.ownsRow w.heap.size 2 1 C (made18 x l).cells.length (int64s (made18 x l).cells) ∧
      w'.ownsRow w.heap.size 64 3 S (made18 x l).sends.length (sndsV (made18 x l).sends) ∧ Below w.heap.size w w' := by
  obtain ⟨at_, q, xs, d, s⟩ := x
  obtain ⟨a0, a1, r0, d0, d1, s0, s1⟩ := hx
  unfold Sm.cs
  dsimp only at *
  have hn := hA.i64_len
  obtain ⟨m, hm⟩ : ∃ m, m = min n 12 := ⟨_, rfl⟩
  have hmn : m ≤ n := by omega
  have hml : (xs.take 12).length = m := by rw [List.length_take]; omega
  have htk : xs.take 12 = xs.take m := by
    rcases Nat.le_total n 12 with h | h
    · rw [List.take_of_length_le (by omega), List.take_of_length_le (by omega)]
    · rw [show m = 12 by omega]
  have hmi : (if (n : Int) ≤ 12 then (n : Int) else 12) = m := by split <;> omega
  obtain ⟨M, hM⟩ : ∃ M : Int, M = max (l : Int) 1 := ⟨_, rfl⟩
  have hM1 : 1 ≤ M := by omega
  have e1 : Int.tmod at_ M = at_ % M := Int.tmod_eq_emod_of_nonneg a0
  have w1 : wrap64 at_ = at_ := by unfold wrap64; omega
  have v1 : IntKind.i64.wrap at_ = at_ := by simp [IntKind.wrap, IntKind.bits, IntKind.signed]; omega
  have v2 : IntKind.i64.wrap d = d := by simp [IntKind.wrap, IntKind.bits, IntKind.signed]; omega
  have v3 : IntKind.i64.wrap s = s := by simp [IntKind.wrap, IntKind.bits, IntKind.signed]; omega
  have w2 : wrap64 d = d := by unfold wrap64; omega
  have w3 : wrap64 s = s := by unfold wrap64; omega
  have hRd := (hA.take hmn)
  rw [Nat.mul_one, int64s_take, ← htk] at hRd
  have HM := Lib.hid hM
  have Hm := Lib.hid hm
  have HT := Lib.hid htk
  have hm12 : m ≤ 12 := by omega
  go_enter Try.func24, Try.ntmps24
  go_upto_region 1 with fail
  obtain ⟨W0, hW⟩ : ∃ W0, W0 = ((w.alloc (.cells #[.int .u8 at_, .int .i64 (q 0), .int .i64 (q 1), .int .i64 (q 2), .int .i64 (q 3), .int .i64 (q 4), .int .i64 (q 5), .int .i64 (q 6), .int .i64 (q 7), .slice A n c, .int .u32 d, .int .u8 s] 50)).alloc (.cells #[.int .i64 0, .bool false, .int .i64 0, .int .i64 0, .int .i64 0, .int .i64 0, .int .i64 0, .int .i64 0, .int .i64 0, .int .i64 0, .slice none 0 0, .int .i64 0, .slice none 0 0] 53)) := ⟨_, rfl⟩
  have hB0 : Below w.heap.size w W0 := hW ▸ ((Below.refl _ w).alloc (Nat.le_refl _) _).alloc (by simp) _
  have hbk2 : Blk W0 w.heap.size 50 #[.int .u8 at_, .int .i64 (q 0), .int .i64 (q 1), .int .i64 (q 2), .int .i64 (q 3), .int .i64 (q 4), .int .i64 (q 5), .int .i64 (q 6), .int .i64 (q 7), .slice A n c, .int .u32 d, .int .u8 s] := hW ▸ (Blk.new _ _ _).alloc _
  have hbk4 : Blk W0 (w.heap.size + 1) 53 #[.int .i64 0, .bool false, .int .i64 0, .int .i64 0, .int .i64 0, .int .i64 0, .int .i64 0, .int .i64 0, .int .i64 0, .int .i64 0, .slice none 0 0, .int .i64 0, .slice none 0 0] := hW ▸ Blk.new_ (by simp)
  have hsz : W0.heap.size = w.heap.size + 2 := by rw [hW]; simp
  rw [← hW]
  clear hW
  have z0 : W0.cell? ⟨w.heap.size, 0, none⟩ = some (.int .u8 at_) := hbk2.cell 0
  have z1 : W0.cell? ⟨w.heap.size, 1, none⟩ = some (.int .i64 (q 0)) := hbk2.cell 1
  have z2 : W0.cell? ⟨w.heap.size, 2, none⟩ = some (.int .i64 (q 1)) := hbk2.cell 2
  have z3 : W0.cell? ⟨w.heap.size, 3, none⟩ = some (.int .i64 (q 2)) := hbk2.cell 3
  have z4 : W0.cell? ⟨w.heap.size, 4, none⟩ = some (.int .i64 (q 3)) := hbk2.cell 4
  have z5 : W0.cell? ⟨w.heap.size, 5, none⟩ = some (.int .i64 (q 4)) := hbk2.cell 5
  have z6 : W0.cell? ⟨w.heap.size, 6, none⟩ = some (.int .i64 (q 5)) := hbk2.cell 6
  have z7 : W0.cell? ⟨w.heap.size, 7, none⟩ = some (.int .i64 (q 6)) := hbk2.cell 7
  have z8 : W0.cell? ⟨w.heap.size, 8, none⟩ = some (.int .i64 (q 7)) := hbk2.cell 8
  have z9 : W0.cell? ⟨w.heap.size, 9, none⟩ = some (.slice A n c) := hbk2.cell 9
  have z10 : W0.cell? ⟨w.heap.size, 10, none⟩ = some (.int .u32 d) := hbk2.cell 10
  have z11 : W0.cell? ⟨w.heap.size, 11, none⟩ = some (.int .u8 s) := hbk2.cell 11
  have hlt2 : w.heap.size < W0.heap.size := by omega
  have hlt4 : w.heap.size + 1 < W0.heap.size := by omega
  clear hsz
  have CL := Lib.hid (fun (X : World) (hX : Below W0.heap.size W0 X ∧ ∀ b o, b < W0.heap.size → X.cell? ⟨b, o, none⟩ = W0.cell? ⟨b, o, none⟩) => (clone64_c A m c (int64s (xs.take 12)) X (((hRd.below hB0).below (hX.1.mono (by omega))).more (Nat.le_trans (by omega) hX.1.size)) (ones_i64 _) (by omega)).mono (R' := fun e w' => ∃ A1 k1, e = .returned (.slice A1 m k1) ∧ w'.ownsRow X.heap.size 2 1 (.slice A1 m k1) m (int64s (xs.take 12)) ∧ Below X.heap.size X w' ∧ (∀ g k, IsRow X g k → IsRow w' g k)) fun e w' ⟨v, he, ho, hb⟩ => by
    obtain ⟨A1, k1, rfl⟩ := own_slice ho
    exact ⟨A1, k1, he, ho, hb, fun g k h => h.below hb⟩)
  clear hA hRd
  have hmax : ∀ W : World, (Builtin.max_ #[3, 3] 3 #[.int .i64 (l : Int), .int .i64 1]).run Try.prog W = .ok (.int .i64 M) W := fun W => max_i64 _ _ _ _ 0 _ (by split <;> omega) W
  have hmin : ∀ W : World, (Builtin.min_ #[3, 3] 3 #[.int .i64 (n : Int), .int .i64 12]).run Try.prog W = .ok (.int .i64 (m : Int)) W := fun W => min_i64 _ _ _ _ 0 _ (by split <;> omega) W
  have hM0 : (M == 0) = false := by simp; omega
  have hM00 : M ≠ 0 := by omega
  have hm0 : (0 : Int) ≤ (m : Int) := by omega
  have hmc : (m : Int) ≤ (c : Int) := by omega
  clear hM hm hmi htk hml hn
  go_cut [5] (fun p X => ∃ g A1 k1, p = .pointer (some ⟨g, 0, none⟩) ∧ M18 w W0 g (.slice A1 m k1) #[.int .i64 (at_ % M), .bool false, .int .i64 (q 0), .int .i64 (q 1), .int .i64 (q 2), .int .i64 (q 3), .int .i64 (q 4), .int .i64 (q 5), .int .i64 (q 6), .int .i64 (q 7), .slice A1 m k1, .int .i64 d, .slice none 0 0] m (int64s (xs.take 12)) X)
  case first =>
    have irn : ∀ (W : World) (g k : Nat) (t : TypeId) (cs : Array Value), g = W.heap.size → cs.size = k → IsRow (W.alloc (.cells cs t)) g k := fun W g k t cs => isRow_new
    have irnD : ∀ (W : World) (g k : Nat) (t : TypeId) (cs : Array Value), g = W.heap.size → cs.size = k → IsRow (W.alloc (.cells cs t)).drew g k := fun W g k t cs => isRow_new
    go_region_held3 (fun W => Below W0.heap.size W0 W ∧ ∀ b o, b < W0.heap.size → W.cell? ⟨b, o, none⟩ = W0.cell? ⟨b, o, none⟩)
      (repeat' (first | (with_reducible (first | exact preD | assumption | exact preR | refine preB ?_ hb2 | refine preE ?_ | refine preA ?_ _ | refine preRow' ?_ ?_ _ | refine preS ?_ ?_ _)) | omega | (simp; done) | (simp; omega)))
      ((go_at_call 62; refine (CL.out _ ?_).mono ?_; (focus (with_reducible (repeat' (first | exact preD | assumption | exact preR | refine preE ?_ | refine preA ?_ _)))); rintro e u2 ⟨A1, k1, rfl, ho2, hb2, hro⟩; obtain ⟨hc2, hf2⟩ := bcell hb2; have hz2 := hb2.size; (try simp at hz2); ((first | (with_reducible have pX := hro _ 13 (irn _ _ _ _ _ rfl rfl)) | (with_reducible have pX := hro _ 13 (irnD _ _ _ _ _ rfl rfl)) | skip); (try simp at pX))))
    all_goals (go_wp2_with fail; go_meet)
    all_goals (first
      | exact ⟨_, _, _, rfl, m18_a hB0.size (Below.refl _ _) hb2 ho2⟩
      | exact ⟨_, _, _, rfl, m18_a hB0.size (Below.refl _ _).drew hb2 ho2⟩
      | exact ⟨_, _, _, rfl, m18_b hB0.size (Below.refl _ _) hb2 ho2⟩
      | exact ⟨_, _, _, rfl, m18_b hB0.size (Below.refl _ _).drew hb2 ho2⟩
      | exact ⟨_, _, _, rfl, m18_b hB0.size (Below.refl _ _) ((Below.refl _ _).drew.trans hb2) ho2⟩
      | exact ⟨_, _, _, rfl, m18_c hB0.size (Below.refl _ _) hb2 ho2⟩
      | exact ⟨_, _, _, rfl, m18_c hB0.size (Below.refl _ _).drew hb2 ho2⟩)
  case rest =>
  obtain ⟨g, A1, k1, rfl, hM18⟩ := hcut
  obtain ⟨N, hN⟩ : ∃ N : Nat, (N : Int) = s % 21 := ⟨(s % 21).toNat, by omega⟩
  have hN21 : N ≤ 20 := by omega
  have e2 : Int.tmod s 21 = N := by rw [hN]; exact Int.tmod_eq_emod_of_nonneg s0
  have e3 : s % 21 = N := hN.symm
  have z11' : wc.cell? ⟨w.heap.size, 11, none⟩ = some (.int .u8 s) := (hM18.below.cell (p := ⟨w.heap.size, 11, none⟩) hlt2).trans z11
  have hL0 : ML w g (at_ % M) q d (.slice A1 m k1) m (int64s (xs.take 12)) 0 (.slice none 0 0) wc := ⟨hM18.own, World.ownsRow_nil _ _ _ _, hM18.blk, hbk4.below hM18.below hlt4, hB0.trans (hM18.below.mono hB0.size), Nat.lt_of_lt_of_le hlt4 hM18.lt⟩
  have HN := Lib.hid hN
  clear hN hM18 z0 z1 z2 z3 z4 z5 z6 z7 z8 z9 z10 z11 hbk2 hbk4 CL hmax hmin hB0 e1
  obtain ⟨AM, hAM⟩ : ∃ AM, AM = at_ % M := ⟨_, rfl⟩
  rw [← hAM] at hL0
  have HA := Lib.hid hAM
  clear hAM
  have hgz : w.heap.size + 1 < g := hL0.hg
  obtain ⟨iS, hi, hz0, hz1, hz2⟩ := info_parts infoSend
  go_wp2
  go_loopw [32] (fun k wr => ∃ (j : Nat) (D : Option Addr) (f : Nat), k = .int .i64 j ∧ j ≤ N ∧ ML w g AM q d (.slice A1 m k1) m (int64s (xs.take 12)) j (.slice D j f) wr) (fun k _ => N - (intOf k).toNat)
  case atStart => exact ⟨0, none, 0, rfl, by omega, hL0⟩
  case round =>
    obtain ⟨j, D, f, rfl, hj, hL⟩ := hrel
    have c12 : wr.cell? ⟨g, 12, none⟩ = some (.slice D j f) := hL.blk.cell 12
    have hones : ∀ u ∈ [Value.int .i64 (j : Int), .int .i64 (j : Int), .int .i64 1], u.oneCell' = true := by
      intro u hu; simp at hu; rcases hu with rfl | rfl | rfl <;> rfl
    by_cases hlt : j < N
    · have hrd : Reads (wr.alloc (.cells #[.int .i64 (j : Int), .int .i64 (j : Int), .int .i64 1] 64)) (wr.heap.size + 1) 3 (some ⟨wr.heap.size, 0, none⟩) 1 [.int .i64 (j : Int), .int .i64 (j : Int), .int .i64 1] := reads_new3 _ _ _ _ _ _ rfl
      have HL := Lib.hid hL
      have hlg : g < wr.heap.size := hL.blk.lt
      have hgne : ¬ g = wr.heap.size := by omega
      clear hL hL0
      go_wp2_with (at_builtin
                   refine wpList_append_any _ rfl (.tmp 36) (.tmp 40) _ rfl w.heap.size 64 iS _ 3 24 Try.underlying51 hi hz0 hz1 hz2 rfl (by omega) (.slice D j f) j (sndsV (mSends j)) rfl
                     (own_alloc HL.out.snd _) (wr.heap.size + 1) (some ⟨wr.heap.size, 0, none⟩) 1 1 [.int .i64 (j : Int), .int .i64 (j : Int), .int .i64 1] rfl hrd hones (by unfold maxLen; omega) (by omega) (by have := HL.out.below.size; simp; omega) ?_
                   intro v1 w1 hown1 hg1 hat1
                   obtain ⟨hc4, hf4⟩ := HL.out.cell _ hg1
                   rw [mSends_succ] at hown1
                   obtain ⟨D1, f1, rfl⟩ := own_slice hown1)
      go_roundw
      case rel => exact ⟨j + 1, D1, f1, by go_num, by omega, HL.out.step _ hg1 hown1⟩
      case measure => simp [intOf]; omega
    · have hjN : j = N := by omega
      subst hjN
      have hmade : made18 ⟨at_, q, xs, d, s⟩ l = ⟨AM, false, q, xs.take 12, d, mSends j⟩ := by
        unfold made18
        dsimp only
        rw [HA.out, HM.out, e3, Int.toNat_natCast, show ((max l 1 : Nat) : Int) = max (l : Int) 1 by omega]
      have hlen : (xs.take 12).length = m := by have := hL.own.1; simpa [int64s] using this
      have bx : Blk wr g 53 #[.int .i64 (AM), .bool false, .int .i64 (q 0), .int .i64 (q 1), .int .i64 (q 2), .int .i64 (q 3), .int .i64 (q 4), .int .i64 (q 5), .int .i64 (q 6), .int .i64 (q 7), .slice A1 m k1, .int .i64 d, .slice D j f] := hL.blk
      have br := hL.blk4
      have hK := copied_fin hL.below br hL.own hL.snd #[.int .i64 (AM), .bool false, .int .i64 (q 0), .int .i64 (q 1), .int .i64 (q 2), .int .i64 (q 3), .int .i64 (q 4), .int .i64 (q 5), .int .i64 (q 6), .int .i64 (q 7), .slice A1 m k1, .int .i64 d, .slice D j f]
      have HK := Lib.hid (And.intro hmade (And.intro hlen hK))
      clear hL0 hL hmade hlen hK e3
      go_wp2_with (first
        | refine wpList_load_row (P := Try.prog) rfl 53 (.tmp 5) rfl g rfl 53 _ (0, 0) _ bx Try.underlying53 rfl (by kernel_rfl) ?_
        | refine wpList_store_row (P := Try.prog) rfl 53 (.tmp 4) (.tmp 44) rfl (w.heap.size + 1) #[.int .i64 (AM), .bool false, .int .i64 (q 0), .int .i64 (q 1), .int .i64 (q 2), .int .i64 (q 3), .int .i64 (q 4), .int .i64 (q 5), .int .i64 (q 6), .int .i64 (q 7), .slice A1 m k1, .int .i64 d, .slice D j f] rfl rfl 53 _ br (by kernel_rfl) rfl (by kernel_rfl) ?_)
      (try simp only [Exit.inBlock, Exit.then])
      refine bodyPost_ret (v := .agg #[.int .i64 (AM), .bool false, .int .i64 (q 0), .int .i64 (q 1), .int .i64 (q 2), .int .i64 (q 3), .int .i64 (q 4), .int .i64 (q 5), .int .i64 (q 6), .int .i64 (q 7), .slice A1 m k1, .int .i64 d, .slice D j f]) (results_cell_row (P := Try.prog) (p := 4) (ty := 53) rfl _ _ (w.heap.size + 1) 53 _ (0, 0) _ rfl (Blk.row br _) Try.underlying53 rfl (by kernel_rfl)) rfl ?_
      obtain ⟨h1, h2, h3, h4, h5⟩ := HK.out
      rw [h1]
      dsimp only
      rw [h2, mSends_len]
      exact ⟨_, _, rfl, h3, h4, h5⟩
end Go.Proofs.Ytmljmabbopkpiaa
