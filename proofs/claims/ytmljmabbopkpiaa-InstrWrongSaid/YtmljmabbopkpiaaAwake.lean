/- fermatalaw18.awake. (printed by gen_awake.py) -/
import Derived.Test.YtmljmabbopkpiaaAw
import Derived.Test.YtmljmabbopkpiaaEq
import Derived.Test.YtmljmabbopkpiaaEqual
import Derived.Deep.DeepCutAuto
import Derived.Deep.RegionLaw
import Derived.Deep.RegionHeld3
import Derived.Handy
namespace Go.Proofs.Ytmljmabbopkpiaa
open Go.RowKit
set_option linter.unusedVariables false
set_option linter.unusedSimpArgs false
attribute [local go_sem ↓] Go.wp_at_zero Go.wp_at_succ wp_load53 wp_load56 wp_load28 wp_store53
attribute [local go_sem] blockOf aggOf Value.oneCell' isRow_alloc rowOf_alloc5 rowOf_alloc13 isRow_drew isRow_drewN rowOf_drew rowOf_drewN

def s0 : St := ⟨0, false, fun j => match j with | 0 => 9 | 1 => 5 | 2 => 2 | _ => 0, [0, 0, 0], 0, []⟩
def s2 : St := ⟨0, false, fun j => match j with | 0 => 9 | 1 => 5 | 2 => 2 | _ => 0, [0, 0], 0, []⟩
def sH : St := ⟨0, true, fun j => match j with | 0 => 9 | 1 => 5 | 2 => 2 | _ => 0, [0, 0, 0], 0, []⟩
def v0 : Envi := ⟨0, 0, 2, 1, 5⟩

set_option maxRecDepth 100000 in
set_option maxHeartbeats 8000000 in
theorem awake18_c (w : World) : Calls Try.prog 23 #[] w fun e w' => e = .returned (.bool true) ∧ Below w.heap.size w w' := by
  have e8 := fun (x0 x1 x2 x3 x4 x5 x6 x7 : Int) (w : World) => eq8 x0 x1 x2 x3 x4 x5 x6 x7 9 5 2 0 0 0 0 0 w
  have hA := AW.start w
  go_enter Try.func23, Try.ntmps23
  go_wp2_with fail
  go_at_call 40
  refine (event_c 9 5 2 w).mono ?_
  rintro e W1 ⟨rfl, hb⟩
  have hA1 := (hA.call hb).array 2 #[.int .i64 0, .int .i64 0, .int .i64 0] 1 3 rfl
  clear hA hb
  go_wp2_with fail
  go_at_call 59
  refine (begin_c 9 5 2 0 0 0 _ 3 3 [0, 0, 0] (by decide) _ (hA1.r _ (.head _))).mono ?_
  rintro e W2 ⟨A1, k1, rfl, ho, hb⟩
  have hA2 := (((hA1.call hb).of_own ho).less (R' := [⟨1, A1, 3, int64s [0, 0, 0]⟩, ⟨3, none, 0, []⟩]) (fun _ h => h) (by simp)).put 53 #[.int .i64 0, .bool false, .int .i64 9, .int .i64 5, .int .i64 2, .int .i64 0, .int .i64 0, .int .i64 0, .int .i64 0, .int .i64 0, .slice A1 3 k1, .int .i64 0, .slice none 0 0]
  have hA3 := hA2.put' (g := W2.heap.size + 1) 56 #[.int .u64 0, .int .i64 0, .int .i64 2, .int .i64 1, .int .i64 5] (by simp)
  clear hA1 hA2 hb ho
  go_upto_region 6 with fail
  obtain ⟨W, hW⟩ : ∃ W, W = ((W2.alloc (.cells #[.int .i64 0, .bool false, .int .i64 9, .int .i64 5, .int .i64 2, .int .i64 0, .int .i64 0, .int .i64 0, .int .i64 0, .int .i64 0, .slice A1 3 k1, .int .i64 0, .slice none 0 0] 53)).alloc (.cells #[.int .u64 0, .int .i64 0, .int .i64 2, .int .i64 1, .int .i64 5] 56)) := ⟨_, rfl⟩
  rw [← hW] at hA3 ⊢
  clear hW
  have pV : IsRow W (W2.heap.size + 1) 5 := (hA3.l _ (.head _)).isRow rfl
  have qV : rowOf W (W2.heap.size + 1) = #[.int .u64 0, .int .i64 0, .int .i64 2, .int .i64 1, .int .i64 5] := (hA3.l _ (.head _)).rowOf_eq
  have pS : IsRow W W2.heap.size 13 := (hA3.l _ (.tail _ (.head _))).isRow rfl
  have qS : rowOf W W2.heap.size = #[.int .i64 0, .bool false, .int .i64 9, .int .i64 5, .int .i64 2, .int .i64 0, .int .i64 0, .int .i64 0, .int .i64 0, .int .i64 0, .slice A1 3 k1, .int .i64 0, .slice none 0 0] := (hA3.l _ (.tail _ (.head _))).rowOf_eq
  go_wp2_with fail
  go_at_call 60
  refine (call60 ⟨33, 3, 0, 1, 0⟩ ⟨by decide, by decide, by decide, by decide, by decide, by decide, by decide, by decide, by decide, by decide⟩ v0 s0 (fun C S => .agg #[.int .i64 1, .bool false, .int .i64 9, .int .i64 5, .int .i64 2, .int .i64 14, .int .i64 0, .int .i64 0, .int .i64 0, .int .i64 0, C, .int .i64 0, S]) [0, 0, 0] [] 0 (by kernel_rfl) (by kernel_rfl) (by kernel_rfl) (by kernel_rfl) 3 0 rfl rfl A1 none 3 0 k1 0 (by decide) hA3 (.head _) (.tail _ (.head _))).mono ?_
  rintro e U1 ⟨B1, x1, D1, y1, rfl, hB1⟩
  clear pV qV pS qS
  go_upto_region 7 with fail
  have hC1 := hB1.put 53 #[.int .i64 1, .bool false, .int .i64 9, .int .i64 5, .int .i64 2, .int .i64 14, .int .i64 0, .int .i64 0, .int .i64 0, .int .i64 0, .slice B1 3 x1, .int .i64 0, .slice D1 0 y1]
  obtain ⟨W11, hW⟩ : ∃ W, W = (U1.alloc (.cells #[.int .i64 1, .bool false, .int .i64 9, .int .i64 5, .int .i64 2, .int .i64 14, .int .i64 0, .int .i64 0, .int .i64 0, .int .i64 0, .slice B1 3 x1, .int .i64 0, .slice D1 0 y1] 53)) := ⟨_, rfl⟩
  rw [← hW] at hC1 ⊢
  clear hW hB1
  clear hA3
  have pV : IsRow W11 (W2.heap.size + 1) 5 := (hC1.l _ (.tail _ (.head _))).isRow rfl
  have qV : rowOf W11 (W2.heap.size + 1) = #[.int .u64 0, .int .i64 0, .int .i64 2, .int .i64 1, .int .i64 5] := (hC1.l _ (.tail _ (.head _))).rowOf_eq
  have pS : IsRow W11 W2.heap.size 13 := (hC1.l _ (.tail _ (.tail _ (.head _)))).isRow rfl
  have qS : rowOf W11 W2.heap.size = #[.int .i64 0, .bool false, .int .i64 9, .int .i64 5, .int .i64 2, .int .i64 0, .int .i64 0, .int .i64 0, .int .i64 0, .int .i64 0, .slice A1 3 k1, .int .i64 0, .slice none 0 0] := (hC1.l _ (.tail _ (.tail _ (.head _)))).rowOf_eq
  go_wp2_with fail
  go_at_call 60
  refine (call60 ⟨6, 0, 2, 0, 0⟩ ⟨by decide, by decide, by decide, by decide, by decide, by decide, by decide, by decide, by decide, by decide⟩ v0 s0 (fun C S => .agg #[.int .i64 1, .bool false, .int .i64 9, .int .i64 5, .int .i64 2, .int .i64 0, .int .i64 0, .int .i64 0, .int .i64 0, .int .i64 0, C, .int .i64 0, S]) [0, 0, 9] [] 0 (by kernel_rfl) (by kernel_rfl) (by kernel_rfl) (by kernel_rfl) 3 0 rfl rfl A1 none 3 0 k1 0 (by decide) hC1 (.tail _ (.tail _ (.head _))) (.tail _ (.tail _ (.tail _ (.head _))))).mono ?_
  rintro e U2 ⟨B2, x2, D2, y2, rfl, hB2⟩
  clear pV qV pS qS
  go_upto_region 8 with fail
  have hC2 := hB2.put 53 #[.int .i64 1, .bool false, .int .i64 9, .int .i64 5, .int .i64 2, .int .i64 0, .int .i64 0, .int .i64 0, .int .i64 0, .int .i64 0, .slice B2 3 x2, .int .i64 0, .slice D2 0 y2]
  obtain ⟨W12, hW⟩ : ∃ W, W = (U2.alloc (.cells #[.int .i64 1, .bool false, .int .i64 9, .int .i64 5, .int .i64 2, .int .i64 0, .int .i64 0, .int .i64 0, .int .i64 0, .int .i64 0, .slice B2 3 x2, .int .i64 0, .slice D2 0 y2] 53)) := ⟨_, rfl⟩
  rw [← hW] at hC2 ⊢
  clear hW hB2
  clear hC1
  have hmV : (⟨(W2.heap.size + 1), 56, #[.int .u64 0, .int .i64 0, .int .i64 2, .int .i64 1, .int .i64 5]⟩ : Bk) ∈ [⟨U2.heap.size, 53, #[.int .i64 1, .bool false, .int .i64 9, .int .i64 5, .int .i64 2, .int .i64 0, .int .i64 0, .int .i64 0, .int .i64 0, .int .i64 0, .slice B2 3 x2, .int .i64 0, .slice D2 0 y2]⟩, ⟨U1.heap.size, 53, #[.int .i64 1, .bool false, .int .i64 9, .int .i64 5, .int .i64 2, .int .i64 14, .int .i64 0, .int .i64 0, .int .i64 0, .int .i64 0, .slice B1 3 x1, .int .i64 0, .slice D1 0 y1]⟩, ⟨(W2.heap.size + 1), 56, #[.int .u64 0, .int .i64 0, .int .i64 2, .int .i64 1, .int .i64 5]⟩, ⟨W2.heap.size, 53, #[.int .i64 0, .bool false, .int .i64 9, .int .i64 5, .int .i64 2, .int .i64 0, .int .i64 0, .int .i64 0, .int .i64 0, .int .i64 0, .slice A1 3 k1, .int .i64 0, .slice none 0 0]⟩] := (.tail _ (.tail _ (.head _)))
  have hz2 : 2 ≤ 1000000 := by decide
  have hVV : ∀ X, Below W12.heap.size W12 X → (X.cell? ⟨(W2.heap.size + 1), 0, none⟩ = some (.int .u64 0) ∧ X.cell? ⟨(W2.heap.size + 1), 1, none⟩ = some (.int .i64 0) ∧ X.cell? ⟨(W2.heap.size + 1), 2, none⟩ = some (.int .i64 2) ∧ X.cell? ⟨(W2.heap.size + 1), 3, none⟩ = some (.int .i64 1) ∧ X.cell? ⟨(W2.heap.size + 1), 4, none⟩ = some (.int .i64 5)) ∧ (W2.heap.size + 1) < X.heap.size := fun X hX => ⟨(blk5 ((hC2.call hX).l _ hmV)).1, ((hC2.call hX).l _ hmV).lt⟩
  have EV1 : ∀ X, Below W12.heap.size W12 X → Calls Try.prog 40 #[.int .i64 9, .int .i64 5, .int .i64 2] X fun e w' => e = .returned (.agg #[.int .i64 5, .int .i64 2, .int .i64 0, .int .i64 0, .int .i64 9]) ∧ Below W12.heap.size W12 w' ∧ ((w'.cell? ⟨(W2.heap.size + 1), 0, none⟩ = some (.int .u64 0) ∧ w'.cell? ⟨(W2.heap.size + 1), 1, none⟩ = some (.int .i64 0) ∧ w'.cell? ⟨(W2.heap.size + 1), 2, none⟩ = some (.int .i64 2) ∧ w'.cell? ⟨(W2.heap.size + 1), 3, none⟩ = some (.int .i64 1) ∧ w'.cell? ⟨(W2.heap.size + 1), 4, none⟩ = some (.int .i64 5)) ∧ (W2.heap.size + 1) < w'.heap.size) ∧ W12.heap.size ≤ w'.heap.size ∧ (∀ g k, IsRow X g k → IsRow w' g k) ∧ (∀ A xs, Reads X X.heap.size 1 A 2 xs → Reads w' w'.heap.size 1 A 2 xs) := fun X hX => (event_c 9 5 2 X).mono fun e w' ⟨he, hb⟩ => by
    have hB := hX.trans (hb.mono hX.size)
    exact ⟨he, hB, hVV _ hB, hB.size, fun g k h => h.below hb, fun A xs h => h.call hb⟩
  have BG1 : ∀ X A, Below W12.heap.size W12 X → Reads X X.heap.size 1 A 2 (int64s [0, 0]) → Calls Try.prog 59 #[.agg #[.int .i64 5, .int .i64 2, .int .i64 0, .int .i64 0, .int .i64 9], .slice A 2 2, .int .i64 0] X fun e w' => ∃ E1 f1, e = .returned (.agg #[.int .i64 0, .bool false, .int .i64 9, .int .i64 5, .int .i64 2, .int .i64 0, .int .i64 0, .int .i64 0, .int .i64 0, .int .i64 0, .slice E1 2 f1, .int .i64 0, .slice none 0 0]) ∧ Below W12.heap.size W12 w' ∧ ((w'.cell? ⟨(W2.heap.size + 1), 0, none⟩ = some (.int .u64 0) ∧ w'.cell? ⟨(W2.heap.size + 1), 1, none⟩ = some (.int .i64 0) ∧ w'.cell? ⟨(W2.heap.size + 1), 2, none⟩ = some (.int .i64 2) ∧ w'.cell? ⟨(W2.heap.size + 1), 3, none⟩ = some (.int .i64 1) ∧ w'.cell? ⟨(W2.heap.size + 1), 4, none⟩ = some (.int .i64 5)) ∧ (W2.heap.size + 1) < w'.heap.size) ∧ W12.heap.size ≤ w'.heap.size ∧ (∀ g k, IsRow X g k → IsRow w' g k) ∧ Reads w' w'.heap.size 1 E1 2 (int64s [0, 0]) := fun X A hX hr => (begin_c 9 5 2 0 0 0 A 2 2 [0, 0] hz2 X hr).mono fun e w' ⟨A1, k1, he, ho, hb⟩ => by
    have hB := hX.trans (hb.mono hX.size)
    exact ⟨A1, k1, he, hB, hVV _ hB, hB.size, fun g k h => h.below hb, Reads.of_own ho⟩
  have CC1 : ∀ A7 k7 X, Below W12.heap.size W12 X → Reads X X.heap.size 1 A7 2 (int64s [0, 0]) → Calls Try.prog 60 #[.agg #[.int .u8 6, .int .u8 0, .int .u8 2, .int .u8 0, .int .i64 0], .agg #[.int .u64 0, .int .i64 0, .int .i64 2, .int .i64 1, .int .i64 5], .agg #[.int .i64 0, .bool false, .int .i64 9, .int .i64 5, .int .i64 2, .int .i64 0, .int .i64 0, .int .i64 0, .int .i64 0, .int .i64 0, .slice A7 2 k7, .int .i64 0, .slice none 0 0]] X fun e w' => ∃ E1 f1 E2 f2, e = .returned (.tuple #[.agg #[.int .i64 0, .bool false, .int .i64 0, .int .i64 0, .int .i64 0, .int .i64 0, .int .i64 0, .int .i64 0, .int .i64 0, .int .i64 0, .slice E1 0 f1, .int .i64 0, .slice E2 0 f2], .int .i64 185]) ∧ Below W12.heap.size W12 w' ∧ ((w'.cell? ⟨(W2.heap.size + 1), 0, none⟩ = some (.int .u64 0) ∧ w'.cell? ⟨(W2.heap.size + 1), 1, none⟩ = some (.int .i64 0) ∧ w'.cell? ⟨(W2.heap.size + 1), 2, none⟩ = some (.int .i64 2) ∧ w'.cell? ⟨(W2.heap.size + 1), 3, none⟩ = some (.int .i64 1) ∧ w'.cell? ⟨(W2.heap.size + 1), 4, none⟩ = some (.int .i64 5)) ∧ (W2.heap.size + 1) < w'.heap.size) ∧ W12.heap.size ≤ w'.heap.size ∧ (∀ g k, IsRow X g k → IsRow w' g k) := fun A7 k7 X hX hr => (one60_c ⟨6, 0, 2, 0, 0⟩ ⟨by decide, by decide, by decide, by decide, by decide, by decide, by decide, by decide, by decide, by decide⟩ v0 s2 A7 none 2 0 k7 0 (by decide) X hr Reads.none_).mono fun e w' ⟨C, S, he, ho, hq, hb⟩ => by
    have hE : topE [⟨6, 0, 2, 0, 0⟩, haltI] v0 s2 = 185 := by kernel_rfl
    have hV : (topS [⟨6, 0, 2, 0, 0⟩, haltI] v0 s2).v = (fun C S => .agg #[.int .i64 0, .bool false, .int .i64 0, .int .i64 0, .int .i64 0, .int .i64 0, .int .i64 0, .int .i64 0, .int .i64 0, .int .i64 0, C, .int .i64 0, S]) := by kernel_rfl
    have hc : (topS [⟨6, 0, 2, 0, 0⟩, haltI] v0 s2).cells = [] := by kernel_rfl
    have hs : (topS [⟨6, 0, 2, 0, 0⟩, haltI] v0 s2).sends = [] := by kernel_rfl
    have hB := hX.trans (hb.mono hX.size)
    rw [hV, hE] at he
    rw [hc] at ho
    rw [hs] at hq
    obtain ⟨E1, f1, rfl⟩ := own_slice ho
    obtain ⟨E2, f2, rfl⟩ := own_slice hq
    exact ⟨E1, f1, E2, f2, he, hB, hVV _ hB, hB.size, fun g k h => h.below hb⟩
  have EV1 := Lib.hid EV1
  have BG1 := Lib.hid BG1
  have CC1 := Lib.hid CC1
  go_cut [9] (fun p W => p = .int .i64 185 ∧ AW w [⟨U2.heap.size, 53, #[.int .i64 1, .bool false, .int .i64 9, .int .i64 5, .int .i64 2, .int .i64 0, .int .i64 0, .int .i64 0, .int .i64 0, .int .i64 0, .slice B2 3 x2, .int .i64 0, .slice D2 0 y2]⟩, ⟨U1.heap.size, 53, #[.int .i64 1, .bool false, .int .i64 9, .int .i64 5, .int .i64 2, .int .i64 14, .int .i64 0, .int .i64 0, .int .i64 0, .int .i64 0, .slice B1 3 x1, .int .i64 0, .slice D1 0 y1]⟩, ⟨(W2.heap.size + 1), 56, #[.int .u64 0, .int .i64 0, .int .i64 2, .int .i64 1, .int .i64 5]⟩, ⟨W2.heap.size, 53, #[.int .i64 0, .bool false, .int .i64 9, .int .i64 5, .int .i64 2, .int .i64 0, .int .i64 0, .int .i64 0, .int .i64 0, .int .i64 0, .slice A1 3 k1, .int .i64 0, .slice none 0 0]⟩] [⟨1, B2, 3, int64s [0, 0, 9]⟩, ⟨3, D2, 0, sndsV []⟩, ⟨1, B1, 3, int64s [0, 0, 0]⟩, ⟨3, D1, 0, sndsV []⟩, ⟨1, A1, 3, int64s [0, 0, 0]⟩, ⟨3, none, 0, []⟩] W)
  case first =>
    have hVV0 := hVV W12 (Below.refl _ _)
    clear hVV
    have irn : ∀ (W : World) (g k : Nat) (t : TypeId) (cs : Array Value), g = W.heap.size → cs.size = k → IsRow (W.alloc (.cells cs t)) g k := fun W g k t cs => isRow_new
    have hV0 : (W12.cell? ⟨(W2.heap.size + 1), 0, none⟩ = some (.int .u64 0) ∧ W12.cell? ⟨(W2.heap.size + 1), 1, none⟩ = some (.int .i64 0) ∧ W12.cell? ⟨(W2.heap.size + 1), 2, none⟩ = some (.int .i64 2) ∧ W12.cell? ⟨(W2.heap.size + 1), 3, none⟩ = some (.int .i64 1) ∧ W12.cell? ⟨(W2.heap.size + 1), 4, none⟩ = some (.int .i64 5)) ∧ (W2.heap.size + 1) < W12.heap.size := hVV0
    have hG3 : (W2.heap.size + 1) < W12.heap.size := (hC2.l _ hmV).lt
    go_region_held3 (fun W => (W.cell? ⟨(W2.heap.size + 1), 0, none⟩ = some (.int .u64 0) ∧ W.cell? ⟨(W2.heap.size + 1), 1, none⟩ = some (.int .i64 0) ∧ W.cell? ⟨(W2.heap.size + 1), 2, none⟩ = some (.int .i64 2) ∧ W.cell? ⟨(W2.heap.size + 1), 3, none⟩ = some (.int .i64 1) ∧ W.cell? ⟨(W2.heap.size + 1), 4, none⟩ = some (.int .i64 5)) ∧ (W2.heap.size + 1) < W.heap.size)
      (repeat' (first | assumption | refine k5D ?_ | refine k5A ?_ _ | refine k5R ?_ ?_ _ | omega | (simp; omega)))
      ((first
      | (go_at_call 40; refine (EV1.out _ ?_).mono ?_; (focus (repeat' (first | assumption | refine Below.drew ?_ | refine below_al ?_ _ | exact Below.refl _ _))); rintro e u1 ⟨rfl, hu1, hVa, hsz1, hro1, hrd1⟩; (first | have pX := hro1 _ 13 (irn _ _ _ _ _ rfl rfl) | have pX := hro1 _ 13 (isRow_alloc (irn _ _ _ _ _ rfl rfl)) | skip); (try simp at pX))
      | (go_at_call 59; refine (BG1.out _ _ ?_ ?_).mono ?_; (focus (repeat' (first | assumption | refine Below.drew ?_ | refine below_al ?_ _ | exact Below.refl _ _))); (focus (repeat' (first | assumption | exact reads_00 rfl | (refine reads_00 ?_; simp; done) | refine Reads.al ?_ _ | refine hrd1 _ _ ?_))); rintro e u2 ⟨A7, k7, rfl, hu2, hVb, hsz2, hro2, hr2⟩; (first | have pY := hro2 _ 13 (irn _ _ _ _ _ rfl rfl) | have pY := hro2 _ 13 (isRow_alloc (irn _ _ _ _ _ rfl rfl)) | have pY := hro2 _ 13 pX | have pY := hro2 _ 13 (isRow_alloc pX) | skip); (try simp at pY))
      | (go_at_call 60; refine (CC1.out _ _ _ ?_ ?_).mono ?_; (focus (repeat' (first | assumption | refine Below.drew ?_ | refine below_al ?_ _ | exact Below.refl _ _))); (focus (repeat' (first | assumption | exact reads_00 rfl | (refine reads_00 ?_; simp; done) | refine Reads.al ?_ _ | refine hrd1 _ _ ?_))); rintro e u3 ⟨A8, k8, A9, k9, rfl, hu3, hVc, hsz3, hro3⟩; (first | have pZ := hro3 _ 13 (irn _ _ _ _ _ rfl rfl) | have pZ := hro3 _ 13 (isRow_alloc (irn _ _ _ _ _ rfl rfl)) | have pZ := hro3 _ 13 pY | have pZ := hro3 _ 13 (isRow_alloc pY) | skip); (try simp at pZ))))
    all_goals (go_wp2_with fail; go_meet)
    all_goals (refine ⟨rfl, hC2.call ?_⟩; (with_reducible (repeat' (first | assumption | refine below_al ?_ _ | refine below_setRow ?_ ?_ _))))
    all_goals (first | omega | (simp; omega))
  case rest =>
  obtain ⟨rfl, hK⟩ := hcut
  go_upto_region 10 with fail
  have hK2 := hK.put 28 #[.int .u8 8, .int .u8 2, .int .u8 0, .int .u8 0, .int .i64 1]
  obtain ⟨W30, hW⟩ : ∃ W, W = (wc.alloc (.cells #[.int .u8 8, .int .u8 2, .int .u8 0, .int .u8 0, .int .i64 1] 28)) := ⟨_, rfl⟩
  rw [← hW] at hK2 ⊢
  clear hW
  have pI : IsRow W30 wc.heap.size 5 := (hK2.l _ (.head _)).isRow rfl
  have qI : rowOf W30 wc.heap.size = #[.int .u8 8, .int .u8 2, .int .u8 0, .int .u8 0, .int .i64 1] := (hK2.l _ (.head _)).rowOf_eq
  have pV : IsRow W30 (W2.heap.size + 1) 5 := (hK2.l _ (.tail _ (.tail _ (.tail _ (.head _))))).isRow rfl
  have qV : rowOf W30 (W2.heap.size + 1) = #[.int .u64 0, .int .i64 0, .int .i64 2, .int .i64 1, .int .i64 5] := (hK2.l _ (.tail _ (.tail _ (.tail _ (.head _))))).rowOf_eq
  have pS : IsRow W30 W2.heap.size 13 := (hK2.l _ (.tail _ (.tail _ (.tail _ (.tail _ (.head _)))))).isRow rfl
  have qS : rowOf W30 W2.heap.size = #[.int .i64 0, .bool false, .int .i64 9, .int .i64 5, .int .i64 2, .int .i64 0, .int .i64 0, .int .i64 0, .int .i64 0, .int .i64 0, .slice A1 3 k1, .int .i64 0, .slice none 0 0] := (hK2.l _ (.tail _ (.tail _ (.tail _ (.tail _ (.head _)))))).rowOf_eq
  go_wp2_with fail
  go_at_call 60
  refine (call60 ⟨8, 2, 0, 0, 1⟩ ⟨by decide, by decide, by decide, by decide, by decide, by decide, by decide, by decide, by decide, by decide⟩ v0 s0 (fun C S => .agg #[.int .i64 1, .bool false, .int .i64 9, .int .i64 5, .int .i64 2, .int .i64 0, .int .i64 0, .int .i64 0, .int .i64 0, .int .i64 0, C, .int .i64 0, S]) [0, 0, 0] [⟨1, 2, 9⟩] 0 (by kernel_rfl) (by kernel_rfl) (by kernel_rfl) (by kernel_rfl) 3 1 rfl rfl A1 none 3 0 k1 0 (by decide) hK2 (.tail _ (.tail _ (.tail _ (.tail _ (.head _))))) (.tail _ (.tail _ (.tail _ (.tail _ (.tail _ (.head _))))))).mono ?_
  rintro e U3 ⟨B3, x3, D3, y3, rfl, hB3⟩
  clear pI qI pV qV pS qS
  go_upto_region 11 with fail
  have hC3 := hB3.put 53 #[.int .i64 1, .bool false, .int .i64 9, .int .i64 5, .int .i64 2, .int .i64 0, .int .i64 0, .int .i64 0, .int .i64 0, .int .i64 0, .slice B3 3 x3, .int .i64 0, .slice D3 1 y3]
  obtain ⟨W13, hW⟩ : ∃ W, W = (U3.alloc (.cells #[.int .i64 1, .bool false, .int .i64 9, .int .i64 5, .int .i64 2, .int .i64 0, .int .i64 0, .int .i64 0, .int .i64 0, .int .i64 0, .slice B3 3 x3, .int .i64 0, .slice D3 1 y3] 53)) := ⟨_, rfl⟩
  rw [← hW] at hC3 ⊢
  clear hW hB3
  have pI : IsRow W13 wc.heap.size 5 := (hC3.l _ (.tail _ (.head _))).isRow rfl
  have qI : rowOf W13 wc.heap.size = #[.int .u8 8, .int .u8 2, .int .u8 0, .int .u8 0, .int .i64 1] := (hC3.l _ (.tail _ (.head _))).rowOf_eq
  have pS : IsRow W13 W2.heap.size 13 := (hC3.l _ (.tail _ (.tail _ (.tail _ (.tail _ (.tail _ (.head _))))))).isRow rfl
  have qS : rowOf W13 W2.heap.size = #[.int .i64 0, .bool false, .int .i64 9, .int .i64 5, .int .i64 2, .int .i64 0, .int .i64 0, .int .i64 0, .int .i64 0, .int .i64 0, .slice A1 3 k1, .int .i64 0, .slice none 0 0] := (hC3.l _ (.tail _ (.tail _ (.tail _ (.tail _ (.tail _ (.head _))))))).rowOf_eq
  go_wp2_with fail
  go_at_call 60
  refine (call60 ⟨8, 2, 0, 0, 1⟩ ⟨by decide, by decide, by decide, by decide, by decide, by decide, by decide, by decide, by decide, by decide⟩ ⟨0, 0, 2, 3, 5⟩ s0 (fun C S => .agg #[.int .i64 0, .bool false, .int .i64 0, .int .i64 0, .int .i64 0, .int .i64 0, .int .i64 0, .int .i64 0, .int .i64 0, .int .i64 0, C, .int .i64 0, S]) [] [] 189 (by kernel_rfl) (by kernel_rfl) (by kernel_rfl) (by kernel_rfl) 0 0 rfl rfl A1 none 3 0 k1 0 (by decide) hC3 (.tail _ (.tail _ (.tail _ (.tail _ (.tail _ (.tail _ (.head _))))))) (.tail _ (.tail _ (.tail _ (.tail _ (.tail _ (.tail _ (.tail _ (.head _))))))))).mono ?_
  rintro e U4 ⟨B4, x4, D4, y4, rfl, hB4⟩
  clear pI qI pS qS
  go_upto_region 12 with fail
  have hC4 := hB4.put 53 #[.int .i64 0, .bool false, .int .i64 0, .int .i64 0, .int .i64 0, .int .i64 0, .int .i64 0, .int .i64 0, .int .i64 0, .int .i64 0, .slice B4 0 x4, .int .i64 0, .slice D4 0 y4]
  obtain ⟨W14, hW⟩ : ∃ W, W = (U4.alloc (.cells #[.int .i64 0, .bool false, .int .i64 0, .int .i64 0, .int .i64 0, .int .i64 0, .int .i64 0, .int .i64 0, .int .i64 0, .int .i64 0, .slice B4 0 x4, .int .i64 0, .slice D4 0 y4] 53)) := ⟨_, rfl⟩
  rw [← hW] at hC4 ⊢
  clear hW hB4
  clear hC3
  have pI : IsRow W14 wc.heap.size 5 := (hC4.l _ (.tail _ (.tail _ (.head _)))).isRow rfl
  have qI : rowOf W14 wc.heap.size = #[.int .u8 8, .int .u8 2, .int .u8 0, .int .u8 0, .int .i64 1] := (hC4.l _ (.tail _ (.tail _ (.head _)))).rowOf_eq
  have pS : IsRow W14 W2.heap.size 13 := (hC4.l _ (.tail _ (.tail _ (.tail _ (.tail _ (.tail _ (.tail _ (.head _)))))))).isRow rfl
  have qS : rowOf W14 W2.heap.size = #[.int .i64 0, .bool false, .int .i64 9, .int .i64 5, .int .i64 2, .int .i64 0, .int .i64 0, .int .i64 0, .int .i64 0, .int .i64 0, .slice A1 3 k1, .int .i64 0, .slice none 0 0] := (hC4.l _ (.tail _ (.tail _ (.tail _ (.tail _ (.tail _ (.tail _ (.head _)))))))).rowOf_eq
  go_wp2_with fail
  go_at_call 60
  refine (call60 ⟨8, 2, 0, 0, 1⟩ ⟨by decide, by decide, by decide, by decide, by decide, by decide, by decide, by decide, by decide, by decide⟩ ⟨0, 0, 1, 1, 5⟩ s0 (fun C S => .agg #[.int .i64 0, .bool false, .int .i64 0, .int .i64 0, .int .i64 0, .int .i64 0, .int .i64 0, .int .i64 0, .int .i64 0, .int .i64 0, C, .int .i64 0, S]) [] [] 188 (by kernel_rfl) (by kernel_rfl) (by kernel_rfl) (by kernel_rfl) 0 0 rfl rfl A1 none 3 0 k1 0 (by decide) hC4 (.tail _ (.tail _ (.tail _ (.tail _ (.tail _ (.tail _ (.tail _ (.tail _ (.head _))))))))) (.tail _ (.tail _ (.tail _ (.tail _ (.tail _ (.tail _ (.tail _ (.tail _ (.tail _ (.head _))))))))))).mono ?_
  rintro e U5 ⟨B5, x5, D5, y5, rfl, hB5⟩
  clear pI qI pS qS
  go_upto_region 13 with fail
  have hC5 := hB5.put 53 #[.int .i64 0, .bool false, .int .i64 0, .int .i64 0, .int .i64 0, .int .i64 0, .int .i64 0, .int .i64 0, .int .i64 0, .int .i64 0, .slice B5 0 x5, .int .i64 0, .slice D5 0 y5]
  obtain ⟨W15, hW⟩ : ∃ W, W = (U5.alloc (.cells #[.int .i64 0, .bool false, .int .i64 0, .int .i64 0, .int .i64 0, .int .i64 0, .int .i64 0, .int .i64 0, .int .i64 0, .int .i64 0, .slice B5 0 x5, .int .i64 0, .slice D5 0 y5] 53)) := ⟨_, rfl⟩
  rw [← hW] at hC5 ⊢
  clear hW hB5
  clear hC4
  have pI : IsRow W15 wc.heap.size 5 := (hC5.l _ (.tail _ (.tail _ (.tail _ (.head _))))).isRow rfl
  have qI : rowOf W15 wc.heap.size = #[.int .u8 8, .int .u8 2, .int .u8 0, .int .u8 0, .int .i64 1] := (hC5.l _ (.tail _ (.tail _ (.tail _ (.head _))))).rowOf_eq
  have pS : IsRow W15 W2.heap.size 13 := (hC5.l _ (.tail _ (.tail _ (.tail _ (.tail _ (.tail _ (.tail _ (.tail _ (.head _))))))))).isRow rfl
  have qS : rowOf W15 W2.heap.size = #[.int .i64 0, .bool false, .int .i64 9, .int .i64 5, .int .i64 2, .int .i64 0, .int .i64 0, .int .i64 0, .int .i64 0, .int .i64 0, .slice A1 3 k1, .int .i64 0, .slice none 0 0] := (hC5.l _ (.tail _ (.tail _ (.tail _ (.tail _ (.tail _ (.tail _ (.tail _ (.head _))))))))).rowOf_eq
  go_wp2_with fail
  go_at_call 60
  refine (call60 ⟨8, 2, 0, 0, 1⟩ ⟨by decide, by decide, by decide, by decide, by decide, by decide, by decide, by decide, by decide, by decide⟩ ⟨0, 0, 2, 1, 281474976710655⟩ s0 (fun C S => .agg #[.int .i64 0, .bool false, .int .i64 0, .int .i64 0, .int .i64 0, .int .i64 0, .int .i64 0, .int .i64 0, .int .i64 0, .int .i64 0, C, .int .i64 0, S]) [] [] 1800 (by kernel_rfl) (by kernel_rfl) (by kernel_rfl) (by kernel_rfl) 0 0 rfl rfl A1 none 3 0 k1 0 (by decide) hC5 (.tail _ (.tail _ (.tail _ (.tail _ (.tail _ (.tail _ (.tail _ (.tail _ (.tail _ (.tail _ (.head _))))))))))) (.tail _ (.tail _ (.tail _ (.tail _ (.tail _ (.tail _ (.tail _ (.tail _ (.tail _ (.tail _ (.tail _ (.head _))))))))))))).mono ?_
  rintro e U6 ⟨B6, x6, D6, y6, rfl, hB6⟩
  clear pI qI pS qS
  go_upto_region 14 with fail
  have hC6 := hB6.put 53 #[.int .i64 0, .bool false, .int .i64 0, .int .i64 0, .int .i64 0, .int .i64 0, .int .i64 0, .int .i64 0, .int .i64 0, .int .i64 0, .slice B6 0 x6, .int .i64 0, .slice D6 0 y6]
  obtain ⟨W16, hW⟩ : ∃ W, W = (U6.alloc (.cells #[.int .i64 0, .bool false, .int .i64 0, .int .i64 0, .int .i64 0, .int .i64 0, .int .i64 0, .int .i64 0, .int .i64 0, .int .i64 0, .slice B6 0 x6, .int .i64 0, .slice D6 0 y6] 53)) := ⟨_, rfl⟩
  rw [← hW] at hC6 ⊢
  clear hW hB6
  clear hC5
  have hP7 := hC6.array 28 #[.int .u8 1, .int .u8 0, .int .u8 0, .int .u8 0, .int .i64 0] 5 1 rfl
  have pV : IsRow W16 (W2.heap.size + 1) 5 := (hC6.l _ (.tail _ (.tail _ (.tail _ (.tail _ (.tail _ (.tail _ (.tail _ (.head _))))))))).isRow rfl
  have qV : rowOf W16 (W2.heap.size + 1) = #[.int .u64 0, .int .i64 0, .int .i64 2, .int .i64 1, .int .i64 5] := (hC6.l _ (.tail _ (.tail _ (.tail _ (.tail _ (.tail _ (.tail _ (.tail _ (.head _))))))))).rowOf_eq
  have pS : IsRow W16 W2.heap.size 13 := (hC6.l _ (.tail _ (.tail _ (.tail _ (.tail _ (.tail _ (.tail _ (.tail _ (.tail _ (.head _)))))))))).isRow rfl
  have qS : rowOf W16 W2.heap.size = #[.int .i64 0, .bool false, .int .i64 9, .int .i64 5, .int .i64 2, .int .i64 0, .int .i64 0, .int .i64 0, .int .i64 0, .int .i64 0, .slice A1 3 k1, .int .i64 0, .slice none 0 0] := (hC6.l _ (.tail _ (.tail _ (.tail _ (.tail _ (.tail _ (.tail _ (.tail _ (.tail _ (.head _)))))))))).rowOf_eq
  go_wp2_with fail
  go_at_call 31
  refine (call31 [haltI] (by intro i hi; simp only [List.mem_cons, List.not_mem_nil, or_false] at hi; rw [hi]; exact haltI_ok) v0 s0 (fun C S => .agg #[.int .i64 0, .bool true, .int .i64 9, .int .i64 5, .int .i64 2, .int .i64 0, .int .i64 0, .int .i64 0, .int .i64 0, .int .i64 0, C, .int .i64 0, S]) [0, 0, 0] [] 0 (by kernel_rfl) (by kernel_rfl) (by kernel_rfl) (by kernel_rfl) 3 0 rfl rfl (some ⟨W16.heap.size, 0, none⟩) A1 none 1 3 0 1 k1 0 (by decide) (by decide) hP7 (.head _) (.tail _ (.tail _ (.tail _ (.tail _ (.tail _ (.tail _ (.tail _ (.tail _ (.tail _ (.tail _ (.tail _ (.tail _ (.tail _ (.head _)))))))))))))) (.tail _ (.tail _ (.tail _ (.tail _ (.tail _ (.tail _ (.tail _ (.tail _ (.tail _ (.tail _ (.tail _ (.tail _ (.tail _ (.tail _ (.head _)))))))))))))))).mono ?_
  rintro e U7 ⟨B7, x7, D7, y7, rfl, hB7⟩
  clear pV qV pS qS hP7 hC6
  go_upto_region 15 with fail
  have hC7 := hB7.put 53 #[.int .i64 0, .bool true, .int .i64 9, .int .i64 5, .int .i64 2, .int .i64 0, .int .i64 0, .int .i64 0, .int .i64 0, .int .i64 0, .slice B7 3 x7, .int .i64 0, .slice D7 0 y7]
  obtain ⟨W17, hW⟩ : ∃ W, W = (U7.alloc (.cells #[.int .i64 0, .bool true, .int .i64 9, .int .i64 5, .int .i64 2, .int .i64 0, .int .i64 0, .int .i64 0, .int .i64 0, .int .i64 0, .slice B7 3 x7, .int .i64 0, .slice D7 0 y7] 53)) := ⟨_, rfl⟩
  rw [← hW] at hC7 ⊢
  clear hW hB7
  have hP8 := hC7.array 28 #[.int .u8 1, .int .u8 0, .int .u8 0, .int .u8 0, .int .i64 0] 5 1 rfl
  have ph : IsRow W17 U7.heap.size 13 := (hC7.l _ (.head _)).isRow rfl
  have qh : rowOf W17 U7.heap.size = #[.int .i64 0, .bool true, .int .i64 9, .int .i64 5, .int .i64 2, .int .i64 0, .int .i64 0, .int .i64 0, .int .i64 0, .int .i64 0, .slice B7 3 x7, .int .i64 0, .slice D7 0 y7] := (hC7.l _ (.head _)).rowOf_eq
  have pV : IsRow W17 (W2.heap.size + 1) 5 := (hC7.l _ (.tail _ (.tail _ (.tail _ (.tail _ (.tail _ (.tail _ (.tail _ (.tail _ (.head _)))))))))).isRow rfl
  have qV : rowOf W17 (W2.heap.size + 1) = #[.int .u64 0, .int .i64 0, .int .i64 2, .int .i64 1, .int .i64 5] := (hC7.l _ (.tail _ (.tail _ (.tail _ (.tail _ (.tail _ (.tail _ (.tail _ (.tail _ (.head _)))))))))).rowOf_eq
  go_wp2_with fail
  go_at_call 31
  refine (call31 [haltI] (by intro i hi; simp only [List.mem_cons, List.not_mem_nil, or_false] at hi; rw [hi]; exact haltI_ok) v0 sH (fun C S => .agg #[.int .i64 0, .bool false, .int .i64 0, .int .i64 0, .int .i64 0, .int .i64 0, .int .i64 0, .int .i64 0, .int .i64 0, .int .i64 0, C, .int .i64 0, S]) [] [] 183 (by kernel_rfl) (by kernel_rfl) (by kernel_rfl) (by kernel_rfl) 0 0 rfl rfl (some ⟨W17.heap.size, 0, none⟩) B7 D7 1 3 0 1 x7 y7 (by decide) (by decide) hP8 (.head _) (.tail _ (.head _)) (.tail _ (.tail _ (.head _)))).mono ?_
  rintro e U8 ⟨B8, x8, D8, y8, rfl, hB8⟩
  clear ph qh pV qV hP8 hC7
  go_upto_region 16 with fail
  have hC8 := hB8.put 53 #[.int .i64 0, .bool false, .int .i64 0, .int .i64 0, .int .i64 0, .int .i64 0, .int .i64 0, .int .i64 0, .int .i64 0, .int .i64 0, .slice B8 0 x8, .int .i64 0, .slice D8 0 y8]
  obtain ⟨W18, hW⟩ : ∃ W, W = (U8.alloc (.cells #[.int .i64 0, .bool false, .int .i64 0, .int .i64 0, .int .i64 0, .int .i64 0, .int .i64 0, .int .i64 0, .int .i64 0, .int .i64 0, .slice B8 0 x8, .int .i64 0, .slice D8 0 y8] 53)) := ⟨_, rfl⟩
  rw [← hW] at hC8 ⊢
  clear hW hB8
  have z1 : W18.cell? ⟨U1.heap.size, 5, none⟩ = some (.int .i64 14) := (hC8.l _ (.tail _ (.tail _ (.tail _ (.tail _ (.tail _ (.tail _ (.tail _ (.tail _ (.head _)))))))))).cell 5
  have l1 : U1.heap.size < W18.heap.size := (hC8.l _ (.tail _ (.tail _ (.tail _ (.tail _ (.tail _ (.tail _ (.tail _ (.tail _ (.head _)))))))))).lt
  have z2 : W18.cell? ⟨U1.heap.size, 0, none⟩ = some (.int .i64 1) := (hC8.l _ (.tail _ (.tail _ (.tail _ (.tail _ (.tail _ (.tail _ (.tail _ (.tail _ (.head _)))))))))).cell 0
  have l2 : U1.heap.size < W18.heap.size := (hC8.l _ (.tail _ (.tail _ (.tail _ (.tail _ (.tail _ (.tail _ (.tail _ (.tail _ (.head _)))))))))).lt
  have z3 : W18.cell? ⟨U2.heap.size, 10, none⟩ = some (.slice B2 3 x2) := (hC8.l _ (.tail _ (.tail _ (.tail _ (.tail _ (.tail _ (.tail _ (.tail _ (.head _))))))))).cell 10
  have l3 : U2.heap.size < W18.heap.size := (hC8.l _ (.tail _ (.tail _ (.tail _ (.tail _ (.tail _ (.tail _ (.tail _ (.head _))))))))).lt
  have hE1 := hC8.array 2 #[.int .i64 0, .int .i64 0, .int .i64 9] 1 3 rfl
  have hEq1 := (equal64_c B2 (some ⟨W18.heap.size, 0, none⟩) 3 3 x2 3 [0, 0, 9] [0, 0, 9] _ (hE1.r _ (.tail _ (.tail _ (.tail _ (.tail _ (.tail _ (.tail _ (.tail _ (.tail _ (.tail _ (.tail _ (.tail _ (.tail _ (.tail _ (.tail _ (.tail _ (.head _))))))))))))))))) (hE1.r _ (.head _)) (by decide)).mono (R' := fun e w' => e = .returned (.bool true) ∧ Below (W18.alloc (.cells #[.int .i64 0, .int .i64 0, .int .i64 9] 2)).heap.size (W18.alloc (.cells #[.int .i64 0, .int .i64 0, .int .i64 9] 2)) w') fun e w' ⟨he, hb⟩ => ⟨he.trans rfl, hb⟩
  have HEq1 := Lib.hid hEq1
  clear hEq1
  go_wp2_with fail
  go_at_call 61
  refine HEq1.out.mono ?_
  rintro e V1 ⟨rfl, hb1⟩
  have hF1 := hE1.call hb1
  clear z1 l1 z2 l2 z3 l3 hE1 HEq1 hb1
  have z4 : V1.cell? ⟨U3.heap.size, 12, none⟩ = some (.slice D3 1 y3) := (hF1.l _ (.tail _ (.tail _ (.tail _ (.tail _ (.tail _ (.head _))))))).cell 12
  have l4 : U3.heap.size < V1.heap.size := (hF1.l _ (.tail _ (.tail _ (.tail _ (.tail _ (.tail _ (.head _))))))).lt
  have hE2 := hF1.array 64 #[.int .i64 1, .int .i64 2, .int .i64 9] 3 1 rfl
  have hEq2 := (equalS_c D3 (some ⟨V1.heap.size, 0, none⟩) 1 1 y3 1 [⟨1, 2, 9⟩] [⟨1, 2, 9⟩] _ (hE2.r _ (.tail _ (.tail _ (.tail _ (.tail _ (.tail _ (.tail _ (.tail _ (.tail _ (.tail _ (.tail _ (.tail _ (.tail _ (.tail _ (.tail _ (.tail _ (.head _))))))))))))))))) (hE2.r _ (.head _)) (by decide)).mono (R' := fun e w' => e = .returned (.bool true) ∧ Below (V1.alloc (.cells #[.int .i64 1, .int .i64 2, .int .i64 9] 64)).heap.size (V1.alloc (.cells #[.int .i64 1, .int .i64 2, .int .i64 9] 64)) w') fun e w' ⟨he, hb⟩ => ⟨he.trans (by simp), hb⟩
  have HEq2 := Lib.hid hEq2
  clear hEq2
  go_wp2_with fail
  go_at_call 52
  refine HEq2.out.mono ?_
  rintro e V2 ⟨rfl, hb2⟩
  have hF2 := hE2.call hb2
  clear z4 l4 hE2 HEq2 hb2
  have z5 : V2.cell? ⟨U7.heap.size, 1, none⟩ = some (.bool true) := (hF2.l _ (.tail _ (.head _))).cell 1
  have l5 : U7.heap.size < V2.heap.size := (hF2.l _ (.tail _ (.head _))).lt
  go_wp2_with fail
  go_ret
  exact ⟨rfl, hF2.b⟩
end Go.Proofs.Ytmljmabbopkpiaa