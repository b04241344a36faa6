import Derived.Test.YtmljmabbopkpiaaG1
import Derived.Test.YtmljmabbopkpiaaG4
import Derived.Test.YtmljmabbopkpiaaG6
import Derived.Test.YtmljmabbopkpiaaProg
import Derived.Handy
import Derived.Deep.RegionHeld3
import Derived.Deep.DeepCutAuto
import Derived.Deep.RegionLaw
import Derived.Deep.DrawnRows
import Derived.Laws.ResultCell
section
/- code.One (layer 14), class by class. PRINTED BY gen_one.py. -/
namespace Go.Proofs.Ytmljmabbopkpiaa
open Go.RowKit
set_option linter.unusedVariables false
set_option linter.unusedSimpArgs false

set_option maxRecDepth 100000 in
theorem registers_c (op a b c n : Int) (w : World) : Calls Try.prog 124 #[.agg #[.int .u8 op, .int .u8 a, .int .u8 b, .int .u8 c, .int .i64 n]] w fun e w' =>
    e = .returned (.agg #[.int .u8 a, .int .u8 b, .int .u8 c]) ∧ Below w.heap.size w w' := by
  go_enter Try.func124, Try.ntmps124
  go_wp2
  exact bodyPost_ret (v := .agg #[.int .u8 a, .int .u8 b, .int .u8 c]) (by simp [results, Try.results124, go_sem]) rfl ⟨rfl, ((Below.refl _ _).alloc (Nat.le_refl _) _).alloc (by simp) _⟩


set_option maxRecDepth 100000 in
set_option maxHeartbeats 4000000 in
theorem one_k1 (op a b c n : Int) (w : World) (a0 : 0 ≤ a) (a1 : a ≤ 255) (b0 : 0 ≤ b) (b1 : b ≤ 255) (c0 : 0 ≤ c) (c1 : c ≤ 255)
   (hform : ∀ w, Calls Try.prog 39 #[.int .u8 op] w fun e w' => e = .returned (.tuple #[.string ⟨#[114, 114, 114]⟩, .bool true]) ∧ Below w.heap.size w w') :
    Calls Try.prog 97 #[.agg #[.int .u8 op, .int .u8 a, .int .u8 b, .int .u8 c, .int .i64 n]] w fun e w' => e = .returned (.int .i64 (oneK 1 a b c n)) ∧ Below w.heap.size w w' := by
  go_enter Try.func97, Try.ntmps97
  have HF := Lib.hid hform
  clear hform
  go_wp2_with fail
  refine (HF.out _).mono ?_
  rintro e w1 ⟨rfl, hb1⟩
  have hz1 := hb1.size
  simp at hz1
  have hz1' : w.heap.size < w1.heap.size := by omega
  have c1_ : ∀ o, w1.cell? ⟨w.heap.size, o, none⟩ = #[Value.int .u8 op, .int .u8 a, .int .u8 b, .int .u8 c, .int .i64 n][o]? := fun o => by
    rw [hb1.cell (p := ⟨w.heap.size, o, none⟩) (by simp)]; exact cell_of_row _ _ _ _ _ _ (heap_alloc_new w _)
  have HB1 := Lib.hid (((Below.refl _ w).alloc (Nat.le_refl _) _).trans (hb1.mono (by simp)))
  clear hb1 HF
  go_upto_region 4 with fail
  go_cut [5, 6] (fun p m W => ∃ g, p = .pointer (some ⟨g, 0, none⟩) ∧ m = .int .i64 n ∧ w.heap.size ≤ g ∧ g < W.heap.size ∧ Below w.heap.size w W ∧ W.cell? ⟨g, 0, none⟩ = some (.int .u8 a) ∧ W.cell? ⟨g, 1, none⟩ = some (.int .u8 b) ∧ W.cell? ⟨g, 2, none⟩ = some (.int .u8 c) ∧ (∀ o, W.frozen? ⟨g, o, none⟩ = false))
  case first =>
    go_region_held3 (fun W => Below w1.heap.size w1 W ∧ ∀ b o, b < w1.heap.size → W.cell? ⟨b, o, none⟩ = w1.cell? ⟨b, o, none⟩)
      (repeat' (first | exact preD | assumption | exact preR | refine preB ?_ hb2 | refine preE ?_ | refine preA ?_ _ | refine preS ?_ ?_ _ | omega | (simp; done) | (simp; omega)))
      ((go_at_call 124; refine (registers_c _ _ _ _ _ _).mono ?_; rintro e w2 ⟨rfl, hb2⟩; obtain ⟨hc2, hf2⟩ := bcell hb2; have hz2 := hb2.size; simp at hz2))
    all_goals (go_wp2_with fail; go_meet)
    all_goals refine ⟨_, rfl, rfl, ?_, ?_, HB1.out.trans (Below.mono (And.left (by assumption)) (by omega)), ?_, ?_, ?_, ?_⟩
    all_goals first | omega | (simp; omega) | go_simp | skip
  case rest =>
    obtain ⟨g, rfl, rfl, hg1, hg2, hB, h0, h1, h2, hf⟩ := hcut
    have hz := hB.size
    have HB := Lib.hid hB
    have e3 := fun x y z w => eq3 x y z 0 0 0 w
    clear hB HB1 c1_ hz1 hz1'
    have i1 := fun W (p i : Nat) v => iter_setCell W ⟨#[114, 114, 114]⟩ p g i v
    have i2 := fun W (p i : Nat) => iter_cell W ⟨#[114, 114, 114]⟩ p g i
    have i3 := fun W (p i : Nat) => iter_frozen W ⟨#[114, 114, 114]⟩ p g i
    have n0_ := fun W n ty hn => next_at (P := Try.prog) W ⟨#[114, 114, 114]⟩ 0 1 n 114 ty hn (by decide) (by decide) (by decide) rfl
    have n1_ := fun W n ty hn => next_at (P := Try.prog) W ⟨#[114, 114, 114]⟩ 1 2 n 114 ty hn (by decide) (by decide) (by decide) rfl
    have n2_ := fun W n ty hn => next_at (P := Try.prog) W ⟨#[114, 114, 114]⟩ 2 3 n 114 ty hn (by decide) (by decide) (by decide) rfl
    have n3_ := fun W n ty hn => next_end (P := Try.prog) W ⟨#[114, 114, 114]⟩ 3 n ty hn (by decide)
    go_wp2
    refine wp_loop_rounds 4 ?_
    all_goals (rw [rounds_succ]; go_wp2)
    any_goals (rw [rounds_succ]; go_wp2)
    any_goals (rw [rounds_succ]; go_wp2)
    any_goals (rw [rounds_succ]; go_wp2)
    all_goals (go_ret; refine ⟨ret_i64 ?_, ?_⟩)
    all_goals first
      | exact HB.out.alloc hz _
      | exact (HB.out.setCell (p := ⟨g, _, none⟩) hg1 _).alloc (by simp; omega) _
      | exact ((HB.out.setCell (p := ⟨g, _, none⟩) hg1 _).setCell (p := ⟨g, _, none⟩) hg1 _).alloc (by simp; omega) _
      | exact (((HB.out.setCell (p := ⟨g, _, none⟩) hg1 _).setCell (p := ⟨g, _, none⟩) hg1 _).setCell (p := ⟨g, _, none⟩) hg1 _).alloc (by simp; omega) _
      | (rw [oneK_pos (by simp only [fitsC]; omega)])
      | (rw [oneK_neg (by simp only [fitsC]; omega)])
      | (have hn : (n != 0) = true := by assumption
         rw [bne_iff_ne] at hn
         rw [oneK_neg (by simp only [fitsC]; omega)])
      | (have hn : (n != 0) = false := by assumption
         rw [bne_eq_false_iff_eq] at hn
         rw [oneK_pos (by simp only [fitsC]; omega)])
      | (have hn : (n != 0) = false := by assumption
         rw [bne_eq_false_iff_eq] at hn
         rw [oneK_neg (by simp only [fitsC]; omega)])



set_option maxRecDepth 100000 in
set_option maxHeartbeats 4000000 in
theorem one_k2 (op a b c n : Int) (w : World) (a0 : 0 ≤ a) (a1 : a ≤ 255) (b0 : 0 ≤ b) (b1 : b ≤ 255) (c0 : 0 ≤ c) (c1 : c ≤ 255)
   (hform : ∀ w, Calls Try.prog 39 #[.int .u8 op] w fun e w' => e = .returned (.tuple #[.string ⟨#[]⟩, .bool true]) ∧ Below w.heap.size w w') :
    Calls Try.prog 97 #[.agg #[.int .u8 op, .int .u8 a, .int .u8 b, .int .u8 c, .int .i64 n]] w fun e w' => e = .returned (.int .i64 (oneK 2 a b c n)) ∧ Below w.heap.size w w' := by
  go_enter Try.func97, Try.ntmps97
  have HF := Lib.hid hform
  clear hform
  go_wp2_with fail
  refine (HF.out _).mono ?_
  rintro e w1 ⟨rfl, hb1⟩
  have hz1 := hb1.size
  simp at hz1
  have hz1' : w.heap.size < w1.heap.size := by omega
  have c1_ : ∀ o, w1.cell? ⟨w.heap.size, o, none⟩ = #[Value.int .u8 op, .int .u8 a, .int .u8 b, .int .u8 c, .int .i64 n][o]? := fun o => by
    rw [hb1.cell (p := ⟨w.heap.size, o, none⟩) (by simp)]; exact cell_of_row _ _ _ _ _ _ (heap_alloc_new w _)
  have HB1 := Lib.hid (((Below.refl _ w).alloc (Nat.le_refl _) _).trans (hb1.mono (by simp)))
  clear hb1 HF
  go_upto_region 4 with fail
  go_cut [5, 6] (fun p m W => ∃ g, p = .pointer (some ⟨g, 0, none⟩) ∧ m = .int .i64 n ∧ w.heap.size ≤ g ∧ g < W.heap.size ∧ Below w.heap.size w W ∧ W.cell? ⟨g, 0, none⟩ = some (.int .u8 a) ∧ W.cell? ⟨g, 1, none⟩ = some (.int .u8 b) ∧ W.cell? ⟨g, 2, none⟩ = some (.int .u8 c) ∧ (∀ o, W.frozen? ⟨g, o, none⟩ = false))
  case first =>
    go_region_held3 (fun W => Below w1.heap.size w1 W ∧ ∀ b o, b < w1.heap.size → W.cell? ⟨b, o, none⟩ = w1.cell? ⟨b, o, none⟩)
      (repeat' (first | exact preD | assumption | exact preR | refine preB ?_ hb2 | refine preE ?_ | refine preA ?_ _ | refine preS ?_ ?_ _ | omega | (simp; done) | (simp; omega)))
      ((go_at_call 124; refine (registers_c _ _ _ _ _ _).mono ?_; rintro e w2 ⟨rfl, hb2⟩; obtain ⟨hc2, hf2⟩ := bcell hb2; have hz2 := hb2.size; simp at hz2))
    all_goals (go_wp2_with fail; go_meet)
    all_goals refine ⟨_, rfl, rfl, ?_, ?_, HB1.out.trans (Below.mono (And.left (by assumption)) (by omega)), ?_, ?_, ?_, ?_⟩
    all_goals first | omega | (simp; omega) | go_simp | skip
  case rest =>
    obtain ⟨g, rfl, rfl, hg1, hg2, hB, h0, h1, h2, hf⟩ := hcut
    have hz := hB.size
    have HB := Lib.hid hB
    have e3 := fun x y z w => eq3 x y z 0 0 0 w
    clear hB HB1 c1_ hz1 hz1'
    have i1 := fun W (p i : Nat) v => iter_setCell W ⟨#[]⟩ p g i v
    have i2 := fun W (p i : Nat) => iter_cell W ⟨#[]⟩ p g i
    have i3 := fun W (p i : Nat) => iter_frozen W ⟨#[]⟩ p g i
    have n0_ := fun W n ty hn => next_end (P := Try.prog) W ⟨#[]⟩ 0 n ty hn (by decide)
    go_wp2
    refine wp_loop_rounds 1 ?_
    all_goals (rw [rounds_succ]; go_wp2)
    all_goals (go_ret; refine ⟨ret_i64 ?_, ?_⟩)
    all_goals first
      | exact HB.out.alloc hz _
      | exact (HB.out.setCell (p := ⟨g, _, none⟩) hg1 _).alloc (by simp; omega) _
      | exact ((HB.out.setCell (p := ⟨g, _, none⟩) hg1 _).setCell (p := ⟨g, _, none⟩) hg1 _).alloc (by simp; omega) _
      | exact (((HB.out.setCell (p := ⟨g, _, none⟩) hg1 _).setCell (p := ⟨g, _, none⟩) hg1 _).setCell (p := ⟨g, _, none⟩) hg1 _).alloc (by simp; omega) _
      | (rw [oneK_pos (by simp only [fitsC]; omega)])
      | (rw [oneK_neg (by simp only [fitsC]; omega)])
      | (have hn : (n != 0) = true := by assumption
         rw [bne_iff_ne] at hn
         rw [oneK_neg (by simp only [fitsC]; omega)])
      | (have hn : (n != 0) = false := by assumption
         rw [bne_eq_false_iff_eq] at hn
         rw [oneK_pos (by simp only [fitsC]; omega)])
      | (have hn : (n != 0) = false := by assumption
         rw [bne_eq_false_iff_eq] at hn
         rw [oneK_neg (by simp only [fitsC]; omega)])



set_option maxRecDepth 100000 in
set_option maxHeartbeats 4000000 in
theorem one_k3 (op a b c n : Int) (w : World) (a0 : 0 ≤ a) (a1 : a ≤ 255) (b0 : 0 ≤ b) (b1 : b ≤ 255) (c0 : 0 ≤ c) (c1 : c ≤ 255)
   (hform : ∀ w, Calls Try.prog 39 #[.int .u8 op] w fun e w' => e = .returned (.tuple #[.string ⟨#[114, 110]⟩, .bool true]) ∧ Below w.heap.size w w') :
    Calls Try.prog 97 #[.agg #[.int .u8 op, .int .u8 a, .int .u8 b, .int .u8 c, .int .i64 n]] w fun e w' => e = .returned (.int .i64 (oneK 3 a b c n)) ∧ Below w.heap.size w w' := by
  go_enter Try.func97, Try.ntmps97
  have HF := Lib.hid hform
  clear hform
  go_wp2_with fail
  refine (HF.out _).mono ?_
  rintro e w1 ⟨rfl, hb1⟩
  have hz1 := hb1.size
  simp at hz1
  have hz1' : w.heap.size < w1.heap.size := by omega
  have c1_ : ∀ o, w1.cell? ⟨w.heap.size, o, none⟩ = #[Value.int .u8 op, .int .u8 a, .int .u8 b, .int .u8 c, .int .i64 n][o]? := fun o => by
    rw [hb1.cell (p := ⟨w.heap.size, o, none⟩) (by simp)]; exact cell_of_row _ _ _ _ _ _ (heap_alloc_new w _)
  have HB1 := Lib.hid (((Below.refl _ w).alloc (Nat.le_refl _) _).trans (hb1.mono (by simp)))
  clear hb1 HF
  go_upto_region 4 with fail
  go_cut [5, 6] (fun p m W => ∃ g, p = .pointer (some ⟨g, 0, none⟩) ∧ m = .int .i64 n ∧ w.heap.size ≤ g ∧ g < W.heap.size ∧ Below w.heap.size w W ∧ W.cell? ⟨g, 0, none⟩ = some (.int .u8 a) ∧ W.cell? ⟨g, 1, none⟩ = some (.int .u8 b) ∧ W.cell? ⟨g, 2, none⟩ = some (.int .u8 c) ∧ (∀ o, W.frozen? ⟨g, o, none⟩ = false))
  case first =>
    go_region_held3 (fun W => Below w1.heap.size w1 W ∧ ∀ b o, b < w1.heap.size → W.cell? ⟨b, o, none⟩ = w1.cell? ⟨b, o, none⟩)
      (repeat' (first | exact preD | assumption | exact preR | refine preB ?_ hb2 | refine preE ?_ | refine preA ?_ _ | refine preS ?_ ?_ _ | omega | (simp; done) | (simp; omega)))
      ((go_at_call 124; refine (registers_c _ _ _ _ _ _).mono ?_; rintro e w2 ⟨rfl, hb2⟩; obtain ⟨hc2, hf2⟩ := bcell hb2; have hz2 := hb2.size; simp at hz2))
    all_goals (go_wp2_with fail; go_meet)
    all_goals refine ⟨_, rfl, rfl, ?_, ?_, HB1.out.trans (Below.mono (And.left (by assumption)) (by omega)), ?_, ?_, ?_, ?_⟩
    all_goals first | omega | (simp; omega) | go_simp | skip
  case rest =>
    obtain ⟨g, rfl, rfl, hg1, hg2, hB, h0, h1, h2, hf⟩ := hcut
    have hz := hB.size
    have HB := Lib.hid hB
    have e3 := fun x y z w => eq3 x y z 0 0 0 w
    clear hB HB1 c1_ hz1 hz1'
    have i1 := fun W (p i : Nat) v => iter_setCell W ⟨#[114, 110]⟩ p g i v
    have i2 := fun W (p i : Nat) => iter_cell W ⟨#[114, 110]⟩ p g i
    have i3 := fun W (p i : Nat) => iter_frozen W ⟨#[114, 110]⟩ p g i
    have n0_ := fun W n ty hn => next_at (P := Try.prog) W ⟨#[114, 110]⟩ 0 1 n 114 ty hn (by decide) (by decide) (by decide) rfl
    have n1_ := fun W n ty hn => next_at (P := Try.prog) W ⟨#[114, 110]⟩ 1 2 n 110 ty hn (by decide) (by decide) (by decide) rfl
    have n2_ := fun W n ty hn => next_end (P := Try.prog) W ⟨#[114, 110]⟩ 2 n ty hn (by decide)
    go_wp2
    refine wp_loop_rounds 3 ?_
    all_goals (rw [rounds_succ]; go_wp2)
    any_goals (rw [rounds_succ]; go_wp2)
    any_goals (rw [rounds_succ]; go_wp2)
    all_goals (go_ret; refine ⟨ret_i64 ?_, ?_⟩)
    all_goals first
      | exact HB.out.alloc hz _
      | exact (HB.out.setCell (p := ⟨g, _, none⟩) hg1 _).alloc (by simp; omega) _
      | exact ((HB.out.setCell (p := ⟨g, _, none⟩) hg1 _).setCell (p := ⟨g, _, none⟩) hg1 _).alloc (by simp; omega) _
      | exact (((HB.out.setCell (p := ⟨g, _, none⟩) hg1 _).setCell (p := ⟨g, _, none⟩) hg1 _).setCell (p := ⟨g, _, none⟩) hg1 _).alloc (by simp; omega) _
      | (rw [oneK_pos (by simp only [fitsC]; omega)])
      | (rw [oneK_neg (by simp only [fitsC]; omega)])
      | (have hn : (n != 0) = true := by assumption
         rw [bne_iff_ne] at hn
         rw [oneK_neg (by simp only [fitsC]; omega)])
      | (have hn : (n != 0) = false := by assumption
         rw [bne_eq_false_iff_eq] at hn
         rw [oneK_pos (by simp only [fitsC]; omega)])
      | (have hn : (n != 0) = false := by assumption
         rw [bne_eq_false_iff_eq] at hn
         rw [oneK_neg (by simp only [fitsC]; omega)])



set_option maxRecDepth 100000 in
set_option maxHeartbeats 4000000 in
theorem one_k4 (op a b c n : Int) (w : World) (a0 : 0 ≤ a) (a1 : a ≤ 255) (b0 : 0 ≤ b) (b1 : b ≤ 255) (c0 : 0 ≤ c) (c1 : c ≤ 255)
   (hform : ∀ w, Calls Try.prog 39 #[.int .u8 op] w fun e w' => e = .returned (.tuple #[.string ⟨#[114, 114]⟩, .bool true]) ∧ Below w.heap.size w w') :
    Calls Try.prog 97 #[.agg #[.int .u8 op, .int .u8 a, .int .u8 b, .int .u8 c, .int .i64 n]] w fun e w' => e = .returned (.int .i64 (oneK 4 a b c n)) ∧ Below w.heap.size w w' := by
  go_enter Try.func97, Try.ntmps97
  have HF := Lib.hid hform
  clear hform
  go_wp2_with fail
  refine (HF.out _).mono ?_
  rintro e w1 ⟨rfl, hb1⟩
  have hz1 := hb1.size
  simp at hz1
  have hz1' : w.heap.size < w1.heap.size := by omega
  have c1_ : ∀ o, w1.cell? ⟨w.heap.size, o, none⟩ = #[Value.int .u8 op, .int .u8 a, .int .u8 b, .int .u8 c, .int .i64 n][o]? := fun o => by
    rw [hb1.cell (p := ⟨w.heap.size, o, none⟩) (by simp)]; exact cell_of_row _ _ _ _ _ _ (heap_alloc_new w _)
  have HB1 := Lib.hid (((Below.refl _ w).alloc (Nat.le_refl _) _).trans (hb1.mono (by simp)))
  clear hb1 HF
  go_upto_region 4 with fail
  go_cut [5, 6] (fun p m W => ∃ g, p = .pointer (some ⟨g, 0, none⟩) ∧ m = .int .i64 n ∧ w.heap.size ≤ g ∧ g < W.heap.size ∧ Below w.heap.size w W ∧ W.cell? ⟨g, 0, none⟩ = some (.int .u8 a) ∧ W.cell? ⟨g, 1, none⟩ = some (.int .u8 b) ∧ W.cell? ⟨g, 2, none⟩ = some (.int .u8 c) ∧ (∀ o, W.frozen? ⟨g, o, none⟩ = false))
  case first =>
    go_region_held3 (fun W => Below w1.heap.size w1 W ∧ ∀ b o, b < w1.heap.size → W.cell? ⟨b, o, none⟩ = w1.cell? ⟨b, o, none⟩)
      (repeat' (first | exact preD | assumption | exact preR | refine preB ?_ hb2 | refine preE ?_ | refine preA ?_ _ | refine preS ?_ ?_ _ | omega | (simp; done) | (simp; omega)))
      ((go_at_call 124; refine (registers_c _ _ _ _ _ _).mono ?_; rintro e w2 ⟨rfl, hb2⟩; obtain ⟨hc2, hf2⟩ := bcell hb2; have hz2 := hb2.size; simp at hz2))
    all_goals (go_wp2_with fail; go_meet)
    all_goals refine ⟨_, rfl, rfl, ?_, ?_, HB1.out.trans (Below.mono (And.left (by assumption)) (by omega)), ?_, ?_, ?_, ?_⟩
    all_goals first | omega | (simp; omega) | go_simp | skip
  case rest =>
    obtain ⟨g, rfl, rfl, hg1, hg2, hB, h0, h1, h2, hf⟩ := hcut
    have hz := hB.size
    have HB := Lib.hid hB
    have e3 := fun x y z w => eq3 x y z 0 0 0 w
    clear hB HB1 c1_ hz1 hz1'
    have i1 := fun W (p i : Nat) v => iter_setCell W ⟨#[114, 114]⟩ p g i v
    have i2 := fun W (p i : Nat) => iter_cell W ⟨#[114, 114]⟩ p g i
    have i3 := fun W (p i : Nat) => iter_frozen W ⟨#[114, 114]⟩ p g i
    have n0_ := fun W n ty hn => next_at (P := Try.prog) W ⟨#[114, 114]⟩ 0 1 n 114 ty hn (by decide) (by decide) (by decide) rfl
    have n1_ := fun W n ty hn => next_at (P := Try.prog) W ⟨#[114, 114]⟩ 1 2 n 114 ty hn (by decide) (by decide) (by decide) rfl
    have n2_ := fun W n ty hn => next_end (P := Try.prog) W ⟨#[114, 114]⟩ 2 n ty hn (by decide)
    go_wp2
    refine wp_loop_rounds 3 ?_
    all_goals (rw [rounds_succ]; go_wp2)
    any_goals (rw [rounds_succ]; go_wp2)
    any_goals (rw [rounds_succ]; go_wp2)
    all_goals (go_ret; refine ⟨ret_i64 ?_, ?_⟩)
    all_goals first
      | exact HB.out.alloc hz _
      | exact (HB.out.setCell (p := ⟨g, _, none⟩) hg1 _).alloc (by simp; omega) _
      | exact ((HB.out.setCell (p := ⟨g, _, none⟩) hg1 _).setCell (p := ⟨g, _, none⟩) hg1 _).alloc (by simp; omega) _
      | exact (((HB.out.setCell (p := ⟨g, _, none⟩) hg1 _).setCell (p := ⟨g, _, none⟩) hg1 _).setCell (p := ⟨g, _, none⟩) hg1 _).alloc (by simp; omega) _
      | (rw [oneK_pos (by simp only [fitsC]; omega)])
      | (rw [oneK_neg (by simp only [fitsC]; omega)])
      | (have hn : (n != 0) = true := by assumption
         rw [bne_iff_ne] at hn
         rw [oneK_neg (by simp only [fitsC]; omega)])
      | (have hn : (n != 0) = false := by assumption
         rw [bne_eq_false_iff_eq] at hn
         rw [oneK_pos (by simp only [fitsC]; omega)])
      | (have hn : (n != 0) = false := by assumption
         rw [bne_eq_false_iff_eq] at hn
         rw [oneK_neg (by simp only [fitsC]; omega)])



set_option maxRecDepth 100000 in
set_option maxHeartbeats 4000000 in
theorem one_k5 (op a b c n : Int) (w : World) (a0 : 0 ≤ a) (a1 : a ≤ 255) (b0 : 0 ≤ b) (b1 : b ≤ 255) (c0 : 0 ≤ c) (c1 : c ≤ 255)
   (hform : ∀ w, Calls Try.prog 39 #[.int .u8 op] w fun e w' => e = .returned (.tuple #[.string ⟨#[114, 114, 112]⟩, .bool true]) ∧ Below w.heap.size w w') :
    Calls Try.prog 97 #[.agg #[.int .u8 op, .int .u8 a, .int .u8 b, .int .u8 c, .int .i64 n]] w fun e w' => e = .returned (.int .i64 (oneK 5 a b c n)) ∧ Below w.heap.size w w' := by
  go_enter Try.func97, Try.ntmps97
  have HF := Lib.hid hform
  clear hform
  go_wp2_with fail
  refine (HF.out _).mono ?_
  rintro e w1 ⟨rfl, hb1⟩
  have hz1 := hb1.size
  simp at hz1
  have hz1' : w.heap.size < w1.heap.size := by omega
  have c1_ : ∀ o, w1.cell? ⟨w.heap.size, o, none⟩ = #[Value.int .u8 op, .int .u8 a, .int .u8 b, .int .u8 c, .int .i64 n][o]? := fun o => by
    rw [hb1.cell (p := ⟨w.heap.size, o, none⟩) (by simp)]; exact cell_of_row _ _ _ _ _ _ (heap_alloc_new w _)
  have HB1 := Lib.hid (((Below.refl _ w).alloc (Nat.le_refl _) _).trans (hb1.mono (by simp)))
  clear hb1 HF
  go_upto_region 4 with fail
  go_cut [5, 6] (fun p m W => ∃ g, p = .pointer (some ⟨g, 0, none⟩) ∧ m = .int .i64 n ∧ w.heap.size ≤ g ∧ g < W.heap.size ∧ Below w.heap.size w W ∧ W.cell? ⟨g, 0, none⟩ = some (.int .u8 a) ∧ W.cell? ⟨g, 1, none⟩ = some (.int .u8 b) ∧ W.cell? ⟨g, 2, none⟩ = some (.int .u8 c) ∧ (∀ o, W.frozen? ⟨g, o, none⟩ = false))
  case first =>
    go_region_held3 (fun W => Below w1.heap.size w1 W ∧ ∀ b o, b < w1.heap.size → W.cell? ⟨b, o, none⟩ = w1.cell? ⟨b, o, none⟩)
      (repeat' (first | exact preD | assumption | exact preR | refine preB ?_ hb2 | refine preE ?_ | refine preA ?_ _ | refine preS ?_ ?_ _ | omega | (simp; done) | (simp; omega)))
      ((go_at_call 124; refine (registers_c _ _ _ _ _ _).mono ?_; rintro e w2 ⟨rfl, hb2⟩; obtain ⟨hc2, hf2⟩ := bcell hb2; have hz2 := hb2.size; simp at hz2))
    all_goals (go_wp2_with fail; go_meet)
    all_goals refine ⟨_, rfl, rfl, ?_, ?_, HB1.out.trans (Below.mono (And.left (by assumption)) (by omega)), ?_, ?_, ?_, ?_⟩
    all_goals first | omega | (simp; omega) | go_simp | skip
  case rest =>
    obtain ⟨g, rfl, rfl, hg1, hg2, hB, h0, h1, h2, hf⟩ := hcut
    have hz := hB.size
    have HB := Lib.hid hB
    have e3 := fun x y z w => eq3 x y z 0 0 0 w
    clear hB HB1 c1_ hz1 hz1'
    have i1 := fun W (p i : Nat) v => iter_setCell W ⟨#[114, 114, 112]⟩ p g i v
    have i2 := fun W (p i : Nat) => iter_cell W ⟨#[114, 114, 112]⟩ p g i
    have i3 := fun W (p i : Nat) => iter_frozen W ⟨#[114, 114, 112]⟩ p g i
    have n0_ := fun W n ty hn => next_at (P := Try.prog) W ⟨#[114, 114, 112]⟩ 0 1 n 114 ty hn (by decide) (by decide) (by decide) rfl
    have n1_ := fun W n ty hn => next_at (P := Try.prog) W ⟨#[114, 114, 112]⟩ 1 2 n 114 ty hn (by decide) (by decide) (by decide) rfl
    have n2_ := fun W n ty hn => next_at (P := Try.prog) W ⟨#[114, 114, 112]⟩ 2 3 n 112 ty hn (by decide) (by decide) (by decide) rfl
    have n3_ := fun W n ty hn => next_end (P := Try.prog) W ⟨#[114, 114, 112]⟩ 3 n ty hn (by decide)
    go_wp2
    refine wp_loop_rounds 4 ?_
    all_goals (rw [rounds_succ]; go_wp2)
    any_goals (rw [rounds_succ]; go_wp2)
    any_goals (rw [rounds_succ]; go_wp2)
    any_goals (rw [rounds_succ]; go_wp2)
    all_goals (go_ret; refine ⟨ret_i64 ?_, ?_⟩)
    all_goals first
      | exact HB.out.alloc hz _
      | exact (HB.out.setCell (p := ⟨g, _, none⟩) hg1 _).alloc (by simp; omega) _
      | exact ((HB.out.setCell (p := ⟨g, _, none⟩) hg1 _).setCell (p := ⟨g, _, none⟩) hg1 _).alloc (by simp; omega) _
      | exact (((HB.out.setCell (p := ⟨g, _, none⟩) hg1 _).setCell (p := ⟨g, _, none⟩) hg1 _).setCell (p := ⟨g, _, none⟩) hg1 _).alloc (by simp; omega) _
      | (rw [oneK_pos (by simp only [fitsC]; omega)])
      | (rw [oneK_neg (by simp only [fitsC]; omega)])
      | (have hn : (n != 0) = true := by assumption
         rw [bne_iff_ne] at hn
         rw [oneK_neg (by simp only [fitsC]; omega)])
      | (have hn : (n != 0) = false := by assumption
         rw [bne_eq_false_iff_eq] at hn
         rw [oneK_pos (by simp only [fitsC]; omega)])
      | (have hn : (n != 0) = false := by assumption
         rw [bne_eq_false_iff_eq] at hn
         rw [oneK_neg (by simp only [fitsC]; omega)])



set_option maxRecDepth 100000 in
set_option maxHeartbeats 4000000 in
theorem one_k6 (op a b c n : Int) (w : World) (a0 : 0 ≤ a) (a1 : a ≤ 255) (b0 : 0 ≤ b) (b1 : b ≤ 255) (c0 : 0 ≤ c) (c1 : c ≤ 255)
   (hform : ∀ w, Calls Try.prog 39 #[.int .u8 op] w fun e w' => e = .returned (.tuple #[.string ⟨#[116]⟩, .bool true]) ∧ Below w.heap.size w w') :
    Calls Try.prog 97 #[.agg #[.int .u8 op, .int .u8 a, .int .u8 b, .int .u8 c, .int .i64 n]] w fun e w' => e = .returned (.int .i64 (oneK 6 a b c n)) ∧ Below w.heap.size w w' := by
  go_enter Try.func97, Try.ntmps97
  have HF := Lib.hid hform
  clear hform
  go_wp2_with fail
  refine (HF.out _).mono ?_
  rintro e w1 ⟨rfl, hb1⟩
  have hz1 := hb1.size
  simp at hz1
  have hz1' : w.heap.size < w1.heap.size := by omega
  have c1_ : ∀ o, w1.cell? ⟨w.heap.size, o, none⟩ = #[Value.int .u8 op, .int .u8 a, .int .u8 b, .int .u8 c, .int .i64 n][o]? := fun o => by
    rw [hb1.cell (p := ⟨w.heap.size, o, none⟩) (by simp)]; exact cell_of_row _ _ _ _ _ _ (heap_alloc_new w _)
  have HB1 := Lib.hid (((Below.refl _ w).alloc (Nat.le_refl _) _).trans (hb1.mono (by simp)))
  clear hb1 HF
  go_upto_region 4 with fail
  go_cut [5, 6] (fun p m W => ∃ g, p = .pointer (some ⟨g, 0, none⟩) ∧ m = .int .i64 n ∧ w.heap.size ≤ g ∧ g < W.heap.size ∧ Below w.heap.size w W ∧ W.cell? ⟨g, 0, none⟩ = some (.int .u8 a) ∧ W.cell? ⟨g, 1, none⟩ = some (.int .u8 b) ∧ W.cell? ⟨g, 2, none⟩ = some (.int .u8 c) ∧ (∀ o, W.frozen? ⟨g, o, none⟩ = false))
  case first =>
    go_region_held3 (fun W => Below w1.heap.size w1 W ∧ ∀ b o, b < w1.heap.size → W.cell? ⟨b, o, none⟩ = w1.cell? ⟨b, o, none⟩)
      (repeat' (first | exact preD | assumption | exact preR | refine preB ?_ hb2 | refine preE ?_ | refine preA ?_ _ | refine preS ?_ ?_ _ | omega | (simp; done) | (simp; omega)))
      ((go_at_call 124; refine (registers_c _ _ _ _ _ _).mono ?_; rintro e w2 ⟨rfl, hb2⟩; obtain ⟨hc2, hf2⟩ := bcell hb2; have hz2 := hb2.size; simp at hz2))
    all_goals (go_wp2_with fail; go_meet)
    all_goals refine ⟨_, rfl, rfl, ?_, ?_, HB1.out.trans (Below.mono (And.left (by assumption)) (by omega)), ?_, ?_, ?_, ?_⟩
    all_goals first | omega | (simp; omega) | go_simp | skip
  case rest =>
    obtain ⟨g, rfl, rfl, hg1, hg2, hB, h0, h1, h2, hf⟩ := hcut
    have hz := hB.size
    have HB := Lib.hid hB
    have e3 := fun x y z w => eq3 x y z 0 0 0 w
    clear hB HB1 c1_ hz1 hz1'
    have i1 := fun W (p i : Nat) v => iter_setCell W ⟨#[116]⟩ p g i v
    have i2 := fun W (p i : Nat) => iter_cell W ⟨#[116]⟩ p g i
    have i3 := fun W (p i : Nat) => iter_frozen W ⟨#[116]⟩ p g i
    have n0_ := fun W n ty hn => next_at (P := Try.prog) W ⟨#[116]⟩ 0 1 n 116 ty hn (by decide) (by decide) (by decide) rfl
    have n1_ := fun W n ty hn => next_end (P := Try.prog) W ⟨#[116]⟩ 1 n ty hn (by decide)
    go_wp2
    refine wp_loop_rounds 2 ?_
    all_goals (rw [rounds_succ]; go_wp2)
    any_goals (rw [rounds_succ]; go_wp2)
    all_goals (go_ret; refine ⟨ret_i64 ?_, ?_⟩)
    all_goals first
      | exact HB.out.alloc hz _
      | exact (HB.out.setCell (p := ⟨g, _, none⟩) hg1 _).alloc (by simp; omega) _
      | exact ((HB.out.setCell (p := ⟨g, _, none⟩) hg1 _).setCell (p := ⟨g, _, none⟩) hg1 _).alloc (by simp; omega) _
      | exact (((HB.out.setCell (p := ⟨g, _, none⟩) hg1 _).setCell (p := ⟨g, _, none⟩) hg1 _).setCell (p := ⟨g, _, none⟩) hg1 _).alloc (by simp; omega) _
      | (rw [oneK_pos (by simp only [fitsC]; omega)])
      | (rw [oneK_neg (by simp only [fitsC]; omega)])
      | (have hn : (n != 0) = true := by assumption
         rw [bne_iff_ne] at hn
         rw [oneK_neg (by simp only [fitsC]; omega)])
      | (have hn : (n != 0) = false := by assumption
         rw [bne_eq_false_iff_eq] at hn
         rw [oneK_pos (by simp only [fitsC]; omega)])
      | (have hn : (n != 0) = false := by assumption
         rw [bne_eq_false_iff_eq] at hn
         rw [oneK_neg (by simp only [fitsC]; omega)])



set_option maxRecDepth 100000 in
set_option maxHeartbeats 4000000 in
theorem one_k7 (op a b c n : Int) (w : World) (a0 : 0 ≤ a) (a1 : a ≤ 255) (b0 : 0 ≤ b) (b1 : b ≤ 255) (c0 : 0 ≤ c) (c1 : c ≤ 255)
   (hform : ∀ w, Calls Try.prog 39 #[.int .u8 op] w fun e w' => e = .returned (.tuple #[.string ⟨#[114, 116]⟩, .bool true]) ∧ Below w.heap.size w w') :
    Calls Try.prog 97 #[.agg #[.int .u8 op, .int .u8 a, .int .u8 b, .int .u8 c, .int .i64 n]] w fun e w' => e = .returned (.int .i64 (oneK 7 a b c n)) ∧ Below w.heap.size w w' := by
  go_enter Try.func97, Try.ntmps97
  have HF := Lib.hid hform
  clear hform
  go_wp2_with fail
  refine (HF.out _).mono ?_
  rintro e w1 ⟨rfl, hb1⟩
  have hz1 := hb1.size
  simp at hz1
  have hz1' : w.heap.size < w1.heap.size := by omega
  have c1_ : ∀ o, w1.cell? ⟨w.heap.size, o, none⟩ = #[Value.int .u8 op, .int .u8 a, .int .u8 b, .int .u8 c, .int .i64 n][o]? := fun o => by
    rw [hb1.cell (p := ⟨w.heap.size, o, none⟩) (by simp)]; exact cell_of_row _ _ _ _ _ _ (heap_alloc_new w _)
  have HB1 := Lib.hid (((Below.refl _ w).alloc (Nat.le_refl _) _).trans (hb1.mono (by simp)))
  clear hb1 HF
  go_upto_region 4 with fail
  go_cut [5, 6] (fun p m W => ∃ g, p = .pointer (some ⟨g, 0, none⟩) ∧ m = .int .i64 n ∧ w.heap.size ≤ g ∧ g < W.heap.size ∧ Below w.heap.size w W ∧ W.cell? ⟨g, 0, none⟩ = some (.int .u8 a) ∧ W.cell? ⟨g, 1, none⟩ = some (.int .u8 b) ∧ W.cell? ⟨g, 2, none⟩ = some (.int .u8 c) ∧ (∀ o, W.frozen? ⟨g, o, none⟩ = false))
  case first =>
    go_region_held3 (fun W => Below w1.heap.size w1 W ∧ ∀ b o, b < w1.heap.size → W.cell? ⟨b, o, none⟩ = w1.cell? ⟨b, o, none⟩)
      (repeat' (first | exact preD | assumption | exact preR | refine preB ?_ hb2 | refine preE ?_ | refine preA ?_ _ | refine preS ?_ ?_ _ | omega | (simp; done) | (simp; omega)))
      ((go_at_call 124; refine (registers_c _ _ _ _ _ _).mono ?_; rintro e w2 ⟨rfl, hb2⟩; obtain ⟨hc2, hf2⟩ := bcell hb2; have hz2 := hb2.size; simp at hz2))
    all_goals (go_wp2_with fail; go_meet)
    all_goals refine ⟨_, rfl, rfl, ?_, ?_, HB1.out.trans (Below.mono (And.left (by assumption)) (by omega)), ?_, ?_, ?_, ?_⟩
    all_goals first | omega | (simp; omega) | go_simp | skip
  case rest =>
    obtain ⟨g, rfl, rfl, hg1, hg2, hB, h0, h1, h2, hf⟩ := hcut
    have hz := hB.size
    have HB := Lib.hid hB
    have e3 := fun x y z w => eq3 x y z 0 0 0 w
    clear hB HB1 c1_ hz1 hz1'
    have i1 := fun W (p i : Nat) v => iter_setCell W ⟨#[114, 116]⟩ p g i v
    have i2 := fun W (p i : Nat) => iter_cell W ⟨#[114, 116]⟩ p g i
    have i3 := fun W (p i : Nat) => iter_frozen W ⟨#[114, 116]⟩ p g i
    have n0_ := fun W n ty hn => next_at (P := Try.prog) W ⟨#[114, 116]⟩ 0 1 n 114 ty hn (by decide) (by decide) (by decide) rfl
    have n1_ := fun W n ty hn => next_at (P := Try.prog) W ⟨#[114, 116]⟩ 1 2 n 116 ty hn (by decide) (by decide) (by decide) rfl
    have n2_ := fun W n ty hn => next_end (P := Try.prog) W ⟨#[114, 116]⟩ 2 n ty hn (by decide)
    go_wp2
    refine wp_loop_rounds 3 ?_
    all_goals (rw [rounds_succ]; go_wp2)
    any_goals (rw [rounds_succ]; go_wp2)
    any_goals (rw [rounds_succ]; go_wp2)
    all_goals (go_ret; refine ⟨ret_i64 ?_, ?_⟩)
    all_goals first
      | exact HB.out.alloc hz _
      | exact (HB.out.setCell (p := ⟨g, _, none⟩) hg1 _).alloc (by simp; omega) _
      | exact ((HB.out.setCell (p := ⟨g, _, none⟩) hg1 _).setCell (p := ⟨g, _, none⟩) hg1 _).alloc (by simp; omega) _
      | exact (((HB.out.setCell (p := ⟨g, _, none⟩) hg1 _).setCell (p := ⟨g, _, none⟩) hg1 _).setCell (p := ⟨g, _, none⟩) hg1 _).alloc (by simp; omega) _
      | (rw [oneK_pos (by simp only [fitsC]; omega)])
      | (rw [oneK_neg (by simp only [fitsC]; omega)])
      | (have hn : (n != 0) = true := by assumption
         rw [bne_iff_ne] at hn
         rw [oneK_neg (by simp only [fitsC]; omega)])
      | (have hn : (n != 0) = false := by assumption
         rw [bne_eq_false_iff_eq] at hn
         rw [oneK_pos (by simp only [fitsC]; omega)])
      | (have hn : (n != 0) = false := by assumption
         rw [bne_eq_false_iff_eq] at hn
         rw [oneK_neg (by simp only [fitsC]; omega)])


end Go.Proofs.Ytmljmabbopkpiaa
end

section
/- code (layer 14): contracts of One, Goes, Target. -/
namespace Go.Proofs.Ytmljmabbopkpiaa
open Go.RowKit
set_option linter.unusedVariables false
set_option linter.unusedSimpArgs false

set_option maxHeartbeats 1000000 in
theorem one_k0 (op a b c n : Int) (w : World)
   (hform : ∀ w, Calls Try.prog 39 #[.int .u8 op] w fun e w' => e = .returned (.tuple #[.string ⟨#[]⟩, .bool false]) ∧ Below w.heap.size w w') :
    Calls Try.prog 97 #[.agg #[.int .u8 op, .int .u8 a, .int .u8 b, .int .u8 c, .int .i64 n]] w fun e w' => e = .returned (.int .i64 140) ∧ Below w.heap.size w w' := by
  go_enter Try.func97, Try.ntmps97
  have HF := Lib.hid hform
  clear hform
  go_wp2_with fail
  refine (HF.out _).mono ?_
  rintro e w1 ⟨rfl, hb1⟩
  go_wp2
  go_ret
  exact ⟨rfl, ((Below.refl _ w).alloc (Nat.le_refl _) _).trans (hb1.mono (by simp))⟩

theorem form_c (op : Int) (h0 : 0 ≤ op) (w : World) : Calls Try.prog 39 #[.int .u8 op] w fun e w' => e = .returned (.tuple #[.string (formS (formC op)), .bool (formC op != 0)]) ∧ Below w.heap.size w w' := by
  by_cases h : 32 < op
  · by_cases h' : op ≤ 49
    · have hc : formC op = 1 := by unfold formC; rw [if_pos ⟨h, h'⟩]
      rw [hc]
      exact form_rrr op w h h'
    · exact form_hi op w (by omega)
  · exact form_lo op w h0 (by omega)

theorem one_c (i : Ins) (hi : i.ok) (w : World) : Calls Try.prog 97 #[i.v] w fun e w' => e = .returned (.int .i64 (oneE i)) ∧ Below w.heap.size w w' := by
  obtain ⟨op, a, b, c, n⟩ := i
  obtain ⟨o0, o1, a0, a1, b0, b1, c0, c1, n0, n1⟩ := hi
  dsimp only at *
  have hf := form_c op o0
  unfold Ins.v oneE
  dsimp only
  have hk : formC op = 0 ∨ formC op = 1 ∨ formC op = 2 ∨ formC op = 3 ∨ formC op = 4 ∨ formC op = 5 ∨ formC op = 6 ∨ formC op = 7 := by
    unfold formC; repeat (first | (split; · simp) | simp)
  rcases hk with h | h | h | h | h | h | h | h <;> rw [h] at hf <;> rw [h]
  · exact one_k0 op a b c n w hf
  · exact one_k1 op a b c n w a0 a1 b0 b1 c0 c1 hf
  · exact one_k2 op a b c n w a0 a1 b0 b1 c0 c1 hf
  · exact one_k3 op a b c n w a0 a1 b0 b1 c0 c1 hf
  · exact one_k4 op a b c n w a0 a1 b0 b1 c0 c1 hf
  · exact one_k5 op a b c n w a0 a1 b0 b1 c0 c1 hf
  · exact one_k6 op a b c n w a0 a1 b0 b1 c0 c1 hf
  · exact one_k7 op a b c n w a0 a1 b0 b1 c0 c1 hf

theorem oneE_vals (i : Ins) : oneE i = 0 ∨ oneE i = 140 ∨ oneE i = 141 := by
  unfold oneE oneK; split
  · exact .inr (.inl rfl)
  · split
    · exact .inl rfl
    · exact .inr (.inr rfl)

/-- whether an instruction goes on -/
def goesB (i : Ins) : Bool := oneE i == 0 && (i.op != 1 && (i.op != 2 && i.op != 9))
set_option maxRecDepth 100000 in
set_option maxHeartbeats 1000000 in
theorem goes_c (i : Ins) (hi : i.ok) (w : World) : Calls Try.prog 99 #[i.v] w fun e w' => e = .returned (.bool (goesB i)) ∧ Below w.heap.size w w' := by
  have h1 := fun w => one_c i hi w
  obtain ⟨E, hE⟩ : ∃ E, E = oneE i := ⟨_, rfl⟩
  unfold goesB
  rw [← hE] at h1 ⊢
  obtain ⟨op, a, b, c, n⟩ := i
  unfold Ins.v at h1 ⊢
  dsimp only at h1 ⊢
  have H1 := Lib.hid h1
  clear h1 hE hi
  go_enter Try.func99, Try.ntmps99
  go_wp2_with fail
  refine (H1.out _).mono ?_
  rintro e w1 ⟨rfl, hb1⟩
  have hB := Lib.hid (((Below.refl _ w).alloc (Nat.le_refl _) _).trans (hb1.mono (by simp)))
  have q0 : w1.cell? ⟨w.heap.size, 0, none⟩ = some (.int .u8 op) := by
    rw [hb1.cell (p := ⟨w.heap.size, 0, none⟩) (by simp)]; exact cell_of_row _ _ _ _ _ _ (heap_alloc_new w _)
  clear hb1
  go_wp2
  all_goals (go_ret; refine ⟨?_, hB.out⟩)
  all_goals first | (simp [*]; done) | (simp [*, Bool.and_assoc]; done)

/-- whether an instruction has a target -/
def targB (i : Ins) : Bool := oneE i == 0 && (i.op == 9 || (i.op == 10 || i.op == 11))
def targV (i : Ins) : Int := if targB i then i.n else 0
set_option maxRecDepth 100000 in
set_option maxHeartbeats 1000000 in
theorem target_c (i : Ins) (hi : i.ok) (w : World) : Calls Try.prog 98 #[i.v] w fun e w' => e = .returned (.tuple #[.int .i64 (targV i), .bool (targB i)]) ∧ Below w.heap.size w w' := by
  have h1 := fun w => one_c i hi w
  obtain ⟨E, hE⟩ : ∃ E, E = oneE i := ⟨_, rfl⟩
  obtain ⟨V, hV⟩ : ∃ V, V = targV i := ⟨_, rfl⟩
  obtain ⟨T, hT⟩ : ∃ T, T = targB i := ⟨_, rfl⟩
  have hV' := hV
  unfold targV at hV'
  rw [← hT] at hV'
  have hT' := hT
  unfold targB at hT'
  rw [← hE] at h1 hT'
  rw [← hT, ← hV]
  obtain ⟨op, a, b, c, n⟩ := i
  unfold Ins.v at h1 ⊢
  dsimp only at h1 hT' hV' ⊢
  have H1 := Lib.hid h1
  have HT := Lib.hid hT'
  have HV := Lib.hid hV'
  clear h1 hE hi hT hT' hV hV'
  go_enter Try.func98, Try.ntmps98
  go_wp2_with fail
  refine (H1.out _).mono ?_
  rintro e w1 ⟨rfl, hb1⟩
  have hB := Lib.hid (((Below.refl _ w).alloc (Nat.le_refl _) _).trans (hb1.mono (by simp)))
  have q0 : w1.cell? ⟨w.heap.size, 0, none⟩ = some (.int .u8 op) := by
    rw [hb1.cell (p := ⟨w.heap.size, 0, none⟩) (by simp)]; exact cell_of_row _ _ _ _ _ _ (heap_alloc_new w _)
  have q4 : w1.cell? ⟨w.heap.size, 4, none⟩ = some (.int .i64 n) := by
    rw [hb1.cell (p := ⟨w.heap.size, 4, none⟩) (by simp)]; exact cell_of_row _ _ _ _ _ _ (heap_alloc_new w _)
  clear hb1
  go_wp2
  all_goals go_ret2
  all_goals refine ⟨?_, hB.out⟩
  all_goals rw [HV.out, HT.out]
  all_goals first | (simp [*]; done) | (simp_all; done) | ((have hq : ((op != 9) = false ∨ (op != 10) = false) ∨ (op != 11) = false := (by assumption)); simp at hq; (have h11 : op = 11 := (by omega)); simp [*]; done)
end Go.Proofs.Ytmljmabbopkpiaa
end

section
/- code.Check (layer 14). -/
namespace Go.Proofs.Ytmljmabbopkpiaa
open Go.RowKit
set_option linter.unusedVariables false
set_option linter.unusedSimpArgs false

/-- what is wrong with one instruction of a program of n instructions -/
def badAt (n : Int) (i : Ins) : Int := if oneE i ≠ 0 then oneE i else if targB i = true ∧ n ≤ targV i then 142 else 0
def checkK (p : List Ins) : Int × Int :=
  match p.findIdx? (fun i => badAt p.length i != 0) with
  | some k => (k, badAt p.length (p.getD k ⟨0, 0, 0, 0, 0⟩))
  | none => if goesB (p.getD (p.length - 1) ⟨0, 0, 0, 0, 0⟩) then ((p.length : Int) - 1, 143) else (-1, 0)
/-- what code.Check returns -/
def checkI (p : List Ins) : Int × Int := if p.length = 0 then (-1, 6) else if 256 < p.length then (-1, 5) else checkK p

theorem checkK_bad {p : List Ins} {j : Nat} {x : Ins} {v : Int} (h : ∀ i, i < j → ∀ y, p[i]? = some y → badAt p.length y = 0) (hx : p[j]? = some x) (hv : badAt p.length x = v) (hn : v ≠ 0) : checkK p = ((j : Int), v) := by
  have hj : j < p.length := (List.getElem?_eq_some_iff.1 hx).1
  have hf : p.findIdx? (fun i => badAt p.length i != 0) = some j := by
    rw [List.findIdx?_eq_some_iff_getElem]
    refine ⟨hj, ?_, fun i hi => ?_⟩
    · have : p[j] = x := (List.getElem?_eq_some_iff.1 hx).2
      rw [this, hv]; simpa using hn
    · simp [h i hi _ (List.getElem?_eq_getElem (by omega))]
  unfold checkK
  rw [hf]
  simp [List.getD, hx, hv]
theorem checkK_none {p : List Ins} (h : ∀ i, i < p.length → ∀ y, p[i]? = some y → badAt p.length y = 0) : checkK p = if goesB (p.getD (p.length - 1) ⟨0, 0, 0, 0, 0⟩) then ((p.length : Int) - 1, 143) else (-1, 0) := by
  have hf : p.findIdx? (fun i => badAt p.length i != 0) = none := by
    rw [List.findIdx?_eq_none_iff]
    intro x hx
    obtain ⟨i, hi, rfl⟩ := List.getElem_of_mem hx
    simp [h i hi _ (List.getElem?_eq_getElem hi)]
  unfold checkK
  rw [hf]

set_option maxRecDepth 100000 in
set_option maxHeartbeats 2000000 in
theorem check_mid (A : Option Addr) (n c : Nat) (p : List Ins) (hok : ∀ i ∈ p, i.ok) (w : World) (h : Reads w w.heap.size 5 A n (insV p)) (h0 : ((n : Int) == 0) = false) (h0' : 0 < n) (h1 : n ≤ 256) :
    Calls Try.prog 55 #[.slice A n c] w fun e w' => e = .returned (.tuple #[.int .i64 (checkK p).1, .int .i64 (checkK p).2]) ∧ Below w.heap.size w w' := by
  have hpl := h.ins_len
  have HL := Lib.hid hpl
  clear hpl
  go_enter Try.func55, Try.ntmps55
  go_wp2
  go_loopw [4, 5, 6, 7, 8, 20] (fun _ _ _ _ _ k wr => ∃ j : Nat, k = .int .i64 j ∧ j ≤ n ∧ (∀ i, i < j → ∀ y, p[i]? = some y → badAt n y = 0) ∧ Below w.heap.size w wr) (fun _ _ _ _ _ k _ => n - (intOf k).toNat)
  case atStart => exact ⟨0, rfl, by omega, fun i hi => by omega, Below.refl _ _⟩
  case round =>
    obtain ⟨j, rfl, hj, hbad, hb⟩ := hrel
    have HBad := Lib.hid hbad
    clear hbad
    by_cases hlt : j < n
    · obtain ⟨b, o, x, rfl, hl1, hx, hc0, hc1, hc2, hc3, hc4⟩ := (h.below hb).ins_at hlt
      have hxok := hok x (List.mem_of_getElem? hx)
      obtain ⟨op, a, b', c', m⟩ := x
      have HX := Lib.hid hx
      have HO := Lib.hid hxok
      have HB := Lib.hid hb
      have hz := hb.size
      clear hb hx h hxok hok
      dsimp only at hc0 hc1 hc2 hc3 hc4
      obtain ⟨I, hI⟩ : ∃ I : Ins, I = ⟨op, a, b', c', m⟩ := ⟨_, rfl⟩
      rw [← hI] at HO HX
      have HI := Lib.hid hI
      clear hI
      have h1 : ∀ w, Calls Try.prog 97 #[.agg #[.int .u8 op, .int .u8 a, .int .u8 b', .int .u8 c', .int .i64 m]] w fun e w' => e = .returned (.int .i64 (oneE I)) ∧ Below w.heap.size w w' := fun w => by
        have := one_c I HO.out w; rw [HI.out] at this ⊢; exact this
      have h2 : ∀ w, Calls Try.prog 98 #[.agg #[.int .u8 op, .int .u8 a, .int .u8 b', .int .u8 c', .int .i64 m]] w fun e w' => e = .returned (.tuple #[.int .i64 (targV I), .bool (targB I)]) ∧ Below w.heap.size w w' := fun w => by
        have := target_c I HO.out w; rw [HI.out] at this ⊢; exact this
      have hbadE : badAt n I = if oneE I ≠ 0 then oneE I else if targB I = true ∧ (n : Int) ≤ targV I then 142 else 0 := rfl
      obtain ⟨V, hV⟩ : ∃ V, V = targV I := ⟨_, rfl⟩
      obtain ⟨T, hT⟩ : ∃ T, T = targB I := ⟨_, rfl⟩
      obtain ⟨E, hE⟩ : ∃ E, E = oneE I := ⟨_, rfl⟩
      rw [← hE] at h1 hbadE
      rw [← hV, ← hT] at h2 hbadE
      have H1 := Lib.hid h1
      have H2 := Lib.hid h2
      have HE := Lib.hid hbadE
      clear h1 h2 hbadE hV hT hE
      go_wp2_with fail
      refine (H1.out _).mono ?_
      rintro e w2 ⟨rfl, hb2⟩
      have hz2 := hb2.size
      simp at hz2
      have q : ∀ k u, #[Value.int .u8 op, .int .u8 a, .int .u8 b', .int .u8 c', .int .i64 m][k]? = some u → w2.cell? ⟨wr.heap.size, k, none⟩ = some u := fun k u hu => by
        rw [hb2.cell (p := ⟨wr.heap.size, k, none⟩) (by simp), cell_of_row _ _ _ _ _ _ (heap_alloc_new wr _)]; exact hu
      have q0 := q 0 _ rfl
      have q1 := q 1 _ rfl
      have q2 := q 2 _ rfl
      have q3 := q 3 _ rfl
      have q4 := q 4 _ rfl
      have HB2 := Lib.hid ((HB.out.alloc hz _).trans (hb2.mono (by simp; omega)))
      clear q hb2
      by_cases hE0 : E = 0
      · subst hE0
        go_wp2_with fail
        refine (H2.out _).mono ?_
        rintro e w3 ⟨rfl, hb3⟩
        have hz3 := hb3.size
        have HB3 := Lib.hid (HB2.out.trans (hb3.mono (by omega)))
        clear hb3
        by_cases hbad : T = true ∧ (n : Int) ≤ V
        · obtain ⟨rfl, hnV⟩ := hbad
          go_wp2
          go_ret2
          refine ⟨?_, HB3.out⟩
          have hv : badAt p.length I = 142 := by rw [HL.out, HE.out]; simp [hnV]
          rw [checkK_bad (by rw [HL.out]; exact HBad.out) HX.out hv (by decide)]
          rfl
        · cases T with
          | false =>
            go_wp2
            go_roundw
            case rel => 
              refine ⟨j + 1, by go_num, by omega, fun i hi y hy => ?_, HB3.out⟩
              by_cases hij : i < j
              · exact HBad.out i hij y hy
              · obtain rfl : i = j := by omega
                rw [HX.out] at hy
                obtain rfl : I = y := by cases hy; rfl
                rw [HE.out]; simp
            case measure => simp [intOf]; omega
          | true =>
            have hV : V < (n : Int) := by simp at hbad; omega
            clear hbad
            go_wp2
            go_roundw
            case rel => 
              refine ⟨j + 1, by go_num, by omega, fun i hi y hy => ?_, HB3.out⟩
              by_cases hij : i < j
              · exact HBad.out i hij y hy
              · obtain rfl : i = j := by omega
                rw [HX.out] at hy
                obtain rfl : I = y := by cases hy; rfl
                rw [HE.out]; simp; omega
            case measure => simp [intOf]; omega
      · have hE1 : (E != 0) = true := by rw [bne_iff_ne]; exact hE0
        have HE0 := Lib.hid hE0
        clear hE0
        go_wp2
        go_ret2
        refine ⟨?_, HB2.out⟩
        have hv : badAt p.length I = E := by rw [HL.out, HE.out, if_pos HE0.out]
        rw [checkK_bad (by rw [HL.out]; exact HBad.out) HX.out hv HE0.out]
        rfl
    · obtain rfl : j = n := by omega
      have hk := checkK_none (p := p) (by rw [HL.out]; exact HBad.out)
      obtain ⟨b, o, x, rfl, hl1, hx, hc0, hc1, hc2, hc3, hc4⟩ := (h.below hb).ins_at (k := j - 1) (by omega)
      have hxok := hok x (List.mem_of_getElem? hx)
      have hg : p.getD (p.length - 1) ⟨0, 0, 0, 0, 0⟩ = x := by rw [HL.out]; simp [List.getD, hx]
      rw [hg, HL.out] at hk
      have hi : (((j : Int) - 1).toNat) = j - 1 := by omega
      have hs1 : (0 : Int) ≤ (j : Int) - 1 := by omega
      have hg1 := fun w => goes_c x hxok w
      obtain ⟨G, hG⟩ : ∃ G, G = goesB x := ⟨_, rfl⟩
      rw [← hG] at hk hg1
      have HK := Lib.hid hk
      have HB := Lib.hid hb
      have HG := Lib.hid hg1
      obtain ⟨op, a, b', c', m⟩ := x
      dsimp only at hc0 hc1 hc2 hc3 hc4
      clear hk hb h hok hx hxok hg hG hg1 hi
      go_wp2_with fail
      refine (HG.out _).mono ?_
      rintro e w2 ⟨rfl, hb2⟩
      have HB2 := Lib.hid (HB.out.trans (hb2.mono HB.out.size))
      clear hb2
      cases G with
      | false =>
        go_wp2
        go_ret2
        refine ⟨?_, HB2.out⟩
        rw [HK.out]
        rfl
      | true =>
        go_wp2
        go_ret2
        refine ⟨?_, HB2.out⟩
        rw [HK.out]
        rfl

set_option maxRecDepth 100000 in
set_option maxHeartbeats 2000000 in
theorem check_c (A : Option Addr) (n c : Nat) (hn : n < 2^62) (p : List Ins) (hok : ∀ i ∈ p, i.ok) (w : World) (h : Reads w w.heap.size 5 A n (insV p)) :
    Calls Try.prog 55 #[.slice A n c] w fun e w' => e = .returned (.tuple #[.int .i64 (checkI p).1, .int .i64 (checkI p).2]) ∧ Below w.heap.size w w' := by
  have hpl := h.ins_len
  unfold checkI
  rw [hpl]
  by_cases h0 : n = 0
  · subst h0
    go_enter Try.func55, Try.ntmps55
    go_wp2
    go_ret2
    exact ⟨rfl, Below.refl _ _⟩
  · rw [if_neg h0]
    by_cases h1 : 256 < n
    · rw [if_pos h1]
      have h0' : ((n : Int) == 0) = false := by simp; exact h0
      have h1' : (256 : Int) < n := by omega
      clear h h0 hok hpl
      go_enter Try.func55, Try.ntmps55
      go_wp2
      go_ret2
      exact ⟨rfl, Below.refl _ _⟩
    · rw [if_neg h1]
      exact check_mid A n c p hok w h (by simp; exact h0) (by omega) (by omega)
end Go.Proofs.Ytmljmabbopkpiaa
end

section
/- what is right: Env.right, State.right; copied, open, step, Do. -/
namespace Go.Proofs.Ytmljmabbopkpiaa
open Go.RowKit
set_option linter.unusedVariables false
set_option linter.unusedSimpArgs false

def Envi.v (v : Envi) : Value := .agg #[.int .u64 v.seed, .int .i64 v.process, .int .i64 v.ports, .int .i64 v.look, .int .i64 v.now]
def Envi.rightB (v : Envi) : Bool := decide (0 ≤ v.process ∧ v.process ≤ 65536 ∧ 0 ≤ v.ports ∧ 1 ≤ v.look ∧ 0 ≤ v.now ∧ v.now ≤ 281474976710656)

set_option maxRecDepth 100000 in
set_option maxHeartbeats 1000000 in
theorem envRight_c (v : Envi) (w : World) : Calls Try.prog 109 #[v.v] w fun e w' => e = .returned (.bool v.rightB) ∧ Below w.heap.size w w' := by
  obtain ⟨sd, p, q, l, n⟩ := v
  obtain ⟨B, hB⟩ : ∃ B, B = Envi.rightB ⟨sd, p, q, l, n⟩ := ⟨_, rfl⟩
  rw [← hB]
  unfold Envi.v
  dsimp only
  by_cases h1 : 0 ≤ p
  · by_cases h2 : p ≤ 65536
    · by_cases h3 : 0 ≤ q
      · by_cases h4 : 1 ≤ l
        · by_cases h5 : 0 ≤ n
          · have hx : B = decide (n ≤ 281474976710656) := by rw [hB]; simp [Envi.rightB, h1, h2, h3, h4, h5]
            subst hx; clear hB
            go_enter Try.func109, Try.ntmps109
            go_wp2
            go_ret
            exact ⟨rfl, (Below.refl _ w).alloc (Nat.le_refl _) _⟩
          · have hx : B = false := by rw [hB]; simp [Envi.rightB]; omega
            have hd := decide_eq_false h5
            subst hx; clear hB
            go_enter Try.func109, Try.ntmps109
            go_wp2
            go_ret
            exact ⟨rfl, (Below.refl _ w).alloc (Nat.le_refl _) _⟩
        · have hx : B = false := by rw [hB]; simp [Envi.rightB]; omega
          have hd := decide_eq_false h4
          subst hx; clear hB
          go_enter Try.func109, Try.ntmps109
          go_wp2
          go_ret
          exact ⟨rfl, (Below.refl _ w).alloc (Nat.le_refl _) _⟩
      · have hx : B = false := by rw [hB]; simp [Envi.rightB]; omega
        have hd := decide_eq_false h3
        subst hx; clear hB
        go_enter Try.func109, Try.ntmps109
        go_wp2
        go_ret
        exact ⟨rfl, (Below.refl _ w).alloc (Nat.le_refl _) _⟩
    · have hx : B = false := by rw [hB]; simp [Envi.rightB]; omega
      have hd := decide_eq_false h2
      subst hx; clear hB
      go_enter Try.func109, Try.ntmps109
      go_wp2
      go_ret
      exact ⟨rfl, (Below.refl _ w).alloc (Nat.le_refl _) _⟩
  · have hx : B = false := by rw [hB]; simp [Envi.rightB]; omega
    have hd := decide_eq_false h1
    subst hx; clear hB
    go_enter Try.func109, Try.ntmps109
    go_wp2
    go_ret
    exact ⟨rfl, (Below.refl _ w).alloc (Nat.le_refl _) _⟩

/-- a state as a value: 13 cells -/
def St.v (s : St) (C S : Value) : Value := .agg #[.int .i64 s.at_, .bool s.ended, .int .i64 (s.regs 0), .int .i64 (s.regs 1), .int .i64 (s.regs 2), .int .i64 (s.regs 3), .int .i64 (s.regs 4), .int .i64 (s.regs 5), .int .i64 (s.regs 6), .int .i64 (s.regs 7), C, .int .i64 s.draws, S]
/-- right for a program of n instructions; m: the number of cells -/
def rightB (at_ draws n m : Int) : Bool := decide (0 ≤ at_ ∧ at_ < n ∧ m ≤ 1024 ∧ 0 ≤ draws ∧ draws ≤ 1099511627776)

set_option maxRecDepth 100000 in
set_option maxHeartbeats 1000000 in
theorem stateRight_c (s : St) (A : Option Addr) (m c : Nat) (S : Value) (n : Int) (w : World) : Calls Try.prog 110 #[s.v (.slice A m c) S, .int .i64 n] w fun e w' => e = .returned (.bool (rightB s.at_ s.draws n m)) ∧ Below w.heap.size w w' := by
  obtain ⟨p, en, r, cs, d, sn⟩ := s
  obtain ⟨B, hB⟩ : ∃ B, B = rightB p d n m := ⟨_, rfl⟩
  dsimp only
  rw [← hB]
  unfold St.v
  dsimp only
  by_cases h1 : 0 ≤ p
  · by_cases h2 : p < n
    · by_cases h3 : (m : Int) ≤ 1024
      · by_cases h4 : 0 ≤ d
        · have hx : B = decide (d ≤ 1099511627776) := by rw [hB]; simp only [rightB, h1, h2, h3, h4, true_and]
          subst hx; clear hB
          go_enter Try.func110, Try.ntmps110
          go_wp2
          go_ret
          exact ⟨rfl, (Below.refl _ w).alloc (Nat.le_refl _) _⟩
        · have hx : B = false := by rw [hB]; unfold rightB; exact decide_eq_false (by omega)
          have hd := decide_eq_false h4
          subst hx; clear hB
          go_enter Try.func110, Try.ntmps110
          go_wp2
          go_ret
          exact ⟨rfl, (Below.refl _ w).alloc (Nat.le_refl _) _⟩
      · have hx : B = false := by rw [hB]; unfold rightB; exact decide_eq_false (by omega)
        have hd := decide_eq_false h3
        subst hx; clear hB
        go_enter Try.func110, Try.ntmps110
        go_wp2
        go_ret
        exact ⟨rfl, (Below.refl _ w).alloc (Nat.le_refl _) _⟩
    · have hx : B = false := by rw [hB]; unfold rightB; exact decide_eq_false (by omega)
      have hd := decide_eq_false h2
      subst hx; clear hB
      go_enter Try.func110, Try.ntmps110
      go_wp2
      go_ret
      exact ⟨rfl, (Below.refl _ w).alloc (Nat.le_refl _) _⟩
  · have hx : B = false := by rw [hB]; unfold rightB; exact decide_eq_false (by omega)
    have hd := decide_eq_false h1
    subst hx; clear hB
    go_enter Try.func110, Try.ntmps110
    go_wp2
    go_ret
    exact ⟨rfl, (Below.refl _ w).alloc (Nat.le_refl _) _⟩
end Go.Proofs.Ytmljmabbopkpiaa
end

section
/- what instr.Do answers, as a plain function; what a right program's instructions are. -/
namespace Go.Proofs.Ytmljmabbopkpiaa
open Go.RowKit
set_option linter.unusedVariables false
set_option linter.unusedSimpArgs false

def insAt (p : List Ins) (k : Int) : Ins := p.getD k.toNat ⟨0, 0, 0, 0, 0⟩
def openE (p : List Ins) (v : Envi) (s : St) : Int :=
  if (checkI p).2 ≠ 0 then 180 else if v.rightB = false then 181 else if rightB s.at_ s.draws p.length s.cells.length = false then 182 else 0
def stepE (p : List Ins) (v : Envi) (s : St) : Int := if s.ended = true then 183 else doE s v (insAt p s.at_)
def topE (p : List Ins) (v : Envi) (s : St) : Int := if openE p v s ≠ 0 then openE p v s else stepE p v s
def zeroSt : St := ⟨0, false, fun _ => 0, [], 0, []⟩
def topS (p : List Ins) (v : Envi) (s : St) : St := if topE p v s ≠ 0 then zeroSt else doS s v (insAt p s.at_)

theorem badAt_zero {n : Int} {i : Ins} (h : badAt n i = 0) : oneE i = 0 := by
  unfold badAt at h
  by_cases h1 : oneE i = 0
  · exact h1
  · rw [if_pos h1] at h; exact h
theorem checkI_zero {p : List Ins} (h : (checkI p).2 = 0) : 0 < p.length ∧ p.length ≤ 256 ∧ ∀ i ∈ p, oneE i = 0 := by
  unfold checkI at h
  by_cases h0 : p.length = 0
  · rw [if_pos h0] at h; cases h
  · by_cases h1 : 256 < p.length
    · rw [if_neg h0, if_pos h1] at h; cases h
    · rw [if_neg h0, if_neg h1] at h
      refine ⟨by omega, by omega, fun i hi => ?_⟩
      unfold checkK at h
      cases hf : p.findIdx? (fun i => badAt p.length i != 0) with
      | some k =>
        rw [hf] at h
        obtain ⟨hk, hb, _⟩ := List.findIdx?_eq_some_iff_getElem.1 hf
        exfalso
        have hg : p.getD k ⟨0, 0, 0, 0, 0⟩ = p[k] := by simp [List.getD, hk]
        dsimp only at h
        rw [hg] at h
        simp [h] at hb
      | none =>
        rw [List.findIdx?_eq_none_iff] at hf
        have := hf i hi
        exact badAt_zero (by simpa using this)
theorem Envi.okay_of {v : Envi} (h : v.rightB = true) : v.okay := by
  unfold Envi.rightB at h
  have := of_decide_eq_true h
  exact ⟨by omega, by omega, by omega, by omega⟩
theorem rightB_of {a d n m : Int} (h : rightB a d n m = true) : 0 ≤ a ∧ a < n ∧ m ≤ 1024 ∧ 0 ≤ d ∧ d ≤ 1099511627776 := of_decide_eq_true h
end Go.Proofs.Ytmljmabbopkpiaa
end

section
/- machine.step: one step of a machine in a right program. -/
namespace Go.Proofs.Ytmljmabbopkpiaa
open Go.RowKit
set_option linter.unusedVariables false
set_option linter.unusedSimpArgs false

def stepS (p : List Ins) (v : Envi) (s : St) : St := if s.ended = true then s else doS s v (insAt p s.at_)

set_option maxRecDepth 100000 in
set_option maxHeartbeats 2000000 in
theorem step_c (w : World) (base g : Nat) (s : St) (v : Envi) (i : Ins) (C S : Value) (h : Mac w base g s v i C S) (A : Option Addr) (n c : Nat) (p : List Ins) (hp : Reads w w.heap.size 5 A n (insV p))
    (hv : v.okay) (hs : s.okay) (hlt : s.at_ < n) (hok : ∀ i ∈ p, i.ok) (hone : ∀ i ∈ p, oneE i = 0) :
    Calls Try.prog 76 #[.pointer (some ⟨g, 0, none⟩), .slice A n c] w fun e w' => e = .returned (.int .i64 (stepE p v s)) ∧ (∃ i' S', Mac w' base g (stepS p v s) v i' C S') ∧ Below base w w' := by
  have c0 : w.cell? ⟨g, 0, none⟩ = some (.int .i64 s.at_) := h.blk.cell 0
  have c1 : w.cell? ⟨g, 1, none⟩ = some (.bool s.ended) := h.blk.cell 1
  by_cases he : s.ended = true
  · have hE : stepE p v s = 183 := by simp [stepE, he]
    have hS : stepS p v s = s := by simp [stepS, he]
    rw [hE, hS]
    rw [he] at c1
    have H := Lib.hid h
    clear h
    go_enter Try.func76, Try.ntmps76
    go_wp2_with fail
    go_ret
    exact ⟨rfl, ⟨i, S, H.out⟩, Below.refl _ _⟩
  · have hE : stepE p v s = doE s v (insAt p s.at_) := by simp [stepE, he]
    have hS : stepS p v s = doS s v (insAt p s.at_) := by simp [stepS, he]
    rw [hE, hS]
    have he' : s.ended = false := by simpa using he
    rw [he'] at c1
    obtain ⟨k, hk⟩ : ∃ k : Nat, s.at_ = k := ⟨s.at_.toNat, by have := hs.a0; omega⟩
    have hkn : k < n := by omega
    obtain ⟨b, o, x, rfl, hlb, hx, hc0, hc1, hc2, hc3, hc4⟩ := hp.ins_at hkn
    have hxi : insAt p s.at_ = x := by simp [insAt, hk, List.getD, hx]
    rw [hxi]
    have hxm := List.mem_of_getElem? hx
    have c18 : w.cell? ⟨g, 18, none⟩ = some (.int .u8 i.op) := h.blk.cell 18
    have c19 : w.cell? ⟨g, 19, none⟩ = some (.int .u8 i.a) := h.blk.cell 19
    have c20 : w.cell? ⟨g, 20, none⟩ = some (.int .u8 i.b) := h.blk.cell 20
    have c21 : w.cell? ⟨g, 21, none⟩ = some (.int .u8 i.c) := h.blk.cell 21
    have c22 : w.cell? ⟨g, 22, none⟩ = some (.int .i64 i.n) := h.blk.cell 22
    have f18 := h.blk.frozen 18
    have f19 := h.blk.frozen 19
    have f20 := h.blk.frozen 20
    have f21 := h.blk.frozen 21
    have f22 := h.blk.frozen 22
    have hglt := h.blk.lt
    have hm1 := h.set_ 18 (.int .u8 x.op) s ⟨x.op, i.a, i.b, i.c, i.n⟩ rfl rfl rfl
    have hm2 := hm1.set_ 19 (.int .u8 x.a) s ⟨x.op, x.a, i.b, i.c, i.n⟩ rfl rfl rfl
    have hm3 := hm2.set_ 20 (.int .u8 x.b) s ⟨x.op, x.a, x.b, i.c, i.n⟩ rfl rfl rfl
    have hm4 := hm3.set_ 21 (.int .u8 x.c) s ⟨x.op, x.a, x.b, x.c, i.n⟩ rfl rfl rfl
    have hm5 := hm4.set_ 22 (.int .i64 x.n) s x rfl rfl rfl
    have hb5 := ((((Below.refl base w).setCell (p := ⟨g, 18, none⟩) h.hg (.int .u8 x.op)).setCell (p := ⟨g, 19, none⟩) h.hg (.int .u8 x.a)).setCell (p := ⟨g, 20, none⟩) h.hg (.int .u8 x.b)).setCell (p := ⟨g, 21, none⟩) h.hg (.int .u8 x.c) |>.setCell (p := ⟨g, 22, none⟩) h.hg (.int .i64 x.n)
    have H := Lib.hid (And.intro hm5 hb5)
    have OK := Lib.hid (And.intro (hok x hxm) (hone x hxm))
    rw [hk] at c0
    clear hm1 hm2 hm3 hm4 hm5 hb5 h hp hok hone hx hxm hxi
    have hk9 : (k : Int) < (n : Int) := by omega
    go_enter Try.func76, Try.ntmps76
    go_wp2_with (go_at_call 111
                 refine (do_c _ base g s v x C S H.out.1 OK.out.1 OK.out.2 hv hs).mono ?_
                 rintro e w' ⟨rfl, hm, hb⟩)
    go_ret
    exact ⟨rfl, hm.elim fun S' hm => ⟨x, S', hm⟩, H.out.2.trans hb⟩
end Go.Proofs.Ytmljmabbopkpiaa
end

section
/- State.copied: a state whose lists are its own. -/
namespace Go.Proofs.Ytmljmabbopkpiaa
open Go.RowKit
set_option linter.unusedVariables false
set_option linter.unusedSimpArgs false
attribute [local go_sem ↓] Go.wp_at_zero Go.wp_at_succ


theorem own_more {w : World} {base base' : Nat} {e : TypeId} {size : Nat} {v : Value} {n : Nat} {xs : List Value} (h : w.ownsRow base e size v n xs) (hb : base' ≤ base) : w.ownsRow base' e size v n xs := by
  refine ⟨h.1, ?_⟩
  rcases h.2 with h2 | ⟨g, cap, cur, rfl, hb', hh, r⟩
  · exact .inl h2
  · exact .inr ⟨g, cap, cur, rfl, Nat.le_trans hb hb', hh, r⟩
abbrev cp13 (at_ : Int) (en : Bool) (r : Nat → Int) (C : Value) (dr : Int) (S : Value) : Array Value := #[.int .i64 at_, .bool en, .int .i64 (r 0), .int .i64 (r 1), .int .i64 (r 2), .int .i64 (r 3), .int .i64 (r 4), .int .i64 (r 5), .int .i64 (r 6), .int .i64 (r 7), C, .int .i64 dr, S]
abbrev z13 : Array Value := #[.int .i64 0, .bool false, .int .i64 0, .int .i64 0, .int .i64 0, .int .i64 0, .int .i64 0, .int .i64 0, .int .i64 0, .int .i64 0, .slice none 0 0, .int .i64 0, .slice none 0 0]
/-- what the region keeps: all below w's end, the box and the result's cell -/
structure CK (w : World) (cs : Array Value) (W : World) : Prop where
  b : Below w.heap.size w W
  x : Blk W w.heap.size 53 cs
  r : Blk W (w.heap.size + 1) 53 z13
section
variable {w W W' : World} {cs : Array Value}
theorem CK.drew (h : CK w cs W) : CK w cs W.drew := ⟨h.b.drew, h.x, h.r⟩
theorem CK.drewN (h : CK w cs W) (n : Nat) : CK w cs (W.drewN n) := ⟨below_drewNm h.b n, h.x, h.r⟩
theorem CK.call (h : CK w cs W) (hb : Below W.heap.size W W') : CK w cs W' := ⟨h.b.trans (hb.mono h.b.size), h.x.below hb h.x.lt, h.r.below hb h.r.lt⟩
theorem Reads.ck {k n : Nat} {A : Option Addr} {xs : List Value} (h : CK w cs W) (hr : Reads w w.heap.size k A n xs) : Reads W W.heap.size k A n xs := (hr.below h.b).more h.b.size
theorem ck_c62 (A : Option Addr) (m c : Nat) (xs : List Int) (hm : m ≤ 1000000) (hr : Reads w w.heap.size 1 A m (int64s xs)) (B : Option Addr) (n d : Nat) (h10 : cs[10]? = some (.slice A m c)) (h12 : cs[12]? = some (.slice B n d)) (h : CK w cs W) :
    Calls Try.prog 62 #[.slice A m c] W fun e w' => ∃ A' c', e = .returned (.slice A' m c') ∧ w'.ownsRow w.heap.size 2 1 (.slice A' m c') m (int64s xs) ∧ CK w cs w' ∧ Below W.heap.size W w' ∧
      w'.cell? ⟨w.heap.size, 10, none⟩ = some (.slice A m c) ∧ w'.cell? ⟨w.heap.size, 12, none⟩ = some (.slice B n d) ∧ w'.frozen? ⟨w.heap.size, 10, none⟩ = false ∧ w'.frozen? ⟨w.heap.size, 12, none⟩ = false := by
  refine (clone64_c A m c _ W (hr.ck h) (ones_i64 _) (by omega)).mono ?_
  rintro e w' ⟨v, rfl, ho, hb⟩
  obtain ⟨A', c', rfl⟩ := own_slice ho
  exact ⟨A', c', rfl, own_more ho h.b.size, h.call hb, hb, (h.call hb).x.cell 10 ▸ h10, (h.call hb).x.cell 12 ▸ h12, (h.call hb).x.frozen 10, (h.call hb).x.frozen 12⟩
theorem ck_c88 (A : Option Addr) (m c : Nat) (xs : List Snd) (hm : m ≤ 1000000) (hr : Reads w w.heap.size 3 A m (sndsV xs)) (B : Option Addr) (n d : Nat) (h10 : cs[10]? = some (.slice B n d)) (h12 : cs[12]? = some (.slice A m c)) (h : CK w cs W) :
    Calls Try.prog 88 #[.slice A m c] W fun e w' => ∃ A' c', e = .returned (.slice A' m c') ∧ w'.ownsRow w.heap.size 64 3 (.slice A' m c') m (sndsV xs) ∧ CK w cs w' ∧ Below W.heap.size W w' ∧
      w'.cell? ⟨w.heap.size, 10, none⟩ = some (.slice B n d) ∧ w'.cell? ⟨w.heap.size, 12, none⟩ = some (.slice A m c) ∧ w'.frozen? ⟨w.heap.size, 10, none⟩ = false ∧ w'.frozen? ⟨w.heap.size, 12, none⟩ = false := by
  refine (cloneSend_c A m c _ W (hr.ck h) (ones_snds _) (by omega)).mono ?_
  rintro e w' ⟨v, rfl, ho, hb⟩
  obtain ⟨A', c', rfl⟩ := own_slice ho
  exact ⟨A', c', rfl, own_more ho h.b.size, h.call hb, hb, (h.call hb).x.cell 10 ▸ h10, (h.call hb).x.cell 12 ▸ h12, (h.call hb).x.frozen 10, (h.call hb).x.frozen 12⟩
end

theorem copied_end {w W : World} {m n : Nat} {cs : List Int} {sn : List Snd} {at_ : Int} {en : Bool} {r : Nat → Int} {dr : Int} {C0 S0 C S : Value} (hk : CK w (cp13 at_ en r C0 dr S0) W) (hc : W.ownsRow w.heap.size 2 1 C m (int64s cs)) (hs : W.ownsRow w.heap.size 64 3 S n (sndsV sn)) :
    CK w (cp13 at_ en r C dr S) ((W.setCell ⟨w.heap.size, 10, none⟩ C).setCell ⟨w.heap.size, 12, none⟩ S) ∧ ((W.setCell ⟨w.heap.size, 10, none⟩ C).setCell ⟨w.heap.size, 12, none⟩ S).ownsRow w.heap.size 2 1 C m (int64s cs) ∧
      ((W.setCell ⟨w.heap.size, 10, none⟩ C).setCell ⟨w.heap.size, 12, none⟩ S).ownsRow w.heap.size 64 3 S n (sndsV sn) := by
  have x1 := hk.x.set_ 10 C
  have x2 := x1.set_ 12 S
  have kc := own_blk_ne hc hk.x (by decide)
  have ks := own_blk_ne hs hk.x (by decide)
  refine ⟨⟨(hk.b.setCell (p := ⟨w.heap.size, 10, none⟩) (Nat.le_refl _) C).setCell (p := ⟨w.heap.size, 12, none⟩) (Nat.le_refl _) S, x2, (hk.r.far (p := ⟨w.heap.size, 10, none⟩) (by simp) C).far (p := ⟨w.heap.size, 12, none⟩) (by simp) S⟩, ?_, ?_⟩
  · refine ownsRow_keep (w := W.setCell ⟨w.heap.size, 10, none⟩ C) (ownsRow_keep (w := W) hc ?_) ?_
    · exact fun j hj _ => Below.heap_setCell _ _ _ _ (fun e => kc (by rw [hj, e]))
    · exact fun j hj _ => Below.heap_setCell _ _ _ _ (fun e => kc (by rw [hj, e]))
  · refine ownsRow_keep (w := W.setCell ⟨w.heap.size, 10, none⟩ C) (ownsRow_keep (w := W) hs ?_) ?_
    · exact fun j hj _ => Below.heap_setCell _ _ _ _ (fun e => ks (by rw [hj, e]))
    · exact fun j hj _ => Below.heap_setCell _ _ _ _ (fun e => ks (by rw [hj, e]))
theorem Blk.row {W : World} {g : Nat} {t : TypeId} {cs : Array Value} (h : Blk W g t cs) (cs' : Array Value) : Blk (W.setRow g cs') g t cs' := setRow_heap _ _ _ _ _ _ h
theorem Blk.row_far {W : World} {g k : Nat} {t : TypeId} {cs : Array Value} (h : Blk W g t cs) (hn : g ≠ k) (cs' : Array Value) : Blk (W.setRow k cs') g t cs := (setRow_other _ _ _ _ hn).trans h
theorem own_row {W : World} {base g : Nat} {t e : TypeId} {cs cs' : Array Value} {size n : Nat} {v : Value} {xs : List Value} (hr : Blk W g t cs) (h : W.ownsRow base e size v n xs) (hne : e ≠ t) : (W.setRow g cs').ownsRow base e size v n xs :=
  ownsRow_keep h fun j hj _ => setRow_other _ _ _ _ (fun he => own_blk_ne h hr hne (by rw [hj, he]))
theorem copied_fin {w W : World} {m n : Nat} {cs : List Int} {sn : List Snd} {C S : Value} {z : Array Value} (hb : Below w.heap.size w W) (hr : Blk W (w.heap.size + 1) 53 z) (hc : W.ownsRow w.heap.size 2 1 C m (int64s cs)) (hs : W.ownsRow w.heap.size 64 3 S n (sndsV sn)) (cs' : Array Value) :
    (W.setRow (w.heap.size + 1) cs').ownsRow w.heap.size 2 1 C m (int64s cs) ∧ (W.setRow (w.heap.size + 1) cs').ownsRow w.heap.size 64 3 S n (sndsV sn) ∧ Below w.heap.size w (W.setRow (w.heap.size + 1) cs') :=
  ⟨own_row hr hc (by decide), own_row hr hs (by decide), below_setRow hb (Nat.le_succ _) _⟩
theorem blk13 {W : World} {g : Nat} {t : TypeId} {a0 a1 a2 a3 a4 a5 a6 a7 a8 a9 a10 a11 a12 : Value} (h : Blk W g t #[a0, a1, a2, a3, a4, a5, a6, a7, a8, a9, a10, a11, a12]) :
    (W.cell? ⟨g, 0, none⟩ = some a0 ∧ W.cell? ⟨g, 1, none⟩ = some a1 ∧ W.cell? ⟨g, 2, none⟩ = some a2 ∧ W.cell? ⟨g, 3, none⟩ = some a3 ∧ W.cell? ⟨g, 4, none⟩ = some a4 ∧ W.cell? ⟨g, 5, none⟩ = some a5 ∧ W.cell? ⟨g, 6, none⟩ = some a6 ∧ W.cell? ⟨g, 7, none⟩ = some a7 ∧ W.cell? ⟨g, 8, none⟩ = some a8 ∧ W.cell? ⟨g, 9, none⟩ = some a9 ∧ W.cell? ⟨g, 10, none⟩ = some a10 ∧ W.cell? ⟨g, 11, none⟩ = some a11 ∧ W.cell? ⟨g, 12, none⟩ = some a12) ∧ ∀ i, W.frozen? ⟨g, i, none⟩ = false :=
  ⟨⟨h.cell 0, h.cell 1, h.cell 2, h.cell 3, h.cell 4, h.cell 5, h.cell 6, h.cell 7, h.cell 8, h.cell 9, h.cell 10, h.cell 11, h.cell 12⟩, fun i => h.frozen i⟩
theorem blk5 {W : World} {g : Nat} {t : TypeId} {a0 a1 a2 a3 a4 : Value} (h : Blk W g t #[a0, a1, a2, a3, a4]) :
    (W.cell? ⟨g, 0, none⟩ = some a0 ∧ W.cell? ⟨g, 1, none⟩ = some a1 ∧ W.cell? ⟨g, 2, none⟩ = some a2 ∧ W.cell? ⟨g, 3, none⟩ = some a3 ∧ W.cell? ⟨g, 4, none⟩ = some a4) ∧ ∀ i, W.frozen? ⟨g, i, none⟩ = false :=
  ⟨⟨h.cell 0, h.cell 1, h.cell 2, h.cell 3, h.cell 4⟩, fun i => h.frozen i⟩

set_option maxRecDepth 100000 in
set_option maxHeartbeats 2000000 in
theorem copied_c (s : St) (A B : Option Addr) (m c n d : Nat) (w : World) (hc : Reads w w.heap.size 1 A m (int64s s.cells)) (hs : Reads w w.heap.size 3 B n (sndsV s.sends)) (hm : m ≤ 1024) (hn : n ≤ 1000000) :
    Calls Try.prog 86 #[s.v (.slice A m c) (.slice B n d)] w fun e w' => ∃ C S, e = .returned (s.v C S) ∧ w'.ownsRow w.heap.size 2 1 C m (int64s s.cells) ∧ w'.ownsRow w.heap.size 64 3 S n (sndsV s.sends) ∧ Below w.heap.size w w' := by
  have HC := Lib.hid hc
  have HS := Lib.hid hs
  clear hc hs
  obtain ⟨at_, en, r, cs, dr, sn⟩ := s
  unfold St.v
  dsimp only at HC HS ⊢
  go_enter Try.func86, Try.ntmps86
  go_wp2_with fail
  obtain ⟨W0, hW0⟩ : ∃ W0, W0 = w.alloc (.cells #[.int .i64 at_, .bool en, .int .i64 (r 0), .int .i64 (r 1), .int .i64 (r 2), .int .i64 (r 3), .int .i64 (r 4), .int .i64 (r 5), .int .i64 (r 6), .int .i64 (r 7), .slice A m c, .int .i64 dr, .slice B n d] 53) := ⟨_, rfl⟩
  have bb : Blk W0 w.heap.size 53 #[.int .i64 at_, .bool en, .int .i64 (r 0), .int .i64 (r 1), .int .i64 (r 2), .int .i64 (r 3), .int .i64 (r 4), .int .i64 (r 5), .int .i64 (r 6), .int .i64 (r 7), .slice A m c, .int .i64 dr, .slice B n d] := hW0 ▸ Blk.new _ _ _
  have hz0 : W0.heap.size = w.heap.size + 1 := by rw [hW0]; simp
  have hB0 : Below w.heap.size w W0 := hW0 ▸ (Below.refl _ w).alloc (Nat.le_refl _) _
  rw [← hW0]
  clear hW0
  obtain ⟨w1, hw1⟩ : ∃ w1, w1 = W0.alloc (.cells #[.int .i64 0, .bool false, .int .i64 0, .int .i64 0, .int .i64 0, .int .i64 0, .int .i64 0, .int .i64 0, .int .i64 0, .int .i64 0, .slice none 0 0, .int .i64 0, .slice none 0 0] 53) := ⟨_, rfl⟩
  have b1 := hw1 ▸ bb.alloc (.cells #[.int .i64 0, .bool false, .int .i64 0, .int .i64 0, .int .i64 0, .int .i64 0, .int .i64 0, .int .i64 0, .int .i64 0, .int .i64 0, .slice none 0 0, .int .i64 0, .slice none 0 0] 53)
  have b2 : Blk w1 (w.heap.size + 1) 53 #[.int .i64 0, .bool false, .int .i64 0, .int .i64 0, .int .i64 0, .int .i64 0, .int .i64 0, .int .i64 0, .int .i64 0, .int .i64 0, .slice none 0 0, .int .i64 0, .slice none 0 0] := by rw [hw1, ← hz0]; exact Blk.new _ _ _
  have hz1 : w1.heap.size = w.heap.size + 2 := by rw [hw1]; simp [hz0]
  have hB1 : Below w.heap.size w w1 := hw1 ▸ hB0.alloc (by omega) _
  rw [← hw1]
  clear hw1 bb hz0 hB0
  have hK1 : CK w (cp13 at_ en r (.slice A m c) dr (.slice B n d)) w1 := ⟨hB1, b1, b2⟩
  have r10 : w1.cell? ⟨w.heap.size, 10, none⟩ = some (.slice A m c) := b1.cell 10
  have r12 : w1.cell? ⟨w.heap.size, 12, none⟩ = some (.slice B n d) := b1.cell 12
  clear b1 b2 hB1
  go_cut [] (fun W => ∃ C S, CK w (cp13 at_ en r C dr S) W ∧ W.ownsRow w.heap.size 2 1 C m (int64s cs) ∧ W.ownsRow w.heap.size 64 3 S n (sndsV sn))
  case first =>
    go_region_law (first
        | (go_simp; go_at_call 62; refine (ck_c62 (cs := cp13 at_ en r (.slice A m c) dr (.slice B n d)) A m c cs (by omega) HC.out B n d rfl rfl ?_).mono ?_; (focus (repeat' (first | assumption | refine CK.drew ?_ | refine CK.drewN ?_ _))); rintro e w3 ⟨A3, c3, rfl, ho3, hk3, hb3, hx3, hy3, hf3, hg3⟩)
        | (go_simp; go_at_call 88; refine (ck_c88 (cs := cp13 at_ en r (.slice A m c) dr (.slice B n d)) B n d sn hn HS.out A m c rfl rfl ?_).mono ?_; (focus (repeat' (first | assumption | refine CK.drew ?_ | refine CK.drewN ?_ _))); rintro e w4 ⟨A4, c4, rfl, ho4, hk4, hb4, hx4, hy4, hf4, hg4⟩))
    all_goals (go_wp2_with fail; go_meet)
    all_goals exact ⟨_, _, copied_end hk4 (ownsRow_keep ho3 fun j _ hj => hb4.block j hj) ho4⟩
  case rest =>
    obtain ⟨C, S, hk, hc, hs⟩ := hcut
    obtain ⟨A1, k1, rfl⟩ := own_slice hc
    obtain ⟨A2, k2, rfl⟩ := own_slice hs
    have bx : Blk wc w.heap.size 53 #[.int .i64 at_, .bool en, .int .i64 (r 0), .int .i64 (r 1), .int .i64 (r 2), .int .i64 (r 3), .int .i64 (r 4), .int .i64 (r 5), .int .i64 (r 6), .int .i64 (r 7), .slice A1 m k1, .int .i64 dr, .slice A2 n k2] := hk.x
    have br := hk.r
    have hb := hk.b
    clear hk HC HS hK1 r10 r12
    go_wp2_with (first
      | refine wpList_load_row (P := Try.prog) rfl 53 (.tmp 1) rfl w.heap.size rfl 53 _ (0, 0) _ bx Try.underlying53 rfl (by kernel_rfl) ?_
      | refine wpList_store_row (P := Try.prog) rfl 53 (.tmp 2) (.tmp 11) rfl (w.heap.size + 1) #[.int .i64 at_, .bool en, .int .i64 (r 0), .int .i64 (r 1), .int .i64 (r 2), .int .i64 (r 3), .int .i64 (r 4), .int .i64 (r 5), .int .i64 (r 6), .int .i64 (r 7), .slice A1 m k1, .int .i64 dr, .slice A2 n k2] rfl rfl 53 _ br (by kernel_rfl) rfl (by kernel_rfl) ?_)
    have hK := copied_fin hb br hc hs #[.int .i64 at_, .bool en, .int .i64 (r 0), .int .i64 (r 1), .int .i64 (r 2), .int .i64 (r 3), .int .i64 (r 4), .int .i64 (r 5), .int .i64 (r 6), .int .i64 (r 7), .slice A1 m k1, .int .i64 dr, .slice A2 n k2]
    (try simp only [Exit.inBlock, Exit.then])
    refine bodyPost_ret (v := .agg #[.int .i64 at_, .bool en, .int .i64 (r 0), .int .i64 (r 1), .int .i64 (r 2), .int .i64 (r 3), .int .i64 (r 4), .int .i64 (r 5), .int .i64 (r 6), .int .i64 (r 7), .slice A1 m k1, .int .i64 dr, .slice A2 n k2]) (results_cell_row (P := Try.prog) (p := 2) (ty := 53) rfl _ _ (w.heap.size + 1) 53 _ (0, 0) _ rfl (Blk.row br _) Try.underlying53 rfl (by kernel_rfl)) rfl ?_
    exact ⟨_, _, rfl, hK.1, hK.2.1, hK.2.2⟩
end Go.Proofs.Ytmljmabbopkpiaa
end

section
/- instr.open: a machine in a state. -/
namespace Go.Proofs.Ytmljmabbopkpiaa
open Go.RowKit
set_option linter.unusedVariables false
set_option linter.unusedSimpArgs false
attribute [local go_sem ↓] Go.wp_at_zero Go.wp_at_succ

/-- what open keeps: all below w's end, and the two boxes -/
structure OK2 (w : World) (vs cs : Array Value) (W : World) : Prop where
  b : Below w.heap.size w W
  v : Blk W w.heap.size 56 vs
  s : Blk W (w.heap.size + 1) 53 cs
section
variable {w W W' : World} {vs cs : Array Value}
theorem OK2.drew (h : OK2 w vs cs W) : OK2 w vs cs W.drew := ⟨h.b.drew, h.v, h.s⟩
theorem OK2.drewN (h : OK2 w vs cs W) (n : Nat) : OK2 w vs cs (W.drewN n) := ⟨below_drewNm h.b n, h.v, h.s⟩
theorem OK2.call (h : OK2 w vs cs W) (hb : Below W.heap.size W W') : OK2 w vs cs W' := ⟨h.b.trans (hb.mono h.b.size), h.v.below hb h.v.lt, h.s.below hb h.s.lt⟩
theorem OK2.start (w : World) (vs cs : Array Value) : OK2 w vs cs ((w.alloc (.cells vs 56)).alloc (.cells cs 53)) :=
  ⟨((Below.refl _ w).alloc (Nat.le_refl _) _).alloc (by simp) _, (Blk.new _ _ _).alloc _, by have := Blk.new (w.alloc (.cells vs 56)) 53 cs; simpa using this⟩
end
/-- the call of copied, as the walk of open meets it -/
theorem ok2_copied {w W : World} {vs : Array Value} (s : St) (B D : Option Addr) (m d k f : Nat) (hm : m ≤ 1024) (hk : k ≤ 1000000) (hc : Reads w w.heap.size 1 B m (int64s s.cells)) (hs : Reads w w.heap.size 3 D k (sndsV s.sends)) {cs : Array Value} (h : OK2 w vs cs W) :
    Calls Try.prog 86 #[s.v (.slice B m d) (.slice D k f)] W fun e w' => ∃ C S, e = .returned (s.v C S) ∧ w'.ownsRow w.heap.size 2 1 C m (int64s s.cells) ∧ w'.ownsRow w.heap.size 64 3 S k (sndsV s.sends) ∧ OK2 w vs cs w' := by
  refine (copied_c s B D m d k f W ((hc.below h.b).more h.b.size) ((hs.below h.b).more h.b.size) hm hk).mono ?_
  rintro e w' ⟨C, S, rfl, h1, h2, h3⟩
  exact ⟨C, S, rfl, own_more h1 h.b.size, own_more h2 h.b.size, h.call h3⟩
theorem own_alloc {W : World} {base size n : Nat} {e : TypeId} {v : Value} {xs : List Value} (h : W.ownsRow base e size v n xs) (o : Obj) : (W.alloc o).ownsRow base e size v n xs := ownsRow_keep h fun j _ hj => Below.heap_alloc W o j hj
theorem open_end {w W : World} {vs cs : Array Value} {s : St} {v : Envi} {m k : Nat} {C S : Value} (h : OK2 w vs cs W) (hc : W.ownsRow w.heap.size 2 1 C m (int64s s.cells)) (hs : W.ownsRow w.heap.size 64 3 S k (sndsV s.sends)) (hm : s.cells.length = m) (hk : s.sends.length = k) :
    Mac (W.alloc (.cells (mcells s v ⟨0, 0, 0, 0, 0⟩ C S) 152)) w.heap.size W.heap.size s v ⟨0, 0, 0, 0, 0⟩ C S ∧ Below w.heap.size w (W.alloc (.cells (mcells s v ⟨0, 0, 0, 0, 0⟩ C S) 152)) := by
  subst hm; subst hk
  exact ⟨⟨h.b.size, Blk.new _ _ _, own_alloc hc _, own_alloc hs _⟩, h.b.alloc h.b.size _⟩

set_option maxRecDepth 100000 in
set_option maxHeartbeats 2000000 in
theorem open_c (A : Option Addr) (n c : Nat) (hn : n < 2^62) (p : List Ins) (hok : ∀ i ∈ p, i.ok) (v : Envi) (s : St) (B D : Option Addr) (m k d f : Nat) (hk : k ≤ 1000000) (w : World)
    (hp : Reads w w.heap.size 5 A n (insV p)) (hc : Reads w w.heap.size 1 B m (int64s s.cells)) (hs : Reads w w.heap.size 3 D k (sndsV s.sends)) :
    Calls Try.prog 75 #[.slice A n c, v.v, s.v (.slice B m d) (.slice D k f)] w fun e w' => Below w.heap.size w w' ∧
      ((openE p v s ≠ 0 ∧ e = .returned (.tuple #[.pointer none, .int .i64 (openE p v s)])) ∨
       (openE p v s = 0 ∧ ∃ g C S, e = .returned (.tuple #[.pointer (some ⟨g, 0, none⟩), .int .i64 0]) ∧ Mac w' w.heap.size g s v ⟨0, 0, 0, 0, 0⟩ C S)) := by
  have hpl := hp.ins_len
  have hml := hc.i64_len
  have hkl := hs.snds_len
  obtain ⟨F, hF⟩ : ∃ F, F = openE p v s := ⟨_, rfl⟩
  obtain ⟨K1, hK1⟩ : ∃ K1, K1 = (checkI p).1 := ⟨_, rfl⟩
  obtain ⟨E, hE⟩ : ∃ E, E = (checkI p).2 := ⟨_, rfl⟩
  obtain ⟨R1, hR1⟩ : ∃ R, R = v.rightB := ⟨_, rfl⟩
  obtain ⟨R2, hR2⟩ : ∃ R, R = rightB s.at_ s.draws n m := ⟨_, rfl⟩
  have hF' : F = if E ≠ 0 then 180 else if R1 = false then 181 else if R2 = false then 182 else 0 := by
    rw [hF, hE, hR1, hR2]; unfold openE; rw [hpl, hml]
  have hm24 : R2 = true → m ≤ 1024 := fun h => by have := rightB_of (hR2 ▸ h); omega
  have ck : ∀ W, Below w.heap.size w W → Calls Try.prog 55 #[.slice A n c] W fun e w' => e = .returned (.tuple #[.int .i64 K1, .int .i64 E]) ∧ Below W.heap.size W w' := fun W hW => by
    rw [hK1, hE]; exact check_c A n c hn p hok W ((hp.below hW).more hW.size)
  have cv : ∀ W, Calls Try.prog 109 #[v.v] W fun e w' => e = .returned (.bool R1) ∧ Below W.heap.size W w' := fun W => by rw [hR1]; exact envRight_c v W
  have cs : ∀ W, Calls Try.prog 110 #[s.v (.slice B m d) (.slice D k f), .int .i64 n] W fun e w' => e = .returned (.bool R2) ∧ Below W.heap.size W w' := fun W => by rw [hR2]; exact stateRight_c s B m d _ n W
  have HC := Lib.hid hc
  have HS := Lib.hid hs
  rw [← hF]
  clear hp hc hs hE hR1 hR2 hF hK1 hok
  have cc := fun (W : World) (vs cs : Array Value) (hm : m ≤ 1024) (h : OK2 w vs cs W) => ok2_copied s B D m d k f hm hk HC.out HS.out h
  have ce := fun (W : World) (vs cs : Array Value) (C S : Value) (h : OK2 w vs cs W) h1 h2 => open_end (v := v) (s := s) (C := C) (S := S) h h1 h2 hml hkl
  obtain ⟨sd, pr, po, lo, nw⟩ := v
  obtain ⟨at_, en, r, xs, dr, sn⟩ := s
  unfold Envi.v at cv ⊢
  unfold St.v at cs cc ⊢
  dsimp only at cv cs cc ce hml hkl ⊢
  obtain ⟨Mc, hMc⟩ : ∃ Mc : Value → Value → World → Nat → Prop, Mc = fun C S W g => Mac W w.heap.size g ⟨at_, en, r, xs, dr, sn⟩ ⟨sd, pr, po, lo, nw⟩ ⟨0, 0, 0, 0, 0⟩ C S := ⟨_, rfl⟩
  have hst := OK2.start w #[.int .u64 sd, .int .i64 pr, .int .i64 po, .int .i64 lo, .int .i64 nw] #[.int .i64 at_, .bool en, .int .i64 (r 0), .int .i64 (r 1), .int .i64 (r 2), .int .i64 (r 3), .int .i64 (r 4), .int .i64 (r 5), .int .i64 (r 6), .int .i64 (r 7), .slice B m d, .int .i64 dr, .slice D k f]
  have CK := Lib.hid ck
  have CV := Lib.hid cv
  have CS := Lib.hid cs
  have CC := Lib.hid cc
  have CE := Lib.hid ce
  clear ck cv cs cc ce
  by_cases hE0 : E = 0
  · have hEt : (E != 0) = false := by simp [hE0]
    rw [if_neg (by simp [hE0])] at hF'
    cases R1 with
    | false =>
      rw [if_pos rfl] at hF'
      subst hF'
      go_enter Try.func75, Try.ntmps75
      go_wp2_with fail
      obtain ⟨W0, hW0⟩ : ∃ W0, W0 = ((w.alloc (.cells #[.int .u64 sd, .int .i64 pr, .int .i64 po, .int .i64 lo, .int .i64 nw] 56)).alloc (.cells #[.int .i64 at_, .bool en, .int .i64 (r 0), .int .i64 (r 1), .int .i64 (r 2), .int .i64 (r 3), .int .i64 (r 4), .int .i64 (r 5), .int .i64 (r 6), .int .i64 (r 7), .slice B m d, .int .i64 dr, .slice D k f] 53)) := ⟨_, rfl⟩
      rw [← hW0] at hst ⊢
      clear hW0
      go_wp2_with (go_at_call 55
                   refine (CK.out _ hst.b).mono ?_
                   rintro e w3 ⟨rfl, hb3⟩
                   have hk3 := hst.call hb3
                   obtain ⟨⟨x0, x1, x2, x3, x4⟩, xf⟩ := blk5 hk3.v)
      go_wp2_with (go_at_call 109
                   refine (CV.out _).mono ?_
                   rintro e w4 ⟨rfl, hb4⟩
                   have hk4 := hk3.call hb4
                   clear x0 x1 x2 x3 x4 xf)
      go_ret2
      exact ⟨hk4.b, .inl ⟨by decide, rfl⟩⟩
    | true =>
      rw [if_neg (by decide)] at hF'
      cases R2 with
      | false =>
        rw [if_pos rfl] at hF'
        subst hF'
        clear hm24
        go_enter Try.func75, Try.ntmps75
        go_wp2_with fail
        obtain ⟨W0, hW0⟩ : ∃ W0, W0 = ((w.alloc (.cells #[.int .u64 sd, .int .i64 pr, .int .i64 po, .int .i64 lo, .int .i64 nw] 56)).alloc (.cells #[.int .i64 at_, .bool en, .int .i64 (r 0), .int .i64 (r 1), .int .i64 (r 2), .int .i64 (r 3), .int .i64 (r 4), .int .i64 (r 5), .int .i64 (r 6), .int .i64 (r 7), .slice B m d, .int .i64 dr, .slice D k f] 53)) := ⟨_, rfl⟩
        rw [← hW0] at hst ⊢
        clear hW0
        go_at_call 55
        refine (CK.out _ hst.b).mono ?_
        rintro e w3 ⟨rfl, hb3⟩
        have hk3 := hst.call hb3
        obtain ⟨⟨x0, x1, x2, x3, x4⟩, xf⟩ := blk5 hk3.v
        go_wp2_with fail
        go_at_call 109
        refine (CV.out _).mono ?_
        rintro e w4 ⟨rfl, hb4⟩
        have hk4 := hk3.call hb4
        clear x0 x1 x2 x3 x4 xf
        go_wp2_with (refine wpList_load_row (P := Try.prog) rfl 53 (.tmp 5) rfl (w.heap.size + 1) rfl 53 _ (0, 0) _ hk4.s Try.underlying53 rfl (by kernel_rfl) ?_)
        go_at_call 110
        refine (CS.out _).mono ?_
        rintro e w5 ⟨rfl, hb5⟩
        have hk5 := hk4.call hb5
        go_wp2_with fail
        go_ret2
        exact ⟨hk5.b, .inl ⟨by decide, rfl⟩⟩
      | true =>
        rw [if_neg (by decide)] at hF'
        subst hF'
        have hm := hm24 rfl
        clear hm24
        go_enter Try.func75, Try.ntmps75
        go_wp2_with fail
        obtain ⟨W0, hW0⟩ : ∃ W0, W0 = ((w.alloc (.cells #[.int .u64 sd, .int .i64 pr, .int .i64 po, .int .i64 lo, .int .i64 nw] 56)).alloc (.cells #[.int .i64 at_, .bool en, .int .i64 (r 0), .int .i64 (r 1), .int .i64 (r 2), .int .i64 (r 3), .int .i64 (r 4), .int .i64 (r 5), .int .i64 (r 6), .int .i64 (r 7), .slice B m d, .int .i64 dr, .slice D k f] 53)) := ⟨_, rfl⟩
        rw [← hW0] at hst ⊢
        clear hW0
        go_at_call 55
        refine (CK.out _ hst.b).mono ?_
        rintro e w3 ⟨rfl, hb3⟩
        have hk3 := hst.call hb3
        obtain ⟨⟨x0, x1, x2, x3, x4⟩, xf⟩ := blk5 hk3.v
        go_wp2_with fail
        go_at_call 109
        refine (CV.out _).mono ?_
        rintro e w4 ⟨rfl, hb4⟩
        have hk4 := hk3.call hb4
        clear x0 x1 x2 x3 x4 xf
        go_wp2_with (refine wpList_load_row (P := Try.prog) rfl 53 (.tmp 5) rfl (w.heap.size + 1) rfl 53 _ (0, 0) _ hk4.s Try.underlying53 rfl (by kernel_rfl) ?_)
        go_at_call 110
        refine (CS.out _).mono ?_
        rintro e w5 ⟨rfl, hb5⟩
        have hk5 := hk4.call hb5
        obtain ⟨⟨z0, z1, z2, z3, z4⟩, zf⟩ := blk5 hk5.v
        obtain ⟨⟨zs0, zs1, zs2, zs3, zs4, zs5, zs6, zs7, zs8, zs9, zs10, zs11, zs12⟩, zsf⟩ := blk13 hk5.s
        go_upto_region 8 with fail
        go_cut [6, 7] (fun p q W => q = .int .i64 0 ∧ ∃ g C S, p = .pointer (some ⟨g, 0, none⟩) ∧ Mc C S W g ∧ Below w.heap.size w W)
        case first =>
          go_region_law (go_simp; go_at_call 86; refine (CC.out _ #[.int .u64 sd, .int .i64 pr, .int .i64 po, .int .i64 lo, .int .i64 nw] #[.int .i64 at_, .bool en, .int .i64 (r 0), .int .i64 (r 1), .int .i64 (r 2), .int .i64 (r 3), .int .i64 (r 4), .int .i64 (r 5), .int .i64 (r 6), .int .i64 (r 7), .slice B m d, .int .i64 dr, .slice D k f] hm ?_).mono ?_; (focus (repeat' (first | assumption | refine OK2.drew ?_ | refine OK2.drewN ?_ _))); rintro e w6 ⟨C6, S6, rfl, ho6, hq6, hk6⟩; obtain ⟨⟨u0, u1, u2, u3, u4⟩, uf⟩ := blk5 hk6.v)
          all_goals (go_wp2_with fail; go_meet)
          all_goals (rw [hMc]; have hce := CE.out _ _ _ _ _ hk6 ho6 hq6; exact ⟨rfl, _, C6, S6, rfl, hce.1, hce.2⟩)
        case rest =>
          obtain ⟨rfl, g, C, S, rfl, hm, hb⟩ := hcut
          rw [hMc] at hm
          go_wp2
          go_ret2
          exact ⟨hb, .inr ⟨by first | trivial | rfl, g, C, S, rfl, hm⟩⟩
  · have hEt : (E != 0) = true := by simp [hE0]
    rw [if_pos hE0] at hF'
    subst hF'
    go_enter Try.func75, Try.ntmps75
    go_wp2_with fail
    obtain ⟨W0, hW0⟩ : ∃ W0, W0 = ((w.alloc (.cells #[.int .u64 sd, .int .i64 pr, .int .i64 po, .int .i64 lo, .int .i64 nw] 56)).alloc (.cells #[.int .i64 at_, .bool en, .int .i64 (r 0), .int .i64 (r 1), .int .i64 (r 2), .int .i64 (r 3), .int .i64 (r 4), .int .i64 (r 5), .int .i64 (r 6), .int .i64 (r 7), .slice B m d, .int .i64 dr, .slice D k f] 53)) := ⟨_, rfl⟩
    rw [← hW0] at hst ⊢
    clear hW0
    go_wp2_with (go_at_call 55
                 refine (CK.out _ hst.b).mono ?_
                 rintro e w3 ⟨rfl, hb3⟩)
    go_ret2
    exact ⟨(hst.call hb3).b, .inl ⟨by decide, rfl⟩⟩
end Go.Proofs.Ytmljmabbopkpiaa
end

section
/- instr.Do: one instruction of a program, from outside. -/
namespace Go.Proofs.Ytmljmabbopkpiaa
open Go.RowKit
set_option linter.unusedVariables false
set_option linter.unusedSimpArgs false

structure OK3 (w : World) (vs cs : Array Value) (W : World) : Prop where
  b : Below w.heap.size w W
  n : w.heap.size + 3 ≤ W.heap.size
  v : Blk W w.heap.size 56 vs
  s : Blk W (w.heap.size + 1) 53 cs
  r : Blk W (w.heap.size + 2) 53 z13
theorem OK3.start (w : World) (vs cs : Array Value) : OK3 w vs cs (((w.alloc (.cells vs 56)).alloc (.cells cs 53)).alloc (.cells z13 53)) :=
  ⟨(OK2.start w vs cs).b.alloc (by simp; omega) _, by simp, (OK2.start w vs cs).v.alloc _, (OK2.start w vs cs).s.alloc _, by have := Blk.new ((w.alloc (.cells vs 56)).alloc (.cells cs 53)) 53 z13; simpa using this⟩
theorem results_row_tmp {P : Program} {fn : Func} {p u : Tmp} {ty : TypeId} (h : fn.results = #[.cell p ty, .tmp u]) (tmps : Array Value) (w : World) (g : Nat) (t : TypeId) (cs : Array Value) (fr : Nat × Nat) (d : TypeDesc)
    (hp : tmps.getD p undef = .pointer (some ⟨g, 0, none⟩)) (hg : w.heap[g]? = some (.cells cs t fr))
    (hu : P.underlying ty = some d) (hd : (match d with | .struct _ | .array _ _ => true | _ => false) = true) (hi : (P.info? ty).map (·.size) = some cs.size) :
    (results fn tmps).run P w = .ok (.tuple #[.agg cs, tmps.getD u undef]) w := by
  rw [results_cell_tmp h, hp]
  simp [asAddr, run_loadVar_row w g t ty cs fr d hg hu hd hi]
abbrev scells (s : St) (C S : Value) : Array Value := #[.int .i64 s.at_, .bool s.ended, .int .i64 (s.regs 0), .int .i64 (s.regs 1), .int .i64 (s.regs 2), .int .i64 (s.regs 3), .int .i64 (s.regs 4), .int .i64 (s.regs 5), .int .i64 (s.regs 6), .int .i64 (s.regs 7), C, .int .i64 s.draws, S]
theorem do_zero {w W : World} {z : Array Value} (hb : Below w.heap.size w W) (hr : Blk W (w.heap.size + 2) 53 z) :
    (W.setRow (w.heap.size + 2) z13).ownsRow w.heap.size 2 1 (.slice none 0 0) 0 (int64s []) ∧ (W.setRow (w.heap.size + 2) z13).ownsRow w.heap.size 64 3 (.slice none 0 0) 0 (sndsV []) ∧ Below w.heap.size w (W.setRow (w.heap.size + 2) z13) :=
  ⟨World.ownsRow_nil _ _ _ _, World.ownsRow_nil _ _ _ _, below_setRow hb (by omega) _⟩
theorem do_fin {w W : World} {base g : Nat} {s : St} {v : Envi} {i : Ins} {C S : Value} {z cs : Array Value} (hm : Mac W base g s v i C S) (hb : Below w.heap.size w W) (hr : Blk W (w.heap.size + 2) 53 z) (hbase : w.heap.size ≤ base) :
    (W.setRow (w.heap.size + 2) cs).ownsRow w.heap.size 2 1 C s.cells.length (int64s s.cells) ∧ (W.setRow (w.heap.size + 2) cs).ownsRow w.heap.size 64 3 S s.sends.length (sndsV s.sends) ∧ Below w.heap.size w (W.setRow (w.heap.size + 2) cs) :=
  ⟨own_row hr (own_more hm.oc hbase) (by decide), own_row hr (own_more hm.os hbase) (by decide), below_setRow hb (by omega) _⟩

set_option maxRecDepth 100000 in
set_option maxHeartbeats 2000000 in
theorem Do_c (A : Option Addr) (n c : Nat) (hn : n < 2^62) (p : List Ins) (hok : ∀ i ∈ p, i.ok) (v : Envi) (s : St) (B D : Option Addr) (m k d f : Nat) (hk : k ≤ 1000000) (w : World)
    (hp : Reads w w.heap.size 5 A n (insV p)) (hc : Reads w w.heap.size 1 B m (int64s s.cells)) (hs : Reads w w.heap.size 3 D k (sndsV s.sends)) :
    Calls Try.prog 31 #[.slice A n c, v.v, s.v (.slice B m d) (.slice D k f)] w fun e w' => ∃ C S, e = .returned (.tuple #[(topS p v s).v C S, .int .i64 (topE p v s)]) ∧
      w'.ownsRow w.heap.size 2 1 C (topS p v s).cells.length (int64s (topS p v s).cells) ∧ w'.ownsRow w.heap.size 64 3 S (topS p v s).sends.length (sndsV (topS p v s).sends) ∧ Below w.heap.size w w' := by
  have HO := Lib.hid (fun (X : World) (hX : Below w.heap.size w X) => open_c A n c hn p hok v s B D m k d f hk X ((hp.below hX).more hX.size) ((hc.below hX).more hX.size) ((hs.below hX).more hX.size))
  have hpl := hp.ins_len
  have hml := hc.i64_len
  have hst := OK3.start w #[.int .u64 v.seed, .int .i64 v.process, .int .i64 v.ports, .int .i64 v.look, .int .i64 v.now] #[.int .i64 s.at_, .bool s.ended, .int .i64 (s.regs 0), .int .i64 (s.regs 1), .int .i64 (s.regs 2), .int .i64 (s.regs 3), .int .i64 (s.regs 4), .int .i64 (s.regs 5), .int .i64 (s.regs 6), .int .i64 (s.regs 7), .slice B m d, .int .i64 s.draws, .slice D k f]
  unfold Envi.v St.v at HO ⊢
  by_cases ho : openE p v s = 0
  · have hgood : (checkI p).2 = 0 ∧ v.rightB = true ∧ rightB s.at_ s.draws p.length s.cells.length = true := by
      unfold openE at ho
      by_cases h1 : (checkI p).2 = 0
      · rw [if_neg (by simp [h1])] at ho
        by_cases h2 : v.rightB = false
        · rw [if_pos h2] at ho; cases ho
        · rw [if_neg h2] at ho
          by_cases h3 : rightB s.at_ s.draws p.length s.cells.length = false
          · rw [if_pos h3] at ho; cases ho
          · exact ⟨h1, by simpa using h2, by simpa using h3⟩
      · rw [if_pos h1] at ho; cases ho
    obtain ⟨g1, g2, g3⟩ := hgood
    obtain ⟨q1, q2, q3⟩ := checkI_zero g1
    obtain ⟨r1, r2, r3, r4, r5⟩ := rightB_of g3
    have HT := Lib.hid (fun (X : World) (base g : Nat) (C S : Value) (hm : Mac X base g s v ⟨0, 0, 0, 0, 0⟩ C S) (hX : Below w.heap.size w X) => step_c X base g s v ⟨0, 0, 0, 0, 0⟩ C S hm A n c p ((hp.below hX).more hX.size) (Envi.okay_of g2) ⟨r1, by omega, r4, r5⟩ (by omega) hok q3)
    have hTE : topE p v s = stepE p v s := by simp [topE, ho]
    have hSS : stepE p v s = 0 → topS p v s = stepS p v s := fun h => by
      have hen : s.ended = false := by
        cases he : s.ended with
        | false => rfl
        | true => simp [stepE, he] at h
      simp [topS, hTE, h, stepS, hen]
    have hSZ : stepE p v s ≠ 0 → topS p v s = zeroSt := fun h => by simp [topS, hTE, h]
    rw [hTE]
    obtain ⟨F, hF⟩ : ∃ F, F = stepE p v s := ⟨_, rfl⟩
    rw [← hF] at hSS hSZ HT ⊢
    clear hp hc hs hok q3 g1 g3 r1 r2 r3 r4 r5 hTE hpl hml hk hn g2 q1 q2
    by_cases hF0 : F = 0
    · rw [hSS hF0]
      subst hF0
      clear hSS hSZ hF
      obtain ⟨s4, hs4⟩ : ∃ s4, s4 = stepS p v s := ⟨_, rfl⟩
      rw [← hs4] at HT ⊢
      clear hs4
      go_enter Try.func31, Try.ntmps31
      go_upto_region 1 with fail
      obtain ⟨W0, hW0⟩ : ∃ W0, W0 = ((w.alloc (.cells #[.int .u64 v.seed, .int .i64 v.process, .int .i64 v.ports, .int .i64 v.look, .int .i64 v.now] 56)).alloc (.cells #[.int .i64 s.at_, .bool s.ended, .int .i64 (s.regs 0), .int .i64 (s.regs 1), .int .i64 (s.regs 2), .int .i64 (s.regs 3), .int .i64 (s.regs 4), .int .i64 (s.regs 5), .int .i64 (s.regs 6), .int .i64 (s.regs 7), .slice B m d, .int .i64 s.draws, .slice D k f] 53)).alloc (.cells z13 53) := ⟨_, rfl⟩
      rw [← hW0] at hst ⊢
      clear hW0
      go_wp2_with (first
        | refine wpList_load_row (P := Try.prog) rfl 56 (.tmp 4) rfl w.heap.size rfl 56 _ (0, 0) _ hst.v Try.underlying56 rfl (by kernel_rfl) ?_
        | refine wpList_load_row (P := Try.prog) rfl 53 (.tmp 5) rfl (w.heap.size + 1) rfl 53 _ (0, 0) _ hst.s Try.underlying53 rfl (by kernel_rfl) ?_)
      go_at_call 75
      refine (HO.out W0 hst.b).mono ?_
      rintro e w3 ⟨hb3, ⟨hne, rfl⟩ | ⟨heq, g, C, S, rfl, hm⟩⟩
      · exact absurd ho hne
      · go_wp2_with fail
        go_at_call 76
        refine (HT.out w3 _ _ _ _ hm (hst.b.trans (hb3.mono hst.b.size))).mono ?_
        rintro e w4 ⟨rfl, ⟨i4, S4, hm4⟩, hb4⟩
        have hr := (hst.r.below hb3 hst.r.lt).below hb4 hst.r.lt
        have hB := hst.b.trans ((hb3.trans hb4).mono hst.b.size)
        obtain ⟨A4, k4, rfl⟩ := own_slice hm4.oc
        obtain ⟨A5, k5, rfl⟩ := own_slice hm4.os
        obtain ⟨at4, en4, r4, x4, d4, y4⟩ := s4
        have hz := do_fin (cs := #[.int .i64 at4, .bool en4, .int .i64 (r4 0), .int .i64 (r4 1), .int .i64 (r4 2), .int .i64 (r4 3), .int .i64 (r4 4), .int .i64 (r4 5), .int .i64 (r4 6), .int .i64 (r4 7), .slice A4 x4.length k4, .int .i64 d4, .slice A5 y4.length k5]) hm4 hB hr (by have := hst.b.size; omega)
        dsimp only at hz ⊢
        have m0 : w4.cell? ⟨g, 0, none⟩ = some (.int .i64 at4) := hm4.blk.cell 0
        have m1 : w4.cell? ⟨g, 1, none⟩ = some (.bool en4) := hm4.blk.cell 1
        have m2 : w4.cell? ⟨g, 2, none⟩ = some (.int .i64 (r4 0)) := hm4.blk.cell 2
        have m3 : w4.cell? ⟨g, 3, none⟩ = some (.int .i64 (r4 1)) := hm4.blk.cell 3
        have m4 : w4.cell? ⟨g, 4, none⟩ = some (.int .i64 (r4 2)) := hm4.blk.cell 4
        have m5 : w4.cell? ⟨g, 5, none⟩ = some (.int .i64 (r4 3)) := hm4.blk.cell 5
        have m6 : w4.cell? ⟨g, 6, none⟩ = some (.int .i64 (r4 4)) := hm4.blk.cell 6
        have m7 : w4.cell? ⟨g, 7, none⟩ = some (.int .i64 (r4 5)) := hm4.blk.cell 7
        have m8 : w4.cell? ⟨g, 8, none⟩ = some (.int .i64 (r4 6)) := hm4.blk.cell 8
        have m9 : w4.cell? ⟨g, 9, none⟩ = some (.int .i64 (r4 7)) := hm4.blk.cell 9
        have m10 : w4.cell? ⟨g, 10, none⟩ = some (.slice A4 x4.length k4) := hm4.blk.cell 10
        have m11 : w4.cell? ⟨g, 11, none⟩ = some (.int .i64 d4) := hm4.blk.cell 11
        have m12 : w4.cell? ⟨g, 12, none⟩ = some (.slice A5 y4.length k5) := hm4.blk.cell 12
        clear hm4 hb3 hb4 hB hst hm HT HO
        go_wp2_with (refine wpList_store_row (P := Try.prog) rfl 53 (.tmp 6) (.tmp 29) rfl (w.heap.size + 2) #[.int .i64 at4, .bool en4, .int .i64 (r4 0), .int .i64 (r4 1), .int .i64 (r4 2), .int .i64 (r4 3), .int .i64 (r4 4), .int .i64 (r4 5), .int .i64 (r4 6), .int .i64 (r4 7), .slice A4 x4.length k4, .int .i64 d4, .slice A5 y4.length k5] rfl rfl 53 _ hr (by kernel_rfl) rfl (by kernel_rfl) ?_)
        (try simp only [Exit.inBlock, Exit.then])
        refine bodyPost_ret (v := .tuple #[.agg #[.int .i64 at4, .bool en4, .int .i64 (r4 0), .int .i64 (r4 1), .int .i64 (r4 2), .int .i64 (r4 3), .int .i64 (r4 4), .int .i64 (r4 5), .int .i64 (r4 6), .int .i64 (r4 7), .slice A4 x4.length k4, .int .i64 d4, .slice A5 y4.length k5], .int .i64 0]) (results_row_tmp (P := Try.prog) (p := 6) (u := 7) (ty := 53) rfl _ _ (w.heap.size + 2) 53 #[.int .i64 at4, .bool en4, .int .i64 (r4 0), .int .i64 (r4 1), .int .i64 (r4 2), .int .i64 (r4 3), .int .i64 (r4 4), .int .i64 (r4 5), .int .i64 (r4 6), .int .i64 (r4 7), .slice A4 x4.length k4, .int .i64 d4, .slice A5 y4.length k5] (0, 0) _ rfl (Blk.row hr _) Try.underlying53 rfl (by kernel_rfl)) rfl ?_
        exact ⟨_, _, rfl, hz.1, hz.2.1, hz.2.2⟩
    · have hFt : (F == 0) = false := by simp [hF0]
      have hFn : (F != 0) = true := by simp [hF0]
      rw [hSZ hF0]
      clear hSS hSZ hF
      go_enter Try.func31, Try.ntmps31
      go_upto_region 1 with fail
      obtain ⟨W0, hW0⟩ : ∃ W0, W0 = ((w.alloc (.cells #[.int .u64 v.seed, .int .i64 v.process, .int .i64 v.ports, .int .i64 v.look, .int .i64 v.now] 56)).alloc (.cells #[.int .i64 s.at_, .bool s.ended, .int .i64 (s.regs 0), .int .i64 (s.regs 1), .int .i64 (s.regs 2), .int .i64 (s.regs 3), .int .i64 (s.regs 4), .int .i64 (s.regs 5), .int .i64 (s.regs 6), .int .i64 (s.regs 7), .slice B m d, .int .i64 s.draws, .slice D k f] 53)).alloc (.cells z13 53) := ⟨_, rfl⟩
      rw [← hW0] at hst ⊢
      clear hW0
      go_wp2_with (first
        | refine wpList_load_row (P := Try.prog) rfl 56 (.tmp 4) rfl w.heap.size rfl 56 _ (0, 0) _ hst.v Try.underlying56 rfl (by kernel_rfl) ?_
        | refine wpList_load_row (P := Try.prog) rfl 53 (.tmp 5) rfl (w.heap.size + 1) rfl 53 _ (0, 0) _ hst.s Try.underlying53 rfl (by kernel_rfl) ?_)
      go_at_call 75
      refine (HO.out W0 hst.b).mono ?_
      rintro e w3 ⟨hb3, ⟨hne, rfl⟩ | ⟨heq, g, C, S, rfl, hm⟩⟩
      · exact absurd ho hne
      · go_wp2_with fail
        go_at_call 76
        refine (HT.out w3 _ _ _ _ hm (hst.b.trans (hb3.mono hst.b.size))).mono ?_
        rintro e w4 ⟨rfl, ⟨i4, S4, hm4⟩, hb4⟩
        have hr := (hst.r.below hb3 hst.r.lt).below hb4 hst.r.lt
        have hB := hst.b.trans ((hb3.trans hb4).mono hst.b.size)
        go_wp2_with (refine wpList_store_row (P := Try.prog) rfl 53 (.tmp 6) (.tmp 24) rfl (w.heap.size + 2) z13 rfl rfl 53 _ hr (by kernel_rfl) rfl (by kernel_rfl) ?_)
        (try simp only [Exit.inBlock, Exit.then])
        refine bodyPost_ret (v := .tuple #[.agg z13, .int .i64 F]) (results_row_tmp (P := Try.prog) (p := 6) (u := 7) (ty := 53) rfl _ _ (w.heap.size + 2) 53 z13 (0, 0) _ rfl (Blk.row hr _) Try.underlying53 rfl (by kernel_rfl)) rfl ?_
        have hz := do_zero hB hr
        exact ⟨_, _, rfl, hz.1, hz.2.1, hz.2.2⟩
  · have hTE : topE p v s = openE p v s := by simp [topE, ho]
    have hTS : topS p v s = zeroSt := by simp [topS, hTE, ho]
    rw [hTE, hTS]
    obtain ⟨F, hF⟩ : ∃ F, F = openE p v s := ⟨_, rfl⟩
    rw [← hF] at ho HO ⊢
    have hFt : (F == 0) = false := by simp [ho]
    have hFn : (F != 0) = true := by simp [ho]
    clear hp hc hs hTE hTS hF hpl hml hok hn hk
    go_enter Try.func31, Try.ntmps31
    go_upto_region 1 with fail
    obtain ⟨W0, hW0⟩ : ∃ W0, W0 = ((w.alloc (.cells #[.int .u64 v.seed, .int .i64 v.process, .int .i64 v.ports, .int .i64 v.look, .int .i64 v.now] 56)).alloc (.cells #[.int .i64 s.at_, .bool s.ended, .int .i64 (s.regs 0), .int .i64 (s.regs 1), .int .i64 (s.regs 2), .int .i64 (s.regs 3), .int .i64 (s.regs 4), .int .i64 (s.regs 5), .int .i64 (s.regs 6), .int .i64 (s.regs 7), .slice B m d, .int .i64 s.draws, .slice D k f] 53)).alloc (.cells z13 53) := ⟨_, rfl⟩
    rw [← hW0] at hst ⊢
    clear hW0
    go_wp2_with (first
      | refine wpList_load_row (P := Try.prog) rfl 56 (.tmp 4) rfl w.heap.size rfl 56 _ (0, 0) _ hst.v Try.underlying56 rfl (by kernel_rfl) ?_
      | refine wpList_load_row (P := Try.prog) rfl 53 (.tmp 5) rfl (w.heap.size + 1) rfl 53 _ (0, 0) _ hst.s Try.underlying53 rfl (by kernel_rfl) ?_)
    go_at_call 75
    refine (HO.out W0 hst.b).mono ?_
    rintro e w3 ⟨hb3, ⟨hne, rfl⟩ | ⟨heq, g, C, S, rfl, hm⟩⟩
    · have hr := hst.r.below hb3 hst.r.lt
      go_wp2_with (refine wpList_store_row (P := Try.prog) rfl 53 (.tmp 6) (.tmp 24) rfl (w.heap.size + 2) z13 rfl rfl 53 _ hr (by kernel_rfl) rfl (by kernel_rfl) ?_)
      (try simp only [Exit.inBlock, Exit.then])
      refine bodyPost_ret (v := .tuple #[.agg z13, .int .i64 F]) (results_row_tmp (P := Try.prog) (p := 6) (u := 7) (ty := 53) rfl _ _ (w.heap.size + 2) 53 z13 (0, 0) _ rfl (Blk.row hr _) Try.underlying53 rfl (by kernel_rfl)) rfl ?_
      have hz := do_zero (hst.b.trans (hb3.mono hst.b.size)) hr
      exact ⟨_, _, rfl, hz.1, hz.2.1, hz.2.2⟩
    · exact absurd heq ho
end Go.Proofs.Ytmljmabbopkpiaa
end

section
/- fermatalaw18.one and the closure of awake: an instruction, behind which there is a Halt. -/
namespace Go.Proofs.Ytmljmabbopkpiaa
open Go.RowKit
set_option linter.unusedVariables false
set_option linter.unusedSimpArgs false

theorem reads_new (X : World) (t : TypeId) (cs : Array Value) (k n B gg : Nat) (h : gg = X.heap.size) (hB : gg < B) (hl : cs.size = n * k) : Reads (X.alloc (.cells cs t)) B k (some ⟨gg, 0, none⟩) n cs.toList := by
  subst h
  refine ⟨by simpa using hl, fun _ => ⟨_, rfl, hB, fun j u hu => ?_⟩⟩
  rw [Addr.add_lit, cell_of_row _ _ _ _ _ _ (heap_alloc_new X _), Nat.zero_add]
  simpa using hu
def haltI : Ins := ⟨1, 0, 0, 0, 0⟩
theorem haltI_ok : haltI.ok := ⟨by decide, by decide, by decide, by decide, by decide, by decide, by decide, by decide, by decide, by decide⟩
structure OK4 (w : World) (is vs cs : Array Value) (W : World) : Prop where
  b : Below w.heap.size w W
  n : w.heap.size + 4 ≤ W.heap.size
  i : Blk W w.heap.size 28 is
  v : Blk W (w.heap.size + 1) 56 vs
  s : Blk W (w.heap.size + 1 + 1) 53 cs
  r : Blk W (w.heap.size + 1 + 1 + 1) 53 z13
theorem Blk.new_ {W : World} {t : TypeId} {cs : Array Value} {g : Nat} (h : g = W.heap.size) : Blk (W.alloc (.cells cs t)) g t cs := h ▸ Blk.new W t cs
theorem OK4.start (w : World) (is vs cs : Array Value) : OK4 w is vs cs ((((w.alloc (.cells is 28)).alloc (.cells vs 56)).alloc (.cells cs 53)).alloc (.cells z13 53)) :=
  ⟨((((Below.refl _ w).alloc (Nat.le_refl _) _).alloc (by simp) _).alloc (by simp; omega) _).alloc (by simp; omega) _, by simp,
    (((Blk.new_ rfl).alloc _).alloc _).alloc _, ((Blk.new_ (by simp)).alloc _).alloc _, (Blk.new_ (by simp)).alloc _, Blk.new_ (by simp)⟩
theorem OK4.alloc {w W : World} {is vs cs : Array Value} (h : OK4 w is vs cs W) (o : Obj) : OK4 w is vs cs (W.alloc o) := ⟨h.b.alloc h.b.size _, by have := h.n; simp; omega, h.i.alloc _, h.v.alloc _, h.s.alloc _, h.r.alloc _⟩
theorem one_fin {w W : World} {m n : Nat} {xs : List Int} {ys : List Snd} {C S : Value} {z cs : Array Value} (hb : Below w.heap.size w W) (hr : Blk W (w.heap.size + 1 + 1 + 1) 53 z)
    (hc : W.ownsRow w.heap.size 2 1 C m (int64s xs)) (hs : W.ownsRow w.heap.size 64 3 S n (sndsV ys)) :
    (W.setRow (w.heap.size + 1 + 1 + 1) cs).ownsRow w.heap.size 2 1 C m (int64s xs) ∧ (W.setRow (w.heap.size + 1 + 1 + 1) cs).ownsRow w.heap.size 64 3 S n (sndsV ys) ∧ Below w.heap.size w (W.setRow (w.heap.size + 1 + 1 + 1) cs) :=
  ⟨own_row hr hc (by decide), own_row hr hs (by decide), below_setRow hb (by omega) _⟩

set_option maxRecDepth 100000 in
set_option maxHeartbeats 2000000 in
theorem one18_c (i : Ins) (hi : i.ok) (v : Envi) (s : St) (B D : Option Addr) (m k d f : Nat) (hk : k ≤ 1000000) (w : World)
    (hc : Reads w w.heap.size 1 B m (int64s s.cells)) (hs : Reads w w.heap.size 3 D k (sndsV s.sends)) :
    Calls Try.prog 25 #[i.v, v.v, s.v (.slice B m d) (.slice D k f)] w fun e w' => ∃ C S, e = .returned (.tuple #[(topS [i, haltI] v s).v C S, .int .i64 (topE [i, haltI] v s)]) ∧
      w'.ownsRow w.heap.size 2 1 C (topS [i, haltI] v s).cells.length (int64s (topS [i, haltI] v s).cells) ∧ w'.ownsRow w.heap.size 64 3 S (topS [i, haltI] v s).sends.length (sndsV (topS [i, haltI] v s).sends) ∧ Below w.heap.size w w' := by
  have hok : ∀ x ∈ [i, haltI], x.ok := by
    intro x hx
    simp only [List.mem_cons, List.not_mem_nil, or_false] at hx
    rcases hx with rfl | rfl
    · exact hi
    · exact haltI_ok
  have HD := Lib.hid (fun (X : World) (A : Option Addr) (hX : Below w.heap.size w X) (hp : Reads X X.heap.size 5 A 2 (insV [i, haltI])) => Do_c A 2 2 (by decide) [i, haltI] hok v s B D m k d f hk X hp ((hc.below hX).more hX.size) ((hs.below hX).more hX.size))
  obtain ⟨E, hE⟩ : ∃ E, E = topE [i, haltI] v s := ⟨_, rfl⟩
  obtain ⟨T, hT⟩ : ∃ T, T = topS [i, haltI] v s := ⟨_, rfl⟩
  rw [← hE, ← hT] at HD ⊢
  clear hE hT hc hs hok hi
  have hst := OK4.start w #[.int .u8 i.op, .int .u8 i.a, .int .u8 i.b, .int .u8 i.c, .int .i64 i.n] #[.int .u64 v.seed, .int .i64 v.process, .int .i64 v.ports, .int .i64 v.look, .int .i64 v.now] #[.int .i64 s.at_, .bool s.ended, .int .i64 (s.regs 0), .int .i64 (s.regs 1), .int .i64 (s.regs 2), .int .i64 (s.regs 3), .int .i64 (s.regs 4), .int .i64 (s.regs 5), .int .i64 (s.regs 6), .int .i64 (s.regs 7), .slice B m d, .int .i64 s.draws, .slice D k f]
  unfold Envi.v St.v at HD
  unfold Ins.v Envi.v St.v
  go_enter Try.func25, Try.ntmps25
  go_upto_region 1 with fail
  obtain ⟨W0, hW0⟩ : ∃ W0, W0 = ((((w.alloc (.cells #[.int .u8 i.op, .int .u8 i.a, .int .u8 i.b, .int .u8 i.c, .int .i64 i.n] 28)).alloc (.cells #[.int .u64 v.seed, .int .i64 v.process, .int .i64 v.ports, .int .i64 v.look, .int .i64 v.now] 56)).alloc (.cells #[.int .i64 s.at_, .bool s.ended, .int .i64 (s.regs 0), .int .i64 (s.regs 1), .int .i64 (s.regs 2), .int .i64 (s.regs 3), .int .i64 (s.regs 4), .int .i64 (s.regs 5), .int .i64 (s.regs 6), .int .i64 (s.regs 7), .slice B m d, .int .i64 s.draws, .slice D k f] 53)).alloc (.cells z13 53)) := ⟨_, rfl⟩
  rw [← hW0] at hst ⊢
  clear hW0
  have hst2 := hst.alloc (.cells #[.int .u8 i.op, .int .u8 i.a, .int .u8 i.b, .int .u8 i.c, .int .i64 i.n, .int .u8 1, .int .u8 0, .int .u8 0, .int .u8 0, .int .i64 0] 28)
  have hrd : Reads (W0.alloc (.cells #[.int .u8 i.op, .int .u8 i.a, .int .u8 i.b, .int .u8 i.c, .int .i64 i.n, .int .u8 1, .int .u8 0, .int .u8 0, .int .u8 0, .int .i64 0] 28)) (W0.alloc (.cells #[.int .u8 i.op, .int .u8 i.a, .int .u8 i.b, .int .u8 i.c, .int .i64 i.n, .int .u8 1, .int .u8 0, .int .u8 0, .int .u8 0, .int .i64 0] 28)).heap.size 5 (some ⟨W0.heap.size, 0, none⟩) 2 (insV [i, haltI]) := reads_new W0 _ #[.int .u8 i.op, .int .u8 i.a, .int .u8 i.b, .int .u8 i.c, .int .i64 i.n, .int .u8 1, .int .u8 0, .int .u8 0, .int .u8 0, .int .i64 0] 5 2 _ _ rfl (by simp) rfl
  go_wp2_with (first
    | refine wpList_load_row (P := Try.prog) rfl 28 (.tmp 3) rfl (w.heap.size) rfl 28 _ (0, 0) _ hst.i Try.underlying28 rfl (by kernel_rfl) ?_
    | refine wpList_load_row (P := Try.prog) rfl 56 (.tmp 4) rfl (w.heap.size + 1) rfl 56 _ (0, 0) _ hst2.v Try.underlying56 rfl (by kernel_rfl) ?_
    | refine wpList_load_row (P := Try.prog) rfl 53 (.tmp 5) rfl (w.heap.size + 1 + 1) rfl 53 _ (0, 0) _ hst2.s Try.underlying53 rfl (by kernel_rfl) ?_)
  go_at_call 31
  refine (HD.out _ _ hst2.b hrd).mono ?_
  rintro e w5 ⟨C, S, rfl, hC, hS, hb5⟩
  obtain ⟨A1, k1, rfl⟩ := own_slice hC
  obtain ⟨A2, k2, rfl⟩ := own_slice hS
  have hr := hst2.r.below hb5 hst2.r.lt
  have hz := one_fin (cs := #[.int .i64 T.at_, .bool T.ended, .int .i64 (T.regs 0), .int .i64 (T.regs 1), .int .i64 (T.regs 2), .int .i64 (T.regs 3), .int .i64 (T.regs 4), .int .i64 (T.regs 5), .int .i64 (T.regs 6), .int .i64 (T.regs 7), .slice A1 T.cells.length k1, .int .i64 T.draws, .slice A2 T.sends.length k2]) (hst2.b.trans (hb5.mono hst2.b.size)) hr (own_more hC hst2.b.size) (own_more hS hst2.b.size)
  clear hst hst2 hrd hC hS hb5 HD
  go_wp2_with (refine wpList_store_row (P := Try.prog) rfl 53 (.tmp 6) (.tmp 14) rfl (w.heap.size + 1 + 1 + 1) #[.int .i64 T.at_, .bool T.ended, .int .i64 (T.regs 0), .int .i64 (T.regs 1), .int .i64 (T.regs 2), .int .i64 (T.regs 3), .int .i64 (T.regs 4), .int .i64 (T.regs 5), .int .i64 (T.regs 6), .int .i64 (T.regs 7), .slice A1 T.cells.length k1, .int .i64 T.draws, .slice A2 T.sends.length k2] rfl rfl 53 _ hr (by kernel_rfl) rfl (by kernel_rfl) ?_)
  (try simp only [Exit.inBlock, Exit.then])
  refine bodyPost_ret (v := .tuple #[.agg #[.int .i64 T.at_, .bool T.ended, .int .i64 (T.regs 0), .int .i64 (T.regs 1), .int .i64 (T.regs 2), .int .i64 (T.regs 3), .int .i64 (T.regs 4), .int .i64 (T.regs 5), .int .i64 (T.regs 6), .int .i64 (T.regs 7), .slice A1 T.cells.length k1, .int .i64 T.draws, .slice A2 T.sends.length k2], .int .i64 E]) (results_row_tmp (P := Try.prog) (p := 6) (u := 7) (ty := 53) rfl _ _ (w.heap.size + 1 + 1 + 1) 53 #[.int .i64 T.at_, .bool T.ended, .int .i64 (T.regs 0), .int .i64 (T.regs 1), .int .i64 (T.regs 2), .int .i64 (T.regs 3), .int .i64 (T.regs 4), .int .i64 (T.regs 5), .int .i64 (T.regs 6), .int .i64 (T.regs 7), .slice A1 T.cells.length k1, .int .i64 T.draws, .slice A2 T.sends.length k2] (0, 0) _ rfl (Blk.row hr _) Try.underlying53 rfl (by kernel_rfl)) rfl ?_
  exact ⟨_, _, rfl, hz.1, hz.2.1, hz.2.2⟩

set_option maxRecDepth 100000 in
set_option maxHeartbeats 2000000 in
theorem one60_c (i : Ins) (hi : i.ok) (v : Envi) (s : St) (B D : Option Addr) (m k d f : Nat) (hk : k ≤ 1000000) (w : World)
    (hc : Reads w w.heap.size 1 B m (int64s s.cells)) (hs : Reads w w.heap.size 3 D k (sndsV s.sends)) :
    Calls Try.prog 60 #[i.v, v.v, s.v (.slice B m d) (.slice D k f)] w fun e w' => ∃ C S, e = .returned (.tuple #[(topS [i, haltI] v s).v C S, .int .i64 (topE [i, haltI] v s)]) ∧
      w'.ownsRow w.heap.size 2 1 C (topS [i, haltI] v s).cells.length (int64s (topS [i, haltI] v s).cells) ∧ w'.ownsRow w.heap.size 64 3 S (topS [i, haltI] v s).sends.length (sndsV (topS [i, haltI] v s).sends) ∧ Below w.heap.size w w' := by
  have hok : ∀ x ∈ [i, haltI], x.ok := by
    intro x hx
    simp only [List.mem_cons, List.not_mem_nil, or_false] at hx
    rcases hx with rfl | rfl
    · exact hi
    · exact haltI_ok
  have HD := Lib.hid (fun (X : World) (A : Option Addr) (hX : Below w.heap.size w X) (hp : Reads X X.heap.size 5 A 2 (insV [i, haltI])) => Do_c A 2 2 (by decide) [i, haltI] hok v s B D m k d f hk X hp ((hc.below hX).more hX.size) ((hs.below hX).more hX.size))
  obtain ⟨E, hE⟩ : ∃ E, E = topE [i, haltI] v s := ⟨_, rfl⟩
  obtain ⟨T, hT⟩ : ∃ T, T = topS [i, haltI] v s := ⟨_, rfl⟩
  rw [← hE, ← hT] at HD ⊢
  clear hE hT hc hs hok hi
  have hst := OK4.start w #[.int .u8 i.op, .int .u8 i.a, .int .u8 i.b, .int .u8 i.c, .int .i64 i.n] #[.int .u64 v.seed, .int .i64 v.process, .int .i64 v.ports, .int .i64 v.look, .int .i64 v.now] #[.int .i64 s.at_, .bool s.ended, .int .i64 (s.regs 0), .int .i64 (s.regs 1), .int .i64 (s.regs 2), .int .i64 (s.regs 3), .int .i64 (s.regs 4), .int .i64 (s.regs 5), .int .i64 (s.regs 6), .int .i64 (s.regs 7), .slice B m d, .int .i64 s.draws, .slice D k f]
  unfold Envi.v St.v at HD
  unfold Ins.v Envi.v St.v
  go_enter Try.func60, Try.ntmps60
  go_upto_region 1 with fail
  obtain ⟨W0, hW0⟩ : ∃ W0, W0 = ((((w.alloc (.cells #[.int .u8 i.op, .int .u8 i.a, .int .u8 i.b, .int .u8 i.c, .int .i64 i.n] 28)).alloc (.cells #[.int .u64 v.seed, .int .i64 v.process, .int .i64 v.ports, .int .i64 v.look, .int .i64 v.now] 56)).alloc (.cells #[.int .i64 s.at_, .bool s.ended, .int .i64 (s.regs 0), .int .i64 (s.regs 1), .int .i64 (s.regs 2), .int .i64 (s.regs 3), .int .i64 (s.regs 4), .int .i64 (s.regs 5), .int .i64 (s.regs 6), .int .i64 (s.regs 7), .slice B m d, .int .i64 s.draws, .slice D k f] 53)).alloc (.cells z13 53)) := ⟨_, rfl⟩
  rw [← hW0] at hst ⊢
  clear hW0
  have hst2 := hst.alloc (.cells #[.int .u8 i.op, .int .u8 i.a, .int .u8 i.b, .int .u8 i.c, .int .i64 i.n, .int .u8 1, .int .u8 0, .int .u8 0, .int .u8 0, .int .i64 0] 28)
  have hrd : Reads (W0.alloc (.cells #[.int .u8 i.op, .int .u8 i.a, .int .u8 i.b, .int .u8 i.c, .int .i64 i.n, .int .u8 1, .int .u8 0, .int .u8 0, .int .u8 0, .int .i64 0] 28)) (W0.alloc (.cells #[.int .u8 i.op, .int .u8 i.a, .int .u8 i.b, .int .u8 i.c, .int .i64 i.n, .int .u8 1, .int .u8 0, .int .u8 0, .int .u8 0, .int .i64 0] 28)).heap.size 5 (some ⟨W0.heap.size, 0, none⟩) 2 (insV [i, haltI]) := reads_new W0 _ #[.int .u8 i.op, .int .u8 i.a, .int .u8 i.b, .int .u8 i.c, .int .i64 i.n, .int .u8 1, .int .u8 0, .int .u8 0, .int .u8 0, .int .i64 0] 5 2 _ _ rfl (by simp) rfl
  go_wp2_with (first
    | refine wpList_load_row (P := Try.prog) rfl 28 (.tmp 3) rfl (w.heap.size) rfl 28 _ (0, 0) _ hst.i Try.underlying28 rfl (by kernel_rfl) ?_
    | refine wpList_load_row (P := Try.prog) rfl 56 (.tmp 4) rfl (w.heap.size + 1) rfl 56 _ (0, 0) _ hst2.v Try.underlying56 rfl (by kernel_rfl) ?_
    | refine wpList_load_row (P := Try.prog) rfl 53 (.tmp 5) rfl (w.heap.size + 1 + 1) rfl 53 _ (0, 0) _ hst2.s Try.underlying53 rfl (by kernel_rfl) ?_)
  go_at_call 31
  refine (HD.out _ _ hst2.b hrd).mono ?_
  rintro e w5 ⟨C, S, rfl, hC, hS, hb5⟩
  obtain ⟨A1, k1, rfl⟩ := own_slice hC
  obtain ⟨A2, k2, rfl⟩ := own_slice hS
  have hr := hst2.r.below hb5 hst2.r.lt
  have hz := one_fin (cs := #[.int .i64 T.at_, .bool T.ended, .int .i64 (T.regs 0), .int .i64 (T.regs 1), .int .i64 (T.regs 2), .int .i64 (T.regs 3), .int .i64 (T.regs 4), .int .i64 (T.regs 5), .int .i64 (T.regs 6), .int .i64 (T.regs 7), .slice A1 T.cells.length k1, .int .i64 T.draws, .slice A2 T.sends.length k2]) (hst2.b.trans (hb5.mono hst2.b.size)) hr (own_more hC hst2.b.size) (own_more hS hst2.b.size)
  clear hst hst2 hrd hC hS hb5 HD
  go_wp2_with (refine wpList_store_row (P := Try.prog) rfl 53 (.tmp 6) (.tmp 14) rfl (w.heap.size + 1 + 1 + 1) #[.int .i64 T.at_, .bool T.ended, .int .i64 (T.regs 0), .int .i64 (T.regs 1), .int .i64 (T.regs 2), .int .i64 (T.regs 3), .int .i64 (T.regs 4), .int .i64 (T.regs 5), .int .i64 (T.regs 6), .int .i64 (T.regs 7), .slice A1 T.cells.length k1, .int .i64 T.draws, .slice A2 T.sends.length k2] rfl rfl 53 _ hr (by kernel_rfl) rfl (by kernel_rfl) ?_)
  (try simp only [Exit.inBlock, Exit.then])
  refine bodyPost_ret (v := .tuple #[.agg #[.int .i64 T.at_, .bool T.ended, .int .i64 (T.regs 0), .int .i64 (T.regs 1), .int .i64 (T.regs 2), .int .i64 (T.regs 3), .int .i64 (T.regs 4), .int .i64 (T.regs 5), .int .i64 (T.regs 6), .int .i64 (T.regs 7), .slice A1 T.cells.length k1, .int .i64 T.draws, .slice A2 T.sends.length k2], .int .i64 E]) (results_row_tmp (P := Try.prog) (p := 6) (u := 7) (ty := 53) rfl _ _ (w.heap.size + 1 + 1 + 1) 53 #[.int .i64 T.at_, .bool T.ended, .int .i64 (T.regs 0), .int .i64 (T.regs 1), .int .i64 (T.regs 2), .int .i64 (T.regs 3), .int .i64 (T.regs 4), .int .i64 (T.regs 5), .int .i64 (T.regs 6), .int .i64 (T.regs 7), .slice A1 T.cells.length k1, .int .i64 T.draws, .slice A2 T.sends.length k2] (0, 0) _ rfl (Blk.row hr _) Try.underlying53 rfl (by kernel_rfl)) rfl ?_
  exact ⟨_, _, rfl, hz.1, hz.2.1, hz.2.2⟩

end Go.Proofs.Ytmljmabbopkpiaa
end

section
/- event and instr.Begin. -/
namespace Go.Proofs.Ytmljmabbopkpiaa
open Go.RowKit
set_option linter.unusedVariables false
set_option linter.unusedSimpArgs false
attribute [local go_sem ↓] Go.wp_at_zero Go.wp_at_succ

/-! what a region keeps below a bound -/
section
variable {B : Nat} {w1 W W' : World}
theorem qD : Below B w1 w1.drew ∧ ∀ b o, b < B → w1.drew.cell? ⟨b, o, none⟩ = w1.cell? ⟨b, o, none⟩ := ⟨(Below.refl _ _).drew, fun _ _ _ => rfl⟩
theorem qR : Below B w1 w1 ∧ ∀ b o, b < B → w1.cell? ⟨b, o, none⟩ = w1.cell? ⟨b, o, none⟩ := ⟨Below.refl _ _, fun _ _ _ => rfl⟩
theorem qE (h : Below B w1 W ∧ ∀ b o, b < B → W.cell? ⟨b, o, none⟩ = w1.cell? ⟨b, o, none⟩) : Below B w1 W.drew ∧ ∀ b o, b < B → W.drew.cell? ⟨b, o, none⟩ = w1.cell? ⟨b, o, none⟩ := ⟨h.1.drew, h.2⟩
theorem qOf (h : Below B w1 W) : Below B w1 W ∧ ∀ b o, b < B → W.cell? ⟨b, o, none⟩ = w1.cell? ⟨b, o, none⟩ := ⟨h, fun b o hb => h.cell (p := ⟨b, o, none⟩) hb⟩
theorem qA (hB : B ≤ w1.heap.size) (h : Below B w1 W ∧ ∀ b o, b < B → W.cell? ⟨b, o, none⟩ = w1.cell? ⟨b, o, none⟩) (x : Obj) : Below B w1 (W.alloc x) ∧ ∀ b o, b < B → (W.alloc x).cell? ⟨b, o, none⟩ = w1.cell? ⟨b, o, none⟩ := qOf (h.1.alloc (Nat.le_trans hB h.1.size) x)
theorem qS (h : Below B w1 W ∧ ∀ b o, b < B → W.cell? ⟨b, o, none⟩ = w1.cell? ⟨b, o, none⟩) {q : Addr} (hq : B ≤ q.block) (v : Value) : Below B w1 (W.setCell q v) ∧ ∀ b o, b < B → (W.setCell q v).cell? ⟨b, o, none⟩ = w1.cell? ⟨b, o, none⟩ := qOf (h.1.setCell hq v)
theorem qRow (h : Below B w1 W ∧ ∀ b o, b < B → W.cell? ⟨b, o, none⟩ = w1.cell? ⟨b, o, none⟩) (cs : Array Value) : Below B w1 (W.setRow B cs) ∧ ∀ b o, b < B → (W.setRow B cs).cell? ⟨b, o, none⟩ = w1.cell? ⟨b, o, none⟩ := qOf (below_setRow h.1 (Nat.le_refl _) cs)
theorem qB (hB : B ≤ w1.heap.size) (h : Below B w1 W ∧ ∀ b o, b < B → W.cell? ⟨b, o, none⟩ = w1.cell? ⟨b, o, none⟩) (hb : Below W.heap.size W W') : Below B w1 W' ∧ ∀ b o, b < B → W'.cell? ⟨b, o, none⟩ = w1.cell? ⟨b, o, none⟩ := qOf (h.1.trans (hb.mono (Nat.le_trans hB h.1.size)))
end
structure OKB (w : World) (xs rs : Array Value) (W : World) : Prop where
  b : Below w.heap.size w W
  x : Blk W w.heap.size 70 xs
  r : Blk W (w.heap.size + 1) 53 rs
section
variable {w W W' : World} {xs rs : Array Value}
theorem OKB.drew (h : OKB w xs rs W) : OKB w xs rs W.drew := ⟨h.b.drew, h.x, h.r⟩
theorem OKB.drewN (h : OKB w xs rs W) (n : Nat) : OKB w xs rs (W.drewN n) := ⟨below_drewNm h.b n, h.x, h.r⟩
theorem OKB.call (h : OKB w xs rs W) (hb : Below W.heap.size W W') : OKB w xs rs W' := ⟨h.b.trans (hb.mono h.b.size), h.x.below hb h.x.lt, h.r.below hb h.r.lt⟩
theorem OKB.set_ (h : OKB w xs rs W) (i : Nat) (u : Value) : OKB w xs (rs.setIfInBounds i u) (W.setCell ⟨w.heap.size + 1, i, none⟩ u) :=
  ⟨h.b.setCell (p := ⟨w.heap.size + 1, i, none⟩) (Nat.le_succ _) u, h.x.far (p := ⟨w.heap.size + 1, i, none⟩) (by simp) u, h.r.set_ i u⟩
theorem OKB.row (h : OKB w xs rs W) (cs : Array Value) : OKB w xs cs (W.setRow (w.heap.size + 1) cs) := ⟨below_setRow h.b (Nat.le_succ _) _, h.x.row_far (by omega) _, h.r.row _⟩
theorem own_set {g base size n : Nat} {t e : TypeId} {cs : Array Value} {v : Value} {ys : List Value} (hr : Blk W g t cs) (h : W.ownsRow base e size v n ys) (hne : e ≠ t) (i : Nat) (u : Value) : (W.setCell ⟨g, i, none⟩ u).ownsRow base e size v n ys :=
  ownsRow_keep h fun j hj _ => Below.heap_setCell _ _ _ _ (fun he => own_blk_ne h hr hne (by rw [hj, he]))
theorem bg_c62 (A : Option Addr) (m c : Nat) (ys : List Int) (hm : m ≤ 1000000) (hr : Reads w w.heap.size 1 A m (int64s ys)) (x t s q to_ : Int) (hx : xs = #[.int .i64 t, .int .i64 s, .int .i64 q, .int .i64 to_, .int .i64 x]) (hrs : rs = z13) (h : OKB w xs rs W) :
    Calls Try.prog 62 #[.slice A m c] W fun e w' => ∃ A' c', e = .returned (.slice A' m c') ∧ w'.ownsRow w.heap.size 2 1 (.slice A' m c') m (int64s ys) ∧ OKB w #[.int .i64 t, .int .i64 s, .int .i64 q, .int .i64 to_, .int .i64 x] z13 w' ∧ Below W.heap.size W w' := by
  subst hx; subst hrs
  refine (clone64_c A m c _ W ((hr.below h.b).more h.b.size) (ones_i64 _) (by omega)).mono ?_
  rintro e w' ⟨v, rfl, ho, hb⟩
  obtain ⟨A', c', rfl⟩ := own_slice ho
  exact ⟨A', c', rfl, own_more ho h.b.size, h.call hb, hb⟩
/-- the 13 cells of the result, stored one by one -/
abbrev set13 (W : World) (g : Nat) (a0 a1 a2 a3 a4 a5 a6 a7 a8 a9 a10 a11 a12 : Value) : World := (((((((((((((W.setCell ⟨g, 0, none⟩ a0).setCell ⟨g, 1, none⟩ a1).setCell ⟨g, 2, none⟩ a2).setCell ⟨g, 3, none⟩ a3).setCell ⟨g, 4, none⟩ a4).setCell ⟨g, 5, none⟩ a5).setCell ⟨g, 6, none⟩ a6).setCell ⟨g, 7, none⟩ a7).setCell ⟨g, 8, none⟩ a8).setCell ⟨g, 9, none⟩ a9).setCell ⟨g, 10, none⟩ a10).setCell ⟨g, 11, none⟩ a11).setCell ⟨g, 12, none⟩ a12)
theorem own_set13 {g base size n : Nat} {e : TypeId} {cs : Array Value} {v : Value} {ys : List Value} (hr : Blk W g 53 cs) (h : W.ownsRow base e size v n ys) (hne : e ≠ 53) (a0 a1 a2 a3 a4 a5 a6 a7 a8 a9 a10 a11 a12 : Value) :
    (set13 W g a0 a1 a2 a3 a4 a5 a6 a7 a8 a9 a10 a11 a12).ownsRow base e size v n ys := by
  refine ownsRow_keep h fun j hj _ => ?_
  have hn : j ≠ g := fun he => own_blk_ne h hr hne (by rw [hj, he])
  simp only [set13]
  rw [Below.heap_setCell _ ⟨g, 12, none⟩ _ j hn, Below.heap_setCell _ ⟨g, 11, none⟩ _ j hn, Below.heap_setCell _ ⟨g, 10, none⟩ _ j hn, Below.heap_setCell _ ⟨g, 9, none⟩ _ j hn, Below.heap_setCell _ ⟨g, 8, none⟩ _ j hn, Below.heap_setCell _ ⟨g, 7, none⟩ _ j hn,
    Below.heap_setCell _ ⟨g, 6, none⟩ _ j hn, Below.heap_setCell _ ⟨g, 5, none⟩ _ j hn, Below.heap_setCell _ ⟨g, 4, none⟩ _ j hn, Below.heap_setCell _ ⟨g, 3, none⟩ _ j hn, Below.heap_setCell _ ⟨g, 2, none⟩ _ j hn, Below.heap_setCell _ ⟨g, 1, none⟩ _ j hn, Below.heap_setCell _ ⟨g, 0, none⟩ _ j hn]
end

def blockOf0 : Value → Nat
  | .pointer (some a) => a.block
  | _ => 0
def aggOf0 : Value → Array Value
  | .agg c => c
  | _ => #[]
theorem wp_store53z {d : Option Tmp} {x y : Operand} {ty : TypeId} {pos : String} {after : Array Edge} {guard : Option (Nat × Bool)} {a : Act} {w : World} {K : Act → World → Prop} {Q : Exit → Act → World → Prop}
    (hx : a.eval x = .pointer (some ⟨blockOf0 (a.eval x), 0, none⟩)) (hb : Blk w (blockOf0 (a.eval x)) 53 z13) (hy : a.eval y = .agg (aggOf0 (a.eval y))) (hs : (aggOf0 (a.eval y)).size = 13) (h1 : (aggOf0 (a.eval y)).all (·.oneCell') = true) :
    Oper.wp Try.prog ⟨d, .store 53 x y, ty, pos, after, guard⟩ a w K Q = K (a.put d undef) (w.setRow (blockOf0 (a.eval x)) (aggOf0 (a.eval y))) := by
  have hi : (Try.prog.info? 53).map (·.size) = some 13 := by kernel_rfl
  obtain ⟨g, hg⟩ : ∃ g, g = blockOf0 (a.eval x) := ⟨_, rfl⟩
  obtain ⟨c, hc⟩ : ∃ c, c = aggOf0 (a.eval y) := ⟨_, rfl⟩
  rw [← hg] at hx hb ⊢
  rw [← hc] at hy hs h1 ⊢
  unfold Oper.wp execOp
  simp only [hx, hy, Instr.storeAt, Instr.sureAddr, Sem.run_bind, Sem.run_pure, Result.andThen_ok, run_storeVar_row w g 53 53 z13 c hb (by rw [hs]; exact hi) (by rw [hs]; rfl) h1]
  rfl
attribute [local go_sem ↓] wp_store53z
attribute [local go_sem] blockOf0 aggOf0 Value.oneCell'

set_option maxRecDepth 100000 in
set_option maxHeartbeats 2000000 in
theorem event_c (x t s : Int) (w : World) : Calls Try.prog 40 #[.int .i64 x, .int .i64 t, .int .i64 s] w fun e w' => e = .returned (.agg #[.int .i64 t, .int .i64 s, .int .i64 0, .int .i64 0, .int .i64 x]) ∧ Below w.heap.size w w' := by
  go_enter Try.func40, Try.ntmps40
  go_wp2_with fail
  (try simp only [Exit.inBlock, Exit.then])
  refine bodyPost_ret (v := .agg #[.int .i64 t, .int .i64 s, .int .i64 0, .int .i64 0, .int .i64 x]) (results_cell_row (P := Try.prog) (p := 6) (ty := 70) rfl _ _ w.heap.size 70 _ (0, 0) _ rfl (heap_alloc_new w _) Try.underlying70 rfl (by kernel_rfl)) rfl ?_
  exact ⟨rfl, (Below.refl _ w).alloc (Nat.le_refl _) _⟩

set_option maxRecDepth 100000 in
set_option maxHeartbeats 2000000 in
theorem begin_c (x t s q to_ dr : Int) (A : Option Addr) (n c : Nat) (ys : List Int) (hn : n ≤ 1000000) (w : World) (hx : Reads w w.heap.size 1 A n (int64s ys)) :
    Calls Try.prog 59 #[.agg #[.int .i64 t, .int .i64 s, .int .i64 q, .int .i64 to_, .int .i64 x], .slice A n c, .int .i64 dr] w fun e w' => ∃ A1 k1, e = .returned (.agg #[.int .i64 0, .bool false, .int .i64 x, .int .i64 t, .int .i64 s, .int .i64 0, .int .i64 0, .int .i64 0, .int .i64 0, .int .i64 0, .slice A1 n k1, .int .i64 dr, .slice none 0 0]) ∧
      w'.ownsRow w.heap.size 2 1 (.slice A1 n k1) n (int64s ys) ∧ Below w.heap.size w w' := by
  have HX := Lib.hid hx
  clear hx
  go_enter Try.func59, Try.ntmps59
  go_upto_region 1 with fail
  obtain ⟨W0, hW0⟩ : ∃ W0, W0 = ((w.alloc (.cells #[.int .i64 t, .int .i64 s, .int .i64 q, .int .i64 to_, .int .i64 x] 70)).alloc (.cells z13 53)) := ⟨_, rfl⟩
  have hk0 : OKB w #[.int .i64 t, .int .i64 s, .int .i64 q, .int .i64 to_, .int .i64 x] z13 W0 := hW0 ▸ ⟨((Below.refl _ w).alloc (Nat.le_refl _) _).alloc (by simp) _, (Blk.new_ rfl).alloc _, Blk.new_ (by simp)⟩
  rw [← hW0]
  clear hW0
  obtain ⟨⟨x0, x1, x2, x3, x4⟩, xf⟩ := blk5 hk0.x
  have hBB : w.heap.size + 1 ≤ W0.heap.size := Nat.le_of_lt hk0.r.lt
  go_cut [] (fun W => ∃ A1 k1, OKB w #[.int .i64 t, .int .i64 s, .int .i64 q, .int .i64 to_, .int .i64 x] #[.int .i64 0, .bool false, .int .i64 x, .int .i64 t, .int .i64 s, .int .i64 0, .int .i64 0, .int .i64 0, .int .i64 0, .int .i64 0, .slice A1 n k1, .int .i64 dr, .slice none 0 0] W ∧ W.ownsRow w.heap.size 2 1 (.slice A1 n k1) n (int64s ys))
  case first =>
    go_region_held3 (fun W => Below (w.heap.size + 1) W0 W ∧ ∀ b o, b < w.heap.size + 1 → W.cell? ⟨b, o, none⟩ = W0.cell? ⟨b, o, none⟩)
      (with_reducible (repeat' (first | exact qD | assumption | exact qR | refine qE ?_ | refine qB hBB ?_ hb6 | refine qS ?_ (Nat.le_refl _) _ | refine qRow ?_ _)))
      ((go_at_call 62; refine (bg_c62 A n c ys hn HX.out x t s q to_ rfl rfl ?_).mono ?_; (focus (repeat' (first | assumption | refine OKB.drew ?_ | refine OKB.drewN ?_ _))); rintro e w6 ⟨A1, k1, rfl, ho6, hk6, hb6⟩; have hr6 := hk6.r; have hr6d := hk6.drew.r))
    all_goals (go_wp2_with fail; go_meet)
    all_goals exact ⟨_, _, hk6.row _, own_row hk6.r ho6 (by decide)⟩
  case rest =>
    obtain ⟨A1, k1, hk, ho⟩ := hcut
    go_wp2_with fail
    (try simp only [Exit.inBlock, Exit.then])
    refine bodyPost_ret (v := .agg #[.int .i64 0, .bool false, .int .i64 x, .int .i64 t, .int .i64 s, .int .i64 0, .int .i64 0, .int .i64 0, .int .i64 0, .int .i64 0, .slice A1 n k1, .int .i64 dr, .slice none 0 0]) (results_cell_row (P := Try.prog) (p := 6) (ty := 53) rfl _ _ (w.heap.size + 1) 53 _ (0, 0) _ rfl hk.r Try.underlying53 rfl (by kernel_rfl)) rfl ?_
    exact ⟨_, _, rfl, ho, hk.b⟩
end Go.Proofs.Ytmljmabbopkpiaa
end
