/- code.One (layer 14), class by class. PRINTED BY gen_one.py. -/
import Derived.Test.YtmljmabbopkpiaaProg
import Derived.Test.YtmljmabbopkpiaaBase
import Derived.Test.YtmljmabbopkpiaaEq
import Derived.Handy
import Derived.Deep.RegionHeld3
import Derived.Deep.DeepCutAuto
namespace Go.Proofs.Ytmljmabbopkpiaa
open Go.RowKit
set_option linter.unusedVariables false
set_option linter.unusedSimpArgs false

set_option maxRecDepth 100000 in
theorem registers_c (op a b c n : Int) (w : World) : Calls Try.prog 124 #[.agg #[.int .u8 op, .int .u8 a, .int .u8 b, .int .u8 c, .int .i64 n]] w fun e w' =>
    e = .returned (.agg #[.int .u8 a, .int .u8 b, .int .u8 c]) ∧ Below w.heap.size w w' := by
  go_enter Try.func124, Try.ntmps124
  go_wp2
  exact bodyPost_ret (v := .agg #[.int .u8 a, .int .u8 b, .int .u8 c]) (by simp [results, Try.results124, go_sem]) rfl ⟨rfl, ((Below.refl _ _).alloc (Nat.le_refl _) _).alloc (by simp) _⟩


set_option maxRecDepth 100000 in
set_option maxHeartbeats 4000000 in
theorem one_k1 (op a b c n : Int) (w : World) (a0 : 0 ≤ a) (a1 : a ≤ 255) (b0 : 0 ≤ b) (b1 : b ≤ 255) (c0 : 0 ≤ c) (c1 : c ≤ 255)
   (hform : ∀ w, Calls Try.prog 39 #[.int .u8 op] w fun e w' => e = .returned (.tuple #[.string ⟨#[114, 114, 114]⟩, .bool true]) ∧ Below w.heap.size w w') :
    Calls Try.prog 97 #[.agg #[.int .u8 op, .int .u8 a, .int .u8 b, .int .u8 c, .int .i64 n]] w fun e w' => e = .returned (.int .i64 (oneK 1 a b c n)) ∧ Below w.heap.size w w' := by
  go_enter Try.func97, Try.ntmps97
  have HF := Lib.hid hform
  clear hform
  go_wp2_with fail
  refine (HF.out _).mono ?_
  rintro e w1 ⟨rfl, hb1⟩
  have hz1 := hb1.size
  simp at hz1
  have hz1' : w.heap.size < w1.heap.size := by omega
  have c1_ : ∀ o, w1.cell? ⟨w.heap.size, o, none⟩ = #[Value.int .u8 op, .int .u8 a, .int .u8 b, .int .u8 c, .int .i64 n][o]? := fun o => by
    rw [hb1.cell (p := ⟨w.heap.size, o, none⟩) (by simp)]; exact cell_of_row _ _ _ _ _ _ (heap_alloc_new w _)
  have HB1 := Lib.hid (((Below.refl _ w).alloc (Nat.le_refl _) _).trans (hb1.mono (by simp)))
  clear hb1 HF
  go_upto_region 4 with fail
  go_cut [5, 6] (fun p m W => ∃ g, p = .pointer (some ⟨g, 0, none⟩) ∧ m = .int .i64 n ∧ w.heap.size ≤ g ∧ g < W.heap.size ∧ Below w.heap.size w W ∧ W.cell? ⟨g, 0, none⟩ = some (.int .u8 a) ∧ W.cell? ⟨g, 1, none⟩ = some (.int .u8 b) ∧ W.cell? ⟨g, 2, none⟩ = some (.int .u8 c) ∧ (∀ o, W.frozen? ⟨g, o, none⟩ = false))
  case first =>
    go_region_held3 (fun W => Below w1.heap.size w1 W ∧ ∀ b o, b < w1.heap.size → W.cell? ⟨b, o, none⟩ = w1.cell? ⟨b, o, none⟩)
      (repeat' (first | exact preD | assumption | exact preR | refine preB ?_ hb2 | refine preE ?_ | refine preA ?_ _ | refine preS ?_ ?_ _ | omega | (simp; done) | (simp; omega)))
      ((go_at_call 124; refine (registers_c _ _ _ _ _ _).mono ?_; rintro e w2 ⟨rfl, hb2⟩; obtain ⟨hc2, hf2⟩ := bcell hb2; have hz2 := hb2.size; simp at hz2))
    all_goals (go_wp2_with fail; go_meet)
    all_goals refine ⟨_, rfl, rfl, ?_, ?_, HB1.out.trans (Below.mono (And.left (by assumption)) (by omega)), ?_, ?_, ?_, ?_⟩
    all_goals first | omega | (simp; omega) | go_simp | skip
  case rest =>
    obtain ⟨g, rfl, rfl, hg1, hg2, hB, h0, h1, h2, hf⟩ := hcut
    have hz := hB.size
    have HB := Lib.hid hB
    have e3 := fun x y z w => eq3 x y z 0 0 0 w
    clear hB HB1 c1_ hz1 hz1'
    have i1 := fun W (p i : Nat) v => iter_setCell W ⟨#[114, 114, 114]⟩ p g i v
    have i2 := fun W (p i : Nat) => iter_cell W ⟨#[114, 114, 114]⟩ p g i
    have i3 := fun W (p i : Nat) => iter_frozen W ⟨#[114, 114, 114]⟩ p g i
    have n0_ := fun W n ty hn => next_at (P := Try.prog) W ⟨#[114, 114, 114]⟩ 0 1 n 114 ty hn (by decide) (by decide) (by decide) rfl
    have n1_ := fun W n ty hn => next_at (P := Try.prog) W ⟨#[114, 114, 114]⟩ 1 2 n 114 ty hn (by decide) (by decide) (by decide) rfl
    have n2_ := fun W n ty hn => next_at (P := Try.prog) W ⟨#[114, 114, 114]⟩ 2 3 n 114 ty hn (by decide) (by decide) (by decide) rfl
    have n3_ := fun W n ty hn => next_end (P := Try.prog) W ⟨#[114, 114, 114]⟩ 3 n ty hn (by decide)
    go_wp2
    refine wp_loop_rounds 4 ?_
    all_goals (rw [rounds_succ]; go_wp2)
    any_goals (rw [rounds_succ]; go_wp2)
    any_goals (rw [rounds_succ]; go_wp2)
    any_goals (rw [rounds_succ]; go_wp2)
    all_goals (go_ret; refine ⟨ret_i64 ?_, ?_⟩)
    all_goals first
      | exact HB.out.alloc hz _
      | exact (HB.out.setCell (p := ⟨g, _, none⟩) hg1 _).alloc (by simp; omega) _
      | exact ((HB.out.setCell (p := ⟨g, _, none⟩) hg1 _).setCell (p := ⟨g, _, none⟩) hg1 _).alloc (by simp; omega) _
      | exact (((HB.out.setCell (p := ⟨g, _, none⟩) hg1 _).setCell (p := ⟨g, _, none⟩) hg1 _).setCell (p := ⟨g, _, none⟩) hg1 _).alloc (by simp; omega) _
      | (rw [oneK_pos (by simp only [fitsC]; omega)])
      | (rw [oneK_neg (by simp only [fitsC]; omega)])
      | (have hn : (n != 0) = true := by assumption
         rw [bne_iff_ne] at hn
         rw [oneK_neg (by simp only [fitsC]; omega)])
      | (have hn : (n != 0) = false := by assumption
         rw [bne_eq_false_iff_eq] at hn
         rw [oneK_pos (by simp only [fitsC]; omega)])
      | (have hn : (n != 0) = false := by assumption
         rw [bne_eq_false_iff_eq] at hn
         rw [oneK_neg (by simp only [fitsC]; omega)])



set_option maxRecDepth 100000 in
set_option maxHeartbeats 4000000 in
theorem one_k2 (op a b c n : Int) (w : World) (a0 : 0 ≤ a) (a1 : a ≤ 255) (b0 : 0 ≤ b) (b1 : b ≤ 255) (c0 : 0 ≤ c) (c1 : c ≤ 255)
   (hform : ∀ w, Calls Try.prog 39 #[.int .u8 op] w fun e w' => e = .returned (.tuple #[.string ⟨#[]⟩, .bool true]) ∧ Below w.heap.size w w') :
    Calls Try.prog 97 #[.agg #[.int .u8 op, .int .u8 a, .int .u8 b, .int .u8 c, .int .i64 n]] w fun e w' => e = .returned (.int .i64 (oneK 2 a b c n)) ∧ Below w.heap.size w w' := by
  go_enter Try.func97, Try.ntmps97
  have HF := Lib.hid hform
  clear hform
  go_wp2_with fail
  refine (HF.out _).mono ?_
  rintro e w1 ⟨rfl, hb1⟩
  have hz1 := hb1.size
  simp at hz1
  have hz1' : w.heap.size < w1.heap.size := by omega
  have c1_ : ∀ o, w1.cell? ⟨w.heap.size, o, none⟩ = #[Value.int .u8 op, .int .u8 a, .int .u8 b, .int .u8 c, .int .i64 n][o]? := fun o => by
    rw [hb1.cell (p := ⟨w.heap.size, o, none⟩) (by simp)]; exact cell_of_row _ _ _ _ _ _ (heap_alloc_new w _)
  have HB1 := Lib.hid (((Below.refl _ w).alloc (Nat.le_refl _) _).trans (hb1.mono (by simp)))
  clear hb1 HF
  go_upto_region 4 with fail
  go_cut [5, 6] (fun p m W => ∃ g, p = .pointer (some ⟨g, 0, none⟩) ∧ m = .int .i64 n ∧ w.heap.size ≤ g ∧ g < W.heap.size ∧ Below w.heap.size w W ∧ W.cell? ⟨g, 0, none⟩ = some (.int .u8 a) ∧ W.cell? ⟨g, 1, none⟩ = some (.int .u8 b) ∧ W.cell? ⟨g, 2, none⟩ = some (.int .u8 c) ∧ (∀ o, W.frozen? ⟨g, o, none⟩ = false))
  case first =>
    go_region_held3 (fun W => Below w1.heap.size w1 W ∧ ∀ b o, b < w1.heap.size → W.cell? ⟨b, o, none⟩ = w1.cell? ⟨b, o, none⟩)
      (repeat' (first | exact preD | assumption | exact preR | refine preB ?_ hb2 | refine preE ?_ | refine preA ?_ _ | refine preS ?_ ?_ _ | omega | (simp; done) | (simp; omega)))
      ((go_at_call 124; refine (registers_c _ _ _ _ _ _).mono ?_; rintro e w2 ⟨rfl, hb2⟩; obtain ⟨hc2, hf2⟩ := bcell hb2; have hz2 := hb2.size; simp at hz2))
    all_goals (go_wp2_with fail; go_meet)
    all_goals refine ⟨_, rfl, rfl, ?_, ?_, HB1.out.trans (Below.mono (And.left (by assumption)) (by omega)), ?_, ?_, ?_, ?_⟩
    all_goals first | omega | (simp; omega) | go_simp | skip
  case rest =>
    obtain ⟨g, rfl, rfl, hg1, hg2, hB, h0, h1, h2, hf⟩ := hcut
    have hz := hB.size
    have HB := Lib.hid hB
    have e3 := fun x y z w => eq3 x y z 0 0 0 w
    clear hB HB1 c1_ hz1 hz1'
    have i1 := fun W (p i : Nat) v => iter_setCell W ⟨#[]⟩ p g i v
    have i2 := fun W (p i : Nat) => iter_cell W ⟨#[]⟩ p g i
    have i3 := fun W (p i : Nat) => iter_frozen W ⟨#[]⟩ p g i
    have n0_ := fun W n ty hn => next_end (P := Try.prog) W ⟨#[]⟩ 0 n ty hn (by decide)
    go_wp2
    refine wp_loop_rounds 1 ?_
    all_goals (rw [rounds_succ]; go_wp2)
    all_goals (go_ret; refine ⟨ret_i64 ?_, ?_⟩)
    all_goals first
      | exact HB.out.alloc hz _
      | exact (HB.out.setCell (p := ⟨g, _, none⟩) hg1 _).alloc (by simp; omega) _
      | exact ((HB.out.setCell (p := ⟨g, _, none⟩) hg1 _).setCell (p := ⟨g, _, none⟩) hg1 _).alloc (by simp; omega) _
      | exact (((HB.out.setCell (p := ⟨g, _, none⟩) hg1 _).setCell (p := ⟨g, _, none⟩) hg1 _).setCell (p := ⟨g, _, none⟩) hg1 _).alloc (by simp; omega) _
      | (rw [oneK_pos (by simp only [fitsC]; omega)])
      | (rw [oneK_neg (by simp only [fitsC]; omega)])
      | (have hn : (n != 0) = true := by assumption
         rw [bne_iff_ne] at hn
         rw [oneK_neg (by simp only [fitsC]; omega)])
      | (have hn : (n != 0) = false := by assumption
         rw [bne_eq_false_iff_eq] at hn
         rw [oneK_pos (by simp only [fitsC]; omega)])
      | (have hn : (n != 0) = false := by assumption
         rw [bne_eq_false_iff_eq] at hn
         rw [oneK_neg (by simp only [fitsC]; omega)])



set_option maxRecDepth 100000 in
set_option maxHeartbeats 4000000 in
theorem one_k3 (op a b c n : Int) (w : World) (a0 : 0 ≤ a) (a1 : a ≤ 255) (b0 : 0 ≤ b) (b1 : b ≤ 255) (c0 : 0 ≤ c) (c1 : c ≤ 255)
   (hform : ∀ w, Calls Try.prog 39 #[.int .u8 op] w fun e w' => e = .returned (.tuple #[.string ⟨#[114, 110]⟩, .bool true]) ∧ Below w.heap.size w w') :
    Calls Try.prog 97 #[.agg #[.int .u8 op, .int .u8 a, .int .u8 b, .int .u8 c, .int .i64 n]] w fun e w' => e = .returned (.int .i64 (oneK 3 a b c n)) ∧ Below w.heap.size w w' := by
  go_enter Try.func97, Try.ntmps97
  have HF := Lib.hid hform
  clear hform
  go_wp2_with fail
  refine (HF.out _).mono ?_
  rintro e w1 ⟨rfl, hb1⟩
  have hz1 := hb1.size
  simp at hz1
  have hz1' : w.heap.size < w1.heap.size := by omega
  have c1_ : ∀ o, w1.cell? ⟨w.heap.size, o, none⟩ = #[Value.int .u8 op, .int .u8 a, .int .u8 b, .int .u8 c, .int .i64 n][o]? := fun o => by
    rw [hb1.cell (p := ⟨w.heap.size, o, none⟩) (by simp)]; exact cell_of_row _ _ _ _ _ _ (heap_alloc_new w _)
  have HB1 := Lib.hid (((Below.refl _ w).alloc (Nat.le_refl _) _).trans (hb1.mono (by simp)))
  clear hb1 HF
  go_upto_region 4 with fail
  go_cut [5, 6] (fun p m W => ∃ g, p = .pointer (some ⟨g, 0, none⟩) ∧ m = .int .i64 n ∧ w.heap.size ≤ g ∧ g < W.heap.size ∧ Below w.heap.size w W ∧ W.cell? ⟨g, 0, none⟩ = some (.int .u8 a) ∧ W.cell? ⟨g, 1, none⟩ = some (.int .u8 b) ∧ W.cell? ⟨g, 2, none⟩ = some (.int .u8 c) ∧ (∀ o, W.frozen? ⟨g, o, none⟩ = false))
  case first =>
    go_region_held3 (fun W => Below w1.heap.size w1 W ∧ ∀ b o, b < w1.heap.size → W.cell? ⟨b, o, none⟩ = w1.cell? ⟨b, o, none⟩)
      (repeat' (first | exact preD | assumption | exact preR | refine preB ?_ hb2 | refine preE ?_ | refine preA ?_ _ | refine preS ?_ ?_ _ | omega | (simp; done) | (simp; omega)))
      ((go_at_call 124; refine (registers_c _ _ _ _ _ _).mono ?_; rintro e w2 ⟨rfl, hb2⟩; obtain ⟨hc2, hf2⟩ := bcell hb2; have hz2 := hb2.size; simp at hz2))
    all_goals (go_wp2_with fail; go_meet)
    all_goals refine ⟨_, rfl, rfl, ?_, ?_, HB1.out.trans (Below.mono (And.left (by assumption)) (by omega)), ?_, ?_, ?_, ?_⟩
    all_goals first | omega | (simp; omega) | go_simp | skip
  case rest =>
    obtain ⟨g, rfl, rfl, hg1, hg2, hB, h0, h1, h2, hf⟩ := hcut
    have hz := hB.size
    have HB := Lib.hid hB
    have e3 := fun x y z w => eq3 x y z 0 0 0 w
    clear hB HB1 c1_ hz1 hz1'
    have i1 := fun W (p i : Nat) v => iter_setCell W ⟨#[114, 110]⟩ p g i v
    have i2 := fun W (p i : Nat) => iter_cell W ⟨#[114, 110]⟩ p g i
    have i3 := fun W (p i : Nat) => iter_frozen W ⟨#[114, 110]⟩ p g i
    have n0_ := fun W n ty hn => next_at (P := Try.prog) W ⟨#[114, 110]⟩ 0 1 n 114 ty hn (by decide) (by decide) (by decide) rfl
    have n1_ := fun W n ty hn => next_at (P := Try.prog) W ⟨#[114, 110]⟩ 1 2 n 110 ty hn (by decide) (by decide) (by decide) rfl
    have n2_ := fun W n ty hn => next_end (P := Try.prog) W ⟨#[114, 110]⟩ 2 n ty hn (by decide)
    go_wp2
    refine wp_loop_rounds 3 ?_
    all_goals (rw [rounds_succ]; go_wp2)
    any_goals (rw [rounds_succ]; go_wp2)
    any_goals (rw [rounds_succ]; go_wp2)
    all_goals (go_ret; refine ⟨ret_i64 ?_, ?_⟩)
    all_goals first
      | exact HB.out.alloc hz _
      | exact (HB.out.setCell (p := ⟨g, _, none⟩) hg1 _).alloc (by simp; omega) _
      | exact ((HB.out.setCell (p := ⟨g, _, none⟩) hg1 _).setCell (p := ⟨g, _, none⟩) hg1 _).alloc (by simp; omega) _
      | exact (((HB.out.setCell (p := ⟨g, _, none⟩) hg1 _).setCell (p := ⟨g, _, none⟩) hg1 _).setCell (p := ⟨g, _, none⟩) hg1 _).alloc (by simp; omega) _
      | (rw [oneK_pos (by simp only [fitsC]; omega)])
      | (rw [oneK_neg (by simp only [fitsC]; omega)])
      | (have hn : (n != 0) = true := by assumption
         rw [bne_iff_ne] at hn
         rw [oneK_neg (by simp only [fitsC]; omega)])
      | (have hn : (n != 0) = false := by assumption
         rw [bne_eq_false_iff_eq] at hn
         rw [oneK_pos (by simp only [fitsC]; omega)])
      | (have hn : (n != 0) = false := by assumption
         rw [bne_eq_false_iff_eq] at hn
         rw [oneK_neg (by simp only [fitsC]; omega)])



set_option maxRecDepth 100000 in
set_option maxHeartbeats 4000000 in
theorem one_k4 (op a b c n : Int) (w : World) (a0 : 0 ≤ a) (a1 : a ≤ 255) (b0 : 0 ≤ b) (b1 : b ≤ 255) (c0 : 0 ≤ c) (c1 : c ≤ 255)
   (hform : ∀ w, Calls Try.prog 39 #[.int .u8 op] w fun e w' => e = .returned (.tuple #[.string ⟨#[114, 114]⟩, .bool true]) ∧ Below w.heap.size w w') :
    Calls Try.prog 97 #[.agg #[.int .u8 op, .int .u8 a, .int .u8 b, .int .u8 c, .int .i64 n]] w fun e w' => e = .returned (.int .i64 (oneK 4 a b c n)) ∧ Below w.heap.size w w' := by
  go_enter Try.func97, Try.ntmps97
  have HF := Lib.hid hform
  clear hform
  go_wp2_with fail
  refine (HF.out _).mono ?_
  rintro e w1 ⟨rfl, hb1⟩
  have hz1 := hb1.size
  simp at hz1
  have hz1' : w.heap.size < w1.heap.size := by omega
  have c1_ : ∀ o, w1.cell? ⟨w.heap.size, o, none⟩ = #[Value.int .u8 op, .int .u8 a, .int .u8 b, .int .u8 c, .int .i64 n][o]? := fun o => by
    rw [hb1.cell (p := ⟨w.heap.size, o, none⟩) (by simp)]; exact cell_of_row _ _ _ _ _ _ (heap_alloc_new w _)
  have HB1 := Lib.hid (((Below.refl _ w).alloc (Nat.le_refl _) _).trans (hb1.mono (by simp)))
  clear hb1 HF
  go_upto_region 4 with fail
  go_cut [5, 6] (fun p m W => ∃ g, p = .pointer (some ⟨g, 0, none⟩) ∧ m = .int .i64 n ∧ w.heap.size ≤ g ∧ g < W.heap.size ∧ Below w.heap.size w W ∧ W.cell? ⟨g, 0, none⟩ = some (.int .u8 a) ∧ W.cell? ⟨g, 1, none⟩ = some (.int .u8 b) ∧ W.cell? ⟨g, 2, none⟩ = some (.int .u8 c) ∧ (∀ o, W.frozen? ⟨g, o, none⟩ = false))
  case first =>
    go_region_held3 (fun W => Below w1.heap.size w1 W ∧ ∀ b o, b < w1.heap.size → W.cell? ⟨b, o, none⟩ = w1.cell? ⟨b, o, none⟩)
      (repeat' (first | exact preD | assumption | exact preR | refine preB ?_ hb2 | refine preE ?_ | refine preA ?_ _ | refine preS ?_ ?_ _ | omega | (simp; done) | (simp; omega)))
      ((go_at_call 124; refine (registers_c _ _ _ _ _ _).mono ?_; rintro e w2 ⟨rfl, hb2⟩; obtain ⟨hc2, hf2⟩ := bcell hb2; have hz2 := hb2.size; simp at hz2))
    all_goals (go_wp2_with fail; go_meet)
    all_goals refine ⟨_, rfl, rfl, ?_, ?_, HB1.out.trans (Below.mono (And.left (by assumption)) (by omega)), ?_, ?_, ?_, ?_⟩
    all_goals first | omega | (simp; omega) | go_simp | skip
  case rest =>
    obtain ⟨g, rfl, rfl, hg1, hg2, hB, h0, h1, h2, hf⟩ := hcut
    have hz := hB.size
    have HB := Lib.hid hB
    have e3 := fun x y z w => eq3 x y z 0 0 0 w
    clear hB HB1 c1_ hz1 hz1'
    have i1 := fun W (p i : Nat) v => iter_setCell W ⟨#[114, 114]⟩ p g i v
    have i2 := fun W (p i : Nat) => iter_cell W ⟨#[114, 114]⟩ p g i
    have i3 := fun W (p i : Nat) => iter_frozen W ⟨#[114, 114]⟩ p g i
    have n0_ := fun W n ty hn => next_at (P := Try.prog) W ⟨#[114, 114]⟩ 0 1 n 114 ty hn (by decide) (by decide) (by decide) rfl
    have n1_ := fun W n ty hn => next_at (P := Try.prog) W ⟨#[114, 114]⟩ 1 2 n 114 ty hn (by decide) (by decide) (by decide) rfl
    have n2_ := fun W n ty hn => next_end (P := Try.prog) W ⟨#[114, 114]⟩ 2 n ty hn (by decide)
    go_wp2
    refine wp_loop_rounds 3 ?_
    all_goals (rw [rounds_succ]; go_wp2)
    any_goals (rw [rounds_succ]; go_wp2)
    any_goals (rw [rounds_succ]; go_wp2)
    all_goals (go_ret; refine ⟨ret_i64 ?_, ?_⟩)
    all_goals first
      | exact HB.out.alloc hz _
      | exact (HB.out.setCell (p := ⟨g, _, none⟩) hg1 _).alloc (by simp; omega) _
      | exact ((HB.out.setCell (p := ⟨g, _, none⟩) hg1 _).setCell (p := ⟨g, _, none⟩) hg1 _).alloc (by simp; omega) _
      | exact (((HB.out.setCell (p := ⟨g, _, none⟩) hg1 _).setCell (p := ⟨g, _, none⟩) hg1 _).setCell (p := ⟨g, _, none⟩) hg1 _).alloc (by simp; omega) _
      | (rw [oneK_pos (by simp only [fitsC]; omega)])
      | (rw [oneK_neg (by simp only [fitsC]; omega)])
      | (have hn : (n != 0) = true := by assumption
         rw [bne_iff_ne] at hn
         rw [oneK_neg (by simp only [fitsC]; omega)])
      | (have hn : (n != 0) = false := by assumption
         rw [bne_eq_false_iff_eq] at hn
         rw [oneK_pos (by simp only [fitsC]; omega)])
      | (have hn : (n != 0) = false := by assumption
         rw [bne_eq_false_iff_eq] at hn
         rw [oneK_neg (by simp only [fitsC]; omega)])



set_option maxRecDepth 100000 in
set_option maxHeartbeats 4000000 in
theorem one_k5 (op a b c n : Int) (w : World) (a0 : 0 ≤ a) (a1 : a ≤ 255) (b0 : 0 ≤ b) (b1 : b ≤ 255) (c0 : 0 ≤ c) (c1 : c ≤ 255)
   (hform : ∀ w, Calls Try.prog 39 #[.int .u8 op] w fun e w' => e = .returned (.tuple #[.string ⟨#[114, 114, 112]⟩, .bool true]) ∧ Below w.heap.size w w') :
    Calls Try.prog 97 #[.agg #[.int .u8 op, .int .u8 a, .int .u8 b, .int .u8 c, .int .i64 n]] w fun e w' => e = .returned (.int .i64 (oneK 5 a b c n)) ∧ Below w.heap.size w w' := by
  go_enter Try.func97, Try.ntmps97
  have HF := Lib.hid hform
  clear hform
  go_wp2_with fail
  refine (HF.out _).mono ?_
  rintro e w1 ⟨rfl, hb1⟩
  have hz1 := hb1.size
  simp at hz1
  have hz1' : w.heap.size < w1.heap.size := by omega
  have c1_ : ∀ o, w1.cell? ⟨w.heap.size, o, none⟩ = #[Value.int .u8 op, .int .u8 a, .int .u8 b, .int .u8 c, .int .i64 n][o]? := fun o => by
    rw [hb1.cell (p := ⟨w.heap.size, o, none⟩) (by simp)]; exact cell_of_row _ _ _ _ _ _ (heap_alloc_new w _)
  have HB1 := Lib.hid (((Below.refl _ w).alloc (Nat.le_refl _) _).trans (hb1.mono (by simp)))
  clear hb1 HF
  go_upto_region 4 with fail
  go_cut [5, 6] (fun p m W => ∃ g, p = .pointer (some ⟨g, 0, none⟩) ∧ m = .int .i64 n ∧ w.heap.size ≤ g ∧ g < W.heap.size ∧ Below w.heap.size w W ∧ W.cell? ⟨g, 0, none⟩ = some (.int .u8 a) ∧ W.cell? ⟨g, 1, none⟩ = some (.int .u8 b) ∧ W.cell? ⟨g, 2, none⟩ = some (.int .u8 c) ∧ (∀ o, W.frozen? ⟨g, o, none⟩ = false))
  case first =>
    go_region_held3 (fun W => Below w1.heap.size w1 W ∧ ∀ b o, b < w1.heap.size → W.cell? ⟨b, o, none⟩ = w1.cell? ⟨b, o, none⟩)
      (repeat' (first | exact preD | assumption | exact preR | refine preB ?_ hb2 | refine preE ?_ | refine preA ?_ _ | refine preS ?_ ?_ _ | omega | (simp; done) | (simp; omega)))
      ((go_at_call 124; refine (registers_c _ _ _ _ _ _).mono ?_; rintro e w2 ⟨rfl, hb2⟩; obtain ⟨hc2, hf2⟩ := bcell hb2; have hz2 := hb2.size; simp at hz2))
    all_goals (go_wp2_with fail; go_meet)
    all_goals refine ⟨_, rfl, rfl, ?_, ?_, HB1.out.trans (Below.mono (And.left (by assumption)) (by omega)), ?_, ?_, ?_, ?_⟩
    all_goals first | omega | (simp; omega) | go_simp | skip
  case rest =>
    obtain ⟨g, rfl, rfl, hg1, hg2, hB, h0, h1, h2, hf⟩ := hcut
    have hz := hB.size
    have HB := Lib.hid hB
    have e3 := fun x y z w => eq3 x y z 0 0 0 w
    clear hB HB1 c1_ hz1 hz1'
    have i1 := fun W (p i : Nat) v => iter_setCell W ⟨#[114, 114, 112]⟩ p g i v
    have i2 := fun W (p i : Nat) => iter_cell W ⟨#[114, 114, 112]⟩ p g i
    have i3 := fun W (p i : Nat) => iter_frozen W ⟨#[114, 114, 112]⟩ p g i
    have n0_ := fun W n ty hn => next_at (P := Try.prog) W ⟨#[114, 114, 112]⟩ 0 1 n 114 ty hn (by decide) (by decide) (by decide) rfl
    have n1_ := fun W n ty hn => next_at (P := Try.prog) W ⟨#[114, 114, 112]⟩ 1 2 n 114 ty hn (by decide) (by decide) (by decide) rfl
    have n2_ := fun W n ty hn => next_at (P := Try.prog) W ⟨#[114, 114, 112]⟩ 2 3 n 112 ty hn (by decide) (by decide) (by decide) rfl
    have n3_ := fun W n ty hn => next_end (P := Try.prog) W ⟨#[114, 114, 112]⟩ 3 n ty hn (by decide)
    go_wp2
    refine wp_loop_rounds 4 ?_
    all_goals (rw [rounds_succ]; go_wp2)
    any_goals (rw [rounds_succ]; go_wp2)
    any_goals (rw [rounds_succ]; go_wp2)
    any_goals (rw [rounds_succ]; go_wp2)
    all_goals (go_ret; refine ⟨ret_i64 ?_, ?_⟩)
    all_goals first
      | exact HB.out.alloc hz _
      | exact (HB.out.setCell (p := ⟨g, _, none⟩) hg1 _).alloc (by simp; omega) _
      | exact ((HB.out.setCell (p := ⟨g, _, none⟩) hg1 _).setCell (p := ⟨g, _, none⟩) hg1 _).alloc (by simp; omega) _
      | exact (((HB.out.setCell (p := ⟨g, _, none⟩) hg1 _).setCell (p := ⟨g, _, none⟩) hg1 _).setCell (p := ⟨g, _, none⟩) hg1 _).alloc (by simp; omega) _
      | (rw [oneK_pos (by simp only [fitsC]; omega)])
      | (rw [oneK_neg (by simp only [fitsC]; omega)])
      | (have hn : (n != 0) = true := by assumption
         rw [bne_iff_ne] at hn
         rw [oneK_neg (by simp only [fitsC]; omega)])
      | (have hn : (n != 0) = false := by assumption
         rw [bne_eq_false_iff_eq] at hn
         rw [oneK_pos (by simp only [fitsC]; omega)])
      | (have hn : (n != 0) = false := by assumption
         rw [bne_eq_false_iff_eq] at hn
         rw [oneK_neg (by simp only [fitsC]; omega)])



set_option maxRecDepth 100000 in
set_option maxHeartbeats 4000000 in
theorem one_k6 (op a b c n : Int) (w : World) (a0 : 0 ≤ a) (a1 : a ≤ 255) (b0 : 0 ≤ b) (b1 : b ≤ 255) (c0 : 0 ≤ c) (c1 : c ≤ 255)
   (hform : ∀ w, Calls Try.prog 39 #[.int .u8 op] w fun e w' => e = .returned (.tuple #[.string ⟨#[116]⟩, .bool true]) ∧ Below w.heap.size w w') :
    Calls Try.prog 97 #[.agg #[.int .u8 op, .int .u8 a, .int .u8 b, .int .u8 c, .int .i64 n]] w fun e w' => e = .returned (.int .i64 (oneK 6 a b c n)) ∧ Below w.heap.size w w' := by
  go_enter Try.func97, Try.ntmps97
  have HF := Lib.hid hform
  clear hform
  go_wp2_with fail
  refine (HF.out _).mono ?_
  rintro e w1 ⟨rfl, hb1⟩
  have hz1 := hb1.size
  simp at hz1
  have hz1' : w.heap.size < w1.heap.size := by omega
  have c1_ : ∀ o, w1.cell? ⟨w.heap.size, o, none⟩ = #[Value.int .u8 op, .int .u8 a, .int .u8 b, .int .u8 c, .int .i64 n][o]? := fun o => by
    rw [hb1.cell (p := ⟨w.heap.size, o, none⟩) (by simp)]; exact cell_of_row _ _ _ _ _ _ (heap_alloc_new w _)
  have HB1 := Lib.hid (((Below.refl _ w).alloc (Nat.le_refl _) _).trans (hb1.mono (by simp)))
  clear hb1 HF
  go_upto_region 4 with fail
  go_cut [5, 6] (fun p m W => ∃ g, p = .pointer (some ⟨g, 0, none⟩) ∧ m = .int .i64 n ∧ w.heap.size ≤ g ∧ g < W.heap.size ∧ Below w.heap.size w W ∧ W.cell? ⟨g, 0, none⟩ = some (.int .u8 a) ∧ W.cell? ⟨g, 1, none⟩ = some (.int .u8 b) ∧ W.cell? ⟨g, 2, none⟩ = some (.int .u8 c) ∧ (∀ o, W.frozen? ⟨g, o, none⟩ = false))
  case first =>
    go_region_held3 (fun W => Below w1.heap.size w1 W ∧ ∀ b o, b < w1.heap.size → W.cell? ⟨b, o, none⟩ = w1.cell? ⟨b, o, none⟩)
      (repeat' (first | exact preD | assumption | exact preR | refine preB ?_ hb2 | refine preE ?_ | refine preA ?_ _ | refine preS ?_ ?_ _ | omega | (simp; done) | (simp; omega)))
      ((go_at_call 124; refine (registers_c _ _ _ _ _ _).mono ?_; rintro e w2 ⟨rfl, hb2⟩; obtain ⟨hc2, hf2⟩ := bcell hb2; have hz2 := hb2.size; simp at hz2))
    all_goals (go_wp2_with fail; go_meet)
    all_goals refine ⟨_, rfl, rfl, ?_, ?_, HB1.out.trans (Below.mono (And.left (by assumption)) (by omega)), ?_, ?_, ?_, ?_⟩
    all_goals first | omega | (simp; omega) | go_simp | skip
  case rest =>
    obtain ⟨g, rfl, rfl, hg1, hg2, hB, h0, h1, h2, hf⟩ := hcut
    have hz := hB.size
    have HB := Lib.hid hB
    have e3 := fun x y z w => eq3 x y z 0 0 0 w
    clear hB HB1 c1_ hz1 hz1'
    have i1 := fun W (p i : Nat) v => iter_setCell W ⟨#[116]⟩ p g i v
    have i2 := fun W (p i : Nat) => iter_cell W ⟨#[116]⟩ p g i
    have i3 := fun W (p i : Nat) => iter_frozen W ⟨#[116]⟩ p g i
    have n0_ := fun W n ty hn => next_at (P := Try.prog) W ⟨#[116]⟩ 0 1 n 116 ty hn (by decide) (by decide) (by decide) rfl
    have n1_ := fun W n ty hn => next_end (P := Try.prog) W ⟨#[116]⟩ 1 n ty hn (by decide)
    go_wp2
    refine wp_loop_rounds 2 ?_
    all_goals (rw [rounds_succ]; go_wp2)
    any_goals (rw [rounds_succ]; go_wp2)
    all_goals (go_ret; refine ⟨ret_i64 ?_, ?_⟩)
    all_goals first
      | exact HB.out.alloc hz _
      | exact (HB.out.setCell (p := ⟨g, _, none⟩) hg1 _).alloc (by simp; omega) _
      | exact ((HB.out.setCell (p := ⟨g, _, none⟩) hg1 _).setCell (p := ⟨g, _, none⟩) hg1 _).alloc (by simp; omega) _
      | exact (((HB.out.setCell (p := ⟨g, _, none⟩) hg1 _).setCell (p := ⟨g, _, none⟩) hg1 _).setCell (p := ⟨g, _, none⟩) hg1 _).alloc (by simp; omega) _
      | (rw [oneK_pos (by simp only [fitsC]; omega)])
      | (rw [oneK_neg (by simp only [fitsC]; omega)])
      | (have hn : (n != 0) = true := by assumption
         rw [bne_iff_ne] at hn
         rw [oneK_neg (by simp only [fitsC]; omega)])
      | (have hn : (n != 0) = false := by assumption
         rw [bne_eq_false_iff_eq] at hn
         rw [oneK_pos (by simp only [fitsC]; omega)])
      | (have hn : (n != 0) = false := by assumption
         rw [bne_eq_false_iff_eq] at hn
         rw [oneK_neg (by simp only [fitsC]; omega)])



set_option maxRecDepth 100000 in
set_option maxHeartbeats 4000000 in
theorem one_k7 (op a b c n : Int) (w : World) (a0 : 0 ≤ a) (a1 : a ≤ 255) (b0 : 0 ≤ b) (b1 : b ≤ 255) (c0 : 0 ≤ c) (c1 : c ≤ 255)
   (hform : ∀ w, Calls Try.prog 39 #[.int .u8 op] w fun e w' => e = .returned (.tuple #[.string ⟨#[114, 116]⟩, .bool true]) ∧ Below w.heap.size w w') :
    Calls Try.prog 97 #[.agg #[.int .u8 op, .int .u8 a, .int .u8 b, .int .u8 c, .int .i64 n]] w fun e w' => e = .returned (.int .i64 (oneK 7 a b c n)) ∧ Below w.heap.size w w' := by
  go_enter Try.func97, Try.ntmps97
  have HF := Lib.hid hform
  clear hform
  go_wp2_with fail
  refine (HF.out _).mono ?_
  rintro e w1 ⟨rfl, hb1⟩
  have hz1 := hb1.size
  simp at hz1
  have hz1' : w.heap.size < w1.heap.size := by omega
  have c1_ : ∀ o, w1.cell? ⟨w.heap.size, o, none⟩ = #[Value.int .u8 op, .int .u8 a, .int .u8 b, .int .u8 c, .int .i64 n][o]? := fun o => by
    rw [hb1.cell (p := ⟨w.heap.size, o, none⟩) (by simp)]; exact cell_of_row _ _ _ _ _ _ (heap_alloc_new w _)
  have HB1 := Lib.hid (((Below.refl _ w).alloc (Nat.le_refl _) _).trans (hb1.mono (by simp)))
  clear hb1 HF
  go_upto_region 4 with fail
  go_cut [5, 6] (fun p m W => ∃ g, p = .pointer (some ⟨g, 0, none⟩) ∧ m = .int .i64 n ∧ w.heap.size ≤ g ∧ g < W.heap.size ∧ Below w.heap.size w W ∧ W.cell? ⟨g, 0, none⟩ = some (.int .u8 a) ∧ W.cell? ⟨g, 1, none⟩ = some (.int .u8 b) ∧ W.cell? ⟨g, 2, none⟩ = some (.int .u8 c) ∧ (∀ o, W.frozen? ⟨g, o, none⟩ = false))
  case first =>
    go_region_held3 (fun W => Below w1.heap.size w1 W ∧ ∀ b o, b < w1.heap.size → W.cell? ⟨b, o, none⟩ = w1.cell? ⟨b, o, none⟩)
      (repeat' (first | exact preD | assumption | exact preR | refine preB ?_ hb2 | refine preE ?_ | refine preA ?_ _ | refine preS ?_ ?_ _ | omega | (simp; done) | (simp; omega)))
      ((go_at_call 124; refine (registers_c _ _ _ _ _ _).mono ?_; rintro e w2 ⟨rfl, hb2⟩; obtain ⟨hc2, hf2⟩ := bcell hb2; have hz2 := hb2.size; simp at hz2))
    all_goals (go_wp2_with fail; go_meet)
    all_goals refine ⟨_, rfl, rfl, ?_, ?_, HB1.out.trans (Below.mono (And.left (by assumption)) (by omega)), ?_, ?_, ?_, ?_⟩
    all_goals first | omega | (simp; omega) | go_simp | skip
  case rest =>
    obtain ⟨g, rfl, rfl, hg1, hg2, hB, h0, h1, h2, hf⟩ := hcut
    have hz := hB.size
    have HB := Lib.hid hB
    have e3 := fun x y z w => eq3 x y z 0 0 0 w
    clear hB HB1 c1_ hz1 hz1'
    have i1 := fun W (p i : Nat) v => iter_setCell W ⟨#[114, 116]⟩ p g i v
    have i2 := fun W (p i : Nat) => iter_cell W ⟨#[114, 116]⟩ p g i
    have i3 := fun W (p i : Nat) => iter_frozen W ⟨#[114, 116]⟩ p g i
    have n0_ := fun W n ty hn => next_at (P := Try.prog) W ⟨#[114, 116]⟩ 0 1 n 114 ty hn (by decide) (by decide) (by decide) rfl
    have n1_ := fun W n ty hn => next_at (P := Try.prog) W ⟨#[114, 116]⟩ 1 2 n 116 ty hn (by decide) (by decide) (by decide) rfl
    have n2_ := fun W n ty hn => next_end (P := Try.prog) W ⟨#[114, 116]⟩ 2 n ty hn (by decide)
    go_wp2
    refine wp_loop_rounds 3 ?_
    all_goals (rw [rounds_succ]; go_wp2)
    any_goals (rw [rounds_succ]; go_wp2)
    any_goals (rw [rounds_succ]; go_wp2)
    all_goals (go_ret; refine ⟨ret_i64 ?_, ?_⟩)
    all_goals first
      | exact HB.out.alloc hz _
      | exact (HB.out.setCell (p := ⟨g, _, none⟩) hg1 _).alloc (by simp; omega) _
      | exact ((HB.out.setCell (p := ⟨g, _, none⟩) hg1 _).setCell (p := ⟨g, _, none⟩) hg1 _).alloc (by simp; omega) _
      | exact (((HB.out.setCell (p := ⟨g, _, none⟩) hg1 _).setCell (p := ⟨g, _, none⟩) hg1 _).setCell (p := ⟨g, _, none⟩) hg1 _).alloc (by simp; omega) _
      | (rw [oneK_pos (by simp only [fitsC]; omega)])
      | (rw [oneK_neg (by simp only [fitsC]; omega)])
      | (have hn : (n != 0) = true := by assumption
         rw [bne_iff_ne] at hn
         rw [oneK_neg (by simp only [fitsC]; omega)])
      | (have hn : (n != 0) = false := by assumption
         rw [bne_eq_false_iff_eq] at hn
         rw [oneK_pos (by simp only [fitsC]; omega)])
      | (have hn : (n != 0) = false := by assumption
         rw [bne_eq_false_iff_eq] at hn
         rw [oneK_neg (by simp only [fitsC]; omega)])


end Go.Proofs.Ytmljmabbopkpiaa
