import Derived.Test.YtmljmabbopkpiaaM1
import Derived.Test.YtmljmabbopkpiaaM7
import Derived.Test.YtmljmabbopkpiaaM13
import Derived.Test.YtmljmabbopkpiaaM16
import Derived.Test.YtmljmabbopkpiaaM17
import Derived.Test.YtmljmabbopkpiaaM18
import Derived.Test.YtmljmabbopkpiaaProg
import Derived.Handy
import Derived.Deep.RegionHeld3
import Derived.Deep.DeepCutAuto
set_option linter.unusedSimpArgs false
set_option linter.unusedVariables false
section
namespace Go.Proofs.Ytmljmabbopkpiaa
open Go.RowKit
set_option maxRecDepth 100000 in
theorem registers_c (op a b c n : Int) (w : World) : Calls Try.prog 124 #[.agg #[.int .u8 op, .int .u8 a, .int .u8 b, .int .u8 c, .int .i64 n]] w fun e w' =>
  e = .returned (.agg #[.int .u8 a, .int .u8 b, .int .u8 c]) ∧ Below w.heap.size w w' := by
 go_enter Try.func124, Try.ntmps124
 go_wp2
 exact bodyPost_ret (v := .agg #[.int .u8 a, .int .u8 b, .int .u8 c]) (by simp [results, Try.results124, go_sem]) rfl ⟨rfl, ((Below.refl _ _).alloc (Nat.le_refl _) _).alloc (by simp) _⟩
set_option maxRecDepth 100000 in
set_option maxHeartbeats 4000000 in
theorem one_k1 (op a b c n : Int) (w : World) (a0 : 0 ≤ a) (a1 : a ≤ 255) (b0 : 0 ≤ b) (b1 : b ≤ 255) (c0 : 0 ≤ c) (c1 : c ≤ 255)
   (hform : ∀ w, Calls Try.prog 39 #[.int .u8 op] w fun e w' => e = .returned (.tuple #[.string ⟨#[114, 114, 114]⟩, .bool true]) ∧ Below w.heap.size w w') :
    Calls Try.prog 97 #[.agg #[.int .u8 op, .int .u8 a, .int .u8 b, .int .u8 c, .int .i64 n]] w fun e w' => e = .returned (.int .i64 (oneK 1 a b c n)) ∧ Below w.heap.size w w' := by
  go_enter Try.func97, Try.ntmps97
  have HF := Lib.hid hform
  clear hform
  go_wp2_with fail
  refine (HF.out _).mono ?_
  rintro e w1 ⟨rfl, hb1⟩
  have hz1 := hb1.size
  simp at hz1
  have hz1' : w.heap.size < w1.heap.size := by omega
  have c1_ : ∀ o, w1.cell? ⟨w.heap.size, o, none⟩ = #[Value.int .u8 op, .int .u8 a, .int .u8 b, .int .u8 c, .int .i64 n][o]? := fun o => by
    rw [hb1.cell (p := ⟨w.heap.size, o, none⟩) (by simp)]; exact cell_of_row _ _ _ _ _ _ (heap_alloc_new w _)
  have HB1 := Lib.hid (((Below.refl _ w).alloc (Nat.le_refl _) _).trans (hb1.mono (by simp)))
  clear hb1 HF
  go_upto_region 4 with fail
  go_cut [5, 6] (fun p m W => ∃ g, p = .pointer (some ⟨g, 0, none⟩) ∧ m = .int .i64 n ∧ w.heap.size ≤ g ∧ g < W.heap.size ∧ Below w.heap.size w W ∧ W.cell? ⟨g, 0, none⟩ = some (.int .u8 a) ∧ W.cell? ⟨g, 1, none⟩ = some (.int .u8 b) ∧ W.cell? ⟨g, 2, none⟩ = some (.int .u8 c) ∧ (∀ o, W.frozen? ⟨g, o, none⟩ = false))
  case first =>
    go_region_held3 (fun W => Below w1.heap.size w1 W ∧ ∀ b o, b < w1.heap.size → W.cell? ⟨b, o, none⟩ = w1.cell? ⟨b, o, none⟩)
      (repeat' (first | exact preD | assumption | exact preR | refine preB ?_ hb2 | refine preE ?_ | refine preA ?_ _ | refine preS ?_ ?_ _ | omega | (simp; done) | (simp; omega)))
      ((go_at_call 124; refine (registers_c _ _ _ _ _ _).mono ?_; rintro e w2 ⟨rfl, hb2⟩; obtain ⟨hc2, hf2⟩ := bcell hb2; have hz2 := hb2.size; simp at hz2))
    all_goals (go_wp2_with fail; go_meet)
    all_goals refine ⟨_, rfl, rfl, ?_, ?_, HB1.out.trans (Below.mono (And.left (by assumption)) (by omega)), ?_, ?_, ?_, ?_⟩
    all_goals first | omega | (simp; omega) | go_simp | skip
  case rest =>
    obtain ⟨g, rfl, rfl, hg1, hg2, hB, h0, h1, h2, hf⟩ := hcut
    have hz := hB.size
    have HB := Lib.hid hB
    have e3 := fun x y z w => eq3 x y z 0 0 0 w
    clear hB HB1 c1_ hz1 hz1'
    have i1 := fun W (p i : Nat) v => iter_setCell W ⟨#[114, 114, 114]⟩ p g i v
    have i2 := fun W (p i : Nat) => iter_cell W ⟨#[114, 114, 114]⟩ p g i
    have i3 := fun W (p i : Nat) => iter_frozen W ⟨#[114, 114, 114]⟩ p g i
    have n0_ := fun W n ty hn => next_at (P := Try.prog) W ⟨#[114, 114, 114]⟩ 0 1 n 114 ty hn (by decide) (by decide) (by decide) rfl
    have n1_ := fun W n ty hn => next_at (P := Try.prog) W ⟨#[114, 114, 114]⟩ 1 2 n 114 ty hn (by decide) (by decide) (by decide) rfl
    have n2_ := fun W n ty hn => next_at (P := Try.prog) W ⟨#[114, 114, 114]⟩ 2 3 n 114 ty hn (by decide) (by decide) (by decide) rfl
    have n3_ := fun W n ty hn => next_end (P := Try.prog) W ⟨#[114, 114, 114]⟩ 3 n ty hn (by decide)
    go_wp2
    refine wp_loop_rounds 4 ?_
    all_goals (rw [rounds_succ]; go_wp2)
    any_goals (rw [rounds_succ]; go_wp2)
    any_goals (rw [rounds_succ]; go_wp2)
    any_goals (rw [rounds_succ]; go_wp2)
    all_goals (go_ret; refine ⟨ret_i64 ?_, ?_⟩)
    all_goals first
      | exact HB.out.alloc hz _
      | exact (HB.out.setCell (p := ⟨g, _, none⟩) hg1 _).alloc (by simp; omega) _
      | exact ((HB.out.setCell (p := ⟨g, _, none⟩) hg1 _).setCell (p := ⟨g, _, none⟩) hg1 _).alloc (by simp; omega) _
      | exact (((HB.out.setCell (p := ⟨g, _, none⟩) hg1 _).setCell (p := ⟨g, _, none⟩) hg1 _).setCell (p := ⟨g, _, none⟩) hg1 _).alloc (by simp; omega) _
      | (rw [oneK_pos (by simp only [xh_]; omega)])
      | (rw [yt_ (by simp only [xh_]; omega)])
      | (have hn : (n != 0) = true := by assumption
         rw [bne_iff_ne] at hn
         rw [yt_ (by simp only [xh_]; omega)])
      | (have hn : (n != 0) = false := by assumption
         rw [bne_eq_false_iff_eq] at hn
         rw [oneK_pos (by simp only [xh_]; omega)])
      | (have hn : (n != 0) = false := by assumption
         rw [bne_eq_false_iff_eq] at hn
         rw [yt_ (by simp only [xh_]; omega)])
set_option maxRecDepth 100000 in
set_option maxHeartbeats 4000000 in
theorem one_k2 (op a b c n : Int) (w : World) (a0 : 0 ≤ a) (a1 : a ≤ 255) (b0 : 0 ≤ b) (b1 : b ≤ 255) (c0 : 0 ≤ c) (c1 : c ≤ 255)
   (hform : ∀ w, Calls Try.prog 39 #[.int .u8 op] w fun e w' => e = .returned (.tuple #[.string ⟨#[]⟩, .bool true]) ∧ Below w.heap.size w w') :
    Calls Try.prog 97 #[.agg #[.int .u8 op, .int .u8 a, .int .u8 b, .int .u8 c, .int .i64 n]] w fun e w' => e = .returned (.int .i64 (oneK 2 a b c n)) ∧ Below w.heap.size w w' := by
  go_enter Try.func97, Try.ntmps97
  have HF := Lib.hid hform
  clear hform
  go_wp2_with fail
  refine (HF.out _).mono ?_
  rintro e w1 ⟨rfl, hb1⟩
  have hz1 := hb1.size
  simp at hz1
  have hz1' : w.heap.size < w1.heap.size := by omega
  have c1_ : ∀ o, w1.cell? ⟨w.heap.size, o, none⟩ = #[Value.int .u8 op, .int .u8 a, .int .u8 b, .int .u8 c, .int .i64 n][o]? := fun o => by
    rw [hb1.cell (p := ⟨w.heap.size, o, none⟩) (by simp)]; exact cell_of_row _ _ _ _ _ _ (heap_alloc_new w _)
  have HB1 := Lib.hid (((Below.refl _ w).alloc (Nat.le_refl _) _).trans (hb1.mono (by simp)))
  clear hb1 HF
  go_upto_region 4 with fail
  go_cut [5, 6] (fun p m W => ∃ g, p = .pointer (some ⟨g, 0, none⟩) ∧ m = .int .i64 n ∧ w.heap.size ≤ g ∧ g < W.heap.size ∧ Below w.heap.size w W ∧ W.cell? ⟨g, 0, none⟩ = some (.int .u8 a) ∧ W.cell? ⟨g, 1, none⟩ = some (.int .u8 b) ∧ W.cell? ⟨g, 2, none⟩ = some (.int .u8 c) ∧ (∀ o, W.frozen? ⟨g, o, none⟩ = false))
  case first =>
    go_region_held3 (fun W => Below w1.heap.size w1 W ∧ ∀ b o, b < w1.heap.size → W.cell? ⟨b, o, none⟩ = w1.cell? ⟨b, o, none⟩)
      (repeat' (first | exact preD | assumption | exact preR | refine preB ?_ hb2 | refine preE ?_ | refine preA ?_ _ | refine preS ?_ ?_ _ | omega | (simp; done) | (simp; omega)))
      ((go_at_call 124; refine (registers_c _ _ _ _ _ _).mono ?_; rintro e w2 ⟨rfl, hb2⟩; obtain ⟨hc2, hf2⟩ := bcell hb2; have hz2 := hb2.size; simp at hz2))
    all_goals (go_wp2_with fail; go_meet)
    all_goals refine ⟨_, rfl, rfl, ?_, ?_, HB1.out.trans (Below.mono (And.left (by assumption)) (by omega)), ?_, ?_, ?_, ?_⟩
    all_goals first | omega | (simp; omega) | go_simp | skip
  case rest =>
    obtain ⟨g, rfl, rfl, hg1, hg2, hB, h0, h1, h2, hf⟩ := hcut
    have hz := hB.size
    have HB := Lib.hid hB
    have e3 := fun x y z w => eq3 x y z 0 0 0 w
    clear hB HB1 c1_ hz1 hz1'
    have i1 := fun W (p i : Nat) v => iter_setCell W ⟨#[]⟩ p g i v
    have i2 := fun W (p i : Nat) => iter_cell W ⟨#[]⟩ p g i
    have i3 := fun W (p i : Nat) => iter_frozen W ⟨#[]⟩ p g i
    have n0_ := fun W n ty hn => next_end (P := Try.prog) W ⟨#[]⟩ 0 n ty hn (by decide)
    go_wp2
    refine wp_loop_rounds 1 ?_
    all_goals (rw [rounds_succ]; go_wp2)
    all_goals (go_ret; refine ⟨ret_i64 ?_, ?_⟩)
    all_goals first
      | exact HB.out.alloc hz _
      | exact (HB.out.setCell (p := ⟨g, _, none⟩) hg1 _).alloc (by simp; omega) _
      | exact ((HB.out.setCell (p := ⟨g, _, none⟩) hg1 _).setCell (p := ⟨g, _, none⟩) hg1 _).alloc (by simp; omega) _
      | exact (((HB.out.setCell (p := ⟨g, _, none⟩) hg1 _).setCell (p := ⟨g, _, none⟩) hg1 _).setCell (p := ⟨g, _, none⟩) hg1 _).alloc (by simp; omega) _
      | (rw [oneK_pos (by simp only [xh_]; omega)])
      | (rw [yt_ (by simp only [xh_]; omega)])
      | (have hn : (n != 0) = true := by assumption
         rw [bne_iff_ne] at hn
         rw [yt_ (by simp only [xh_]; omega)])
      | (have hn : (n != 0) = false := by assumption
         rw [bne_eq_false_iff_eq] at hn
         rw [oneK_pos (by simp only [xh_]; omega)])
      | (have hn : (n != 0) = false := by assumption
         rw [bne_eq_false_iff_eq] at hn
         rw [yt_ (by simp only [xh_]; omega)])
set_option maxRecDepth 100000 in
set_option maxHeartbeats 4000000 in
theorem one_k3 (op a b c n : Int) (w : World) (a0 : 0 ≤ a) (a1 : a ≤ 255) (b0 : 0 ≤ b) (b1 : b ≤ 255) (c0 : 0 ≤ c) (c1 : c ≤ 255)
   (hform : ∀ w, Calls Try.prog 39 #[.int .u8 op] w fun e w' => e = .returned (.tuple #[.string ⟨#[114, 110]⟩, .bool true]) ∧ Below w.heap.size w w') :
    Calls Try.prog 97 #[.agg #[.int .u8 op, .int .u8 a, .int .u8 b, .int .u8 c, .int .i64 n]] w fun e w' => e = .returned (.int .i64 (oneK 3 a b c n)) ∧ Below w.heap.size w w' := by
  go_enter Try.func97, Try.ntmps97
  have HF := Lib.hid hform
  clear hform
  go_wp2_with fail
  refine (HF.out _).mono ?_
  rintro e w1 ⟨rfl, hb1⟩
  have hz1 := hb1.size
  simp at hz1
  have hz1' : w.heap.size < w1.heap.size := by omega
  have c1_ : ∀ o, w1.cell? ⟨w.heap.size, o, none⟩ = #[Value.int .u8 op, .int .u8 a, .int .u8 b, .int .u8 c, .int .i64 n][o]? := fun o => by
    rw [hb1.cell (p := ⟨w.heap.size, o, none⟩) (by simp)]; exact cell_of_row _ _ _ _ _ _ (heap_alloc_new w _)
  have HB1 := Lib.hid (((Below.refl _ w).alloc (Nat.le_refl _) _).trans (hb1.mono (by simp)))
  clear hb1 HF
  go_upto_region 4 with fail
  go_cut [5, 6] (fun p m W => ∃ g, p = .pointer (some ⟨g, 0, none⟩) ∧ m = .int .i64 n ∧ w.heap.size ≤ g ∧ g < W.heap.size ∧ Below w.heap.size w W ∧ W.cell? ⟨g, 0, none⟩ = some (.int .u8 a) ∧ W.cell? ⟨g, 1, none⟩ = some (.int .u8 b) ∧ W.cell? ⟨g, 2, none⟩ = some (.int .u8 c) ∧ (∀ o, W.frozen? ⟨g, o, none⟩ = false))
  case first =>
    go_region_held3 (fun W => Below w1.heap.size w1 W ∧ ∀ b o, b < w1.heap.size → W.cell? ⟨b, o, none⟩ = w1.cell? ⟨b, o, none⟩)
      (repeat' (first | exact preD | assumption | exact preR | refine preB ?_ hb2 | refine preE ?_ | refine preA ?_ _ | refine preS ?_ ?_ _ | omega | (simp; done) | (simp; omega)))
      ((go_at_call 124; refine (registers_c _ _ _ _ _ _).mono ?_; rintro e w2 ⟨rfl, hb2⟩; obtain ⟨hc2, hf2⟩ := bcell hb2; have hz2 := hb2.size; simp at hz2))
    all_goals (go_wp2_with fail; go_meet)
    all_goals refine ⟨_, rfl, rfl, ?_, ?_, HB1.out.trans (Below.mono (And.left (by assumption)) (by omega)), ?_, ?_, ?_, ?_⟩
    all_goals first | omega | (simp; omega) | go_simp | skip
  case rest =>
    obtain ⟨g, rfl, rfl, hg1, hg2, hB, h0, h1, h2, hf⟩ := hcut
    have hz := hB.size
    have HB := Lib.hid hB
    have e3 := fun x y z w => eq3 x y z 0 0 0 w
    clear hB HB1 c1_ hz1 hz1'
    have i1 := fun W (p i : Nat) v => iter_setCell W ⟨#[114, 110]⟩ p g i v
    have i2 := fun W (p i : Nat) => iter_cell W ⟨#[114, 110]⟩ p g i
    have i3 := fun W (p i : Nat) => iter_frozen W ⟨#[114, 110]⟩ p g i
    have n0_ := fun W n ty hn => next_at (P := Try.prog) W ⟨#[114, 110]⟩ 0 1 n 114 ty hn (by decide) (by decide) (by decide) rfl
    have n1_ := fun W n ty hn => next_at (P := Try.prog) W ⟨#[114, 110]⟩ 1 2 n 110 ty hn (by decide) (by decide) (by decide) rfl
    have n2_ := fun W n ty hn => next_end (P := Try.prog) W ⟨#[114, 110]⟩ 2 n ty hn (by decide)
    go_wp2
    refine wp_loop_rounds 3 ?_
    all_goals (rw [rounds_succ]; go_wp2)
    any_goals (rw [rounds_succ]; go_wp2)
    any_goals (rw [rounds_succ]; go_wp2)
    all_goals (go_ret; refine ⟨ret_i64 ?_, ?_⟩)
    all_goals first
      | exact HB.out.alloc hz _
      | exact (HB.out.setCell (p := ⟨g, _, none⟩) hg1 _).alloc (by simp; omega) _
      | exact ((HB.out.setCell (p := ⟨g, _, none⟩) hg1 _).setCell (p := ⟨g, _, none⟩) hg1 _).alloc (by simp; omega) _
      | exact (((HB.out.setCell (p := ⟨g, _, none⟩) hg1 _).setCell (p := ⟨g, _, none⟩) hg1 _).setCell (p := ⟨g, _, none⟩) hg1 _).alloc (by simp; omega) _
      | (rw [oneK_pos (by simp only [xh_]; omega)])
      | (rw [yt_ (by simp only [xh_]; omega)])
      | (have hn : (n != 0) = true := by assumption
         rw [bne_iff_ne] at hn
         rw [yt_ (by simp only [xh_]; omega)])
      | (have hn : (n != 0) = false := by assumption
         rw [bne_eq_false_iff_eq] at hn
         rw [oneK_pos (by simp only [xh_]; omega)])
      | (have hn : (n != 0) = false := by assumption
         rw [bne_eq_false_iff_eq] at hn
         rw [yt_ (by simp only [xh_]; omega)])
set_option maxRecDepth 100000 in
set_option maxHeartbeats 4000000 in
theorem one_k4 (op a b c n : Int) (w : World) (a0 : 0 ≤ a) (a1 : a ≤ 255) (b0 : 0 ≤ b) (b1 : b ≤ 255) (c0 : 0 ≤ c) (c1 : c ≤ 255)
   (hform : ∀ w, Calls Try.prog 39 #[.int .u8 op] w fun e w' => e = .returned (.tuple #[.string ⟨#[114, 114]⟩, .bool true]) ∧ Below w.heap.size w w') :
    Calls Try.prog 97 #[.agg #[.int .u8 op, .int .u8 a, .int .u8 b, .int .u8 c, .int .i64 n]] w fun e w' => e = .returned (.int .i64 (oneK 4 a b c n)) ∧ Below w.heap.size w w' := by
  go_enter Try.func97, Try.ntmps97
  have HF := Lib.hid hform
  clear hform
  go_wp2_with fail
  refine (HF.out _).mono ?_
  rintro e w1 ⟨rfl, hb1⟩
  have hz1 := hb1.size
  simp at hz1
  have hz1' : w.heap.size < w1.heap.size := by omega
  have c1_ : ∀ o, w1.cell? ⟨w.heap.size, o, none⟩ = #[Value.int .u8 op, .int .u8 a, .int .u8 b, .int .u8 c, .int .i64 n][o]? := fun o => by
    rw [hb1.cell (p := ⟨w.heap.size, o, none⟩) (by simp)]; exact cell_of_row _ _ _ _ _ _ (heap_alloc_new w _)
  have HB1 := Lib.hid (((Below.refl _ w).alloc (Nat.le_refl _) _).trans (hb1.mono (by simp)))
  clear hb1 HF
  go_upto_region 4 with fail
  go_cut [5, 6] (fun p m W => ∃ g, p = .pointer (some ⟨g, 0, none⟩) ∧ m = .int .i64 n ∧ w.heap.size ≤ g ∧ g < W.heap.size ∧ Below w.heap.size w W ∧ W.cell? ⟨g, 0, none⟩ = some (.int .u8 a) ∧ W.cell? ⟨g, 1, none⟩ = some (.int .u8 b) ∧ W.cell? ⟨g, 2, none⟩ = some (.int .u8 c) ∧ (∀ o, W.frozen? ⟨g, o, none⟩ = false))
  case first =>
    go_region_held3 (fun W => Below w1.heap.size w1 W ∧ ∀ b o, b < w1.heap.size → W.cell? ⟨b, o, none⟩ = w1.cell? ⟨b, o, none⟩)
      (repeat' (first | exact preD | assumption | exact preR | refine preB ?_ hb2 | refine preE ?_ | refine preA ?_ _ | refine preS ?_ ?_ _ | omega | (simp; done) | (simp; omega)))
      ((go_at_call 124; refine (registers_c _ _ _ _ _ _).mono ?_; rintro e w2 ⟨rfl, hb2⟩; obtain ⟨hc2, hf2⟩ := bcell hb2; have hz2 := hb2.size; simp at hz2))
    all_goals (go_wp2_with fail; go_meet)
    all_goals refine ⟨_, rfl, rfl, ?_, ?_, HB1.out.trans (Below.mono (And.left (by assumption)) (by omega)), ?_, ?_, ?_, ?_⟩
    all_goals first | omega | (simp; omega) | go_simp | skip
  case rest =>
    obtain ⟨g, rfl, rfl, hg1, hg2, hB, h0, h1, h2, hf⟩ := hcut
    have hz := hB.size
    have HB := Lib.hid hB
    have e3 := fun x y z w => eq3 x y z 0 0 0 w
    clear hB HB1 c1_ hz1 hz1'
    have i1 := fun W (p i : Nat) v => iter_setCell W ⟨#[114, 114]⟩ p g i v
    have i2 := fun W (p i : Nat) => iter_cell W ⟨#[114, 114]⟩ p g i
    have i3 := fun W (p i : Nat) => iter_frozen W ⟨#[114, 114]⟩ p g i
    have n0_ := fun W n ty hn => next_at (P := Try.prog) W ⟨#[114, 114]⟩ 0 1 n 114 ty hn (by decide) (by decide) (by decide) rfl
    have n1_ := fun W n ty hn => next_at (P := Try.prog) W ⟨#[114, 114]⟩ 1 2 n 114 ty hn (by decide) (by decide) (by decide) rfl
    have n2_ := fun W n ty hn => next_end (P := Try.prog) W ⟨#[114, 114]⟩ 2 n ty hn (by decide)
    go_wp2
    refine wp_loop_rounds 3 ?_
    all_goals (rw [rounds_succ]; go_wp2)
    any_goals (rw [rounds_succ]; go_wp2)
    any_goals (rw [rounds_succ]; go_wp2)
    all_goals (go_ret; refine ⟨ret_i64 ?_, ?_⟩)
    all_goals first
      | exact HB.out.alloc hz _
      | exact (HB.out.setCell (p := ⟨g, _, none⟩) hg1 _).alloc (by simp; omega) _
      | exact ((HB.out.setCell (p := ⟨g, _, none⟩) hg1 _).setCell (p := ⟨g, _, none⟩) hg1 _).alloc (by simp; omega) _
      | exact (((HB.out.setCell (p := ⟨g, _, none⟩) hg1 _).setCell (p := ⟨g, _, none⟩) hg1 _).setCell (p := ⟨g, _, none⟩) hg1 _).alloc (by simp; omega) _
      | (rw [oneK_pos (by simp only [xh_]; omega)])
      | (rw [yt_ (by simp only [xh_]; omega)])
      | (have hn : (n != 0) = true := by assumption
         rw [bne_iff_ne] at hn
         rw [yt_ (by simp only [xh_]; omega)])
      | (have hn : (n != 0) = false := by assumption
         rw [bne_eq_false_iff_eq] at hn
         rw [oneK_pos (by simp only [xh_]; omega)])
      | (have hn : (n != 0) = false := by assumption
         rw [bne_eq_false_iff_eq] at hn
         rw [yt_ (by simp only [xh_]; omega)])
set_option maxRecDepth 100000 in
set_option maxHeartbeats 4000000 in
theorem one_k5 (op a b c n : Int) (w : World) (a0 : 0 ≤ a) (a1 : a ≤ 255) (b0 : 0 ≤ b) (b1 : b ≤ 255) (c0 : 0 ≤ c) (c1 : c ≤ 255)
   (hform : ∀ w, Calls Try.prog 39 #[.int .u8 op] w fun e w' => e = .returned (.tuple #[.string ⟨#[114, 114, 112]⟩, .bool true]) ∧ Below w.heap.size w w') :
    Calls Try.prog 97 #[.agg #[.int .u8 op, .int .u8 a, .int .u8 b, .int .u8 c, .int .i64 n]] w fun e w' => e = .returned (.int .i64 (oneK 5 a b c n)) ∧ Below w.heap.size w w' := by
  go_enter Try.func97, Try.ntmps97
  have HF := Lib.hid hform
  clear hform
  go_wp2_with fail
  refine (HF.out _).mono ?_
  rintro e w1 ⟨rfl, hb1⟩
  have hz1 := hb1.size
  simp at hz1
  have hz1' : w.heap.size < w1.heap.size := by omega
  have c1_ : ∀ o, w1.cell? ⟨w.heap.size, o, none⟩ = #[Value.int .u8 op, .int .u8 a, .int .u8 b, .int .u8 c, .int .i64 n][o]? := fun o => by
    rw [hb1.cell (p := ⟨w.heap.size, o, none⟩) (by simp)]; exact cell_of_row _ _ _ _ _ _ (heap_alloc_new w _)
  have HB1 := Lib.hid (((Below.refl _ w).alloc (Nat.le_refl _) _).trans (hb1.mono (by simp)))
  clear hb1 HF
  go_upto_region 4 with fail
  go_cut [5, 6] (fun p m W => ∃ g, p = .pointer (some ⟨g, 0, none⟩) ∧ m = .int .i64 n ∧ w.heap.size ≤ g ∧ g < W.heap.size ∧ Below w.heap.size w W ∧ W.cell? ⟨g, 0, none⟩ = some (.int .u8 a) ∧ W.cell? ⟨g, 1, none⟩ = some (.int .u8 b) ∧ W.cell? ⟨g, 2, none⟩ = some (.int .u8 c) ∧ (∀ o, W.frozen? ⟨g, o, none⟩ = false))
  case first =>
    go_region_held3 (fun W => Below w1.heap.size w1 W ∧ ∀ b o, b < w1.heap.size → W.cell? ⟨b, o, none⟩ = w1.cell? ⟨b, o, none⟩)
      (repeat' (first | exact preD | assumption | exact preR | refine preB ?_ hb2 | refine preE ?_ | refine preA ?_ _ | refine preS ?_ ?_ _ | omega | (simp; done) | (simp; omega)))
      ((go_at_call 124; refine (registers_c _ _ _ _ _ _).mono ?_; rintro e w2 ⟨rfl, hb2⟩; obtain ⟨hc2, hf2⟩ := bcell hb2; have hz2 := hb2.size; simp at hz2))
    all_goals (go_wp2_with fail; go_meet)
    all_goals refine ⟨_, rfl, rfl, ?_, ?_, HB1.out.trans (Below.mono (And.left (by assumption)) (by omega)), ?_, ?_, ?_, ?_⟩
    all_goals first | omega | (simp; omega) | go_simp | skip
  case rest =>
    obtain ⟨g, rfl, rfl, hg1, hg2, hB, h0, h1, h2, hf⟩ := hcut
    have hz := hB.size
    have HB := Lib.hid hB
    have e3 := fun x y z w => eq3 x y z 0 0 0 w
    clear hB HB1 c1_ hz1 hz1'
    have i1 := fun W (p i : Nat) v => iter_setCell W ⟨#[114, 114, 112]⟩ p g i v
    have i2 := fun W (p i : Nat) => iter_cell W ⟨#[114, 114, 112]⟩ p g i
    have i3 := fun W (p i : Nat) => iter_frozen W ⟨#[114, 114, 112]⟩ p g i
    have n0_ := fun W n ty hn => next_at (P := Try.prog) W ⟨#[114, 114, 112]⟩ 0 1 n 114 ty hn (by decide) (by decide) (by decide) rfl
    have n1_ := fun W n ty hn => next_at (P := Try.prog) W ⟨#[114, 114, 112]⟩ 1 2 n 114 ty hn (by decide) (by decide) (by decide) rfl
    have n2_ := fun W n ty hn => next_at (P := Try.prog) W ⟨#[114, 114, 112]⟩ 2 3 n 112 ty hn (by decide) (by decide) (by decide) rfl
    have n3_ := fun W n ty hn => next_end (P := Try.prog) W ⟨#[114, 114, 112]⟩ 3 n ty hn (by decide)
    go_wp2
    refine wp_loop_rounds 4 ?_
    all_goals (rw [rounds_succ]; go_wp2)
    any_goals (rw [rounds_succ]; go_wp2)
    any_goals (rw [rounds_succ]; go_wp2)
    any_goals (rw [rounds_succ]; go_wp2)
    all_goals (go_ret; refine ⟨ret_i64 ?_, ?_⟩)
    all_goals first
      | exact HB.out.alloc hz _
      | exact (HB.out.setCell (p := ⟨g, _, none⟩) hg1 _).alloc (by simp; omega) _
      | exact ((HB.out.setCell (p := ⟨g, _, none⟩) hg1 _).setCell (p := ⟨g, _, none⟩) hg1 _).alloc (by simp; omega) _
      | exact (((HB.out.setCell (p := ⟨g, _, none⟩) hg1 _).setCell (p := ⟨g, _, none⟩) hg1 _).setCell (p := ⟨g, _, none⟩) hg1 _).alloc (by simp; omega) _
      | (rw [oneK_pos (by simp only [xh_]; omega)])
      | (rw [yt_ (by simp only [xh_]; omega)])
      | (have hn : (n != 0) = true := by assumption
         rw [bne_iff_ne] at hn
         rw [yt_ (by simp only [xh_]; omega)])
      | (have hn : (n != 0) = false := by assumption
         rw [bne_eq_false_iff_eq] at hn
         rw [oneK_pos (by simp only [xh_]; omega)])
      | (have hn : (n != 0) = false := by assumption
         rw [bne_eq_false_iff_eq] at hn
         rw [yt_ (by simp only [xh_]; omega)])
set_option maxRecDepth 100000 in
set_option maxHeartbeats 4000000 in
theorem one_k6 (op a b c n : Int) (w : World) (a0 : 0 ≤ a) (a1 : a ≤ 255) (b0 : 0 ≤ b) (b1 : b ≤ 255) (c0 : 0 ≤ c) (c1 : c ≤ 255)
   (hform : ∀ w, Calls Try.prog 39 #[.int .u8 op] w fun e w' => e = .returned (.tuple #[.string ⟨#[116]⟩, .bool true]) ∧ Below w.heap.size w w') :
    Calls Try.prog 97 #[.agg #[.int .u8 op, .int .u8 a, .int .u8 b, .int .u8 c, .int .i64 n]] w fun e w' => e = .returned (.int .i64 (oneK 6 a b c n)) ∧ Below w.heap.size w w' := by
  go_enter Try.func97, Try.ntmps97
  have HF := Lib.hid hform
  clear hform
  go_wp2_with fail
  refine (HF.out _).mono ?_
  rintro e w1 ⟨rfl, hb1⟩
  have hz1 := hb1.size
  simp at hz1
  have hz1' : w.heap.size < w1.heap.size := by omega
  have c1_ : ∀ o, w1.cell? ⟨w.heap.size, o, none⟩ = #[Value.int .u8 op, .int .u8 a, .int .u8 b, .int .u8 c, .int .i64 n][o]? := fun o => by
    rw [hb1.cell (p := ⟨w.heap.size, o, none⟩) (by simp)]; exact cell_of_row _ _ _ _ _ _ (heap_alloc_new w _)
  have HB1 := Lib.hid (((Below.refl _ w).alloc (Nat.le_refl _) _).trans (hb1.mono (by simp)))
  clear hb1 HF
  go_upto_region 4 with fail
  go_cut [5, 6] (fun p m W => ∃ g, p = .pointer (some ⟨g, 0, none⟩) ∧ m = .int .i64 n ∧ w.heap.size ≤ g ∧ g < W.heap.size ∧ Below w.heap.size w W ∧ W.cell? ⟨g, 0, none⟩ = some (.int .u8 a) ∧ W.cell? ⟨g, 1, none⟩ = some (.int .u8 b) ∧ W.cell? ⟨g, 2, none⟩ = some (.int .u8 c) ∧ (∀ o, W.frozen? ⟨g, o, none⟩ = false))
  case first =>
    go_region_held3 (fun W => Below w1.heap.size w1 W ∧ ∀ b o, b < w1.heap.size → W.cell? ⟨b, o, none⟩ = w1.cell? ⟨b, o, none⟩)
      (repeat' (first | exact preD | assumption | exact preR | refine preB ?_ hb2 | refine preE ?_ | refine preA ?_ _ | refine preS ?_ ?_ _ | omega | (simp; done) | (simp; omega)))
      ((go_at_call 124; refine (registers_c _ _ _ _ _ _).mono ?_; rintro e w2 ⟨rfl, hb2⟩; obtain ⟨hc2, hf2⟩ := bcell hb2; have hz2 := hb2.size; simp at hz2))
    all_goals (go_wp2_with fail; go_meet)
    all_goals refine ⟨_, rfl, rfl, ?_, ?_, HB1.out.trans (Below.mono (And.left (by assumption)) (by omega)), ?_, ?_, ?_, ?_⟩
    all_goals first | omega | (simp; omega) | go_simp | skip
  case rest =>
    obtain ⟨g, rfl, rfl, hg1, hg2, hB, h0, h1, h2, hf⟩ := hcut
    have hz := hB.size
    have HB := Lib.hid hB
    have e3 := fun x y z w => eq3 x y z 0 0 0 w
    clear hB HB1 c1_ hz1 hz1'
    have i1 := fun W (p i : Nat) v => iter_setCell W ⟨#[116]⟩ p g i v
    have i2 := fun W (p i : Nat) => iter_cell W ⟨#[116]⟩ p g i
    have i3 := fun W (p i : Nat) => iter_frozen W ⟨#[116]⟩ p g i
    have n0_ := fun W n ty hn => next_at (P := Try.prog) W ⟨#[116]⟩ 0 1 n 116 ty hn (by decide) (by decide) (by decide) rfl
    have n1_ := fun W n ty hn => next_end (P := Try.prog) W ⟨#[116]⟩ 1 n ty hn (by decide)
    go_wp2
    refine wp_loop_rounds 2 ?_
    all_goals (rw [rounds_succ]; go_wp2)
    any_goals (rw [rounds_succ]; go_wp2)
    all_goals (go_ret; refine ⟨ret_i64 ?_, ?_⟩)
    all_goals first
      | exact HB.out.alloc hz _
      | exact (HB.out.setCell (p := ⟨g, _, none⟩) hg1 _).alloc (by simp; omega) _
      | exact ((HB.out.setCell (p := ⟨g, _, none⟩) hg1 _).setCell (p := ⟨g, _, none⟩) hg1 _).alloc (by simp; omega) _
      | exact (((HB.out.setCell (p := ⟨g, _, none⟩) hg1 _).setCell (p := ⟨g, _, none⟩) hg1 _).setCell (p := ⟨g, _, none⟩) hg1 _).alloc (by simp; omega) _
      | (rw [oneK_pos (by simp only [xh_]; omega)])
      | (rw [yt_ (by simp only [xh_]; omega)])
      | (have hn : (n != 0) = true := by assumption
         rw [bne_iff_ne] at hn
         rw [yt_ (by simp only [xh_]; omega)])
      | (have hn : (n != 0) = false := by assumption
         rw [bne_eq_false_iff_eq] at hn
         rw [oneK_pos (by simp only [xh_]; omega)])
      | (have hn : (n != 0) = false := by assumption
         rw [bne_eq_false_iff_eq] at hn
         rw [yt_ (by simp only [xh_]; omega)])
set_option maxRecDepth 100000 in
set_option maxHeartbeats 4000000 in
theorem one_k7 (op a b c n : Int) (w : World) (a0 : 0 ≤ a) (a1 : a ≤ 255) (b0 : 0 ≤ b) (b1 : b ≤ 255) (c0 : 0 ≤ c) (c1 : c ≤ 255)
   (hform : ∀ w, Calls Try.prog 39 #[.int .u8 op] w fun e w' => e = .returned (.tuple #[.string ⟨#[114, 116]⟩, .bool true]) ∧ Below w.heap.size w w') :
    Calls Try.prog 97 #[.agg #[.int .u8 op, .int .u8 a, .int .u8 b, .int .u8 c, .int .i64 n]] w fun e w' => e = .returned (.int .i64 (oneK 7 a b c n)) ∧ Below w.heap.size w w' := by
  go_enter Try.func97, Try.ntmps97
  have HF := Lib.hid hform
  clear hform
  go_wp2_with fail
  refine (HF.out _).mono ?_
  rintro e w1 ⟨rfl, hb1⟩
  have hz1 := hb1.size
  simp at hz1
  have hz1' : w.heap.size < w1.heap.size := by omega
  have c1_ : ∀ o, w1.cell? ⟨w.heap.size, o, none⟩ = #[Value.int .u8 op, .int .u8 a, .int .u8 b, .int .u8 c, .int .i64 n][o]? := fun o => by
    rw [hb1.cell (p := ⟨w.heap.size, o, none⟩) (by simp)]; exact cell_of_row _ _ _ _ _ _ (heap_alloc_new w _)
  have HB1 := Lib.hid (((Below.refl _ w).alloc (Nat.le_refl _) _).trans (hb1.mono (by simp)))
  clear hb1 HF
  go_upto_region 4 with fail
  go_cut [5, 6] (fun p m W => ∃ g, p = .pointer (some ⟨g, 0, none⟩) ∧ m = .int .i64 n ∧ w.heap.size ≤ g ∧ g < W.heap.size ∧ Below w.heap.size w W ∧ W.cell? ⟨g, 0, none⟩ = some (.int .u8 a) ∧ W.cell? ⟨g, 1, none⟩ = some (.int .u8 b) ∧ W.cell? ⟨g, 2, none⟩ = some (.int .u8 c) ∧ (∀ o, W.frozen? ⟨g, o, none⟩ = false))
  case first =>
    go_region_held3 (fun W => Below w1.heap.size w1 W ∧ ∀ b o, b < w1.heap.size → W.cell? ⟨b, o, none⟩ = w1.cell? ⟨b, o, none⟩)
      (repeat' (first | exact preD | assumption | exact preR | refine preB ?_ hb2 | refine preE ?_ | refine preA ?_ _ | refine preS ?_ ?_ _ | omega | (simp; done) | (simp; omega)))
      ((go_at_call 124; refine (registers_c _ _ _ _ _ _).mono ?_; rintro e w2 ⟨rfl, hb2⟩; obtain ⟨hc2, hf2⟩ := bcell hb2; have hz2 := hb2.size; simp at hz2))
    all_goals (go_wp2_with fail; go_meet)
    all_goals refine ⟨_, rfl, rfl, ?_, ?_, HB1.out.trans (Below.mono (And.left (by assumption)) (by omega)), ?_, ?_, ?_, ?_⟩
    all_goals first | omega | (simp; omega) | go_simp | skip
  case rest =>
    obtain ⟨g, rfl, rfl, hg1, hg2, hB, h0, h1, h2, hf⟩ := hcut
    have hz := hB.size
    have HB := Lib.hid hB
    have e3 := fun x y z w => eq3 x y z 0 0 0 w
    clear hB HB1 c1_ hz1 hz1'
    have i1 := fun W (p i : Nat) v => iter_setCell W ⟨#[114, 116]⟩ p g i v
    have i2 := fun W (p i : Nat) => iter_cell W ⟨#[114, 116]⟩ p g i
    have i3 := fun W (p i : Nat) => iter_frozen W ⟨#[114, 116]⟩ p g i
    have n0_ := fun W n ty hn => next_at (P := Try.prog) W ⟨#[114, 116]⟩ 0 1 n 114 ty hn (by decide) (by decide) (by decide) rfl
    have n1_ := fun W n ty hn => next_at (P := Try.prog) W ⟨#[114, 116]⟩ 1 2 n 116 ty hn (by decide) (by decide) (by decide) rfl
    have n2_ := fun W n ty hn => next_end (P := Try.prog) W ⟨#[114, 116]⟩ 2 n ty hn (by decide)
    go_wp2
    refine wp_loop_rounds 3 ?_
    all_goals (rw [rounds_succ]; go_wp2)
    any_goals (rw [rounds_succ]; go_wp2)
    any_goals (rw [rounds_succ]; go_wp2)
    all_goals (go_ret; refine ⟨ret_i64 ?_, ?_⟩)
    all_goals first
      | exact HB.out.alloc hz _
      | exact (HB.out.setCell (p := ⟨g, _, none⟩) hg1 _).alloc (by simp; omega) _
      | exact ((HB.out.setCell (p := ⟨g, _, none⟩) hg1 _).setCell (p := ⟨g, _, none⟩) hg1 _).alloc (by simp; omega) _
      | exact (((HB.out.setCell (p := ⟨g, _, none⟩) hg1 _).setCell (p := ⟨g, _, none⟩) hg1 _).setCell (p := ⟨g, _, none⟩) hg1 _).alloc (by simp; omega) _
      | (rw [oneK_pos (by simp only [xh_]; omega)])
      | (rw [yt_ (by simp only [xh_]; omega)])
      | (have hn : (n != 0) = true := by assumption
         rw [bne_iff_ne] at hn
         rw [yt_ (by simp only [xh_]; omega)])
      | (have hn : (n != 0) = false := by assumption
         rw [bne_eq_false_iff_eq] at hn
         rw [oneK_pos (by simp only [xh_]; omega)])
      | (have hn : (n != 0) = false := by assumption
         rw [bne_eq_false_iff_eq] at hn
         rw [yt_ (by simp only [xh_]; omega)])
set_option maxHeartbeats 1000000 in
theorem one_k0 (op a b c n : Int) (w : World)
   (hform : ∀ w, Calls Try.prog 39 #[.int .u8 op] w fun e w' => e = .returned (.tuple #[.string ⟨#[]⟩, .bool false]) ∧ Below w.heap.size w w') :
    Calls Try.prog 97 #[.agg #[.int .u8 op, .int .u8 a, .int .u8 b, .int .u8 c, .int .i64 n]] w fun e w' => e = .returned (.int .i64 140) ∧ Below w.heap.size w w' := by
  go_enter Try.func97, Try.ntmps97
  have HF := Lib.hid hform
  clear hform
  go_wp2_with fail
  refine (HF.out _).mono ?_
  rintro e w1 ⟨rfl, hb1⟩
  go_wp2
  go_ret
  exact ⟨rfl, ((Below.refl _ w).alloc (Nat.le_refl _) _).trans (hb1.mono (by simp))⟩
theorem form_c (op : Int) (h0 : 0 ≤ op) (w : World) : Calls Try.prog 39 #[.int .u8 op] w fun e w' => e = .returned (.tuple #[.string (z1_ (y0_ op)), .bool (y0_ op != 0)]) ∧ Below w.heap.size w w' := by
 by_cases h : 32 < op
 ·by_cases h' : op ≤ 49
  ·have hc : y0_ op = 1 := by unfold y0_; rw [if_pos ⟨h, h'⟩]
   rw [hc]
   exact form_rrr op w h h'
  ·exact form_hi op w (by omega)
 ·exact form_lo op w h0 (by omega)
theorem one_c (i : Ins) (hi : i.ok) (w : World) : Calls Try.prog 97 #[i.v] w fun e w' => e = .returned (.int .i64 (oneE i)) ∧ Below w.heap.size w w' := by
 obtain ⟨op, a, b, c, n⟩ := i
 obtain ⟨o0, o1, a0, a1, b0, b1, c0, c1, n0, n1⟩ := hi
 dsimp only at *
 have hf := form_c op o0
 unfold Ins.v oneE
 dsimp only
 have hk : y0_ op = 0 ∨ y0_ op = 1 ∨ y0_ op = 2 ∨ y0_ op = 3 ∨ y0_ op = 4 ∨ y0_ op = 5 ∨ y0_ op = 6 ∨ y0_ op = 7 := by
  unfold y0_; repeat (first | (split; · simp) | simp)
 rcases hk with h | h | h | h | h | h | h | h <;> rw [h] at hf <;> rw [h]
 ·exact one_k0 op a b c n w hf
 ·exact one_k1 op a b c n w a0 a1 b0 b1 c0 c1 hf
 ·exact one_k2 op a b c n w a0 a1 b0 b1 c0 c1 hf
 ·exact one_k3 op a b c n w a0 a1 b0 b1 c0 c1 hf
 ·exact one_k4 op a b c n w a0 a1 b0 b1 c0 c1 hf
 ·exact one_k5 op a b c n w a0 a1 b0 b1 c0 c1 hf
 ·exact one_k6 op a b c n w a0 a1 b0 b1 c0 c1 hf
 ·exact one_k7 op a b c n w a0 a1 b0 b1 c0 c1 hf
def goesB (i : Ins) : Bool := oneE i == 0 && (i.op != 1 && (i.op != 2 && i.op != 9))
set_option maxRecDepth 100000 in
set_option maxHeartbeats 1000000 in
theorem goes_c (i : Ins) (hi : i.ok) (w : World) : Calls Try.prog 99 #[i.v] w fun e w' => e = .returned (.bool (goesB i)) ∧ Below w.heap.size w w' := by
 have h1 := fun w => one_c i hi w
 obtain ⟨E, hE⟩ : ∃ E, E = oneE i := ⟨_, rfl⟩
 unfold goesB
 rw [← hE] at h1 ⊢
 obtain ⟨op, a, b, c, n⟩ := i
 unfold Ins.v at h1 ⊢
 dsimp only at h1 ⊢
 have H1 := Lib.hid h1
 clear h1 hE hi
 go_enter Try.func99, Try.ntmps99
 go_wp2_with fail
 refine (H1.out _).mono ?_
 rintro e w1 ⟨rfl, hb1⟩
 have hB := Lib.hid (((Below.refl _ w).alloc (Nat.le_refl _) _).trans (hb1.mono (by simp)))
 have q0 : w1.cell? ⟨w.heap.size, 0, none⟩ = some (.int .u8 op) := by
  rw [hb1.cell (p := ⟨w.heap.size, 0, none⟩) (by simp)]; exact cell_of_row _ _ _ _ _ _ (heap_alloc_new w _)
 clear hb1
 go_wp2
 all_goals (go_ret; refine ⟨?_, hB.out⟩)
 all_goals first | (simp [*]; done) | (simp [*, Bool.and_assoc]; done)
def targB (i : Ins) : Bool := oneE i == 0 && (i.op == 9 || (i.op == 10 || i.op == 11))
def targV (i : Ins) : Int := if targB i then i.n else 0
set_option maxRecDepth 100000 in
set_option maxHeartbeats 1000000 in
theorem target_c (i : Ins) (hi : i.ok) (w : World) : Calls Try.prog 98 #[i.v] w fun e w' => e = .returned (.tuple #[.int .i64 (targV i), .bool (targB i)]) ∧ Below w.heap.size w w' := by
 have h1 := fun w => one_c i hi w
 obtain ⟨E, hE⟩ : ∃ E, E = oneE i := ⟨_, rfl⟩
 obtain ⟨V, hV⟩ : ∃ V, V = targV i := ⟨_, rfl⟩
 obtain ⟨T, hT⟩ : ∃ T, T = targB i := ⟨_, rfl⟩
 have hV' := hV
 unfold targV at hV'
 rw [← hT] at hV'
 have hT' := hT
 unfold targB at hT'
 rw [← hE] at h1 hT'
 rw [← hT, ← hV]
 obtain ⟨op, a, b, c, n⟩ := i
 unfold Ins.v at h1 ⊢
 dsimp only at h1 hT' hV' ⊢
 have H1 := Lib.hid h1
 have HT := Lib.hid hT'
 have HV := Lib.hid hV'
 clear h1 hE hi hT hT' hV hV'
 go_enter Try.func98, Try.ntmps98
 go_wp2_with fail
 refine (H1.out _).mono ?_
 rintro e w1 ⟨rfl, hb1⟩
 have hB := Lib.hid (((Below.refl _ w).alloc (Nat.le_refl _) _).trans (hb1.mono (by simp)))
 have q0 : w1.cell? ⟨w.heap.size, 0, none⟩ = some (.int .u8 op) := by
  rw [hb1.cell (p := ⟨w.heap.size, 0, none⟩) (by simp)]; exact cell_of_row _ _ _ _ _ _ (heap_alloc_new w _)
 have q4 : w1.cell? ⟨w.heap.size, 4, none⟩ = some (.int .i64 n) := by
  rw [hb1.cell (p := ⟨w.heap.size, 4, none⟩) (by simp)]; exact cell_of_row _ _ _ _ _ _ (heap_alloc_new w _)
 clear hb1
 go_wp2
 all_goals go_ret2
 all_goals refine ⟨?_, hB.out⟩
 all_goals rw [HV.out, HT.out]
 all_goals first | (simp [*]; done) | (simp_all; done) | ((have hq : ((op != 9) = false ∨ (op != 10) = false) ∨ (op != 11) = false := (by assumption)); simp at hq; (have h11 : op = 11 := (by omega)); simp [*]; done)
def badAt (n : Int) (i : Ins) : Int := if oneE i ≠ 0 then oneE i else if targB i = true ∧ n ≤ targV i then 142 else 0
def checkK (p : List Ins) : Int × Int :=
 match p.findIdx? (fun i => badAt p.length i != 0) with
 | some k => (k, badAt p.length (p.getD k ⟨0, 0, 0, 0, 0⟩))
 | none => if goesB (p.getD (p.length - 1) ⟨0, 0, 0, 0, 0⟩) then ((p.length : Int) - 1, 143) else (-1, 0)
def checkI (p : List Ins) : Int × Int := if p.length = 0 then (-1, 6) else if 256 < p.length then (-1, 5) else checkK p
theorem checkK_bad {p : List Ins} {j : Nat} {x : Ins} {v : Int} (h : ∀ i, i < j → ∀ y, p[i]? = some y → badAt p.length y = 0) (hx : p[j]? = some x) (hv : badAt p.length x = v) (hn : v ≠ 0) : checkK p = ((j : Int), v) := by
 have hj : j < p.length := (List.getElem?_eq_some_iff.1 hx).1
 have hf : p.findIdx? (fun i => badAt p.length i != 0) = some j := by
  rw [List.findIdx?_eq_some_iff_getElem]
  refine ⟨hj, ?_, fun i hi => ?_⟩
  ·have : p[j] = x := (List.getElem?_eq_some_iff.1 hx).2
   rw [this, hv]; simpa using hn
  ·simp [h i hi _ (List.getElem?_eq_getElem (by omega))]
 unfold checkK
 rw [hf]
 simp [List.getD, hx, hv]
theorem checkK_none {p : List Ins} (h : ∀ i, i < p.length → ∀ y, p[i]? = some y → badAt p.length y = 0) : checkK p = if goesB (p.getD (p.length - 1) ⟨0, 0, 0, 0, 0⟩) then ((p.length : Int) - 1, 143) else (-1, 0) := by
 have hf : p.findIdx? (fun i => badAt p.length i != 0) = none := by
  rw [List.findIdx?_eq_none_iff]
  intro x hx
  obtain ⟨i, hi, rfl⟩ := List.getElem_of_mem hx
  simp [h i hi _ (List.getElem?_eq_getElem hi)]
 unfold checkK
 rw [hf]
set_option maxRecDepth 100000 in
set_option maxHeartbeats 2000000 in
theorem check_mid (A : Option Addr) (n c : Nat) (p : List Ins) (hok : ∀ i ∈ p, i.ok) (w : World) (h : yx_ w w.heap.size 5 A n (insV p)) (h0 : ((n : Int) == 0) = false) (h0' : 0 < n) (h1 : n ≤ 256) :
  Calls Try.prog 55 #[.slice A n c] w fun e w' => e = .returned (.tuple #[.int .i64 (checkK p).1, .int .i64 (checkK p).2]) ∧ Below w.heap.size w w' := by
 have hpl := h.ins_len
 have HL := Lib.hid hpl
 clear hpl
 go_enter Try.func55, Try.ntmps55
 go_wp2
 go_loopw [4, 5, 6, 7, 8, 20] (fun _ _ _ _ _ k wr => ∃ j : Nat, k = .int .i64 j ∧ j ≤ n ∧ (∀ i, i < j → ∀ y, p[i]? = some y → badAt n y = 0) ∧ Below w.heap.size w wr) (fun _ _ _ _ _ k _ => n - (intOf k).toNat)
 case atStart => exact ⟨0, rfl, by omega, fun i hi => by omega, Below.refl _ _⟩
 case round =>
  obtain ⟨j, rfl, hj, hbad, hb⟩ := hrel
  have HBad := Lib.hid hbad
  clear hbad
  by_cases hlt : j < n
  ·obtain ⟨b, o, x, rfl, hl1, hx, hc0, hc1, hc2, hc3, hc4⟩ := (h.below hb).ins_at hlt
   have hxok := hok x (List.mem_of_getElem? hx)
   obtain ⟨op, a, b', c', m⟩ := x
   have HX := Lib.hid hx
   have HO := Lib.hid hxok
   have HB := Lib.hid hb
   have hz := hb.size
   clear hb hx h hxok hok
   dsimp only at hc0 hc1 hc2 hc3 hc4
   obtain ⟨I, hI⟩ : ∃ I : Ins, I = ⟨op, a, b', c', m⟩ := ⟨_, rfl⟩
   rw [← hI] at HO HX
   have HI := Lib.hid hI
   clear hI
   have h1 : ∀ w, Calls Try.prog 97 #[.agg #[.int .u8 op, .int .u8 a, .int .u8 b', .int .u8 c', .int .i64 m]] w fun e w' => e = .returned (.int .i64 (oneE I)) ∧ Below w.heap.size w w' := fun w => by
    have := one_c I HO.out w; rw [HI.out] at this ⊢; exact this
   have h2 : ∀ w, Calls Try.prog 98 #[.agg #[.int .u8 op, .int .u8 a, .int .u8 b', .int .u8 c', .int .i64 m]] w fun e w' => e = .returned (.tuple #[.int .i64 (targV I), .bool (targB I)]) ∧ Below w.heap.size w w' := fun w => by
    have := target_c I HO.out w; rw [HI.out] at this ⊢; exact this
   have hbadE : badAt n I = if oneE I ≠ 0 then oneE I else if targB I = true ∧ (n : Int) ≤ targV I then 142 else 0 := rfl
   obtain ⟨V, hV⟩ : ∃ V, V = targV I := ⟨_, rfl⟩
   obtain ⟨T, hT⟩ : ∃ T, T = targB I := ⟨_, rfl⟩
   obtain ⟨E, hE⟩ : ∃ E, E = oneE I := ⟨_, rfl⟩
   rw [← hE] at h1 hbadE
   rw [← hV, ← hT] at h2 hbadE
   have H1 := Lib.hid h1
   have H2 := Lib.hid h2
   have HE := Lib.hid hbadE
   clear h1 h2 hbadE hV hT hE
   go_wp2_with fail
   refine (H1.out _).mono ?_
   rintro e w2 ⟨rfl, hb2⟩
   have hz2 := hb2.size
   simp at hz2
   have q : ∀ k u, #[Value.int .u8 op, .int .u8 a, .int .u8 b', .int .u8 c', .int .i64 m][k]? = some u → w2.cell? ⟨wr.heap.size, k, none⟩ = some u := fun k u hu => by
    rw [hb2.cell (p := ⟨wr.heap.size, k, none⟩) (by simp), cell_of_row _ _ _ _ _ _ (heap_alloc_new wr _)]; exact hu
   have q0 := q 0 _ rfl
   have q1 := q 1 _ rfl
   have q2 := q 2 _ rfl
   have q3 := q 3 _ rfl
   have q4 := q 4 _ rfl
   have HB2 := Lib.hid ((HB.out.alloc hz _).trans (hb2.mono (by simp; omega)))
   clear q hb2
   by_cases hE0 : E = 0
   ·subst hE0
    go_wp2_with fail
    refine (H2.out _).mono ?_
    rintro e w3 ⟨rfl, hb3⟩
    have hz3 := hb3.size
    have HB3 := Lib.hid (HB2.out.trans (hb3.mono (by omega)))
    clear hb3
    by_cases hbad : T = true ∧ (n : Int) ≤ V
    ·obtain ⟨rfl, hnV⟩ := hbad
     go_wp2
     go_ret2
     refine ⟨?_, HB3.out⟩
     have hv : badAt p.length I = 142 := by rw [HL.out, HE.out]; simp [hnV]
     rw [checkK_bad (by rw [HL.out]; exact HBad.out) HX.out hv (by decide)]
     rfl
    ·cases T with
     | false =>
      go_wp2
      go_roundw
      case rel => 
       refine ⟨j + 1, by go_num, by omega, fun i hi y hy => ?_, HB3.out⟩
       by_cases hij : i < j
       ·exact HBad.out i hij y hy
       ·obtain rfl : i = j := by omega
        rw [HX.out] at hy
        obtain rfl : I = y := by cases hy; rfl
        rw [HE.out]; simp
      case measure => simp [intOf]; omega
     | true =>
      have hV : V < (n : Int) := by simp at hbad; omega
      clear hbad
      go_wp2
      go_roundw
      case rel => 
       refine ⟨j + 1, by go_num, by omega, fun i hi y hy => ?_, HB3.out⟩
       by_cases hij : i < j
       ·exact HBad.out i hij y hy
       ·obtain rfl : i = j := by omega
        rw [HX.out] at hy
        obtain rfl : I = y := by cases hy; rfl
        rw [HE.out]; simp; omega
      case measure => simp [intOf]; omega
   ·have hE1 : (E != 0) = true := by rw [bne_iff_ne]; exact hE0
    have HE0 := Lib.hid hE0
    clear hE0
    go_wp2
    go_ret2
    refine ⟨?_, HB2.out⟩
    have hv : badAt p.length I = E := by rw [HL.out, HE.out, if_pos HE0.out]
    rw [checkK_bad (by rw [HL.out]; exact HBad.out) HX.out hv HE0.out]
    rfl
  ·obtain rfl : j = n := by omega
   have hk := checkK_none (p := p) (by rw [HL.out]; exact HBad.out)
   obtain ⟨b, o, x, rfl, hl1, hx, hc0, hc1, hc2, hc3, hc4⟩ := (h.below hb).ins_at (k := j - 1) (by omega)
   have hxok := hok x (List.mem_of_getElem? hx)
   have hg : p.getD (p.length - 1) ⟨0, 0, 0, 0, 0⟩ = x := by rw [HL.out]; simp [List.getD, hx]
   rw [hg, HL.out] at hk
   have hi : (((j : Int) - 1).toNat) = j - 1 := by omega
   have hs1 : (0 : Int) ≤ (j : Int) - 1 := by omega
   have hg1 := fun w => goes_c x hxok w
   obtain ⟨G, hG⟩ : ∃ G, G = goesB x := ⟨_, rfl⟩
   rw [← hG] at hk hg1
   have HK := Lib.hid hk
   have HB := Lib.hid hb
   have HG := Lib.hid hg1
   obtain ⟨op, a, b', c', m⟩ := x
   dsimp only at hc0 hc1 hc2 hc3 hc4
   clear hk hb h hok hx hxok hg hG hg1 hi
   go_wp2_with fail
   refine (HG.out _).mono ?_
   rintro e w2 ⟨rfl, hb2⟩
   have HB2 := Lib.hid (HB.out.trans (hb2.mono HB.out.size))
   clear hb2
   cases G with
   | false =>
    go_wp2
    go_ret2
    refine ⟨?_, HB2.out⟩
    rw [HK.out]
    rfl
   | true =>
    go_wp2
    go_ret2
    refine ⟨?_, HB2.out⟩
    rw [HK.out]
    rfl
set_option maxRecDepth 100000 in
set_option maxHeartbeats 2000000 in
theorem check_c (A : Option Addr) (n c : Nat) (hn : n < 2^62) (p : List Ins) (hok : ∀ i ∈ p, i.ok) (w : World) (h : yx_ w w.heap.size 5 A n (insV p)) :
  Calls Try.prog 55 #[.slice A n c] w fun e w' => e = .returned (.tuple #[.int .i64 (checkI p).1, .int .i64 (checkI p).2]) ∧ Below w.heap.size w w' := by
 have hpl := h.ins_len
 unfold checkI
 rw [hpl]
 by_cases h0 : n = 0
 ·subst h0
  go_enter Try.func55, Try.ntmps55
  go_wp2
  go_ret2
  exact ⟨rfl, Below.refl _ _⟩
 ·rw [if_neg h0]
  by_cases h1 : 256 < n
  ·rw [if_pos h1]
   have h0' : ((n : Int) == 0) = false := by simp; exact h0
   have h1' : (256 : Int) < n := by omega
   clear h h0 hok hpl
   go_enter Try.func55, Try.ntmps55
   go_wp2
   go_ret2
   exact ⟨rfl, Below.refl _ _⟩
  ·rw [if_neg h1]
   exact check_mid A n c p hok w h (by simp; exact h0) (by omega) (by omega)
theorem right_last' {p : List Ins} (h : (checkI p).2 = 0) : 0 < p.length ∧ p.length ≤ 256 ∧ goesB (p.getD (p.length - 1) ⟨0, 0, 0, 0, 0⟩) = false ∧ ∀ k, k < p.length → badAt p.length (p.getD k ⟨0, 0, 0, 0, 0⟩) = 0 := by
 unfold checkI at h
 by_cases h0 : p.length = 0
 ·rw [if_pos h0] at h; cases h
 ·by_cases h1 : 256 < p.length
  ·rw [if_neg h0, if_pos h1] at h; cases h
  ·rw [if_neg h0, if_neg h1] at h
   refine ⟨by omega, by omega, ?_⟩
   unfold checkK at h
   cases hf : p.findIdx? (fun i => badAt p.length i != 0) with
   | some k =>
    rw [hf] at h
    obtain ⟨hk, hb, _⟩ := List.findIdx?_eq_some_iff_getElem.1 hf
    exfalso
    have hg : p.getD k ⟨0, 0, 0, 0, 0⟩ = p[k] := by simp [List.getD, hk]
    dsimp only at h
    rw [hg] at h
    simp [h] at hb
   | none =>
    rw [hf] at h
    rw [List.findIdx?_eq_none_iff] at hf
    dsimp only at h
    refine ⟨?_, fun k hk => ?_⟩
    ·by_cases hg : goesB (p.getD (p.length - 1) ⟨0, 0, 0, 0, 0⟩) = true
     ·rw [if_pos hg] at h; cases h
     ·simpa using hg
    ·have := hf (p.getD k ⟨0, 0, 0, 0, 0⟩) (by
      rw [List.getD_eq_getElem?_getD, List.getElem?_eq_getElem hk]; exact List.getElem_mem hk)
     simpa using this
structure RightI (n k : Nat) (x : Ins) : Prop where
 ok : x.ok
 one : oneE x = 0
 a : x.a < 8
 b : x.b < 8
 c : x.c < 8
 targ : targB x = true → 0 ≤ targV x ∧ targV x < n
 goes : goesB x = true → k + 1 < n
 cls : x.op = 1 ∨ x.op = 2 ∨ x.op = 3 ∨ x.op = 4 ∨ x.op = 5 ∨ x.op = 6 ∨ x.op = 7 ∨ x.op = 8 ∨ x.op = 9 ∨ x.op = 10 ∨ x.op = 11 ∨ (33 ≤ x.op ∧ x.op ≤ 49)
theorem one_regs {x : Ins} (h : oneE x = 0) : x.a < 8 ∧ x.b < 8 ∧ x.c < 8 ∧ (targB x = true → 0 ≤ x.n) ∧ (x.op = 1 ∨ x.op = 2 ∨ x.op = 3 ∨ x.op = 4 ∨ x.op = 5 ∨ x.op = 6 ∨ x.op = 7 ∨ x.op = 8 ∨ x.op = 9 ∨ x.op = 10 ∨ x.op = 11 ∨ (33 ≤ x.op ∧ x.op ≤ 49)) := by
 have h0 := h
 unfold oneE at h
 have hf : y0_ x.op ≠ 0 := fun e => by rw [if_pos e] at h; cases h
 rw [if_neg hf] at h
 have hc : xh_ (y0_ x.op) x.a x.b x.c x.n := by
  by_cases q : xh_ (y0_ x.op) x.a x.b x.c x.n
  ·exact q
  ·rw [yt_ q] at h; cases h
 have ht : targB x = true → x.op = 9 ∨ x.op = 10 ∨ x.op = 11 := fun ht => by
  unfold targB at ht
  simp at ht
  exact ht.2
 revert hc hf
 unfold y0_
 split
 ·rename_i q; intro hf hc; obtain ⟨q1, q2, q3, q4⟩ := hc; exact ⟨q1, q2, q3, fun t => by omega, by omega⟩
 split
 ·exact Vm.k56_
 split
 ·rename_i q; intro hf hc; obtain ⟨q1, q2, q3⟩ := hc; exact ⟨by omega, by omega, by omega, fun t => by have := ht t; omega, by omega⟩
 split
 ·exact Vm.k56_
 split
 ·exact Vm.k57_
 split
 ·exact Vm.k57_
 split
 ·exact Vm.k57_
 ·intro hf; exact absurd rfl hf
theorem right_at {p : List Ins} (hok : ∀ x ∈ p, x.ok) (h : (checkI p).2 = 0) {k : Nat} (hk : k < p.length) : RightI p.length k (p.getD k ⟨0, 0, 0, 0, 0⟩) := by
 obtain ⟨h0, h1, h2, h3⟩ := right_last' h
 have hb := h3 k hk
 unfold badAt at hb
 have h4 : oneE (p.getD k ⟨0, 0, 0, 0, 0⟩) = 0 := by
  by_cases q : oneE (p.getD k ⟨0, 0, 0, 0, 0⟩) = 0
  ·exact q
  ·rw [if_pos q] at hb; exact absurd hb q
 rw [if_neg (by omega)] at hb
 obtain ⟨ra, rb, rc, rt, rcl⟩ := one_regs h4
 refine ⟨hok _ (by rw [List.getD_eq_getElem?_getD, List.getElem?_eq_getElem hk]; exact List.getElem_mem hk), h4, ra, rb, rc, fun ht => ?_, fun hg => ?_, rcl⟩
 ·refine ⟨by unfold targV; rw [if_pos ht]; exact rt ht, ?_⟩
  by_cases q : (p.length : Int) ≤ targV (p.getD k ⟨0, 0, 0, 0, 0⟩)
  ·rw [if_pos ⟨ht, q⟩] at hb; cases hb
  ·omega
 ·by_cases q : k + 1 < p.length
  ·exact q
  ·have : k = p.length - 1 := by omega
   subst this
   rw [h2] at hg; cases hg
theorem goesB_of {x : Ins} (h : oneE x = 0) : goesB x = (x.op != 1 && (x.op != 2 && x.op != 9)) := by unfold goesB; rw [h]; rfl
theorem targB_of {x : Ins} (h : oneE x = 0) : targB x = (x.op == 9 || (x.op == 10 || x.op == 11)) := by unfold targB; rw [h]; rfl
end Go.Proofs.Ytmljmabbopkpiaa
end
section
namespace Go.Proofs.Ytmljmabbopkpiaa.Vm
open Go.RowKit
structure Sta where
 at_ : Int
 ended : Bool
 regs : Nat → Int
 cells : List Int
 draws : Int
 sends : List Snd
structure Evi where
 seed : Int
 process : Int
 ports : Int
 look : Int
 now : Int
def Sta.put (s : Sta) (k : Nat) (x : Int) : Sta := { s with regs := fun j => if j = k then x else s.regs j, at_ := s.at_ + 1 }
theorem sta_eta (s : Sta) : Sta.mk s.at_ s.ended (fun q => s.regs q) s.cells s.draws s.sends = s := rfl
theorem evi_eta (v : Evi) : Evi.mk v.seed v.process v.ports v.look v.now = v := rfl
def sendE (s : Sta) (v : Evi) (i : Ins) : Int :=
 if v.ports ≤ i.n then 188 else if s.regs i.a.toNat < v.look then 189 else if 281474976710656 - v.now < s.regs i.a.toNat then 1800 else if 256 ≤ s.sends.length then 1801 else 0
def doE (s : Sta) (v : Evi) (i : Ins) : Int :=
 if i.op = 2 then 184
 else if i.op = 5 ∨ i.op = 6 then (if s.regs i.b.toNat < 0 ∨ (s.cells.length : Int) ≤ s.regs i.b.toNat then 185 else 0)
 else if i.op = 7 then (if s.regs i.b.toNat < 1 then 186 else if s.draws = 1099511627776 then 187 else 0)
 else if i.op = 8 then sendE s v i
 else if i.op < 32 then 0
 else yk_ (i.op - 32) (s.regs i.c.toNat)
def doS (s : Sta) (v : Evi) (i : Ins) : Sta :=
 if doE s v i ≠ 0 then s
 else if i.op = 1 then { s with ended := true }
 else if i.op = 3 then s.put i.a.toNat i.n
 else if i.op = 4 then s.put i.a.toNat (s.regs i.b.toNat)
 else if i.op = 5 then s.put i.a.toNat (s.cells.getD (s.regs i.b.toNat).toNat 0)
 else if i.op = 6 then { s with cells := s.cells.set (s.regs i.b.toNat).toNat (s.regs i.a.toNat), at_ := s.at_ + 1 }
 else if i.op = 7 then { s.put i.a.toNat (drawI v.seed v.process s.draws (s.regs i.b.toNat)) with draws := s.draws + 1 }
 else if i.op = 8 then { s with at_ := s.at_ + 1, sends := s.sends ++ [⟨i.n, s.regs i.a.toNat, s.regs i.b.toNat⟩] }
 else if i.op = 9 then { s with at_ := i.n }
 else if i.op = 10 then { s with at_ := if s.regs i.a.toNat = 0 then i.n else s.at_ + 1 }
 else if i.op = 11 then { s with at_ := if s.regs i.a.toNat < 0 then i.n else s.at_ + 1 }
 else s.put i.a.toNat (yn_ (i.op - 32) (s.regs i.b.toNat) (s.regs i.c.toNat))
def Ins0 : Ins := ⟨0, 0, 0, 0, 0⟩
def insAt (p : List Ins) (k : Int) : Ins := p.getD k.toNat ⟨0, 0, 0, 0, 0⟩
def Evi.rightB (v : Evi) : Bool := decide (0 ≤ v.process ∧ v.process ≤ 65536 ∧ 0 ≤ v.ports ∧ 1 ≤ v.look ∧ 0 ≤ v.now ∧ v.now ≤ 281474976710656)
def Sta.rightB (s : Sta) (n : Int) : Bool := decide (0 ≤ s.at_ ∧ s.at_ < n ∧ (s.cells.length : Int) ≤ 1024 ∧ 0 ≤ s.draws ∧ s.draws ≤ 1099511627776)
def y2_ (p : List Ins) (v : Evi) (s : Sta) : Int :=
 if (checkI p).2 ≠ 0 then 180 else if v.rightB = false then 181 else if s.rightB p.length = false then 182 else 0
def stepE (p : List Ins) (v : Evi) (s : Sta) : Int := if s.ended = true then 183 else doE s v (insAt p s.at_)
def yw_ (p : List Ins) (v : Evi) (s : Sta) : Sta := if s.ended = true then s else doS s v (insAt p s.at_)
structure RI (x : Ins) : Prop where
 ok : x.ok
 a : x.a < 8
 b : x.b < 8
 c : x.c < 8
 jmp : x.op = 9 ∨ x.op = 10 ∨ x.op = 11 → 0 ≤ x.n ∧ x.n < 256
 snd : x.op = 8 → 0 ≤ x.n ∧ x.n < 16
 cls : x.op = 1 ∨ x.op = 2 ∨ x.op = 3 ∨ x.op = 4 ∨ x.op = 5 ∨ x.op = 6 ∨ x.op = 7 ∨ x.op = 8 ∨ x.op = 9 ∨ x.op = 10 ∨ x.op = 11 ∨ (33 ≤ x.op ∧ x.op ≤ 49)
theorem ri_at {p : List Ins} (hok : ∀ x ∈ p, x.ok) (h : (checkI p).2 = 0) {k : Nat} (hk : k < p.length) : RI (p.getD k ⟨0, 0, 0, 0, 0⟩) := by
 have R := right_at hok h hk
 have hl := (right_last' h).2.1
 refine ⟨R.ok, R.a, R.b, R.c, fun hj => ?_, fun h8 => ?_, R.cls⟩
 ·have ht : targB (p.getD k ⟨0, 0, 0, 0, 0⟩) = true := by
   rw [targB_of R.one]
   rcases hj with e | e | e <;> simp only [e] <;> decide
  have := R.targ ht
  unfold targV at this
  rw [if_pos ht] at this
  omega
 ·have h := R.one
  unfold oneE at h
  have hf : y0_ (p.getD k ⟨0, 0, 0, 0, 0⟩).op = 5 := by rw [h8]; rfl
  rw [hf, if_neg (by decide)] at h
  have hc : xh_ 5 (p.getD k ⟨0, 0, 0, 0, 0⟩).a (p.getD k ⟨0, 0, 0, 0, 0⟩).b (p.getD k ⟨0, 0, 0, 0, 0⟩).c (p.getD k ⟨0, 0, 0, 0, 0⟩).n := by
   by_cases q : xh_ 5 (p.getD k ⟨0, 0, 0, 0, 0⟩).a (p.getD k ⟨0, 0, 0, 0, 0⟩).b (p.getD k ⟨0, 0, 0, 0, 0⟩).c (p.getD k ⟨0, 0, 0, 0, 0⟩).n
   ·exact q
   ·rw [yt_ q] at h; cases h
  exact ⟨hc.2.2.2.1, hc.2.2.2.2⟩
structure VOk (v : Evi) : Prop where
 p0 : 0 ≤ v.process
 p1 : v.process ≤ 65536
 t0 : 0 ≤ v.now
 t1 : v.now ≤ 281474976710656
 o0 : 0 ≤ v.ports
 l0 : 1 ≤ v.look
structure SOk (s : Sta) : Prop where
 a0 : 0 ≤ s.at_
 a1 : s.at_ ≤ 256
 d0 : 0 ≤ s.draws
 d1 : s.draws ≤ 1099511627776
 c1 : s.cells.length ≤ 1024
 n1 : s.sends.length ≤ 1000000
theorem VOk.of {v : Evi} (h : v.rightB = true) : VOk v := by
 have := of_decide_eq_true (show decide _ = true from h)
 exact ⟨by omega, by omega, by omega, by omega, by omega, by omega⟩
theorem doS_bad {s : Sta} {v : Evi} {x : Ins} (h : doE s v x ≠ 0) : doS s v x = s := by unfold doS; rw [if_pos h]
end Go.Proofs.Ytmljmabbopkpiaa.Vm
end
