/- slices.Equal at int64 and at instr.Send. -/
import Derived.Test.YtmljmabbopkpiaaProg
import Derived.Test.YtmljmabbopkpiaaMem2
import Derived.Test.YtmljmabbopkpiaaEq
namespace Go.Proofs.Ytmljmabbopkpiaa
open Go.RowKit
set_option linter.unusedVariables false
set_option linter.unusedSimpArgs false

set_option maxRecDepth 100000 in
set_option maxHeartbeats 1000000 in
theorem equal64_same (A B : Option Addr) (n c d : Nat) (xs ys : List Int) (w : World) (hA : Reads w w.heap.size 1 A n (int64s xs)) (hB : Reads w w.heap.size 1 B n (int64s ys)) (hm : n ≤ 9223372036854775807) :
    Calls Try.prog 61 #[.slice A n c, .slice B n d] w fun e w' => e = .returned (.bool (xs == ys)) ∧ Below w.heap.size w w' := by
  go_enter Try.func61, Try.ntmps61
  go_wp2
  go_loopw [5, 13] (fun i k wr => ∃ j : Nat, k = .int .i64 j ∧ j ≤ n ∧ xs.take j = ys.take j ∧ Below w.heap.size w wr) (fun _ k _ => n - (intOf k).toNat)
  case atStart => exact ⟨0, rfl, by omega, rfl, Below.refl _ _⟩
  case round =>
    obtain ⟨j, rfl, hj, ht, hb⟩ := hrel
    have HT := Lib.hid ht
    clear ht
    by_cases hlt : j < n
    · obtain ⟨a1, x, rfl, hl1, hx1, hc1⟩ := (hA.below hb).i64_at hlt
      obtain ⟨a2, y, rfl, hl2, hx2, hc2⟩ := (hB.below hb).i64_at hlt
      have HX1 := Lib.hid hx1
      have HX2 := Lib.hid hx2
      have HB := Lib.hid hb
      clear hb hx1 hx2 hA hB
      go_wp2
      go_quiet (fail)
      go_wp2
      · have hne : x ≠ y := bne_iff_ne.1 (by assumption)
        go_ret
        exact ⟨by rw [beq_eq_false_iff_ne.2 (ne_of_at HX1.out HX2.out hne)]; rfl, below_drewN HB.out _⟩
      · have he : x = y := bne_eq_false_iff_eq.1 (by assumption)
        go_roundw
        case rel => exact ⟨j + 1, by go_num, by omega, take_succ_eq HT.out HX1.out (he ▸ HX2.out), below_drewN HB.out _⟩
        case measure => simp [intOf]; omega
    · have HB := Lib.hid hb
      have hxl := hA.i64_len
      have hyl := hB.i64_len
      have he : xs = ys := take_all_eq HT.out (by omega) (by omega)
      have HE := Lib.hid he
      clear hb he hxl hyl hA hB
      go_wp2
      go_ret
      exact ⟨by rw [HE.out]; simp, HB.out⟩

set_option maxRecDepth 100000 in
set_option maxHeartbeats 1000000 in
theorem equal64_not (A B : Option Addr) (n m c d : Nat) (w : World) (h : ((n : Int) != (m : Int)) = true) :
    Calls Try.prog 61 #[.slice A n c, .slice B m d] w fun e w' => e = .returned (.bool false) ∧ w = w' := by
  go_enter Try.func61, Try.ntmps61
  go_wp2
  go_ret
  exact ⟨rfl, rfl⟩
theorem equal64_c (A B : Option Addr) (n m c d : Nat) (xs ys : List Int) (w : World) (hA : Reads w w.heap.size 1 A n (int64s xs)) (hB : Reads w w.heap.size 1 B m (int64s ys)) (hm : n ≤ 9223372036854775807) :
    Calls Try.prog 61 #[.slice A n c, .slice B m d] w fun e w' => e = .returned (.bool (xs == ys)) ∧ Below w.heap.size w w' := by
  by_cases h : n = m
  · subst h; exact equal64_same A B n c d xs ys w hA hB hm
  · refine (equal64_not A B n m c d w (by rw [bne_iff_ne]; omega)).mono ?_
    rintro e w' ⟨rfl, rfl⟩
    have : xs ≠ ys := by rintro rfl; exact h (hA.i64_len.symm.trans hB.i64_len)
    exact ⟨by rw [beq_eq_false_iff_ne.2 this], Below.refl _ _⟩

set_option maxRecDepth 100000 in
set_option maxHeartbeats 1000000 in
theorem equalS_same (A B : Option Addr) (n c d : Nat) (xs ys : List Snd) (w : World) (hA : Reads w w.heap.size 3 A n (sndsV xs)) (hB : Reads w w.heap.size 3 B n (sndsV ys)) (hm : n ≤ 9223372036854775807) :
    Calls Try.prog 52 #[.slice A n c, .slice B n d] w fun e w' => e = .returned (.bool (decide (xs = ys))) ∧ Below w.heap.size w w' := by
  go_enter Try.func52, Try.ntmps52
  go_wp2
  go_loopw [5, 13] (fun i k wr => ∃ j : Nat, k = .int .i64 j ∧ j ≤ n ∧ xs.take j = ys.take j ∧ Below w.heap.size w wr) (fun _ k _ => n - (intOf k).toNat)
  case atStart => exact ⟨0, rfl, by omega, rfl, Below.refl _ _⟩
  case round =>
    obtain ⟨j, rfl, hj, ht, hb⟩ := hrel
    have HT := Lib.hid ht
    clear ht
    by_cases hlt : j < n
    · obtain ⟨b1, o1, x, rfl, hl1, hx1, hc1, hc2, hc3⟩ := (hA.below hb).snds_at hlt
      obtain ⟨b2, o2, y, rfl, hl2, hx2, hd1, hd2, hd3⟩ := (hB.below hb).snds_at hlt
      have HX1 := Lib.hid hx1
      have HX2 := Lib.hid hx2
      have HB := Lib.hid hb
      clear hb hx1 hx2 hA hB
      have es := eqSend
      go_wp2
      go_quiet (fail)
      go_wp2
      · have hne : x ≠ y := by
          have hd : (!x.port == y.port) = true ∨ (!x.delay == y.delay) = true ∨ (!x.value == y.value) = true := by assumption
          rintro rfl
          simp at hd
        go_ret
        exact ⟨by rw [decide_eq_false (ne_of_at HX1.out HX2.out hne)]; rfl, below_drewN HB.out _⟩
      · have he : x = y := by
          have hd : (!x.port == y.port) = false ∧ (!x.delay == y.delay) = false ∧ (!x.value == y.value) = false := by assumption
          obtain ⟨p, d, v⟩ := x
          obtain ⟨p', d', v'⟩ := y
          simp at hd
          obtain ⟨h1, h2, h3⟩ := hd
          subst h1; subst h2; subst h3; rfl
        go_roundw
        case rel => exact ⟨j + 1, by go_num, by omega, take_succ_eq HT.out HX1.out (he ▸ HX2.out), below_drewN HB.out _⟩
        case measure => simp [intOf]; omega
    · have HB := Lib.hid hb
      have hxl := hA.snds_len
      have hyl := hB.snds_len
      have he : xs = ys := take_all_eq HT.out (by omega) (by omega)
      have HE := Lib.hid he
      clear hb he hxl hyl hA hB
      go_wp2
      go_ret
      exact ⟨by rw [HE.out]; simp, HB.out⟩

set_option maxRecDepth 100000 in
set_option maxHeartbeats 1000000 in
theorem equalS_not (A B : Option Addr) (n m c d : Nat) (w : World) (h : ((n : Int) != (m : Int)) = true) :
    Calls Try.prog 52 #[.slice A n c, .slice B m d] w fun e w' => e = .returned (.bool false) ∧ w = w' := by
  go_enter Try.func52, Try.ntmps52
  go_wp2
  go_ret
  exact ⟨rfl, rfl⟩
theorem equalS_c (A B : Option Addr) (n m c d : Nat) (xs ys : List Snd) (w : World) (hA : Reads w w.heap.size 3 A n (sndsV xs)) (hB : Reads w w.heap.size 3 B m (sndsV ys)) (hm : n ≤ 9223372036854775807) :
    Calls Try.prog 52 #[.slice A n c, .slice B m d] w fun e w' => e = .returned (.bool (decide (xs = ys))) ∧ Below w.heap.size w w' := by
  by_cases h : n = m
  · subst h; exact equalS_same A B n c d xs ys w hA hB hm
  · refine (equalS_not A B n m c d w (by rw [bne_iff_ne]; omega)).mono ?_
    rintro e w' ⟨rfl, rfl⟩
    have : xs ≠ ys := by rintro rfl; exact h (hA.snds_len.symm.trans hB.snds_len)
    exact ⟨by rw [decide_eq_false this], Below.refl _ _⟩
end Go.Proofs.Ytmljmabbopkpiaa
