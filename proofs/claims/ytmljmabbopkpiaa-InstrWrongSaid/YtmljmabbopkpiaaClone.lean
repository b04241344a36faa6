/- slices.Clone at three element types. -/
import Derived.Test.YtmljmabbopkpiaaProg
import Derived.Test.YtmljmabbopkpiaaMem
import Derived.WalkSpells
namespace Go.Proofs.Ytmljmabbopkpiaa
open Go.RowKit
set_option linter.unusedVariables false
set_option linter.unusedSimpArgs false

theorem info64 : (Try.prog.info? 2).map (fun i => (i.zero, i.size, i.bytes)) = some (some (.int .i64 0), 1, 8) := by kernel_rfl
theorem infoIns : (Try.prog.info? 28).map (fun i => (i.zero, i.size, i.bytes)) = some (some (.agg #[.int .u8 0, .int .u8 0, .int .u8 0, .int .u8 0, .int .i64 0]), 5, 16) := by kernel_rfl
theorem infoSend : (Try.prog.info? 64).map (fun i => (i.zero, i.size, i.bytes)) = some (some (.agg #[.int .i64 0, .int .i64 0, .int .i64 0]), 3, 24) := by kernel_rfl


set_option maxRecDepth 100000 in
set_option maxHeartbeats 1000000 in
theorem clone64_some (ad : Addr) (n c : Nat) (xs : List Value) (w : World) (h : Reads w w.heap.size 1 (some ad) n xs) (h1 : ∀ u ∈ xs, u.oneCell' = true) (hn : n * 8 ≤ 140737488355328) (hm : n ≤ maxLen) :
    Calls Try.prog 62 #[.slice (some ad) n c] w fun e w' => ∃ v, e = .returned v ∧ w'.ownsRow w.heap.size 2 1 v (0 + n) ([] ++ xs) ∧ Below w.heap.size w w' := by
  obtain ⟨i0, hi, hz0, hz1, hz2⟩ := info_parts info64
  have hr := (h.alloc (Nat.le_refl _) (.cells #[] 2))
  have H1 := Lib.hid h1
  have HN := Lib.hid hn
  have HM := Lib.hid hm
  have HR := Lib.hid hr
  clear h h1 hn hm hr
  have kn := fun (w : World) (a : Option Addr) (n c : Nat) => eql_nil (P := Try.prog) w 47 2 a n c Try.underlying47
  go_enter Try.func62, Try.ntmps62
  go_wp2_with (at_builtin
               refine wpList_append_any _ rfl (.tmp 5) (.tmp 6) _ rfl w.heap.size 2 i0 _ 1 8 Try.underlying47 hi hz0 hz1 hz2 rfl (by omega) (.slice (some ⟨w.heap.size, 0, none⟩) 0 0) 0 [] rfl
                 (World.ownsRow_made w #[] 0 (Nat.le_refl _) (Nat.zero_le _) rfl) w.heap.size (some ad) n c xs rfl HR.out H1.out (by have := HM.out; omega) (by have := HN.out; omega) (by simp) ?_
               intro v1 w1 hown1 hg1 hat1)
  go_ret
  refine ⟨v1, rfl, hown1, ((Below.refl _ w).alloc (Nat.le_refl _) _).grown hg1 (by simp) (fun k hk => ?_)⟩
  rcases hat1 with e | e <;> simp [Value.ownBlock] at hk <;> omega
theorem clone64_nil (n c : Nat) (w : World) :
    Calls Try.prog 62 #[.slice none n c] w fun e w' => e = .returned (.slice none 0 0) ∧ w = w' := by
  have kn := fun (w : World) (a : Option Addr) (n c : Nat) => eql_nil (P := Try.prog) w 47 2 a n c Try.underlying47
  go_enter Try.func62, Try.ntmps62
  go_wp2
  go_ret
  exact ⟨rfl, rfl⟩
/-- slices.Clone: a row of the call's own with the same cells. -/
theorem clone64_c (A : Option Addr) (n c : Nat) (xs : List Value) (w : World) (h : Reads w w.heap.size 1 A n xs) (h1 : ∀ u ∈ xs, u.oneCell' = true) (hn : n * 8 ≤ 140737488355328) :
    Calls Try.prog 62 #[.slice A n c] w fun e w' => ∃ v, e = .returned v ∧ w'.ownsRow w.heap.size 2 1 v n xs ∧ Below w.heap.size w w' := by
  cases A with
  | none =>
    have hn0 : n = 0 := by
      rcases Nat.eq_zero_or_pos n with h0 | h0
      · exact h0
      · obtain ⟨ad, e, _⟩ := h.2 h0
        cases e
    subst hn0
    have hx : xs = [] := List.eq_nil_of_length_eq_zero (by simpa using h.1)
    subst hx
    refine (clone64_nil 0 c w).mono ?_
    rintro e w' ⟨rfl, rfl⟩
    exact ⟨_, rfl, World.ownsRow_nil _ _ _ _, Below.refl _ _⟩
  | some ad =>
    have hm : n ≤ maxLen := by unfold maxLen; omega
    refine (clone64_some ad n c xs w h h1 hn hm).mono ?_
    rintro e w' ⟨v, rfl, ho, hb⟩
    exact ⟨v, rfl, by simpa using ho, hb⟩

set_option maxRecDepth 100000 in
set_option maxHeartbeats 1000000 in
theorem cloneIns_some (ad : Addr) (n c : Nat) (xs : List Value) (w : World) (h : Reads w w.heap.size 5 (some ad) n xs) (h1 : ∀ u ∈ xs, u.oneCell' = true) (hn : n * 16 ≤ 140737488355328) (hm : n ≤ maxLen) :
    Calls Try.prog 32 #[.slice (some ad) n c] w fun e w' => ∃ v, e = .returned v ∧ w'.ownsRow w.heap.size 28 5 v (0 + n) ([] ++ xs) ∧ Below w.heap.size w w' := by
  obtain ⟨i0, hi, hz0, hz1, hz2⟩ := info_parts infoIns
  have hr := (h.alloc (Nat.le_refl _) (.cells #[] 28))
  have H1 := Lib.hid h1
  have HN := Lib.hid hn
  have HM := Lib.hid hm
  have HR := Lib.hid hr
  clear h h1 hn hm hr
  have kn := fun (w : World) (a : Option Addr) (n c : Nat) => eql_nil (P := Try.prog) w 25 28 a n c Try.underlying25
  go_enter Try.func32, Try.ntmps32
  go_wp2_with (at_builtin
               refine wpList_append_any _ rfl (.tmp 5) (.tmp 6) _ rfl w.heap.size 28 i0 _ 5 16 Try.underlying25 hi hz0 hz1 hz2 rfl (by omega) (.slice (some ⟨w.heap.size, 0, none⟩) 0 0) 0 [] rfl
                 (World.ownsRow_made w #[] 0 (Nat.le_refl _) (Nat.zero_le _) rfl) w.heap.size (some ad) n c xs rfl HR.out H1.out (by have := HM.out; omega) (by have := HN.out; omega) (by simp) ?_
               intro v1 w1 hown1 hg1 hat1)
  go_ret
  refine ⟨v1, rfl, hown1, ((Below.refl _ w).alloc (Nat.le_refl _) _).grown hg1 (by simp) (fun k hk => ?_)⟩
  rcases hat1 with e | e <;> simp [Value.ownBlock] at hk <;> omega
theorem cloneIns_nil (n c : Nat) (w : World) :
    Calls Try.prog 32 #[.slice none n c] w fun e w' => e = .returned (.slice none 0 0) ∧ w = w' := by
  have kn := fun (w : World) (a : Option Addr) (n c : Nat) => eql_nil (P := Try.prog) w 25 28 a n c Try.underlying25
  go_enter Try.func32, Try.ntmps32
  go_wp2
  go_ret
  exact ⟨rfl, rfl⟩
/-- slices.Clone: a row of the call's own with the same cells. -/
theorem cloneIns_c (A : Option Addr) (n c : Nat) (xs : List Value) (w : World) (h : Reads w w.heap.size 5 A n xs) (h1 : ∀ u ∈ xs, u.oneCell' = true) (hn : n * 16 ≤ 140737488355328) :
    Calls Try.prog 32 #[.slice A n c] w fun e w' => ∃ v, e = .returned v ∧ w'.ownsRow w.heap.size 28 5 v n xs ∧ Below w.heap.size w w' := by
  cases A with
  | none =>
    have hn0 : n = 0 := by
      rcases Nat.eq_zero_or_pos n with h0 | h0
      · exact h0
      · obtain ⟨ad, e, _⟩ := h.2 h0
        cases e
    subst hn0
    have hx : xs = [] := List.eq_nil_of_length_eq_zero (by simpa using h.1)
    subst hx
    refine (cloneIns_nil 0 c w).mono ?_
    rintro e w' ⟨rfl, rfl⟩
    exact ⟨_, rfl, World.ownsRow_nil _ _ _ _, Below.refl _ _⟩
  | some ad =>
    have hm : n ≤ maxLen := by unfold maxLen; omega
    refine (cloneIns_some ad n c xs w h h1 hn hm).mono ?_
    rintro e w' ⟨v, rfl, ho, hb⟩
    exact ⟨v, rfl, by simpa using ho, hb⟩

set_option maxRecDepth 100000 in
set_option maxHeartbeats 1000000 in
theorem cloneSend_some (ad : Addr) (n c : Nat) (xs : List Value) (w : World) (h : Reads w w.heap.size 3 (some ad) n xs) (h1 : ∀ u ∈ xs, u.oneCell' = true) (hn : n * 24 ≤ 140737488355328) (hm : n ≤ maxLen) :
    Calls Try.prog 88 #[.slice (some ad) n c] w fun e w' => ∃ v, e = .returned v ∧ w'.ownsRow w.heap.size 64 3 v (0 + n) ([] ++ xs) ∧ Below w.heap.size w w' := by
  obtain ⟨i0, hi, hz0, hz1, hz2⟩ := info_parts infoSend
  have hr := (h.alloc (Nat.le_refl _) (.cells #[] 64))
  have H1 := Lib.hid h1
  have HN := Lib.hid hn
  have HM := Lib.hid hm
  have HR := Lib.hid hr
  clear h h1 hn hm hr
  have kn := fun (w : World) (a : Option Addr) (n c : Nat) => eql_nil (P := Try.prog) w 51 64 a n c Try.underlying51
  go_enter Try.func88, Try.ntmps88
  go_wp2_with (at_builtin
               refine wpList_append_any _ rfl (.tmp 5) (.tmp 6) _ rfl w.heap.size 64 i0 _ 3 24 Try.underlying51 hi hz0 hz1 hz2 rfl (by omega) (.slice (some ⟨w.heap.size, 0, none⟩) 0 0) 0 [] rfl
                 (World.ownsRow_made w #[] 0 (Nat.le_refl _) (Nat.zero_le _) rfl) w.heap.size (some ad) n c xs rfl HR.out H1.out (by have := HM.out; omega) (by have := HN.out; omega) (by simp) ?_
               intro v1 w1 hown1 hg1 hat1)
  go_ret
  refine ⟨v1, rfl, hown1, ((Below.refl _ w).alloc (Nat.le_refl _) _).grown hg1 (by simp) (fun k hk => ?_)⟩
  rcases hat1 with e | e <;> simp [Value.ownBlock] at hk <;> omega
theorem cloneSend_nil (n c : Nat) (w : World) :
    Calls Try.prog 88 #[.slice none n c] w fun e w' => e = .returned (.slice none 0 0) ∧ w = w' := by
  have kn := fun (w : World) (a : Option Addr) (n c : Nat) => eql_nil (P := Try.prog) w 51 64 a n c Try.underlying51
  go_enter Try.func88, Try.ntmps88
  go_wp2
  go_ret
  exact ⟨rfl, rfl⟩
/-- slices.Clone: a row of the call's own with the same cells. -/
theorem cloneSend_c (A : Option Addr) (n c : Nat) (xs : List Value) (w : World) (h : Reads w w.heap.size 3 A n xs) (h1 : ∀ u ∈ xs, u.oneCell' = true) (hn : n * 24 ≤ 140737488355328) :
    Calls Try.prog 88 #[.slice A n c] w fun e w' => ∃ v, e = .returned v ∧ w'.ownsRow w.heap.size 64 3 v n xs ∧ Below w.heap.size w w' := by
  cases A with
  | none =>
    have hn0 : n = 0 := by
      rcases Nat.eq_zero_or_pos n with h0 | h0
      · exact h0
      · obtain ⟨ad, e, _⟩ := h.2 h0
        cases e
    subst hn0
    have hx : xs = [] := List.eq_nil_of_length_eq_zero (by simpa using h.1)
    subst hx
    refine (cloneSend_nil 0 c w).mono ?_
    rintro e w' ⟨rfl, rfl⟩
    exact ⟨_, rfl, World.ownsRow_nil _ _ _ _, Below.refl _ _⟩
  | some ad =>
    have hm : n ≤ maxLen := by unfold maxLen; omega
    refine (cloneSend_some ad n c xs w h h1 hn hm).mono ?_
    rintro e w' ⟨v, rfl, ho, hb⟩
    exact ⟨v, rfl, by simpa using ho, hb⟩

end Go.Proofs.Ytmljmabbopkpiaa
