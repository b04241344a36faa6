import Derived.Test.YtmljmabbopkpiaaG5
import Derived.Test.YtmljmabbopkpiaaG6
import Derived.Test.YtmljmabbopkpiaaG7
import Derived.Test.YtmljmabbopkpiaaG8
import Derived.Test.YtmljmabbopkpiaaG12
import Derived.StillTailTactics
import Derived.Deep.QuietTactic
import Derived.Deep.RegionLaw
import Derived.Deep.DrawnRows
import Derived.Laws.EntriesVeiled
import Derived.BigQuiet
import Derived.WalkSpells
import Derived.Handy
import Derived.Deep.DeepCutAuto
import Derived.Test.YtmljmabbopkpiaaProg
section
/- fermatalaw14.Made: the program that small numbers make, and that it is right. -/
namespace Go.Proofs.Ytmljmabbopkpiaa
open Go.RowKit
set_option linter.unusedVariables false
set_option linter.unusedSimpArgs false

def one14 (x : Ins) (M : Int) : Ins := (fold14 x M (formS (formC (op14 x.op))) (formS (formC (op14 x.op))).size).2
theorem formC_cases (op : Int) : formC op = 0 ∨ formC op = 1 ∨ formC op = 2 ∨ formC op = 3 ∨ formC op = 4 ∨ formC op = 5 ∨ formC op = 6 ∨ formC op = 7 := by
  unfold formC; repeat (first | (split; · simp) | simp)
theorem formS_size (k : Nat) : (formS k).size ≤ 100 := by
  unfold formS; split <;> decide
theorem formS_asc (k : Nat) : ∀ p (h : p < (formS k).size), ((formS k)[p]'h).toNat < 128 := by
  have key : ∀ k, k < 8 → ∀ p (h : p < (formS k).size), ((formS k)[p]'h).toNat < 128 := by decide
  rcases Nat.lt_or_ge k 8 with h | h
  · exact key k h
  · intro p hp
    have : formS k = ⟨#[]⟩ := by
      unfold formS
      split <;> first | omega | rfl
    rw [this] at hp
    exact absurd hp (Nat.not_lt_zero p)
theorem one14_c (x : Ins) (hx : x.ok) (n : Int) (hn : 1 ≤ n ∧ n ≤ 1000000) (w : World) :
    Calls Try.prog 54 #[x.v, .int .i64 n] w fun e w' => e = .returned (one14 x n).v ∧ Below w.heap.size w w' := by
  have hb := op14_bd x.op
  have hf := fun w => form_c (op14 x.op) (by omega) w
  have h0 : (formC (op14 x.op) != 0) = true := by simpa using hb.2.2
  rw [h0] at hf
  exact one14_w x hx n hn _ (formS_size _) (formS_asc _) w hf
/-- by the form of its Op -/
theorem one14_eq (x : Ins) (M : Int) : one14 x M = match formC (op14 x.op) with
    | 1 => ⟨op14 x.op, x.a % 8, x.b % 8, x.c % 8, 0⟩
    | 3 => ⟨op14 x.op, x.a % 8, 0, 0, x.n⟩
    | 4 => ⟨op14 x.op, x.a % 8, x.b % 8, 0, 0⟩
    | 5 => ⟨op14 x.op, x.a % 8, x.b % 8, 0, IntKind.u64.wrap x.n % 16⟩
    | 6 => ⟨op14 x.op, 0, 0, 0, IntKind.u64.wrap x.n % M⟩
    | 7 => ⟨op14 x.op, x.a % 8, 0, 0, IntKind.u64.wrap x.n % M⟩
    | _ => ⟨op14 x.op, 0, 0, 0, 0⟩ := by
  unfold one14
  rcases formC_cases (op14 x.op) with h | h | h | h | h | h | h | h <;> (rw [h]; rfl)
theorem one14_forms (x : Ins) (M : Int) : (formC (op14 x.op) = 1 ∧ one14 x M = ⟨op14 x.op, x.a % 8, x.b % 8, x.c % 8, 0⟩) ∨ (formC (op14 x.op) = 2 ∧ one14 x M = ⟨op14 x.op, 0, 0, 0, 0⟩) ∨
    (formC (op14 x.op) = 3 ∧ one14 x M = ⟨op14 x.op, x.a % 8, 0, 0, x.n⟩) ∨ (formC (op14 x.op) = 4 ∧ one14 x M = ⟨op14 x.op, x.a % 8, x.b % 8, 0, 0⟩) ∨
    (formC (op14 x.op) = 5 ∧ one14 x M = ⟨op14 x.op, x.a % 8, x.b % 8, 0, IntKind.u64.wrap x.n % 16⟩) ∨ (formC (op14 x.op) = 6 ∧ one14 x M = ⟨op14 x.op, 0, 0, 0, IntKind.u64.wrap x.n % M⟩) ∨
    (formC (op14 x.op) = 7 ∧ one14 x M = ⟨op14 x.op, x.a % 8, 0, 0, IntKind.u64.wrap x.n % M⟩) := by
  have he := one14_eq x M
  rcases formC_cases (op14 x.op) with h | h | h | h | h | h | h | h
  · exact absurd h (op14_bd x.op).2.2
  · exact .inl ⟨h, by rw [he, h]; rfl⟩
  · exact .inr (.inl ⟨h, by rw [he, h]; rfl⟩)
  · exact .inr (.inr (.inl ⟨h, by rw [he, h]; rfl⟩))
  · exact .inr (.inr (.inr (.inl ⟨h, by rw [he, h]; rfl⟩)))
  · exact .inr (.inr (.inr (.inr (.inl ⟨h, by rw [he, h]; rfl⟩))))
  · exact .inr (.inr (.inr (.inr (.inr (.inl ⟨h, by rw [he, h]; rfl⟩)))))
  · exact .inr (.inr (.inr (.inr (.inr (.inr ⟨h, by rw [he, h]; rfl⟩)))))
theorem one14_op (x : Ins) (M : Int) : (one14 x M).op = op14 x.op := by
  rcases one14_forms x M with ⟨_, h⟩ | ⟨_, h⟩ | ⟨_, h⟩ | ⟨_, h⟩ | ⟨_, h⟩ | ⟨_, h⟩ | ⟨_, h⟩ <;> rw [h]
theorem ok_mk {op a b c n : Int} (h : (0 ≤ op ∧ op ≤ 255) ∧ (0 ≤ a ∧ a ≤ 255) ∧ (0 ≤ b ∧ b ≤ 255) ∧ (0 ≤ c ∧ c ≤ 255) ∧ (-9223372036854775808 ≤ n ∧ n ≤ 9223372036854775807)) : (⟨op, a, b, c, n⟩ : Ins).ok :=
  ⟨h.1.1, h.1.2, h.2.1.1, h.2.1.2, h.2.2.1.1, h.2.2.1.2, h.2.2.2.1.1, h.2.2.2.1.2, h.2.2.2.2.1, h.2.2.2.2.2⟩
theorem one14_ok (x : Ins) (hx : x.ok) (M : Int) (hM : 1 ≤ M ∧ M ≤ 1000000) : (one14 x M).ok := by
  have hb := op14_bd x.op
  have hu := u64_bd4 x.n
  have hm := Int.emod_nonneg (IntKind.u64.wrap x.n) (b := M) (by omega)
  have hm2 := Int.emod_lt_of_pos (IntKind.u64.wrap x.n) (b := M) (by omega)
  obtain ⟨-, -, -, -, -, -, -, -, n0, n1⟩ := hx
  rcases one14_forms x M with ⟨_, h⟩ | ⟨_, h⟩ | ⟨_, h⟩ | ⟨_, h⟩ | ⟨_, h⟩ | ⟨_, h⟩ | ⟨_, h⟩ <;> (rw [h]; exact ok_mk (by omega))
theorem one14_one (x : Ins) (M : Int) (hM : 1 ≤ M ∧ M ≤ 256) : oneE (one14 x M) = 0 := by
  have hb := op14_bd x.op
  have hu := u64_bd4 x.n
  have hm := Int.emod_nonneg (IntKind.u64.wrap x.n) (b := M) (by omega)
  have hm2 := Int.emod_lt_of_pos (IntKind.u64.wrap x.n) (b := M) (by omega)
  unfold oneE
  rw [one14_op, if_neg hb.2.2]
  rcases one14_forms x M with ⟨h1, h⟩ | ⟨h1, h⟩ | ⟨h1, h⟩ | ⟨h1, h⟩ | ⟨h1, h⟩ | ⟨h1, h⟩ | ⟨h1, h⟩ <;> rw [h1, h]
  · exact oneK_pos (show _ ∧ _ ∧ _ ∧ _ by dsimp only; omega)
  · exact oneK_pos (show _ ∧ _ ∧ _ ∧ _ by dsimp only; omega)
  · exact oneK_pos (show _ ∧ _ ∧ _ by dsimp only; omega)
  · exact oneK_pos (show _ ∧ _ ∧ _ ∧ _ by dsimp only; omega)
  · exact oneK_pos (show _ ∧ _ ∧ _ ∧ _ ∧ _ by dsimp only; omega)
  · exact oneK_pos (show _ ∧ _ ∧ _ ∧ _ ∧ _ by dsimp only; omega)
  · exact oneK_pos (show _ ∧ _ ∧ _ ∧ _ ∧ _ by dsimp only; omega)
theorem one14_bad (x : Ins) (M : Int) (hM : 1 ≤ M ∧ M ≤ 256) : badAt M (one14 x M) = 0 := by
  have h1 := one14_one x M hM
  have hb := op14_bd x.op
  have hm2 := Int.emod_lt_of_pos (IntKind.u64.wrap x.n) (b := M) (by omega)
  unfold badAt
  rw [if_neg (by simp [h1])]
  by_cases ht : targB (one14 x M) = true
  · rw [if_neg]
    rintro ⟨-, h2⟩
    have h3 : targV (one14 x M) = (one14 x M).n := by unfold targV; rw [if_pos ht]
    rw [h3] at h2
    unfold targB at ht
    rw [one14_op] at ht
    simp [h1] at ht
    have hc : formC (op14 x.op) = 6 ∨ formC (op14 x.op) = 7 := by
      rcases ht with h | h | h <;> rw [h] <;> decide
    rcases one14_forms x M with ⟨h5, h⟩ | ⟨h5, h⟩ | ⟨h5, h⟩ | ⟨h5, h⟩ | ⟨h5, h⟩ | ⟨h5, h⟩ | ⟨h5, h⟩ <;> first | omega | (rw [h] at h2; dsimp only at h2; omega)
  · rw [if_neg (by simp [ht])]
def made14 (xs : List Ins) : List Ins := (xs.take 40).map (fun x => one14 x ((xs.take 40).length + 1 : Nat)) ++ [haltI]
theorem made14_len (xs : List Ins) : (made14 xs).length = (xs.take 40).length + 1 := by simp [made14]
theorem made14_le (xs : List Ins) : 1 ≤ (made14 xs).length ∧ (made14 xs).length ≤ 41 := by
  rw [made14_len, List.length_take]; omega
theorem made14_ok (xs : List Ins) (hx : ∀ x ∈ xs, x.ok) : ∀ i ∈ made14 xs, i.ok := by
  intro i hi
  unfold made14 at hi
  rw [List.mem_append, List.mem_map] at hi
  rcases hi with ⟨x, h, rfl⟩ | h
  · exact one14_ok x (hx x (List.mem_of_mem_take h)) _ (by rw [List.length_take]; omega)
  · rw [List.mem_singleton] at h
    rw [h]; exact haltI_ok
theorem made14_bad (xs : List Ins) : ∀ i ∈ made14 xs, badAt (made14 xs).length i = 0 := by
  intro i hi
  rw [made14_len]
  unfold made14 at hi
  rw [List.mem_append, List.mem_map] at hi
  rcases hi with ⟨x, h, rfl⟩ | h
  · exact one14_bad x _ (by rw [List.length_take]; omega)
  · rw [List.mem_singleton] at h
    rw [h]
    unfold badAt
    rw [if_neg (by decide), if_neg (fun h => absurd h.1 (by decide))]
theorem made14_right (xs : List Ins) : (checkI (made14 xs)).2 = 0 := by
  have hl := made14_le xs
  unfold checkI
  rw [if_neg (by omega), if_neg (by omega)]
  have hK := checkK_none (p := made14 xs) (fun k hk y hy => made14_bad xs y (List.mem_of_getElem? hy))
  rw [hK]
  have : (made14 xs).getD ((made14 xs).length - 1) ⟨0, 0, 0, 0, 0⟩ = haltI := by
    rw [made14_len]
    simp [made14, List.getD]
  rw [this, if_neg (by decide)]
theorem reads_new5 (X : World) (t : TypeId) (a b c d e : Value) (gg : Nat) (h : gg = X.heap.size) : Reads (X.alloc (.cells #[a, b, c, d, e] t)) (gg + 1) 5 (some ⟨gg, 0, none⟩) 1 [a, b, c, d, e] := by
  subst h
  refine ⟨rfl, fun _ => ⟨_, rfl, Nat.lt_succ_self _, fun j u hu => ?_⟩⟩
  rw [Addr.add_lit, cell_of_row _ _ _ _ _ _ (heap_alloc_new X _), Nat.zero_add]
  simpa using hu
set_option maxRecDepth 100000 in
set_option maxHeartbeats 4000000 in
theorem made14_c (xs : List Ins) (hx : ∀ x ∈ xs, x.ok) (A : Option Addr) (n c : Nat) (w : World) (hA : Reads w w.heap.size 5 A n (insV xs)) (hc : n ≤ c) (hcm : c ≤ 9223372036854775807) :
    Calls Try.prog 19 #[.slice A n c] w fun e w' => ∃ P, e = .returned P ∧ w'.ownsRow w.heap.size 28 5 P (made14 xs).length (insV (made14 xs)) ∧ Below w.heap.size w w' := by
  have hn := hA.ins_len
  obtain ⟨m, hm⟩ : ∃ m, m = min n 40 := ⟨_, rfl⟩
  have hmn : m ≤ n := by omega
  have hm40 : m ≤ 40 := by omega
  have hml : (xs.take 40).length = m := by rw [List.length_take]; omega
  have hmin : ∀ W : World, (Builtin.min_ #[3, 3] 3 #[.int .i64 (n : Int), .int .i64 40]).run Try.prog W = .ok (.int .i64 (m : Int)) W := fun W => min_i64 _ _ _ _ 0 _ (by split <;> omega) W
  have hm0 : (0 : Int) ≤ (m : Int) := by omega
  have hmc : (m : Int) ≤ (c : Int) := by omega
  obtain ⟨iS, hi, hz0, hz1, hz2⟩ := info_parts infoIns
  have HL := Lib.hid hml
  clear hm hml
  go_enter Try.func19, Try.ntmps19
  go_wp2
  go_loopw [3, 13] (fun s k wr => ∃ (j : Nat) (D : Option Addr) (f : Nat), k = .int .i64 j ∧ s = .slice D j f ∧ j ≤ m ∧ wr.ownsRow w.heap.size 28 5 (.slice D j f) j (insV ((xs.take j).map fun x => one14 x (m + 1 : Nat))) ∧ Below w.heap.size w wr) (fun _ k _ => m - (intOf k).toNat)
  case atStart => exact ⟨0, none, 0, rfl, rfl, by omega, World.ownsRow_nil _ _ _ _, Below.refl _ _⟩
  case round =>
    obtain ⟨j, D, f, rfl, rfl, hj, ho, hb⟩ := hrel
    by_cases hlt : j < m
    · obtain ⟨ab, off, x, rfl, hab, hxj, c0, c1, c2, c3, c4⟩ := (hA.below hb).ins_at (show j < n by omega)
      have hxo : x.ok := hx x (List.mem_of_getElem? hxj)
      have hM : 1 ≤ ((m : Int) + 1) ∧ ((m : Int) + 1) ≤ 1000000 := by omega
      have w1 : wrap64 ((m : Int) + 1) = (m : Int) + 1 := by unfold wrap64; omega
      have OC := Lib.hid (fun W => one14_c x hxo ((m : Int) + 1) hM W)
      obtain ⟨y, hy⟩ : ∃ y, y = one14 x ((m : Int) + 1) := ⟨_, rfl⟩
      rw [← hy] at OC
      have hyo : y.ok := hy ▸ one14_ok x hxo _ hM
      have hstep : insV (((xs.take j).map fun x => one14 x (m + 1 : Nat))) ++ y.cells = insV ((xs.take (j + 1)).map fun x => one14 x (m + 1 : Nat)) := by
        rw [List.take_add_one, hxj, hy]
        simp [insV]
      have hab2 : ab < wr.heap.size := by have := hb.size; omega
      have HO := Lib.hid (And.intro ho (And.intro hstep hb))
      obtain ⟨x0, xa, xb, xc, xn⟩ := x
      obtain ⟨y0, ya, yb, yc, yn⟩ := y
      unfold Ins.v at OC
      dsimp only at OC c0 c1 c2 c3 c4
      clear ho hstep hb hA hxj hy hxo hyo
      go_wp2_with fail
      go_at_call 54
      refine (OC.out _).mono ?_
      rintro e W1 ⟨rfl, hb1⟩
      have hB1 : Below wr.heap.size wr W1 := ((Below.refl _ wr).alloc (Nat.le_refl _) _).trans (hb1.mono (by simp))
      have ho1 : W1.ownsRow w.heap.size 28 5 (.slice D j f) j (insV ((xs.take j).map fun x => one14 x (m + 1 : Nat))) := ownsRow_keep HO.out.1 fun k _ hk => hB1.block k hk
      have hb2 : Below w.heap.size w W1 := HO.out.2.2.trans (hB1.mono HO.out.2.2.size)
      have HQ := Lib.hid (And.intro ho1 hb2)
      have hrd : Reads (W1.alloc (.cells #[.int .u8 y0, .int .u8 ya, .int .u8 yb, .int .u8 yc, .int .i64 yn] 28)) (W1.heap.size + 1) 5 (some ⟨W1.heap.size, 0, none⟩) 1 [.int .u8 y0, .int .u8 ya, .int .u8 yb, .int .u8 yc, .int .i64 yn] := reads_new5 _ _ _ _ _ _ _ _ rfl
      have hones : ∀ u ∈ [Value.int .u8 y0, .int .u8 ya, .int .u8 yb, .int .u8 yc, .int .i64 yn], u.oneCell' = true := by
        intro u hu; simp at hu; rcases hu with rfl | rfl | rfl | rfl | rfl <;> rfl
      clear hb1 hB1 ho1 hb2
      go_wp2_with (at_builtin
                   refine wpList_append_any _ rfl (.tmp 17) (.tmp 23) _ rfl w.heap.size 28 iS _ 5 16 Try.underlying25 hi hz0 hz1 hz2 rfl (by omega) (.slice D j f) j _ rfl
                     (own_alloc HQ.out.1 _) (W1.heap.size + 1) (some ⟨W1.heap.size, 0, none⟩) 1 1 _ rfl hrd hones (by unfold maxLen; omega) (by omega) (by have := HQ.out.2.size; simp; omega) ?_
                   intro v1 w1 hown1 hg1 hat1)
      obtain ⟨D1, f1, rfl⟩ := own_slice hown1
      have hf2 := HO.out.2.1
      have hn2 : insV ((xs.take j).map fun x => one14 x (m + 1 : Nat)) ++ [.int .u8 y0, .int .u8 ya, .int .u8 yb, .int .u8 yc, .int .i64 yn] = insV ((xs.take (j + 1)).map fun x => one14 x (m + 1 : Nat)) := hf2
      rw [hn2] at hown1
      go_roundw
      case rel => exact ⟨j + 1, D1, f1, by go_num, rfl, by omega, hown1, (HQ.out.2.alloc HQ.out.2.size _).grown hg1 (Nat.le_trans HQ.out.2.size (by simp)) (fun k hk => own_base HQ.out.1 k hk)⟩
      case measure => simp [intOf]; omega
    · have hjm : j = m := by omega
      subst hjm
      have hfin : insV ((xs.take j).map fun x => one14 x (j + 1 : Nat)) ++ haltI.cells = insV (made14 xs) := by
        have ht : xs.take j = xs.take 40 := by
          have := HL.out
          rw [List.length_take] at this
          rcases Nat.le_total xs.length 40 with h | h
          · rw [List.take_of_length_le (by omega), List.take_of_length_le h]
          · rw [show j = 40 by omega]
        unfold made14
        rw [HL.out, ht]
        simp [insV]
      have hlen : (made14 xs).length = j + 1 := by rw [made14_len, HL.out]
      have HQ := Lib.hid (And.intro ho (And.intro hb (And.intro hfin hlen)))
      have hrd : Reads (wr.alloc (.cells #[.int .u8 1, .int .u8 0, .int .u8 0, .int .u8 0, .int .i64 0] 28)) (wr.heap.size + 1) 5 (some ⟨wr.heap.size, 0, none⟩) 1 [.int .u8 1, .int .u8 0, .int .u8 0, .int .u8 0, .int .i64 0] := reads_new5 _ _ _ _ _ _ _ _ rfl
      have hones : ∀ u ∈ [Value.int .u8 1, .int .u8 0, .int .u8 0, .int .u8 0, .int .i64 0], u.oneCell' = true := by
        intro u hu; simp at hu; rcases hu with rfl | rfl | rfl | rfl | rfl <;> rfl
      clear ho hb hfin hlen hA
      go_wp2_with (at_builtin
                   refine wpList_append_any _ rfl (.tmp 26) (.tmp 28) _ rfl w.heap.size 28 iS _ 5 16 Try.underlying25 hi hz0 hz1 hz2 rfl (by omega) (.slice D j f) j _ rfl
                     (own_alloc HQ.out.1 _) (wr.heap.size + 1) (some ⟨wr.heap.size, 0, none⟩) 1 1 _ rfl hrd hones (by unfold maxLen; omega) (by omega) (by have := HQ.out.2.1.size; simp; omega) ?_
                   intro v1 w1 hown1 hg1 hat1)
      obtain ⟨h1, h2, h3, h4⟩ := HQ.out
      have hn2 : insV ((xs.take j).map fun x => one14 x (j + 1 : Nat)) ++ [.int .u8 1, .int .u8 0, .int .u8 0, .int .u8 0, .int .i64 0] = insV (made14 xs) := h3
      rw [hn2] at hown1
      go_ret
      rw [h4]
      exact ⟨_, rfl, hown1, (h2.alloc h2.size _).grown hg1 (Nat.le_trans h2.size (by simp)) (fun k hk => own_base h1 k hk)⟩
end Go.Proofs.Ytmljmabbopkpiaa
end

section
/- fermatalaw14.Made, for walks over symbolic values. -/
namespace Go.Proofs.Ytmljmabbopkpiaa.Vm
open Go.RowKit
set_option linter.unusedVariables false
set_option linter.unusedSimpArgs false
set_option maxRecDepth 100000
def sMd14 : Spec := fun args h m => match args with
  | [.sl z i pa k s n' (some cp)] => match srcV h 5 (.tup []) (.sl z i pa k s n' (some cp)) with
    | some (c, n, f, rd) =>
        some (c ∧ n = n' ∧ (∀ q, q < n → isIns (f q) = true) ∧ (∀ x ∈ ls insOf n f, x.ok) ∧ max n cp ≤ 9223372036854775807, .sl m m [] 5 0 (made14 (ls insOf n f)).length none, rd, [(m, .own 28 (.arr (made14 (ls insOf n f)).length 5 (prS (made14 (ls insOf n f)))) false)])
    | _ => none
  | _ => none
theorem sMd14_ok : CallOk Try.prog 19 sMd14 := by
  refine ⟨named_spec (by kernel_rfl), fun args h m c v rd wr hs hm hc w0 M β h' w R hrd hwr hst => ?_⟩
  unfold sMd14 at hs
  split at hs
  · rename_i z i pa k' s n' cp
    split at hs
    · rename_i c' n f rd' ha
      simp only [Option.some.injEq, Prod.mk.injEq] at hs
      obtain ⟨rfl, rfl, rfl, rfl⟩ := hs
      obtain ⟨hc1, hn, hi, hok, hcp⟩ := hc
      obtain ⟨A, cap, hden, hnc, hr⟩ := reads_src R ha hc1 hrd (by omega)
      rw [elems_ins hi] at hr
      have hcap : cap ≤ 9223372036854775807 := by
        simp only [SV.den, Option.getD_some] at hden
        injection hden with _ _ h3
        omega
      simp only [denL, hden]
      refine (made14_c (ls insOf n f) hok A n cap w hr hnc hcap).mono fun e w' he => ?_
      obtain ⟨p, rfl, ho, hb⟩ := he
      have hmd : h' m = .dead := (hwr _ (.head _)).trans (hm m (Nat.le_refl _))
      obtain ⟨e', R', hv⟩ := (R.below hb).made (f := prS (made14 (ls insOf n f))) hmd ho R.size (elems_prS _) prS_stable (fun g i a' hg hmi hai e => by
        have := R.lt i a' hmi hai
        obtain ⟨_, ⟨rfl, _⟩ | ⟨g', cap', cur, rfl, hg', _⟩⟩ := ho
        · cases hg
        · simp [Value.ownBlock] at hg
          omega)
      exact ⟨_, agree_setE hmd, R', stable_new, by rw [hv]⟩
    · cases hs
  · cases hs
end Go.Proofs.Ytmljmabbopkpiaa.Vm
end

section
/- check: what is answered to programs and limits that are not right. -/
namespace Go.Proofs.Ytmljmabbopkpiaa.Vm
open Go.RowKit
attribute [local push_cast] runR opG gtmp gval gus opX tmpsOf tm tmO tmP restr look look2 tab tys zs ets eqB eqBL allB numOf ieq Int.cast_ofNat_Int Int.ofNat_zero beq_true beq_false frameOf ev evL ofV opV loadV noW pushF wrsL setH allBorn allGone HB.born HB.isGone HB.val SV.plain dstOk hp nav fitsT SV.size sizeL SV.isAgg TK.size TK.agg bin binE binN binI arN arI cmpN cmpI keq kn narrow callV storeV setp fillV buildV buildSliceV makeV sliceV appendV copyV List.isEmpty_nil srcV evO asN ite_t ite_f ite_bool ite_int ite_nat maxV v_beq v_ble v_blt cond_true cond_false List.getElem?_cons_zero List.getElem?_cons_succ List.getD_cons_zero List.getD_cons_succ List.getD_nil List.length_cons List.length_nil List.take_succ_cons List.take_zero List.set_cons_zero List.set_cons_succ List.cons_append List.nil_append List.append_assoc List.replicate_succ List.replicate_zero Nat.zero_add Nat.add_zero decide_true decide_false Bool.true_and Bool.and_true Bool.false_and Bool.and_false Bool.true_or Bool.or_true Bool.false_or Bool.or_false beq_self_eq_true Bool.or_self Nat.lt_irrefl Nat.not_lt_zero Nat.le_refl Option.getD_some Option.getD_none BEq.rfl Bool.not_true Bool.not_false Bool.cond_true_left Bool.cond_false_right prS sndsS i64S nav_ins nav_ins0 nav_ins1 nav_ins2 nav_ins3 nav_ins4 nav_snd nav_snd0 nav_snd1 nav_snd2 isIns_insS insOf_insS isSnd_sndS sndOf_sndS isI_int isI_nat iOf nav_k nav_k0 nav_k1 nav_ka nav_kai nav_ft nav_ft0 nav_ft1 isKn_kS knOf_kS isKa_kaS kaOf_kaS isFt_ftS ftOf_ftS setp_ka setp_ftk setp_ftr setp_fti evm_ins evm_snd evm_k evm_ka evm_ft
set_option linter.unusedVariables false
set_option linter.unusedSimpArgs false
set_option maxRecDepth 100000
set_option maxHeartbeats 4000000
theorem doomB_lit (xs : List Ins) (p1 : Nat) (c p l : Int) (hx : ∀ x ∈ xs, x.ok) (hl : xs.length ≤ 281474976710656) (hf : fitE xs c p l ≠ 0) : LitOk Try.prog 34 [.sl 1 2 [] 5 0 xs.length (some p1), .agg [.int .i64 c, .int .i64 p, .int .i64 l]] [.gone, .gone, .ro (.arr xs.length 5 (prS xs))]
    (.tup [.sl 0 0 [] 0 0 0 (some 0), .int .i64 (fitE xs c p l)]) [.gone] := by
  refine litOkM (fn := Try.f34) 3 25 0 rfl rfl rfl rfl rfl (by simp only [StableL, Stable, hp]; simp [HB.born]) rfl fun w0 M E hro => ?_
  obtain ⟨e, he⟩ : ∃ e, fitE xs c p l = e := ⟨_, rfl⟩
  rw [he] at hf ⊢
  repeat' (first | with_reducible (first | apply J1 | apply J3 | apply J4 | apply J5 | apply J6 | apply J7 | apply J8 | apply J9 | apply J10 | apply J11 | apply J12 | apply J13 | apply J14 | apply J15 | apply J16 | apply J17 | apply J18 | apply J19 | apply J20 | refine J2 ?_) | ((with_reducible apply J21); (· rfl)) | ((with_reducible intro hif); first | (focus (cases hif; done)) | (simp only [JH] at hif; try (exfalso; omega)) | (try (exfalso; omega))) | ((first | ((with_reducible apply J22 cWys_ok tab_ok); (· rfl)) | ((with_reducible apply J23 fol cWys_ok tab_ok); (· rfl)) | with_reducible apply J24); (· (simp only [push_cast, ↓JP, Nat.reduceAdd, Nat.reduceEqDiff, Nat.reduceLT, Nat.reduceMul, Nat.reduceLeDiff, reduceCtorEq, reduceIte, ↓JK, ↓JF, cWys, sFits, ls_prS, ls_prS', ls_prS2, he, hf]; rfl)); (try kernel_rfl); (try (focus (first | exact True.intro | ((try simp only [JS, implies_true, forall_const, shaped, shapedL, kndOf, cWys, sFits, ls_prS, ls_prS', ls_prS2, he, hf]); (first | exact ⟨fun q _ => rfl, hx, hl⟩ | (repeat' (first | assumption | exact True.intro | omega | apply And.intro))); done) | ((first | exact ⟨fun q _ => rfl, hx, hl⟩ | (repeat' (first | assumption | exact True.intro | omega | apply And.intro))); done))))) | fail)
  apply At.endsRet tab_ok (fn := Try.f34) (rs := [.tmp 4, .tmp 5]) Anc.refl hro (Nat.le_of_ble_eq_true rfl) rfl
  · simp only [push_cast, ↓JP, Nat.reduceAdd, Nat.reduceEqDiff, Nat.reduceLT, Nat.reduceMul, Nat.reduceLeDiff, reduceCtorEq, reduceIte, ↓JK, ↓JF, resV, resV1]; rfl
  · (first | trivial | (simp only [and_self]; done))
  · (repeat' (first | exact trivial | exact .same _ | exact .dead _ | exact .gone rfl | exact .loose | assumption | exact .arr (by assumption) | apply And.intro))
  · rfl
  · (repeat' (first | exact trivial | exact rfl | assumption | apply Stable.ite | apply And.intro | intro _ | (simp only [Stable, StableL, i64S, prS, insS, sndsS, sndS, kS, kaS, ftS, ftsS]; done)))
  · (repeat' (first | exact trivial | exact .inl rfl | exact .inr rfl | exact rfl | apply And.intro))
  · exact fun β => rfl
  · (repeat' (first | exact trivial | exact rfl | assumption | apply Stable.ite | apply And.intro | intro _ | (simp only [Stable, StableL, i64S, prS, insS, sndsS, sndS, kS, kaS, ftS, ftsS]; done)))
theorem chkB_lit (xs : List Ins) (p1 : Nat) (c p l : Int) (hx : ∀ x ∈ xs, x.ok) (hl : xs.length ≤ 281474976710656) (hf : fitE xs c p l ≠ 0) : LitOk Try.prog 35 [.sl 1 2 [] 5 0 xs.length (some p1), .agg [.int .i64 c, .int .i64 p, .int .i64 l]] [.gone, .gone, .ro (.arr xs.length 5 (prS xs))]
    (.tup [.int .i64 (-1), .int .i64 (fitE xs c p l)]) [.gone] := by
  refine litOkM (fn := Try.f35) 3 24 0 rfl rfl rfl rfl rfl (by simp only [StableL, Stable, hp]; simp [HB.born]) rfl fun w0 M E hro => ?_
  obtain ⟨e, he⟩ : ∃ e, fitE xs c p l = e := ⟨_, rfl⟩
  rw [he] at hf ⊢
  repeat' (first | with_reducible (first | apply J1 | apply J3 | apply J4 | apply J5 | apply J6 | apply J7 | apply J8 | apply J9 | apply J10 | apply J11 | apply J12 | apply J13 | apply J14 | apply J15 | apply J16 | apply J17 | apply J18 | apply J19 | apply J20 | refine J2 ?_) | ((with_reducible apply J21); (· rfl)) | ((with_reducible intro hif); first | (focus (cases hif; done)) | (simp only [JH] at hif; try (exfalso; omega)) | (try (exfalso; omega))) | ((first | ((with_reducible apply J22 cWys_ok tab_ok); (· rfl)) | ((with_reducible apply J23 fol cWys_ok tab_ok); (· rfl)) | with_reducible apply J24); (· (simp only [push_cast, ↓JP, Nat.reduceAdd, Nat.reduceEqDiff, Nat.reduceLT, Nat.reduceMul, Nat.reduceLeDiff, reduceCtorEq, reduceIte, ↓JK, ↓JF, cWys, sFits, ls_prS, ls_prS', ls_prS2, he, hf]; rfl)); (try kernel_rfl); (try (focus (first | exact True.intro | ((try simp only [JS, implies_true, forall_const, shaped, shapedL, kndOf, cWys, sFits, ls_prS, ls_prS', ls_prS2, he, hf]); (first | exact ⟨fun q _ => rfl, hx, hl⟩ | (repeat' (first | assumption | exact True.intro | omega | apply And.intro))); done) | ((first | exact ⟨fun q _ => rfl, hx, hl⟩ | (repeat' (first | assumption | exact True.intro | omega | apply And.intro))); done))))) | fail)
  apply At.endsRet tab_ok (fn := Try.f35) (rs := [.cell 4 3, .cell 5 32]) Anc.refl hro (Nat.le_of_ble_eq_true rfl) rfl
  · simp only [push_cast, ↓JP, Nat.reduceAdd, Nat.reduceEqDiff, Nat.reduceLT, Nat.reduceMul, Nat.reduceLeDiff, reduceCtorEq, reduceIte, ↓JK, ↓JF, resV, resV1]; rfl
  · (first | trivial | (simp only [and_self]; done))
  · (repeat' (first | exact trivial | exact .same _ | exact .dead _ | exact .gone rfl | exact .loose | assumption | exact .arr (by assumption) | apply And.intro))
  · rfl
  · (repeat' (first | exact trivial | exact rfl | assumption | apply Stable.ite | apply And.intro | intro _ | (simp only [Stable, StableL, i64S, prS, insS, sndsS, sndS, kS, kaS, ftS, ftsS]; done)))
  · (repeat' (first | exact trivial | exact .inl rfl | exact .inr rfl | exact rfl | apply And.intro))
  · exact fun β => rfl
  · (repeat' (first | exact trivial | exact rfl | assumption | apply Stable.ite | apply And.intro | intro _ | (simp only [Stable, StableL, i64S, prS, insS, sndsS, sndS, kS, kaS, ftS, ftsS]; done)))
theorem factsB_lit (xs : List Ins) (p1 : Nat) (hx : ∀ x ∈ xs, x.ok) (hl : xs.length ≤ 281474976710656) (hc : (checkI xs).2 ≠ 0) : LitOk Try.prog 21 [.sl 1 2 [] 5 0 xs.length (some p1)] [.gone, .gone, .ro (.arr xs.length 5 (prS xs))] (.tup [.sl 0 0 [] 0 0 0 (some 0), .int .i64 170]) [.gone] := by
  refine litOkM (fn := Try.f21) 3 15 0 rfl rfl rfl rfl rfl (by simp only [StableL, Stable, hp]; simp [HB.born]) rfl fun w0 M E hro => ?_
  obtain ⟨e, he⟩ : ∃ e, (checkI xs).2 = e := ⟨_, rfl⟩
  rw [he] at hc
  repeat' (first | with_reducible (first | apply J1 | apply J3 | apply J4 | apply J5 | apply J6 | apply J7 | apply J8 | apply J9 | apply J10 | apply J11 | apply J12 | apply J13 | apply J14 | apply J15 | apply J16 | apply J17 | apply J18 | apply J19 | apply J20 | refine J2 ?_) | ((with_reducible apply J21); (· rfl)) | ((with_reducible intro hif); first | (focus (cases hif; done)) | (simp only [JH] at hif; try (exfalso; omega)) | (try (exfalso; omega))) | ((first | ((with_reducible apply J22 cWh_ok tab_ok); (· rfl)) | ((with_reducible apply J23 fol cWh_ok tab_ok); (· rfl)) | with_reducible apply J24); (· (simp only [push_cast, ↓JP, Nat.reduceAdd, Nat.reduceEqDiff, Nat.reduceLT, Nat.reduceMul, Nat.reduceLeDiff, reduceCtorEq, reduceIte, ↓JK, ↓JF, cWh, sCheck, ls_prS, ls_prS', ls_prS2, he, hc]; rfl)); (try kernel_rfl); (try (focus (first | exact True.intro | ((try simp only [JS, implies_true, forall_const, shaped, shapedL, kndOf, cWh, sCheck, ls_prS, ls_prS', ls_prS2, he, hc]); (first | exact ⟨fun q _ => rfl, hx, hl⟩ | (repeat' (first | assumption | exact True.intro | omega | apply And.intro))); done) | ((first | exact ⟨fun q _ => rfl, hx, hl⟩ | (repeat' (first | assumption | exact True.intro | omega | apply And.intro))); done))))) | fail)
  apply At.endsRet tab_ok (fn := Try.f21) (rs := [.tmp 2, .tmp 3]) Anc.refl hro (Nat.le_of_ble_eq_true rfl) rfl
  · simp only [push_cast, ↓JP, Nat.reduceAdd, Nat.reduceEqDiff, Nat.reduceLT, Nat.reduceMul, Nat.reduceLeDiff, reduceCtorEq, reduceIte, ↓JK, ↓JF, resV, resV1]; rfl
  · (first | trivial | (simp only [and_self]; done))
  · (repeat' (first | exact trivial | exact .same _ | exact .dead _ | exact .gone rfl | exact .loose | assumption | exact .arr (by assumption) | apply And.intro))
  · rfl
  · (repeat' (first | exact trivial | exact rfl | assumption | apply Stable.ite | apply And.intro | intro _ | (simp only [Stable, StableL, i64S, prS, insS, sndsS, sndS, kS, kaS, ftS, ftsS]; done)))
  · (repeat' (first | exact trivial | exact .inl rfl | exact .inr rfl | exact rfl | apply And.intro))
  · exact fun β => rfl
  · (repeat' (first | exact trivial | exact rfl | assumption | apply Stable.ite | apply And.intro | intro _ | (simp only [Stable, StableL, i64S, prS, insS, sndsS, sndS, kS, kaS, ftS, ftsS]; done)))
def sDoomB : Spec := fun args h m => match args with
  | [v1, .agg [v2, v3, v4]] => match srcV h 5 (.tup []) v1 with
    | some (c1, n1, f1, r1) => bif isI .i64 v2 && isI .i64 v3 && isI .i64 v4 then some (c1 ∧ (∀ q, q < n1 → isIns (f1 q) = true) ∧ ((∀ x ∈ (ls insOf n1 f1), x.ok)) ∧ (n1 ≤ 281474976710656) ∧ (fitE (ls insOf n1 f1) (iOf v2) (iOf v3) (iOf v4) ≠ 0), .tup [.sl 0 0 [] 0 0 0 (some 0), .int .i64 (fitE (ls insOf n1 f1) (iOf v2) (iOf v3) (iOf v4))], r1, []) else none
    | _ => none
  | _ => none
theorem sDoomB_ok : CallOk Try.prog 34 sDoomB := by
  refine ⟨named_spec (by kernel_rfl), fun args h m c v rd wr hs hm hc w0 M β h' w R hrd hwr hst => ?_⟩
  unfold sDoomB at hs
  split at hs
  · rename_i v1 v2 v3 v4
    split at hs
    · rename_i c1 n1 f1 r1 a1
      obtain ⟨hb, hs⟩ := bif_some hs
      simp only [Option.some.injEq, Prod.mk.injEq] at hs
      obtain ⟨rfl, rfl, rfl, rfl⟩ := hs
      simp only [Bool.and_eq_true] at hb
      obtain ⟨⟨b2, b3⟩, b4⟩ := hb
      obtain ⟨k1, g1, y1, y2, y3⟩ := hc
      obtain ⟨A1, p1, d1, e1, t1⟩ := reads_src R a1 k1 (fun i hi => hrd i hi) (by omega)
      refine callRo (views := [⟨5, (ls insOf n1 f1).length, prS (ls insOf n1 f1), A1, p1⟩]) (doomB_lit (ls insOf n1 f1) p1 (iOf v2) (iOf v3) (iOf v4) y1 (by rw [ls_length]; exact y2) y3) ?_ R hm hwr ?_ ?_ ?_
      · intro x hx
        simp only [List.mem_cons, List.not_mem_nil, or_false] at hx
        subst hx
        · exact viewIns t1 e1 g1
      · intro β1 hv
        simp only [Vd, ls_length, and_true] at hv
        have z1 := hv
        simp only [denL, aggDen, intDen, natDen, boolDen, ls_length, z1, d1, isI_den b2, isI_den b3, isI_den b4]
      · (repeat' (first | exact trivial | exact rfl | assumption | apply Stable.ite | apply And.intro | intro _ | (simp only [Stable, StableL, i64S, prS, insS, sndsS, sndS, kS, kaS, ftS, ftsS]; done)))
      · (repeat' (first | exact trivial | exact rfl | assumption | apply Stable.ite | apply And.intro | intro _ | (simp only [Stable, StableL, i64S, prS, insS, sndsS, sndS, kS, kaS, ftS, ftsS]; done)))
    · cases hs
  · cases hs
def sChkB : Spec := fun args h m => match args with
  | [v1, .agg [v2, v3, v4]] => match srcV h 5 (.tup []) v1 with
    | some (c1, n1, f1, r1) => bif isI .i64 v2 && isI .i64 v3 && isI .i64 v4 then some (c1 ∧ (∀ q, q < n1 → isIns (f1 q) = true) ∧ ((∀ x ∈ (ls insOf n1 f1), x.ok)) ∧ (n1 ≤ 281474976710656) ∧ (fitE (ls insOf n1 f1) (iOf v2) (iOf v3) (iOf v4) ≠ 0), .tup [.int .i64 (-1), .int .i64 (fitE (ls insOf n1 f1) (iOf v2) (iOf v3) (iOf v4))], r1, []) else none
    | _ => none
  | _ => none
theorem sChkB_ok : CallOk Try.prog 35 sChkB := by
  refine ⟨named_spec (by kernel_rfl), fun args h m c v rd wr hs hm hc w0 M β h' w R hrd hwr hst => ?_⟩
  unfold sChkB at hs
  split at hs
  · rename_i v1 v2 v3 v4
    split at hs
    · rename_i c1 n1 f1 r1 a1
      obtain ⟨hb, hs⟩ := bif_some hs
      simp only [Option.some.injEq, Prod.mk.injEq] at hs
      obtain ⟨rfl, rfl, rfl, rfl⟩ := hs
      simp only [Bool.and_eq_true] at hb
      obtain ⟨⟨b2, b3⟩, b4⟩ := hb
      obtain ⟨k1, g1, y1, y2, y3⟩ := hc
      obtain ⟨A1, p1, d1, e1, t1⟩ := reads_src R a1 k1 (fun i hi => hrd i hi) (by omega)
      refine callRo (views := [⟨5, (ls insOf n1 f1).length, prS (ls insOf n1 f1), A1, p1⟩]) (chkB_lit (ls insOf n1 f1) p1 (iOf v2) (iOf v3) (iOf v4) y1 (by rw [ls_length]; exact y2) y3) ?_ R hm hwr ?_ ?_ ?_
      · intro x hx
        simp only [List.mem_cons, List.not_mem_nil, or_false] at hx
        subst hx
        · exact viewIns t1 e1 g1
      · intro β1 hv
        simp only [Vd, ls_length, and_true] at hv
        have z1 := hv
        simp only [denL, aggDen, intDen, natDen, boolDen, ls_length, z1, d1, isI_den b2, isI_den b3, isI_den b4]
      · (repeat' (first | exact trivial | exact rfl | assumption | apply Stable.ite | apply And.intro | intro _ | (simp only [Stable, StableL, i64S, prS, insS, sndsS, sndS, kS, kaS, ftS, ftsS]; done)))
      · (repeat' (first | exact trivial | exact rfl | assumption | apply Stable.ite | apply And.intro | intro _ | (simp only [Stable, StableL, i64S, prS, insS, sndsS, sndS, kS, kaS, ftS, ftsS]; done)))
    · cases hs
  · cases hs
def sFactsB : Spec := fun args h m => match args with
  | [v1] => match srcV h 5 (.tup []) v1 with
    | some (c1, n1, f1, r1) => some (c1 ∧ (∀ q, q < n1 → isIns (f1 q) = true) ∧ ((∀ x ∈ (ls insOf n1 f1), x.ok)) ∧ (n1 ≤ 281474976710656) ∧ ((checkI (ls insOf n1 f1)).2 ≠ 0), .tup [.sl 0 0 [] 0 0 0 (some 0), .int .i64 170], r1, [])
    | _ => none
  | _ => none
theorem sFactsB_ok : CallOk Try.prog 21 sFactsB := by
  refine ⟨named_spec (by kernel_rfl), fun args h m c v rd wr hs hm hc w0 M β h' w R hrd hwr hst => ?_⟩
  unfold sFactsB at hs
  split at hs
  · rename_i v1
    split at hs
    · rename_i c1 n1 f1 r1 a1
      simp only [Option.some.injEq, Prod.mk.injEq] at hs
      obtain ⟨rfl, rfl, rfl, rfl⟩ := hs
      obtain ⟨k1, g1, y1, y2, y3⟩ := hc
      obtain ⟨A1, p1, d1, e1, t1⟩ := reads_src R a1 k1 (fun i hi => hrd i hi) (by omega)
      refine callRo (views := [⟨5, (ls insOf n1 f1).length, prS (ls insOf n1 f1), A1, p1⟩]) (factsB_lit (ls insOf n1 f1) p1 y1 (by rw [ls_length]; exact y2) y3) ?_ R hm hwr ?_ ?_ ?_
      · intro x hx
        simp only [List.mem_cons, List.not_mem_nil, or_false] at hx
        subst hx
        · exact viewIns t1 e1 g1
      · intro β1 hv
        simp only [Vd, ls_length, and_true] at hv
        have z1 := hv
        simp only [denL, aggDen, intDen, natDen, boolDen, ls_length, z1, d1]
      · (repeat' (first | exact trivial | exact rfl | assumption | apply Stable.ite | apply And.intro | intro _ | (simp only [Stable, StableL, i64S, prS, insS, sndsS, sndS, kS, kaS, ftS, ftsS]; done)))
      · (repeat' (first | exact trivial | exact rfl | assumption | apply Stable.ite | apply And.intro | intro _ | (simp only [Stable, StableL, i64S, prS, insS, sndsS, sndS, kS, kaS, ftS, ftsS]; done)))
    · cases hs
  · cases hs
def cLstB : FuncId → Option Spec := look2 [(21, sFactsB)]
theorem cLstB_ok : ∀ f S, cLstB f = some S → CallOk Try.prog f S := allOk_spec ⟨sFactsB_ok, trivial⟩
theorem leastB_lit (xs : List Ins) (p1 : Nat) (hx : ∀ x ∈ xs, x.ok) (hl : xs.length ≤ 281474976710656) (hc : (checkI xs).2 ≠ 0) : LitOk Try.prog 20 [.sl 1 2 [] 5 0 xs.length (some p1)] [.gone, .gone, .ro (.arr xs.length 5 (prS xs))] (.tup [.agg [.int .i64 0, .int .i64 0, .int .i64 0], .int .i64 170]) [.gone] := by
  refine litOkM (fn := Try.f20) 3 94 0 rfl rfl rfl rfl rfl (by simp only [StableL, Stable, hp]; simp [HB.born]) rfl fun w0 M E hro => ?_
  have h170 : ¬ ((170 : Int) = 0) := by decide
  repeat' (first | with_reducible (first | apply J1 | apply J3 | apply J4 | apply J5 | apply J6 | apply J7 | apply J8 | apply J9 | apply J10 | apply J11 | apply J12 | apply J13 | apply J14 | apply J15 | apply J16 | apply J17 | apply J18 | apply J19 | apply J20 | refine J2 ?_) | ((with_reducible apply J21); (· rfl)) | ((with_reducible intro hif); first | (focus (cases hif; done)) | (simp only [JH] at hif; try (exfalso; omega)) | (try (exfalso; omega))) | ((first | ((with_reducible apply J22 cLstB_ok tab_ok); (· rfl)) | ((with_reducible apply J23 fol cLstB_ok tab_ok); (· rfl)) | with_reducible apply J24); (· (simp only [push_cast, ↓JP, Nat.reduceAdd, Nat.reduceEqDiff, Nat.reduceLT, Nat.reduceMul, Nat.reduceLeDiff, reduceCtorEq, reduceIte, ↓JK, ↓JF, cLstB, sFactsB, ls_prS, ls_prS', ls_prS2, h170]; rfl)); (try kernel_rfl); (try (focus (first | exact True.intro | ((try simp only [JS, implies_true, forall_const, shaped, shapedL, kndOf, cLstB, sFactsB, ls_prS, ls_prS', ls_prS2, h170]); (first | exact ⟨fun q _ => rfl, hx, hl, hc⟩ | (repeat' (first | assumption | exact True.intro | omega | apply And.intro))); done) | ((first | exact ⟨fun q _ => rfl, hx, hl, hc⟩ | (repeat' (first | assumption | exact True.intro | omega | apply And.intro))); done))))) | fail)
  apply At.endsRet tab_ok (fn := Try.f20) (rs := [.cell 2 31, .tmp 3]) Anc.refl hro (Nat.le_of_ble_eq_true rfl) rfl
  · simp only [push_cast, ↓JP, Nat.reduceAdd, Nat.reduceEqDiff, Nat.reduceLT, Nat.reduceMul, Nat.reduceLeDiff, reduceCtorEq, reduceIte, ↓JK, ↓JF, resV, resV1]; rfl
  · (first | trivial | (simp only [and_self]; done))
  · (repeat' (first | exact trivial | exact .same _ | exact .dead _ | exact .gone rfl | exact .loose | assumption | exact .arr (by assumption) | apply And.intro))
  · rfl
  · (repeat' (first | exact trivial | exact rfl | assumption | apply Stable.ite | apply And.intro | intro _ | (simp only [Stable, StableL, i64S, prS, insS, sndsS, sndS, kS, kaS, ftS, ftsS]; done)))
  · (repeat' (first | exact trivial | exact .inl rfl | exact .inr rfl | exact rfl | apply And.intro))
  · exact fun β => rfl
  · (repeat' (first | exact trivial | exact rfl | assumption | apply Stable.ite | apply And.intro | intro _ | (simp only [Stable, StableL, i64S, prS, insS, sndsS, sndS, kS, kaS, ftS, ftsS]; done)))
def sLeastB : Spec := fun args h m => match args with
  | [v1] => match srcV h 5 (.tup []) v1 with
    | some (c1, n1, f1, r1) => some (c1 ∧ (∀ q, q < n1 → isIns (f1 q) = true) ∧ ((∀ x ∈ (ls insOf n1 f1), x.ok)) ∧ (n1 ≤ 281474976710656) ∧ ((checkI (ls insOf n1 f1)).2 ≠ 0), .tup [.agg [.int .i64 0, .int .i64 0, .int .i64 0], .int .i64 170], r1, [])
    | _ => none
  | _ => none
theorem sLeastB_ok : CallOk Try.prog 20 sLeastB := by
  refine ⟨named_spec (by kernel_rfl), fun args h m c v rd wr hs hm hc w0 M β h' w R hrd hwr hst => ?_⟩
  unfold sLeastB at hs
  split at hs
  · rename_i v1
    split at hs
    · rename_i c1 n1 f1 r1 a1
      simp only [Option.some.injEq, Prod.mk.injEq] at hs
      obtain ⟨rfl, rfl, rfl, rfl⟩ := hs
      obtain ⟨k1, g1, y1, y2, y3⟩ := hc
      obtain ⟨A1, p1, d1, e1, t1⟩ := reads_src R a1 k1 (fun i hi => hrd i hi) (by omega)
      refine callRo (views := [⟨5, (ls insOf n1 f1).length, prS (ls insOf n1 f1), A1, p1⟩]) (leastB_lit (ls insOf n1 f1) p1 y1 (by rw [ls_length]; exact y2) y3) ?_ R hm hwr ?_ ?_ ?_
      · intro x hx
        simp only [List.mem_cons, List.not_mem_nil, or_false] at hx
        subst hx
        · exact viewIns t1 e1 g1
      · intro β1 hv
        simp only [Vd, ls_length, and_true] at hv
        have z1 := hv
        simp only [denL, aggDen, intDen, natDen, boolDen, ls_length, z1, d1]
      · (repeat' (first | exact trivial | exact rfl | assumption | apply Stable.ite | apply And.intro | intro _ | (simp only [Stable, StableL, i64S, prS, insS, sndsS, sndS, kS, kaS, ftS, ftsS]; done)))
      · (repeat' (first | exact trivial | exact rfl | assumption | apply Stable.ite | apply And.intro | intro _ | (simp only [Stable, StableL, i64S, prS, insS, sndsS, sndS, kS, kaS, ftS, ftsS]; done)))
    · cases hs
  · cases hs
end Go.Proofs.Ytmljmabbopkpiaa.Vm
end

section
/- slices.Clone at three element types. -/
namespace Go.Proofs.Ytmljmabbopkpiaa
open Go.RowKit
set_option linter.unusedVariables false
set_option linter.unusedSimpArgs false

theorem info64 : (Try.prog.info? 2).map (fun i => (i.zero, i.size, i.bytes)) = some (some (.int .i64 0), 1, 8) := by kernel_rfl
theorem infoSend : (Try.prog.info? 64).map (fun i => (i.zero, i.size, i.bytes)) = some (some (.agg #[.int .i64 0, .int .i64 0, .int .i64 0]), 3, 24) := by kernel_rfl


set_option maxRecDepth 100000 in
set_option maxHeartbeats 1000000 in
theorem clone64_some (ad : Addr) (n c : Nat) (xs : List Value) (w : World) (h : Reads w w.heap.size 1 (some ad) n xs) (h1 : ∀ u ∈ xs, u.oneCell' = true) (hn : n * 8 ≤ 140737488355328) (hm : n ≤ maxLen) :
    Calls Try.prog 62 #[.slice (some ad) n c] w fun e w' => ∃ v, e = .returned v ∧ w'.ownsRow w.heap.size 2 1 v (0 + n) ([] ++ xs) ∧ Below w.heap.size w w' := by
  obtain ⟨i0, hi, hz0, hz1, hz2⟩ := info_parts info64
  have hr := (h.alloc (Nat.le_refl _) (.cells #[] 2))
  have H1 := Lib.hid h1
  have HN := Lib.hid hn
  have HM := Lib.hid hm
  have HR := Lib.hid hr
  clear h h1 hn hm hr
  have kn := fun (w : World) (a : Option Addr) (n c : Nat) => eql_nil (P := Try.prog) w 47 2 a n c Try.underlying47
  go_enter Try.func62, Try.ntmps62
  go_wp2_with (at_builtin
               refine wpList_append_any _ rfl (.tmp 5) (.tmp 6) _ rfl w.heap.size 2 i0 _ 1 8 Try.underlying47 hi hz0 hz1 hz2 rfl (by omega) (.slice (some ⟨w.heap.size, 0, none⟩) 0 0) 0 [] rfl
                 (World.ownsRow_made w #[] 0 (Nat.le_refl _) (Nat.zero_le _) rfl) w.heap.size (some ad) n c xs rfl HR.out H1.out (by have := HM.out; omega) (by have := HN.out; omega) (by simp) ?_
               intro v1 w1 hown1 hg1 hat1)
  go_ret
  refine ⟨v1, rfl, hown1, ((Below.refl _ w).alloc (Nat.le_refl _) _).grown hg1 (by simp) (fun k hk => ?_)⟩
  rcases hat1 with e | e <;> simp [Value.ownBlock] at hk <;> omega
theorem clone64_nil (n c : Nat) (w : World) :
    Calls Try.prog 62 #[.slice none n c] w fun e w' => e = .returned (.slice none 0 0) ∧ w = w' := by
  have kn := fun (w : World) (a : Option Addr) (n c : Nat) => eql_nil (P := Try.prog) w 47 2 a n c Try.underlying47
  go_enter Try.func62, Try.ntmps62
  go_wp2
  go_ret
  exact ⟨rfl, rfl⟩
/-- slices.Clone: a row of the call's own with the same cells. -/
theorem clone64_c (A : Option Addr) (n c : Nat) (xs : List Value) (w : World) (h : Reads w w.heap.size 1 A n xs) (h1 : ∀ u ∈ xs, u.oneCell' = true) (hn : n * 8 ≤ 140737488355328) :
    Calls Try.prog 62 #[.slice A n c] w fun e w' => ∃ v, e = .returned v ∧ w'.ownsRow w.heap.size 2 1 v n xs ∧ Below w.heap.size w w' := by
  cases A with
  | none =>
    have hn0 : n = 0 := by
      rcases Nat.eq_zero_or_pos n with h0 | h0
      · exact h0
      · obtain ⟨ad, e, _⟩ := h.2 h0
        cases e
    subst hn0
    have hx : xs = [] := List.eq_nil_of_length_eq_zero (by simpa using h.1)
    subst hx
    refine (clone64_nil 0 c w).mono ?_
    rintro e w' ⟨rfl, rfl⟩
    exact ⟨_, rfl, World.ownsRow_nil _ _ _ _, Below.refl _ _⟩
  | some ad =>
    have hm : n ≤ maxLen := by unfold maxLen; omega
    refine (clone64_some ad n c xs w h h1 hn hm).mono ?_
    rintro e w' ⟨v, rfl, ho, hb⟩
    exact ⟨v, rfl, by simpa using ho, hb⟩

set_option maxRecDepth 100000 in
set_option maxHeartbeats 1000000 in
theorem cloneIns_some (ad : Addr) (n c : Nat) (xs : List Value) (w : World) (h : Reads w w.heap.size 5 (some ad) n xs) (h1 : ∀ u ∈ xs, u.oneCell' = true) (hn : n * 16 ≤ 140737488355328) (hm : n ≤ maxLen) :
    Calls Try.prog 32 #[.slice (some ad) n c] w fun e w' => ∃ v, e = .returned v ∧ w'.ownsRow w.heap.size 28 5 v (0 + n) ([] ++ xs) ∧ Below w.heap.size w w' := by
  obtain ⟨i0, hi, hz0, hz1, hz2⟩ := info_parts infoIns
  have hr := (h.alloc (Nat.le_refl _) (.cells #[] 28))
  have H1 := Lib.hid h1
  have HN := Lib.hid hn
  have HM := Lib.hid hm
  have HR := Lib.hid hr
  clear h h1 hn hm hr
  have kn := fun (w : World) (a : Option Addr) (n c : Nat) => eql_nil (P := Try.prog) w 25 28 a n c Try.underlying25
  go_enter Try.func32, Try.ntmps32
  go_wp2_with (at_builtin
               refine wpList_append_any _ rfl (.tmp 5) (.tmp 6) _ rfl w.heap.size 28 i0 _ 5 16 Try.underlying25 hi hz0 hz1 hz2 rfl (by omega) (.slice (some ⟨w.heap.size, 0, none⟩) 0 0) 0 [] rfl
                 (World.ownsRow_made w #[] 0 (Nat.le_refl _) (Nat.zero_le _) rfl) w.heap.size (some ad) n c xs rfl HR.out H1.out (by have := HM.out; omega) (by have := HN.out; omega) (by simp) ?_
               intro v1 w1 hown1 hg1 hat1)
  go_ret
  refine ⟨v1, rfl, hown1, ((Below.refl _ w).alloc (Nat.le_refl _) _).grown hg1 (by simp) (fun k hk => ?_)⟩
  rcases hat1 with e | e <;> simp [Value.ownBlock] at hk <;> omega
theorem cloneIns_nil (n c : Nat) (w : World) :
    Calls Try.prog 32 #[.slice none n c] w fun e w' => e = .returned (.slice none 0 0) ∧ w = w' := by
  have kn := fun (w : World) (a : Option Addr) (n c : Nat) => eql_nil (P := Try.prog) w 25 28 a n c Try.underlying25
  go_enter Try.func32, Try.ntmps32
  go_wp2
  go_ret
  exact ⟨rfl, rfl⟩
/-- slices.Clone: a row of the call's own with the same cells. -/
theorem cloneIns_c (A : Option Addr) (n c : Nat) (xs : List Value) (w : World) (h : Reads w w.heap.size 5 A n xs) (h1 : ∀ u ∈ xs, u.oneCell' = true) (hn : n * 16 ≤ 140737488355328) :
    Calls Try.prog 32 #[.slice A n c] w fun e w' => ∃ v, e = .returned v ∧ w'.ownsRow w.heap.size 28 5 v n xs ∧ Below w.heap.size w w' := by
  cases A with
  | none =>
    have hn0 : n = 0 := by
      rcases Nat.eq_zero_or_pos n with h0 | h0
      · exact h0
      · obtain ⟨ad, e, _⟩ := h.2 h0
        cases e
    subst hn0
    have hx : xs = [] := List.eq_nil_of_length_eq_zero (by simpa using h.1)
    subst hx
    refine (cloneIns_nil 0 c w).mono ?_
    rintro e w' ⟨rfl, rfl⟩
    exact ⟨_, rfl, World.ownsRow_nil _ _ _ _, Below.refl _ _⟩
  | some ad =>
    have hm : n ≤ maxLen := by unfold maxLen; omega
    refine (cloneIns_some ad n c xs w h h1 hn hm).mono ?_
    rintro e w' ⟨v, rfl, ho, hb⟩
    exact ⟨v, rfl, by simpa using ho, hb⟩

set_option maxRecDepth 100000 in
set_option maxHeartbeats 1000000 in
theorem cloneSend_some (ad : Addr) (n c : Nat) (xs : List Value) (w : World) (h : Reads w w.heap.size 3 (some ad) n xs) (h1 : ∀ u ∈ xs, u.oneCell' = true) (hn : n * 24 ≤ 140737488355328) (hm : n ≤ maxLen) :
    Calls Try.prog 88 #[.slice (some ad) n c] w fun e w' => ∃ v, e = .returned v ∧ w'.ownsRow w.heap.size 64 3 v (0 + n) ([] ++ xs) ∧ Below w.heap.size w w' := by
  obtain ⟨i0, hi, hz0, hz1, hz2⟩ := info_parts infoSend
  have hr := (h.alloc (Nat.le_refl _) (.cells #[] 64))
  have H1 := Lib.hid h1
  have HN := Lib.hid hn
  have HM := Lib.hid hm
  have HR := Lib.hid hr
  clear h h1 hn hm hr
  have kn := fun (w : World) (a : Option Addr) (n c : Nat) => eql_nil (P := Try.prog) w 51 64 a n c Try.underlying51
  go_enter Try.func88, Try.ntmps88
  go_wp2_with (at_builtin
               refine wpList_append_any _ rfl (.tmp 5) (.tmp 6) _ rfl w.heap.size 64 i0 _ 3 24 Try.underlying51 hi hz0 hz1 hz2 rfl (by omega) (.slice (some ⟨w.heap.size, 0, none⟩) 0 0) 0 [] rfl
                 (World.ownsRow_made w #[] 0 (Nat.le_refl _) (Nat.zero_le _) rfl) w.heap.size (some ad) n c xs rfl HR.out H1.out (by have := HM.out; omega) (by have := HN.out; omega) (by simp) ?_
               intro v1 w1 hown1 hg1 hat1)
  go_ret
  refine ⟨v1, rfl, hown1, ((Below.refl _ w).alloc (Nat.le_refl _) _).grown hg1 (by simp) (fun k hk => ?_)⟩
  rcases hat1 with e | e <;> simp [Value.ownBlock] at hk <;> omega
theorem cloneSend_nil (n c : Nat) (w : World) :
    Calls Try.prog 88 #[.slice none n c] w fun e w' => e = .returned (.slice none 0 0) ∧ w = w' := by
  have kn := fun (w : World) (a : Option Addr) (n c : Nat) => eql_nil (P := Try.prog) w 51 64 a n c Try.underlying51
  go_enter Try.func88, Try.ntmps88
  go_wp2
  go_ret
  exact ⟨rfl, rfl⟩
/-- slices.Clone: a row of the call's own with the same cells. -/
theorem cloneSend_c (A : Option Addr) (n c : Nat) (xs : List Value) (w : World) (h : Reads w w.heap.size 3 A n xs) (h1 : ∀ u ∈ xs, u.oneCell' = true) (hn : n * 24 ≤ 140737488355328) :
    Calls Try.prog 88 #[.slice A n c] w fun e w' => ∃ v, e = .returned v ∧ w'.ownsRow w.heap.size 64 3 v n xs ∧ Below w.heap.size w w' := by
  cases A with
  | none =>
    have hn0 : n = 0 := by
      rcases Nat.eq_zero_or_pos n with h0 | h0
      · exact h0
      · obtain ⟨ad, e, _⟩ := h.2 h0
        cases e
    subst hn0
    have hx : xs = [] := List.eq_nil_of_length_eq_zero (by simpa using h.1)
    subst hx
    refine (cloneSend_nil 0 c w).mono ?_
    rintro e w' ⟨rfl, rfl⟩
    exact ⟨_, rfl, World.ownsRow_nil _ _ _ _, Below.refl _ _⟩
  | some ad =>
    have hm : n ≤ maxLen := by unfold maxLen; omega
    refine (cloneSend_some ad n c xs w h h1 hn hm).mono ?_
    rintro e w' ⟨v, rfl, ho, hb⟩
    exact ⟨v, rfl, by simpa using ho, hb⟩

end Go.Proofs.Ytmljmabbopkpiaa
end

section
/- slices.Clone of instructions, for walks over symbolic values. -/
namespace Go.Proofs.Ytmljmabbopkpiaa.Vm
open Go.RowKit
set_option linter.unusedVariables false
set_option linter.unusedSimpArgs false
set_option maxRecDepth 100000
def sClI : Spec := fun args h m => match args with
  | [v] => match srcV h 5 (.tup []) v with
    | some (c, n, f, rd) => some (c ∧ (∀ q, q < n → isIns (f q) = true) ∧ n ≤ 1000000, .sl m m [] 5 0 n none, rd, [(m, .own 28 (.arr n 5 (prS (ls insOf n f))) false)])
    | _ => none
  | _ => none
theorem sClI_ok : CallOk Try.prog 32 sClI := by
  refine ⟨named_spec (by kernel_rfl), fun args h m c v rd wr hs hm hc w0 M β h' w R hrd hwr hst => ?_⟩
  unfold sClI at hs
  split at hs
  · rename_i v0
    split at hs
    · rename_i c' n f rd' ha
      simp only [Option.some.injEq, Prod.mk.injEq] at hs
      obtain ⟨rfl, rfl, rfl, rfl⟩ := hs
      obtain ⟨hc1, hi, hn⟩ := hc
      obtain ⟨A, cap, hden, hnc, hr⟩ := reads_src R ha hc1 hrd (by omega)
      simp only [denL, hden]
      refine (cloneIns_c A n cap _ w hr (fun u hu => elems_sane u hu) (by omega)).mono fun e w' he => ?_
      obtain ⟨p, rfl, ho, hb⟩ := he
      have hmd : h' m = .dead := (hwr _ (.head _)).trans (hm m (Nat.le_refl _))
      obtain ⟨e', R', hv⟩ := (R.below hb).made (f := prS (ls insOf n f)) hmd ho R.size (by
          rw [elems_ins hi]
          have := elems_prS (β := β) (ls insOf n f)
          rwa [ls_length] at this) prS_stable (fun g i a' hg hmi hai e => by
        have := R.lt i a' hmi hai
        obtain ⟨_, ⟨rfl, _⟩ | ⟨g', cap', cur, rfl, hg', _⟩⟩ := ho
        · cases hg
        · simp [Value.ownBlock] at hg
          omega)
      exact ⟨_, agree_setE hmd, R', stable_new, by rw [hv]⟩
    · cases hs
  · cases hs
end Go.Proofs.Ytmljmabbopkpiaa.Vm
end

section
/- fermatalaw17.CheckWrong, walked through. -/
namespace Go.Proofs.Ytmljmabbopkpiaa.Vm
open Go.RowKit
attribute [local push_cast] runR opG gtmp gval gus opX tmpsOf tm tmO tmP restr look look2 tab tys zs ets eqB eqBL allB numOf ieq Int.cast_ofNat_Int Int.ofNat_zero beq_true beq_false frameOf ev evL ofV opV loadV noW pushF wrsL setH allBorn allGone HB.born HB.isGone HB.val SV.plain dstOk hp nav fitsT SV.size sizeL SV.isAgg TK.size TK.agg bin binE binN binI arN arI cmpN cmpI keq kn narrow callV storeV setp fillV buildV buildSliceV makeV sliceV appendV copyV List.isEmpty_nil srcV evO asN ite_t ite_f ite_bool ite_int ite_nat maxV v_beq v_ble v_blt cond_true cond_false List.getElem?_cons_zero List.getElem?_cons_succ List.getD_cons_zero List.getD_cons_succ List.getD_nil List.length_cons List.length_nil List.take_succ_cons List.take_zero List.set_cons_zero List.set_cons_succ List.cons_append List.nil_append List.append_assoc List.replicate_succ List.replicate_zero Nat.zero_add Nat.add_zero decide_true decide_false Bool.true_and Bool.and_true Bool.false_and Bool.and_false Bool.true_or Bool.or_true Bool.false_or Bool.or_false beq_self_eq_true Bool.or_self Nat.lt_irrefl Nat.not_lt_zero Nat.le_refl Option.getD_some Option.getD_none BEq.rfl Bool.not_true Bool.not_false Bool.cond_true_left Bool.cond_false_right prS sndsS i64S nav_ins nav_ins0 nav_ins1 nav_ins2 nav_ins3 nav_ins4 nav_snd nav_snd0 nav_snd1 nav_snd2 isIns_insS insOf_insS isSnd_sndS sndOf_sndS isI_int isI_nat iOf nav_k nav_k0 nav_k1 nav_ka nav_kai nav_ft nav_ft0 nav_ft1 isKn_kS knOf_kS isKa_kaS kaOf_kaS isFt_ftS ftOf_ftS setp_ka setp_ftk setp_ftr setp_fti evm_ins evm_snd evm_k evm_ka evm_ft
set_option linter.unusedVariables false
set_option linter.unusedSimpArgs false
set_option maxRecDepth 100000
set_option maxHeartbeats 4000000
def cL2 : FuncId → Option Spec := look2 [(18, sAwake17), (19, sMd14), (20, sLeastB), (21, sFactsB), (22, sWhy17), (34, sDoomB), (35, sChkB), (32, sClI)]
theorem cL2_ok : ∀ f S, cL2 f = some S → CallOk Try.prog f S := allOk_spec ⟨sAwake17_ok, sMd14_ok, sLeastB_ok, sFactsB_ok, sWhy17_ok, sDoomB_ok, sChkB_ok, sClI_ok, trivial⟩
theorem limB_bad {c p l : Int} (h : ¬ (0 ≤ c ∧ c ≤ 1024 ∧ 0 ≤ p ∧ p ≤ 16 ∧ 1 ≤ l ∧ l ≤ 1048576)) : limB c p l = false := by
  cases hb : limB c p l
  · rfl
  · simp only [limB, Bool.and_eq_true, decide_eq_true_eq] at hb
    exact absurd hb h
theorem wrong_lit17 (zs : List Ins) (p1 : Nat) (way at_ n : Int) (hz : ∀ x ∈ zs, x.ok) (hp1 : max zs.length p1 ≤ 9223372036854775807) (hw : 0 ≤ way ∧ way ≤ 255) (ha : 0 ≤ at_ ∧ at_ ≤ 255) (hn : -9223372036854775808 ≤ n ∧ n ≤ 9223372036854775807) :
    LitOk Try.prog 11 [.sl 1 2 [] 5 0 zs.length (some p1), .int .u8 way, .int .u8 at_, .int .i64 n] [.gone, .gone, .ro (.arr zs.length 5 (prS zs))] (.bool true) [.gone] := by
  refine litOkM (fn := Try.f11) 3 188 0 rfl rfl rfl rfl rfl (by simp only [StableL, Stable, hp]; simp [HB.born]) rfl fun w0 M E hro => ?_
  obtain ⟨p, hp⟩ : ∃ p, p = made14 zs := ⟨_, rfl⟩
  have hpok := made14_ok zs hz
  have hpr := made14_right zs
  have hpl := made14_le zs
  rw [← hp] at hpok hpr hpl
  repeat' (first | with_reducible (first | apply J1 | apply J3 | apply J4 | apply J5 | apply J6 | apply J7 | apply J8 | apply J9 | apply J10 | apply J11 | apply J12 | apply J13 | apply J14 | apply J15 | apply J16 | apply J17 | apply J18 | apply J19 | apply J20 | refine J2 ?_) | ((with_reducible apply J21); (· rfl)) | ((with_reducible intro hif); first | (focus (cases hif; done)) | (simp only [JH] at hif; try (exfalso; omega)) | (try (exfalso; omega))) | ((first | ((with_reducible apply J22 cL2_ok tab_ok); (· rfl)) | ((with_reducible apply J23 fol cL2_ok tab_ok); (· rfl)) | with_reducible apply J24); (· (simp only [push_cast, ↓JP, Nat.reduceAdd, Nat.reduceEqDiff, Nat.reduceLT, Nat.reduceMul, Nat.reduceLeDiff, reduceCtorEq, reduceIte, ↓JK, ↓JF, cL2, sAwake17, sMd14, ls_prS, ls_prS', ls_prS2, ← hp, inN]; rfl)); (try kernel_rfl); (try (focus (first | exact True.intro | ((repeat' (first | exact True.intro | assumption | omega | exact fun q _ => rfl | apply And.intro)); done) | ((try simp only [JS, implies_true, forall_const, shaped, shapedL, kndOf, cL2, sAwake17, sMd14, ls_prS, ls_prS', ls_prS2, ← hp, inN]); (repeat' (first | assumption | exact True.intro | omega | apply And.intro)); done) | ((repeat' (first | assumption | exact True.intro | omega | apply And.intro)); done))))) | fail)
  have hfit : fitE p 3 2 1 = 0 := by unfold fitE; rw [if_pos hpr]; rfl
  have q0 : whyR p 3 2 1 (min n (-1)) = (0, 2) := by unfold whyR; rw [if_neg (fun h => h hfit), if_pos (.inl (by omega))]
  have q1 : whyR p 3 2 1 (max n p.length) = (0, 2) := by unfold whyR; rw [if_neg (fun h => h hfit), if_pos (.inr (by omega))]
  have hl2 : ∀ q, q < 2 → [SV.int .i64 (min n (-1)), SV.int .i64 (max n p.length)].getD q (.nat .i64 0) = i64S [min n (-1), max n p.length] q := fun q hq => by
    rcases (show q = 0 ∨ q = 1 by omega) with rfl | rfl <;> rfl
  refine WF.loopAt (fun k => k ≤ 2) (fun k => [(1, .int .u8 way), (2, .int .u8 at_), (3, .int .i64 n), (9, .sl 3 3 [] 5 0 p.length none), (10, .ptr 4 []), (40, .sl 5 5 [] 1 0 2 none), (41, .nat .i64 2), (42, .nat .i64 k)]) (fun k => [.gone, .gone, .ro (.arr zs.length 5 (prS zs)), .own 28 (.arr p.length 5 (prS p)) false, .own 31 (.agg [.nat .i64 3, .nat .i64 2, .nat .i64 1]) true, .own 3 (.arr 2 1 (i64S [min n (-1), max n p.length])) true]) (fun k => 2 - k) 0 (by omega) ?_ ?_ rfl ?_ ?_ rfl ?_
  · ((repeat' (first | exact trivial | apply And.intro)) <;> (first | rfl | (simp only [look, cond_true, cond_false]; done)))
  · (repeat' (first | exact trivial | exact .same _ | exact .dead _ | exact .gone rfl | exact .loose | assumption | exact .arr (by assumption) | apply And.intro))
  · (repeat' (first | exact trivial | exact rfl | assumption | apply Stable.ite | apply And.intro | intro _ | (simp only [Stable, StableL, i64S, prS, insS, sndsS, sndS, kS, kaS, ftS, ftsS]; done)))
  · (repeat' (first | exact trivial | exact rfl | assumption | apply Stable.ite | apply And.intro | intro _ | (simp only [Stable, StableL, i64S, prS, insS, sndsS, sndS, kS, kaS, ftS, ftsS]; done)))
  · intro k hk
    rcases (show k = 0 ∨ k = 1 ∨ k = 2 by omega) with rfl | rfl | rfl
    · repeat' (first | with_reducible (first | apply J1 | apply J3 | apply J4 | apply J5 | apply J6 | apply J7 | apply J8 | apply J9 | apply J10 | apply J11 | apply J12 | apply J13 | apply J14 | apply J15 | apply J16 | apply J17 | apply J18 | apply J19 | apply J20 | refine J2 ?_) | ((with_reducible apply J21); (· rfl)) | ((with_reducible intro hif); first | (focus (cases hif; done)) | (simp only [JH] at hif; try (exfalso; omega)) | (try (exfalso; omega))) | ((first | ((with_reducible apply J22 cL2_ok tab_ok); (· rfl)) | ((with_reducible apply J23 fol cL2_ok tab_ok); (· rfl)) | with_reducible apply J24); (· (simp only [push_cast, ↓JP, Nat.reduceAdd, Nat.reduceEqDiff, Nat.reduceLT, Nat.reduceMul, Nat.reduceLeDiff, reduceCtorEq, reduceIte, ↓JK, ↓JF, cL2, sWhy17, ls_prS, ls_prS', ls_prS2, q0, inN, inR, Nat.zero_add]; rfl)); (try kernel_rfl); (try (focus (first | exact True.intro | ((try simp only [JS, implies_true, forall_const, shaped, shapedL, kndOf, cL2, sWhy17, ls_prS, ls_prS', ls_prS2, q0, inN, inR, Nat.zero_add]); (first | exact ⟨fun q _ => rfl, hpok, by omega⟩ | (repeat' (first | assumption | exact True.intro | omega | apply And.intro))); done) | ((first | exact ⟨fun q _ => rfl, hpok, by omega⟩ | (repeat' (first | assumption | exact True.intro | omega | apply And.intro))); done))))) | fail)
      refine At.next 1 ?_ ?_ ?_ rfl ?_ ?_ rfl
      · omega
      · ((repeat' (first | exact trivial | apply And.intro)) <;> (first | rfl | (simp only [look, cond_true, cond_false]; done)))
      · (repeat' (first | exact trivial | exact .same _ | exact .dead _ | exact .gone rfl | exact .loose | assumption | exact .arr (by assumption) | apply And.intro))
      · (repeat' (first | exact trivial | exact rfl | assumption | apply Stable.ite | apply And.intro | intro _ | (simp only [Stable, StableL, i64S, prS, insS, sndsS, sndS, kS, kaS, ftS, ftsS]; done)))
      · (repeat' (first | exact trivial | exact rfl | assumption | apply Stable.ite | apply And.intro | intro _ | (simp only [Stable, StableL, i64S, prS, insS, sndsS, sndS, kS, kaS, ftS, ftsS]; done)))
    · repeat' (first | with_reducible (first | apply J1 | apply J3 | apply J4 | apply J5 | apply J6 | apply J7 | apply J8 | apply J9 | apply J10 | apply J11 | apply J12 | apply J13 | apply J14 | apply J15 | apply J16 | apply J17 | apply J18 | apply J19 | apply J20 | refine J2 ?_) | ((with_reducible apply J21); (· rfl)) | ((with_reducible intro hif); first | (focus (cases hif; done)) | (simp only [JH] at hif; try (exfalso; omega)) | (try (exfalso; omega))) | ((first | ((with_reducible apply J22 cL2_ok tab_ok); (· rfl)) | ((with_reducible apply J23 fol cL2_ok tab_ok); (· rfl)) | with_reducible apply J24); (· (simp only [push_cast, ↓JP, Nat.reduceAdd, Nat.reduceEqDiff, Nat.reduceLT, Nat.reduceMul, Nat.reduceLeDiff, reduceCtorEq, reduceIte, ↓JK, ↓JF, cL2, sWhy17, ls_prS, ls_prS', ls_prS2, q1, inN, inR, Nat.zero_add]; rfl)); (try kernel_rfl); (try (focus (first | exact True.intro | ((try simp only [JS, implies_true, forall_const, shaped, shapedL, kndOf, cL2, sWhy17, ls_prS, ls_prS', ls_prS2, q1, inN, inR, Nat.zero_add]); (first | exact ⟨fun q _ => rfl, hpok, by omega⟩ | (repeat' (first | assumption | exact True.intro | omega | apply And.intro))); done) | ((first | exact ⟨fun q _ => rfl, hpok, by omega⟩ | (repeat' (first | assumption | exact True.intro | omega | apply And.intro))); done))))) | fail)
      refine At.next 2 ?_ ?_ ?_ rfl ?_ ?_ rfl
      · omega
      · ((repeat' (first | exact trivial | apply And.intro)) <;> (first | rfl | (simp only [look, cond_true, cond_false]; done)))
      · (repeat' (first | exact trivial | exact .same _ | exact .dead _ | exact .gone rfl | exact .loose | assumption | exact .arr (by assumption) | apply And.intro))
      · (repeat' (first | exact trivial | exact rfl | assumption | apply Stable.ite | apply And.intro | intro _ | (simp only [Stable, StableL, i64S, prS, insS, sndsS, sndS, kS, kaS, ftS, ftsS]; done)))
      · (repeat' (first | exact trivial | exact rfl | assumption | apply Stable.ite | apply And.intro | intro _ | (simp only [Stable, StableL, i64S, prS, insS, sndsS, sndS, kS, kaS, ftS, ftsS]; done)))
    · iterate 13 (try (first | with_reducible (first | apply J1 | apply J3 | apply J4 | apply J5 | apply J6 | apply J7 | apply J8 | apply J9 | apply J10 | apply J11 | apply J12 | apply J13 | apply J14 | apply J15 | apply J16 | apply J17 | apply J18 | apply J19 | apply J20 | refine J2 ?_) | ((with_reducible apply J21); (· rfl)) | ((with_reducible intro hif); first | (focus (cases hif; done)) | (simp only [JH] at hif; try (exfalso; omega)) | (try (exfalso; omega))) | ((first | ((with_reducible apply J22 cL2_ok tab_ok); (· rfl)) | ((with_reducible apply J23 fol cL2_ok tab_ok); (· rfl)) | with_reducible apply J24); (· (simp only [push_cast, ↓JP, Nat.reduceAdd, Nat.reduceEqDiff, Nat.reduceLT, Nat.reduceMul, Nat.reduceLeDiff, reduceCtorEq, reduceIte, ↓JK, ↓JF, inN, inR]; rfl)); (try kernel_rfl); (try (focus (first | exact True.intro | ((try simp only [JS, implies_true, forall_const, shaped, shapedL, kndOf, inN, inR]); (repeat' (first | assumption | exact True.intro | omega | apply And.intro)); done) | ((repeat' (first | assumption | exact True.intro | omega | apply And.intro)); done))))) | fail))
      refine At.code (WF.seqJoin (fun z : Int × Int × Int => limB z.1 z.2.1 z.2.2 = false) (fun z => [(1, .int .u8 way), (2, .int .u8 at_), (3, .int .i64 n), (9, .sl 3 3 [] 5 0 p.length none), (10, .ptr 4 [])]) (fun z => [.gone, .gone, .ro (.arr zs.length 5 (prS zs)), .own 28 (.arr p.length 5 (prS p)) false, .own 31 (.agg [.int .i64 z.1, .int .i64 z.2.1, .int .i64 z.2.2]) true, .gone]) ?_ ?_)
      · obtain ⟨r, hr⟩ : ∃ r, way.tmod 6 = r := ⟨_, rfl⟩
        have hr6 : 0 ≤ r ∧ r < 6 := by rw [← hr, Int.tmod_eq_emod_of_nonneg hw.1]; omega
        rcases (show r = 0 ∨ r = 1 ∨ r = 2 ∨ r = 3 ∨ r = 4 ∨ r = 5 by omega) with h | h | h | h | h | h
        · rw [h] at hr
          repeat' (first | with_reducible (first | apply J1 | apply J3 | apply J4 | apply J5 | apply J6 | apply J7 | apply J8 | apply J9 | apply J10 | apply J11 | apply J12 | apply J13 | apply J14 | apply J15 | apply J16 | apply J17 | apply J18 | apply J19 | apply J20 | refine J2 ?_) | ((with_reducible apply J21); (· rfl)) | ((with_reducible intro hif); first | (focus (cases hif; done)) | (simp only [JH] at hif; try (exfalso; omega)) | (try (exfalso; omega))) | ((first | ((with_reducible apply J22 cL2_ok tab_ok); (· rfl)) | ((with_reducible apply J23 fol cL2_ok tab_ok); (· rfl)) | with_reducible apply J24); (· (simp only [push_cast, ↓JP, Nat.reduceAdd, Nat.reduceEqDiff, Nat.reduceLT, Nat.reduceMul, Nat.reduceLeDiff, reduceCtorEq, reduceIte, ↓JK, ↓JF, cL2, hr, inN, inR]; rfl)); (try kernel_rfl); (try (focus (first | exact True.intro | ((try simp only [JS, implies_true, forall_const, shaped, shapedL, kndOf, cL2, hr, inN, inR]); (repeat' (first | assumption | exact True.intro | omega | apply And.intro)); done) | ((repeat' (first | assumption | exact True.intro | omega | apply And.intro)); done))))) | fail)
          have e4 : Less (.own 31 (.agg [.int .i64 (min n (-1)), .nat .i64 2, .nat .i64 1]) true) (.own 31 (.agg [.int .i64 (min n (-1)), .int .i64 (2), .int .i64 (1)]) true) := .val (fun β => rfl) (fun _ _ _ e => by cases e) (fun _ _ _ e => by cases e)
          refine At.join (min n (-1), 2, 1) ?_ ?_ ?_ rfl ?_ ?_ rfl
          · exact limB_bad (by dsimp only; omega)
          · ((repeat' (first | exact trivial | apply And.intro)) <;> (first | rfl | (simp only [look, cond_true, cond_false]; done)))
          · (repeat' (first | exact trivial | exact .same _ | exact .dead _ | exact .gone rfl | exact .loose | assumption | exact .arr (by assumption) | apply And.intro))
          · (repeat' (first | exact trivial | exact rfl | assumption | apply Stable.ite | apply And.intro | intro _ | (simp only [Stable, StableL, i64S, prS, insS, sndsS, sndS, kS, kaS, ftS, ftsS]; done)))
          · (repeat' (first | exact trivial | exact rfl | assumption | apply Stable.ite | apply And.intro | intro _ | (simp only [Stable, StableL, i64S, prS, insS, sndsS, sndS, kS, kaS, ftS, ftsS]; done)))
        · rw [h] at hr
          repeat' (first | with_reducible (first | apply J1 | apply J3 | apply J4 | apply J5 | apply J6 | apply J7 | apply J8 | apply J9 | apply J10 | apply J11 | apply J12 | apply J13 | apply J14 | apply J15 | apply J16 | apply J17 | apply J18 | apply J19 | apply J20 | refine J2 ?_) | ((with_reducible apply J21); (· rfl)) | ((with_reducible intro hif); first | (focus (cases hif; done)) | (simp only [JH] at hif; try (exfalso; omega)) | (try (exfalso; omega))) | ((first | ((with_reducible apply J22 cL2_ok tab_ok); (· rfl)) | ((with_reducible apply J23 fol cL2_ok tab_ok); (· rfl)) | with_reducible apply J24); (· (simp only [push_cast, ↓JP, Nat.reduceAdd, Nat.reduceEqDiff, Nat.reduceLT, Nat.reduceMul, Nat.reduceLeDiff, reduceCtorEq, reduceIte, ↓JK, ↓JF, cL2, hr, inN, inR]; rfl)); (try kernel_rfl); (try (focus (first | exact True.intro | ((try simp only [JS, implies_true, forall_const, shaped, shapedL, kndOf, cL2, hr, inN, inR]); (repeat' (first | assumption | exact True.intro | omega | apply And.intro)); done) | ((repeat' (first | assumption | exact True.intro | omega | apply And.intro)); done))))) | fail)
          have e4 : Less (.own 31 (.agg [.int .i64 (max n 1025), .nat .i64 2, .nat .i64 1]) true) (.own 31 (.agg [.int .i64 (max n 1025), .int .i64 (2), .int .i64 (1)]) true) := .val (fun β => rfl) (fun _ _ _ e => by cases e) (fun _ _ _ e => by cases e)
          refine At.join (max n 1025, 2, 1) ?_ ?_ ?_ rfl ?_ ?_ rfl
          · exact limB_bad (by dsimp only; omega)
          · ((repeat' (first | exact trivial | apply And.intro)) <;> (first | rfl | (simp only [look, cond_true, cond_false]; done)))
          · (repeat' (first | exact trivial | exact .same _ | exact .dead _ | exact .gone rfl | exact .loose | assumption | exact .arr (by assumption) | apply And.intro))
          · (repeat' (first | exact trivial | exact rfl | assumption | apply Stable.ite | apply And.intro | intro _ | (simp only [Stable, StableL, i64S, prS, insS, sndsS, sndS, kS, kaS, ftS, ftsS]; done)))
          · (repeat' (first | exact trivial | exact rfl | assumption | apply Stable.ite | apply And.intro | intro _ | (simp only [Stable, StableL, i64S, prS, insS, sndsS, sndS, kS, kaS, ftS, ftsS]; done)))
        · rw [h] at hr
          repeat' (first | with_reducible (first | apply J1 | apply J3 | apply J4 | apply J5 | apply J6 | apply J7 | apply J8 | apply J9 | apply J10 | apply J11 | apply J12 | apply J13 | apply J14 | apply J15 | apply J16 | apply J17 | apply J18 | apply J19 | apply J20 | refine J2 ?_) | ((with_reducible apply J21); (· rfl)) | ((with_reducible intro hif); first | (focus (cases hif; done)) | (simp only [JH] at hif; try (exfalso; omega)) | (try (exfalso; omega))) | ((first | ((with_reducible apply J22 cL2_ok tab_ok); (· rfl)) | ((with_reducible apply J23 fol cL2_ok tab_ok); (· rfl)) | with_reducible apply J24); (· (simp only [push_cast, ↓JP, Nat.reduceAdd, Nat.reduceEqDiff, Nat.reduceLT, Nat.reduceMul, Nat.reduceLeDiff, reduceCtorEq, reduceIte, ↓JK, ↓JF, cL2, hr, inN, inR]; rfl)); (try kernel_rfl); (try (focus (first | exact True.intro | ((try simp only [JS, implies_true, forall_const, shaped, shapedL, kndOf, cL2, hr, inN, inR]); (repeat' (first | assumption | exact True.intro | omega | apply And.intro)); done) | ((repeat' (first | assumption | exact True.intro | omega | apply And.intro)); done))))) | fail)
          have e4 : Less (.own 31 (.agg [.nat .i64 3, .int .i64 (min n (-1)), .nat .i64 1]) true) (.own 31 (.agg [.int .i64 (3), .int .i64 (min n (-1)), .int .i64 (1)]) true) := .val (fun β => rfl) (fun _ _ _ e => by cases e) (fun _ _ _ e => by cases e)
          refine At.join (3, min n (-1), 1) ?_ ?_ ?_ rfl ?_ ?_ rfl
          · exact limB_bad (by dsimp only; omega)
          · ((repeat' (first | exact trivial | apply And.intro)) <;> (first | rfl | (simp only [look, cond_true, cond_false]; done)))
          · (repeat' (first | exact trivial | exact .same _ | exact .dead _ | exact .gone rfl | exact .loose | assumption | exact .arr (by assumption) | apply And.intro))
          · (repeat' (first | exact trivial | exact rfl | assumption | apply Stable.ite | apply And.intro | intro _ | (simp only [Stable, StableL, i64S, prS, insS, sndsS, sndS, kS, kaS, ftS, ftsS]; done)))
          · (repeat' (first | exact trivial | exact rfl | assumption | apply Stable.ite | apply And.intro | intro _ | (simp only [Stable, StableL, i64S, prS, insS, sndsS, sndS, kS, kaS, ftS, ftsS]; done)))
        · rw [h] at hr
          repeat' (first | with_reducible (first | apply J1 | apply J3 | apply J4 | apply J5 | apply J6 | apply J7 | apply J8 | apply J9 | apply J10 | apply J11 | apply J12 | apply J13 | apply J14 | apply J15 | apply J16 | apply J17 | apply J18 | apply J19 | apply J20 | refine J2 ?_) | ((with_reducible apply J21); (· rfl)) | ((with_reducible intro hif); first | (focus (cases hif; done)) | (simp only [JH] at hif; try (exfalso; omega)) | (try (exfalso; omega))) | ((first | ((with_reducible apply J22 cL2_ok tab_ok); (· rfl)) | ((with_reducible apply J23 fol cL2_ok tab_ok); (· rfl)) | with_reducible apply J24); (· (simp only [push_cast, ↓JP, Nat.reduceAdd, Nat.reduceEqDiff, Nat.reduceLT, Nat.reduceMul, Nat.reduceLeDiff, reduceCtorEq, reduceIte, ↓JK, ↓JF, cL2, hr, inN, inR]; rfl)); (try kernel_rfl); (try (focus (first | exact True.intro | ((try simp only [JS, implies_true, forall_const, shaped, shapedL, kndOf, cL2, hr, inN, inR]); (repeat' (first | assumption | exact True.intro | omega | apply And.intro)); done) | ((repeat' (first | assumption | exact True.intro | omega | apply And.intro)); done))))) | fail)
          have e4 : Less (.own 31 (.agg [.nat .i64 3, .int .i64 (max n 17), .nat .i64 1]) true) (.own 31 (.agg [.int .i64 (3), .int .i64 (max n 17), .int .i64 (1)]) true) := .val (fun β => rfl) (fun _ _ _ e => by cases e) (fun _ _ _ e => by cases e)
          refine At.join (3, max n 17, 1) ?_ ?_ ?_ rfl ?_ ?_ rfl
          · exact limB_bad (by dsimp only; omega)
          · ((repeat' (first | exact trivial | apply And.intro)) <;> (first | rfl | (simp only [look, cond_true, cond_false]; done)))
          · (repeat' (first | exact trivial | exact .same _ | exact .dead _ | exact .gone rfl | exact .loose | assumption | exact .arr (by assumption) | apply And.intro))
          · (repeat' (first | exact trivial | exact rfl | assumption | apply Stable.ite | apply And.intro | intro _ | (simp only [Stable, StableL, i64S, prS, insS, sndsS, sndS, kS, kaS, ftS, ftsS]; done)))
          · (repeat' (first | exact trivial | exact rfl | assumption | apply Stable.ite | apply And.intro | intro _ | (simp only [Stable, StableL, i64S, prS, insS, sndsS, sndS, kS, kaS, ftS, ftsS]; done)))
        · rw [h] at hr
          repeat' (first | with_reducible (first | apply J1 | apply J3 | apply J4 | apply J5 | apply J6 | apply J7 | apply J8 | apply J9 | apply J10 | apply J11 | apply J12 | apply J13 | apply J14 | apply J15 | apply J16 | apply J17 | apply J18 | apply J19 | apply J20 | refine J2 ?_) | ((with_reducible apply J21); (· rfl)) | ((with_reducible intro hif); first | (focus (cases hif; done)) | (simp only [JH] at hif; try (exfalso; omega)) | (try (exfalso; omega))) | ((first | ((with_reducible apply J22 cL2_ok tab_ok); (· rfl)) | ((with_reducible apply J23 fol cL2_ok tab_ok); (· rfl)) | with_reducible apply J24); (· (simp only [push_cast, ↓JP, Nat.reduceAdd, Nat.reduceEqDiff, Nat.reduceLT, Nat.reduceMul, Nat.reduceLeDiff, reduceCtorEq, reduceIte, ↓JK, ↓JF, cL2, hr, inN, inR]; rfl)); (try kernel_rfl); (try (focus (first | exact True.intro | ((try simp only [JS, implies_true, forall_const, shaped, shapedL, kndOf, cL2, hr, inN, inR]); (repeat' (first | assumption | exact True.intro | omega | apply And.intro)); done) | ((repeat' (first | assumption | exact True.intro | omega | apply And.intro)); done))))) | fail)
          have e4 : Less (.own 31 (.agg [.nat .i64 3, .nat .i64 2, .int .i64 (min n 0)]) true) (.own 31 (.agg [.int .i64 (3), .int .i64 (2), .int .i64 (min n 0)]) true) := .val (fun β => rfl) (fun _ _ _ e => by cases e) (fun _ _ _ e => by cases e)
          refine At.join (3, 2, min n 0) ?_ ?_ ?_ rfl ?_ ?_ rfl
          · exact limB_bad (by dsimp only; omega)
          · ((repeat' (first | exact trivial | apply And.intro)) <;> (first | rfl | (simp only [look, cond_true, cond_false]; done)))
          · (repeat' (first | exact trivial | exact .same _ | exact .dead _ | exact .gone rfl | exact .loose | assumption | exact .arr (by assumption) | apply And.intro))
          · (repeat' (first | exact trivial | exact rfl | assumption | apply Stable.ite | apply And.intro | intro _ | (simp only [Stable, StableL, i64S, prS, insS, sndsS, sndS, kS, kaS, ftS, ftsS]; done)))
          · (repeat' (first | exact trivial | exact rfl | assumption | apply Stable.ite | apply And.intro | intro _ | (simp only [Stable, StableL, i64S, prS, insS, sndsS, sndS, kS, kaS, ftS, ftsS]; done)))
        · rw [h] at hr
          repeat' (first | with_reducible (first | apply J1 | apply J3 | apply J4 | apply J5 | apply J6 | apply J7 | apply J8 | apply J9 | apply J10 | apply J11 | apply J12 | apply J13 | apply J14 | apply J15 | apply J16 | apply J17 | apply J18 | apply J19 | apply J20 | refine J2 ?_) | ((with_reducible apply J21); (· rfl)) | ((with_reducible intro hif); first | (focus (cases hif; done)) | (simp only [JH] at hif; try (exfalso; omega)) | (try (exfalso; omega))) | ((first | ((with_reducible apply J22 cL2_ok tab_ok); (· rfl)) | ((with_reducible apply J23 fol cL2_ok tab_ok); (· rfl)) | with_reducible apply J24); (· (simp only [push_cast, ↓JP, Nat.reduceAdd, Nat.reduceEqDiff, Nat.reduceLT, Nat.reduceMul, Nat.reduceLeDiff, reduceCtorEq, reduceIte, ↓JK, ↓JF, cL2, hr, inN, inR]; rfl)); (try kernel_rfl); (try (focus (first | exact True.intro | ((try simp only [JS, implies_true, forall_const, shaped, shapedL, kndOf, cL2, hr, inN, inR]); (repeat' (first | assumption | exact True.intro | omega | apply And.intro)); done) | ((repeat' (first | assumption | exact True.intro | omega | apply And.intro)); done))))) | fail)
          have e4 : Less (.own 31 (.agg [.nat .i64 3, .nat .i64 2, .int .i64 (max n 1048577)]) true) (.own 31 (.agg [.int .i64 (3), .int .i64 (2), .int .i64 (max n 1048577)]) true) := .val (fun β => rfl) (fun _ _ _ e => by cases e) (fun _ _ _ e => by cases e)
          refine At.join (3, 2, max n 1048577) ?_ ?_ ?_ rfl ?_ ?_ rfl
          · exact limB_bad (by dsimp only; omega)
          · ((repeat' (first | exact trivial | apply And.intro)) <;> (first | rfl | (simp only [look, cond_true, cond_false]; done)))
          · (repeat' (first | exact trivial | exact .same _ | exact .dead _ | exact .gone rfl | exact .loose | assumption | exact .arr (by assumption) | apply And.intro))
          · (repeat' (first | exact trivial | exact rfl | assumption | apply Stable.ite | apply And.intro | intro _ | (simp only [Stable, StableL, i64S, prS, insS, sndsS, sndS, kS, kaS, ftS, ftsS]; done)))
          · (repeat' (first | exact trivial | exact rfl | assumption | apply Stable.ite | apply And.intro | intro _ | (simp only [Stable, StableL, i64S, prS, insS, sndsS, sndS, kS, kaS, ftS, ftsS]; done)))
      rintro ⟨c, pq, l⟩ hlim
      dsimp only at hlim ⊢
      obtain ⟨N, hN⟩ : ∃ N, p.length = N := ⟨_, rfl⟩
      rw [hN]
      rw [hN] at hpl
      have lsP : ls insOf N (prS p) = p := by rw [← hN]; exact ls_prS p
      have lsP2 : ls insOf N (fun q => insS (p.getD q ⟨0, 0, 0, 0, 0⟩)) = p := lsP
      have hf1 : fitE p c pq l = 171 := by unfold fitE; rw [if_pos hpr, if_neg (by rw [hlim]; decide)]
      obtain ⟨j, hj⟩ : ∃ j : Nat, at_.tmod N = j := ⟨(at_.tmod N).toNat, by have := Int.emod_nonneg at_ (b := N) (by omega); rw [Int.tmod_eq_emod_of_nonneg ha.1]; omega⟩
      have hjl : j < N := by have := Int.emod_lt_of_pos at_ (b := N) (by omega); rw [Int.tmod_eq_emod_of_nonneg ha.1] at hj; omega
      obtain ⟨v, hv⟩ : ∃ v, 12 + way.tmod 20 = v := ⟨_, rfl⟩
      have hv2 : 12 ≤ v ∧ v < 32 := by rw [← hv, Int.tmod_eq_emod_of_nonneg hw.1]; omega
      obtain ⟨Q, hQ⟩ : ∃ Q, Q = p.set j ⟨v, 0, 0, 0, 0⟩ := ⟨_, rfl⟩
      have hQl : Q.length = N := by rw [hQ, List.length_set]; exact hN
      have lsQ : ls insOf N (prS Q) = Q := by rw [← hQl]; exact ls_prS Q
      have lsQ2 : ls insOf N (fun q => insS (Q.getD q ⟨0, 0, 0, 0, 0⟩)) = Q := lsQ
      have hQok : ∀ x ∈ Q, x.ok := by
        intro x hx
        rw [hQ] at hx
        rcases List.mem_or_eq_of_mem_set hx with h | h
        · exact hpok x h
        · rw [h]; exact ⟨by dsimp only; omega, by dsimp only; omega, by dsimp only; omega, by dsimp only; omega, by dsimp only; omega, by dsimp only; omega, by dsimp only; omega, by dsimp only; omega, by dsimp only; omega, by dsimp only; omega⟩
      have hQb : (checkI Q).2 ≠ 0 := fun h => by
        have hR := right_at hQok h (k := j) (by omega)
        have e : Q.getD j ⟨0, 0, 0, 0, 0⟩ = ⟨v, 0, 0, 0, 0⟩ := by rw [hQ, List.getD_eq_getElem?_getD, List.getElem?_set_self (show j < p.length by omega)]; rfl
        rw [e] at hR
        have := hR.cls
        dsimp only at this
        omega
      have hf2 : fitE Q c pq l = 170 := by unfold fitE; rw [if_neg hQb]
      have hW1 : whyR p c pq l n = (0, 171) := by unfold whyR; rw [hf1]; rfl
      have hW2 : whyR Q c pq l n = (0, 170) := by unfold whyR; rw [hf2]; rfl
      have hset : ∀ q, q < N → ∀ β, (SV.ite (decide (q = j)) (.agg [.int .u8 v, .nat .u8 0, .nat .u8 0, .nat .u8 0, .nat .i64 0]) (insS (p.getD q ⟨0, 0, 0, 0, 0⟩))).cl β = (prS Q q).cl β := fun q hq β => by
        rw [ite_eq, hQ]
        unfold prS
        by_cases h : q = j
        · subst h
          simp only [decide_true, cond_true, List.getD_eq_getElem?_getD, List.getElem?_set_self (show q < p.length by omega)]; rfl
        · simp only [h, decide_false, cond_false, List.getD_eq_getElem?_getD, List.getElem?_set_ne (fun e => h e.symm)]
      have hj0 : (j : Int).toNat = j := Int.toNat_natCast j
      repeat' (first | with_reducible (first | apply J1 | apply J3 | apply J4 | apply J5 | apply J6 | apply J7 | apply J8 | apply J9 | apply J10 | apply J11 | apply J12 | apply J13 | apply J14 | apply J15 | apply J16 | apply J17 | apply J18 | apply J19 | apply J20 | refine J2 ?_) | ((with_reducible apply J21); (· rfl)) | ((with_reducible intro hif); first | (focus (cases hif; done)) | (simp only [JH] at hif; try (exfalso; omega)) | (try (exfalso; omega))) | ((first | ((with_reducible apply J22 cL2_ok tab_ok); (· rfl)) | ((with_reducible apply J23 fol cL2_ok tab_ok); (· rfl)) | with_reducible apply J24); (· (simp only [push_cast, ↓JP, Nat.reduceAdd, Nat.reduceEqDiff, Nat.reduceLT, Nat.reduceMul, Nat.reduceLeDiff, reduceCtorEq, reduceIte, ↓JK, ↓JF, cL2, sClI, lsP, lsP2, hj, hj0, hv, inN, inR, Nat.zero_add]; rfl)); (try kernel_rfl); (try (focus (first | exact True.intro | ((repeat' (first | exact True.intro | assumption | omega | exact fun q _ => rfl | apply And.intro)); done) | ((try simp only [JS, implies_true, forall_const, shaped, shapedL, kndOf, cL2, sClI, lsP, lsP2, hj, hj0, hv, inN, inR, Nat.zero_add]); (repeat' (first | assumption | exact True.intro | omega | apply And.intro)); done) | ((repeat' (first | assumption | exact True.intro | omega | apply And.intro)); done))))) | fail)
      have e6 : Less (.own 28 (.arr N 5 fun q => SV.ite (decide (q = j)) (.agg [.int .u8 v, .nat .u8 0, .nat .u8 0, .nat .u8 0, .nat .i64 0]) (insS (p.getD q ⟨0, 0, 0, 0, 0⟩))) false) (.own 28 (.arr N 5 (prS Q)) false) :=
        .val (fun β => arr_cl' fun q hq => hset q hq β) (fun n1 k1 f1 e => by injection e with e1 e2 e3; subst e1 e2; exact ⟨_, rfl⟩) (fun n1 k1 f1 e => by injection e with e1 e2 e3; subst e1 e2; exact ⟨_, rfl⟩)
      have hl7 : ∀ q, q < 2 → [SV.sl 3 3 [] 5 0 N none, SV.sl 6 6 [] 5 0 N none].getD q (SV.sl 0 0 [] 0 0 0 (some 0)) = SV.ite (decide (q = 0)) (.sl 3 3 [] 5 0 N none) (.sl 6 6 [] 5 0 N none) := fun q hq => by
        rcases (show q = 0 ∨ q = 1 by omega) with rfl | rfl <;> rfl
      have h171 : ¬ ((171 : Int) = 0) := by decide
      have h170 : ¬ ((170 : Int) = 0) := by decide
      refine WF.loopAt (fun k => k ≤ 2) (fun k => [(3, .int .i64 n), (10, .ptr 4 []), (15, .sl 6 6 [] 5 0 N none), (105, .sl 7 7 [] 1 0 2 none), (106, .nat .i64 2), (107, .nat .i64 k)]) (fun k => [.gone, .gone, .ro (.arr zs.length 5 (prS zs)), .own 28 (.arr N 5 (prS p)) false, .own 31 (.agg [.int .i64 c, .int .i64 pq, .int .i64 l]) true, .gone, .own 28 (.arr N 5 (prS Q)) false, .own 25 (.arr 2 1 fun q => SV.ite (decide (q = 0)) (.sl 3 3 [] 5 0 N none) (.sl 6 6 [] 5 0 N none)) true]) (fun k => 2 - k) 0 (by omega) ?_ ?_ rfl ?_ ?_ rfl ?_
      · ((repeat' (first | exact trivial | apply And.intro)) <;> (first | rfl | (simp only [look, cond_true, cond_false]; done)))
      · (repeat' (first | exact trivial | exact .same _ | exact .dead _ | exact .gone rfl | exact .loose | assumption | exact .arr (by assumption) | apply And.intro))
      · (repeat' (first | exact trivial | exact rfl | assumption | apply Stable.ite | apply And.intro | intro _ | (simp only [Stable, StableL, i64S, prS, insS, sndsS, sndS, kS, kaS, ftS, ftsS]; done)))
      · (repeat' (first | exact trivial | exact rfl | assumption | apply Stable.ite | apply And.intro | intro _ | (simp only [Stable, StableL, i64S, prS, insS, sndsS, sndS, kS, kaS, ftS, ftsS]; done)))
      · intro k hk
        rcases (show k = 0 ∨ k = 1 ∨ k = 2 by omega) with rfl | rfl | rfl
        · repeat' (first | with_reducible (first | apply J1 | apply J3 | apply J4 | apply J5 | apply J6 | apply J7 | apply J8 | apply J9 | apply J10 | apply J11 | apply J12 | apply J13 | apply J14 | apply J15 | apply J16 | apply J17 | apply J18 | apply J19 | apply J20 | refine J2 ?_) | ((with_reducible apply J21); (· rfl)) | ((with_reducible intro hif); first | (focus (cases hif; done)) | (simp only [JH] at hif; try (exfalso; omega)) | (try (exfalso; omega))) | ((first | ((with_reducible apply J22 cL2_ok tab_ok); (· rfl)) | ((with_reducible apply J23 fol cL2_ok tab_ok); (· rfl)) | with_reducible apply J24); (· (simp only [push_cast, ↓JP, Nat.reduceAdd, Nat.reduceEqDiff, Nat.reduceLT, Nat.reduceMul, Nat.reduceLeDiff, reduceCtorEq, reduceIte, ↓JK, ↓JF, cL2, sWhy17, sDoomB, sChkB, lsP, lsP2, hf1, hW1, h171, inN, inR, Nat.zero_add, eq_self, Int.reduceEq, Int.reduceNeg]; rfl)); (try kernel_rfl); (try (focus (first | exact True.intro | ((try simp only [JS, implies_true, forall_const, shaped, shapedL, kndOf, cL2, sWhy17, sDoomB, sChkB, lsP, lsP2, hf1, hW1, h171, inN, inR, Nat.zero_add, eq_self, Int.reduceEq, Int.reduceNeg]); (first | exact ⟨fun q _ => rfl, hpok, by omega, h171⟩ | (repeat' (first | assumption | exact True.intro | omega | apply And.intro))); done) | ((first | exact ⟨fun q _ => rfl, hpok, by omega, h171⟩ | (repeat' (first | assumption | exact True.intro | omega | apply And.intro))); done))))) | fail)
          refine At.next 1 ?_ ?_ ?_ rfl ?_ ?_ rfl
          · omega
          · ((repeat' (first | exact trivial | apply And.intro)) <;> (first | rfl | (simp only [look, cond_true, cond_false]; done)))
          · (repeat' (first | exact trivial | exact .same _ | exact .dead _ | exact .gone rfl | exact .loose | assumption | exact .arr (by assumption) | apply And.intro))
          · (repeat' (first | exact trivial | exact rfl | assumption | apply Stable.ite | apply And.intro | intro _ | (simp only [Stable, StableL, i64S, prS, insS, sndsS, sndS, kS, kaS, ftS, ftsS]; done)))
          · (repeat' (first | exact trivial | exact rfl | assumption | apply Stable.ite | apply And.intro | intro _ | (simp only [Stable, StableL, i64S, prS, insS, sndsS, sndS, kS, kaS, ftS, ftsS]; done)))
        · repeat' (first | with_reducible (first | apply J1 | apply J3 | apply J4 | apply J5 | apply J6 | apply J7 | apply J8 | apply J9 | apply J10 | apply J11 | apply J12 | apply J13 | apply J14 | apply J15 | apply J16 | apply J17 | apply J18 | apply J19 | apply J20 | refine J2 ?_) | ((with_reducible apply J21); (· rfl)) | ((with_reducible intro hif); first | (focus (cases hif; done)) | (simp only [JH] at hif; try (exfalso; omega)) | (try (exfalso; omega))) | ((first | ((with_reducible apply J22 cL2_ok tab_ok); (· rfl)) | ((with_reducible apply J23 fol cL2_ok tab_ok); (· rfl)) | with_reducible apply J24); (· (simp only [push_cast, ↓JP, Nat.reduceAdd, Nat.reduceEqDiff, Nat.reduceLT, Nat.reduceMul, Nat.reduceLeDiff, reduceCtorEq, reduceIte, ↓JK, ↓JF, cL2, sWhy17, sDoomB, sChkB, lsQ, lsQ2, hf2, hW2, h170, inN, inR, Nat.zero_add, eq_self, Int.reduceEq, Int.reduceNeg]; rfl)); (try kernel_rfl); (try (focus (first | exact True.intro | ((try simp only [JS, implies_true, forall_const, shaped, shapedL, kndOf, cL2, sWhy17, sDoomB, sChkB, lsQ, lsQ2, hf2, hW2, h170, inN, inR, Nat.zero_add, eq_self, Int.reduceEq, Int.reduceNeg]); (first | exact ⟨fun q _ => rfl, hQok, by omega, h170⟩ | (repeat' (first | assumption | exact True.intro | omega | apply And.intro))); done) | ((first | exact ⟨fun q _ => rfl, hQok, by omega, h170⟩ | (repeat' (first | assumption | exact True.intro | omega | apply And.intro))); done))))) | fail)
          refine At.next 2 ?_ ?_ ?_ rfl ?_ ?_ rfl
          · omega
          · ((repeat' (first | exact trivial | apply And.intro)) <;> (first | rfl | (simp only [look, cond_true, cond_false]; done)))
          · (repeat' (first | exact trivial | exact .same _ | exact .dead _ | exact .gone rfl | exact .loose | assumption | exact .arr (by assumption) | apply And.intro))
          · (repeat' (first | exact trivial | exact rfl | assumption | apply Stable.ite | apply And.intro | intro _ | (simp only [Stable, StableL, i64S, prS, insS, sndsS, sndS, kS, kaS, ftS, ftsS]; done)))
          · (repeat' (first | exact trivial | exact rfl | assumption | apply Stable.ite | apply And.intro | intro _ | (simp only [Stable, StableL, i64S, prS, insS, sndsS, sndS, kS, kaS, ftS, ftsS]; done)))
        · repeat' (first | with_reducible (first | apply J1 | apply J3 | apply J4 | apply J5 | apply J6 | apply J7 | apply J8 | apply J9 | apply J10 | apply J11 | apply J12 | apply J13 | apply J14 | apply J15 | apply J16 | apply J17 | apply J18 | apply J19 | apply J20 | refine J2 ?_) | ((with_reducible apply J21); (· rfl)) | ((with_reducible intro hif); first | (focus (cases hif; done)) | (simp only [JH] at hif; try (exfalso; omega)) | (try (exfalso; omega))) | ((first | ((with_reducible apply J22 cL2_ok tab_ok); (· rfl)) | ((with_reducible apply J23 fol cL2_ok tab_ok); (· rfl)) | with_reducible apply J24); (· (simp only [push_cast, ↓JP, Nat.reduceAdd, Nat.reduceEqDiff, Nat.reduceLT, Nat.reduceMul, Nat.reduceLeDiff, reduceCtorEq, reduceIte, ↓JK, ↓JF, cL2, sFactsB, sLeastB, lsQ, lsQ2, h170, inN, inR, Nat.zero_add, eq_self, Int.reduceEq, Int.reduceNeg]; rfl)); (try kernel_rfl); (try (focus (first | exact True.intro | ((try simp only [JS, implies_true, forall_const, shaped, shapedL, kndOf, cL2, sFactsB, sLeastB, lsQ, lsQ2, h170, inN, inR, Nat.zero_add, eq_self, Int.reduceEq, Int.reduceNeg]); (first | exact ⟨fun q _ => rfl, hQok, by omega, hQb⟩ | (repeat' (first | assumption | exact True.intro | omega | apply And.intro))); done) | ((first | exact ⟨fun q _ => rfl, hQok, by omega, hQb⟩ | (repeat' (first | assumption | exact True.intro | omega | apply And.intro))); done))))) | fail)
          apply At.endsRet tab_ok (fn := Try.f11) (rs := [.tmp 8]) Anc.refl hro (Nat.le_of_ble_eq_true rfl) rfl
          · simp only [push_cast, ↓JP, Nat.reduceAdd, Nat.reduceEqDiff, Nat.reduceLT, Nat.reduceMul, Nat.reduceLeDiff, reduceCtorEq, reduceIte, ↓JK, ↓JF, resV, resV1]; rfl
          · (first | trivial | (simp only [and_self]; done))
          · (repeat' (first | exact trivial | exact .same _ | exact .dead _ | exact .gone rfl | exact .loose | assumption | exact .arr (by assumption) | apply And.intro))
          · rfl
          · (repeat' (first | exact trivial | exact rfl | assumption | apply Stable.ite | apply And.intro | intro _ | (simp only [Stable, StableL, i64S, prS, insS, sndsS, sndS, kS, kaS, ftS, ftsS]; done)))
          · (repeat' (first | exact trivial | exact .inl rfl | exact .inr rfl | exact rfl | apply And.intro))
          · exact fun β => rfl
          · (repeat' (first | exact trivial | exact rfl | assumption | apply Stable.ite | apply And.intro | intro _ | (simp only [Stable, StableL, i64S, prS, insS, sndsS, sndS, kS, kaS, ftS, ftsS]; done)))
end Go.Proofs.Ytmljmabbopkpiaa.Vm
end
