import Derived.Test.YtmljmabbopkpiaaG5
import Derived.Test.YtmljmabbopkpiaaG7
import Derived.Test.YtmljmabbopkpiaaG12
import Derived.StillTailTactics
import Derived.Deep.QuietTactic
import Derived.Deep.RegionLaw
import Derived.Deep.DrawnRows
import Derived.Laws.EntriesVeiled
import Derived.BigQuiet
import Derived.WalkSpells
import Derived.Handy
import Derived.Deep.DeepCutAuto
section
/- fermatalaw14.Made: the program that small numbers make, and that it is right. -/
namespace Go.Proofs.Ytmljmabbopkpiaa
open Go.RowKit
set_option linter.unusedVariables false
set_option linter.unusedSimpArgs false

def one14 (x : Ins) (M : Int) : Ins := (fold14 x M (formS (formC (op14 x.op))) (formS (formC (op14 x.op))).size).2
theorem formC_cases (op : Int) : formC op = 0 ∨ formC op = 1 ∨ formC op = 2 ∨ formC op = 3 ∨ formC op = 4 ∨ formC op = 5 ∨ formC op = 6 ∨ formC op = 7 := by
  unfold formC; repeat (first | (split; · simp) | simp)
theorem formS_size (k : Nat) : (formS k).size ≤ 100 := by
  unfold formS; split <;> decide
theorem formS_asc (k : Nat) : ∀ p (h : p < (formS k).size), ((formS k)[p]'h).toNat < 128 := by
  have key : ∀ k, k < 8 → ∀ p (h : p < (formS k).size), ((formS k)[p]'h).toNat < 128 := by decide
  rcases Nat.lt_or_ge k 8 with h | h
  · exact key k h
  · intro p hp
    have : formS k = ⟨#[]⟩ := by
      unfold formS
      split <;> first | omega | rfl
    rw [this] at hp
    exact absurd hp (Nat.not_lt_zero p)
theorem one14_c (x : Ins) (hx : x.ok) (n : Int) (hn : 1 ≤ n ∧ n ≤ 1000000) (w : World) :
    Calls Try.prog 54 #[x.v, .int .i64 n] w fun e w' => e = .returned (one14 x n).v ∧ Below w.heap.size w w' := by
  have hb := op14_bd x.op
  have hf := fun w => form_c (op14 x.op) (by omega) w
  have h0 : (formC (op14 x.op) != 0) = true := by simpa using hb.2.2
  rw [h0] at hf
  exact one14_w x hx n hn _ (formS_size _) (formS_asc _) w hf
/-- by the form of its Op -/
theorem one14_eq (x : Ins) (M : Int) : one14 x M = match formC (op14 x.op) with
    | 1 => ⟨op14 x.op, x.a % 8, x.b % 8, x.c % 8, 0⟩
    | 3 => ⟨op14 x.op, x.a % 8, 0, 0, x.n⟩
    | 4 => ⟨op14 x.op, x.a % 8, x.b % 8, 0, 0⟩
    | 5 => ⟨op14 x.op, x.a % 8, x.b % 8, 0, IntKind.u64.wrap x.n % 16⟩
    | 6 => ⟨op14 x.op, 0, 0, 0, IntKind.u64.wrap x.n % M⟩
    | 7 => ⟨op14 x.op, x.a % 8, 0, 0, IntKind.u64.wrap x.n % M⟩
    | _ => ⟨op14 x.op, 0, 0, 0, 0⟩ := by
  unfold one14
  rcases formC_cases (op14 x.op) with h | h | h | h | h | h | h | h <;> (rw [h]; rfl)
theorem one14_forms (x : Ins) (M : Int) : (formC (op14 x.op) = 1 ∧ one14 x M = ⟨op14 x.op, x.a % 8, x.b % 8, x.c % 8, 0⟩) ∨ (formC (op14 x.op) = 2 ∧ one14 x M = ⟨op14 x.op, 0, 0, 0, 0⟩) ∨
    (formC (op14 x.op) = 3 ∧ one14 x M = ⟨op14 x.op, x.a % 8, 0, 0, x.n⟩) ∨ (formC (op14 x.op) = 4 ∧ one14 x M = ⟨op14 x.op, x.a % 8, x.b % 8, 0, 0⟩) ∨
    (formC (op14 x.op) = 5 ∧ one14 x M = ⟨op14 x.op, x.a % 8, x.b % 8, 0, IntKind.u64.wrap x.n % 16⟩) ∨ (formC (op14 x.op) = 6 ∧ one14 x M = ⟨op14 x.op, 0, 0, 0, IntKind.u64.wrap x.n % M⟩) ∨
    (formC (op14 x.op) = 7 ∧ one14 x M = ⟨op14 x.op, x.a % 8, 0, 0, IntKind.u64.wrap x.n % M⟩) := by
  have he := one14_eq x M
  rcases formC_cases (op14 x.op) with h | h | h | h | h | h | h | h
  · exact absurd h (op14_bd x.op).2.2
  · exact .inl ⟨h, by rw [he, h]; rfl⟩
  · exact .inr (.inl ⟨h, by rw [he, h]; rfl⟩)
  · exact .inr (.inr (.inl ⟨h, by rw [he, h]; rfl⟩))
  · exact .inr (.inr (.inr (.inl ⟨h, by rw [he, h]; rfl⟩)))
  · exact .inr (.inr (.inr (.inr (.inl ⟨h, by rw [he, h]; rfl⟩))))
  · exact .inr (.inr (.inr (.inr (.inr (.inl ⟨h, by rw [he, h]; rfl⟩)))))
  · exact .inr (.inr (.inr (.inr (.inr (.inr ⟨h, by rw [he, h]; rfl⟩)))))
theorem one14_op (x : Ins) (M : Int) : (one14 x M).op = op14 x.op := by
  rcases one14_forms x M with ⟨_, h⟩ | ⟨_, h⟩ | ⟨_, h⟩ | ⟨_, h⟩ | ⟨_, h⟩ | ⟨_, h⟩ | ⟨_, h⟩ <;> rw [h]
theorem ok_mk {op a b c n : Int} (h : (0 ≤ op ∧ op ≤ 255) ∧ (0 ≤ a ∧ a ≤ 255) ∧ (0 ≤ b ∧ b ≤ 255) ∧ (0 ≤ c ∧ c ≤ 255) ∧ (-9223372036854775808 ≤ n ∧ n ≤ 9223372036854775807)) : (⟨op, a, b, c, n⟩ : Ins).ok :=
  ⟨h.1.1, h.1.2, h.2.1.1, h.2.1.2, h.2.2.1.1, h.2.2.1.2, h.2.2.2.1.1, h.2.2.2.1.2, h.2.2.2.2.1, h.2.2.2.2.2⟩
theorem one14_ok (x : Ins) (hx : x.ok) (M : Int) (hM : 1 ≤ M ∧ M ≤ 1000000) : (one14 x M).ok := by
  have hb := op14_bd x.op
  have hu := u64_bd4 x.n
  have hm := Int.emod_nonneg (IntKind.u64.wrap x.n) (b := M) (by omega)
  have hm2 := Int.emod_lt_of_pos (IntKind.u64.wrap x.n) (b := M) (by omega)
  obtain ⟨-, -, -, -, -, -, -, -, n0, n1⟩ := hx
  rcases one14_forms x M with ⟨_, h⟩ | ⟨_, h⟩ | ⟨_, h⟩ | ⟨_, h⟩ | ⟨_, h⟩ | ⟨_, h⟩ | ⟨_, h⟩ <;> (rw [h]; exact ok_mk (by omega))
theorem one14_one (x : Ins) (M : Int) (hM : 1 ≤ M ∧ M ≤ 256) : oneE (one14 x M) = 0 := by
  have hb := op14_bd x.op
  have hu := u64_bd4 x.n
  have hm := Int.emod_nonneg (IntKind.u64.wrap x.n) (b := M) (by omega)
  have hm2 := Int.emod_lt_of_pos (IntKind.u64.wrap x.n) (b := M) (by omega)
  unfold oneE
  rw [one14_op, if_neg hb.2.2]
  rcases one14_forms x M with ⟨h1, h⟩ | ⟨h1, h⟩ | ⟨h1, h⟩ | ⟨h1, h⟩ | ⟨h1, h⟩ | ⟨h1, h⟩ | ⟨h1, h⟩ <;> rw [h1, h]
  · exact oneK_pos (show _ ∧ _ ∧ _ ∧ _ by dsimp only; omega)
  · exact oneK_pos (show _ ∧ _ ∧ _ ∧ _ by dsimp only; omega)
  · exact oneK_pos (show _ ∧ _ ∧ _ by dsimp only; omega)
  · exact oneK_pos (show _ ∧ _ ∧ _ ∧ _ by dsimp only; omega)
  · exact oneK_pos (show _ ∧ _ ∧ _ ∧ _ ∧ _ by dsimp only; omega)
  · exact oneK_pos (show _ ∧ _ ∧ _ ∧ _ ∧ _ by dsimp only; omega)
  · exact oneK_pos (show _ ∧ _ ∧ _ ∧ _ ∧ _ by dsimp only; omega)
theorem one14_bad (x : Ins) (M : Int) (hM : 1 ≤ M ∧ M ≤ 256) : badAt M (one14 x M) = 0 := by
  have h1 := one14_one x M hM
  have hb := op14_bd x.op
  have hm2 := Int.emod_lt_of_pos (IntKind.u64.wrap x.n) (b := M) (by omega)
  unfold badAt
  rw [if_neg (by simp [h1])]
  by_cases ht : targB (one14 x M) = true
  · rw [if_neg]
    rintro ⟨-, h2⟩
    have h3 : targV (one14 x M) = (one14 x M).n := by unfold targV; rw [if_pos ht]
    rw [h3] at h2
    unfold targB at ht
    rw [one14_op] at ht
    simp [h1] at ht
    have hc : formC (op14 x.op) = 6 ∨ formC (op14 x.op) = 7 := by
      rcases ht with h | h | h <;> rw [h] <;> decide
    rcases one14_forms x M with ⟨h5, h⟩ | ⟨h5, h⟩ | ⟨h5, h⟩ | ⟨h5, h⟩ | ⟨h5, h⟩ | ⟨h5, h⟩ | ⟨h5, h⟩ <;> first | omega | (rw [h] at h2; dsimp only at h2; omega)
  · rw [if_neg (by simp [ht])]
def made14 (xs : List Ins) : List Ins := (xs.take 40).map (fun x => one14 x ((xs.take 40).length + 1 : Nat)) ++ [haltI]
theorem made14_len (xs : List Ins) : (made14 xs).length = (xs.take 40).length + 1 := by simp [made14]
theorem made14_le (xs : List Ins) : 1 ≤ (made14 xs).length ∧ (made14 xs).length ≤ 41 := by
  rw [made14_len, List.length_take]; omega
theorem made14_ok (xs : List Ins) (hx : ∀ x ∈ xs, x.ok) : ∀ i ∈ made14 xs, i.ok := by
  intro i hi
  unfold made14 at hi
  rw [List.mem_append, List.mem_map] at hi
  rcases hi with ⟨x, h, rfl⟩ | h
  · exact one14_ok x (hx x (List.mem_of_mem_take h)) _ (by rw [List.length_take]; omega)
  · rw [List.mem_singleton] at h
    rw [h]; exact haltI_ok
theorem made14_bad (xs : List Ins) : ∀ i ∈ made14 xs, badAt (made14 xs).length i = 0 := by
  intro i hi
  rw [made14_len]
  unfold made14 at hi
  rw [List.mem_append, List.mem_map] at hi
  rcases hi with ⟨x, h, rfl⟩ | h
  · exact one14_bad x _ (by rw [List.length_take]; omega)
  · rw [List.mem_singleton] at h
    rw [h]
    unfold badAt
    rw [if_neg (by decide), if_neg (fun h => absurd h.1 (by decide))]
theorem made14_right (xs : List Ins) : (checkI (made14 xs)).2 = 0 := by
  have hl := made14_le xs
  unfold checkI
  rw [if_neg (by omega), if_neg (by omega)]
  have hK := checkK_none (p := made14 xs) (fun k hk y hy => made14_bad xs y (List.mem_of_getElem? hy))
  rw [hK]
  have : (made14 xs).getD ((made14 xs).length - 1) ⟨0, 0, 0, 0, 0⟩ = haltI := by
    rw [made14_len]
    simp [made14, List.getD]
  rw [this, if_neg (by decide)]
theorem reads_new5 (X : World) (t : TypeId) (a b c d e : Value) (gg : Nat) (h : gg = X.heap.size) : Reads (X.alloc (.cells #[a, b, c, d, e] t)) (gg + 1) 5 (some ⟨gg, 0, none⟩) 1 [a, b, c, d, e] := by
  subst h
  refine ⟨rfl, fun _ => ⟨_, rfl, Nat.lt_succ_self _, fun j u hu => ?_⟩⟩
  rw [Addr.add_lit, cell_of_row _ _ _ _ _ _ (heap_alloc_new X _), Nat.zero_add]
  simpa using hu
set_option maxRecDepth 100000 in
set_option maxHeartbeats 4000000 in
theorem made14_c (xs : List Ins) (hx : ∀ x ∈ xs, x.ok) (A : Option Addr) (n c : Nat) (w : World) (hA : Reads w w.heap.size 5 A n (insV xs)) (hc : n ≤ c) (hcm : c ≤ 9223372036854775807) :
    Calls Try.prog 19 #[.slice A n c] w fun e w' => ∃ P, e = .returned P ∧ w'.ownsRow w.heap.size 28 5 P (made14 xs).length (insV (made14 xs)) ∧ Below w.heap.size w w' := by
  have hn := hA.ins_len
  obtain ⟨m, hm⟩ : ∃ m, m = min n 40 := ⟨_, rfl⟩
  have hmn : m ≤ n := by omega
  have hm40 : m ≤ 40 := by omega
  have hml : (xs.take 40).length = m := by rw [List.length_take]; omega
  have hmin : ∀ W : World, (Builtin.min_ #[3, 3] 3 #[.int .i64 (n : Int), .int .i64 40]).run Try.prog W = .ok (.int .i64 (m : Int)) W := fun W => min_i64 _ _ _ _ 0 _ (by split <;> omega) W
  have hm0 : (0 : Int) ≤ (m : Int) := by omega
  have hmc : (m : Int) ≤ (c : Int) := by omega
  obtain ⟨iS, hi, hz0, hz1, hz2⟩ := info_parts infoIns
  have HL := Lib.hid hml
  clear hm hml
  go_enter Try.func19, Try.ntmps19
  go_wp2
  go_loopw [3, 13] (fun s k wr => ∃ (j : Nat) (D : Option Addr) (f : Nat), k = .int .i64 j ∧ s = .slice D j f ∧ j ≤ m ∧ wr.ownsRow w.heap.size 28 5 (.slice D j f) j (insV ((xs.take j).map fun x => one14 x (m + 1 : Nat))) ∧ Below w.heap.size w wr) (fun _ k _ => m - (intOf k).toNat)
  case atStart => exact ⟨0, none, 0, rfl, rfl, by omega, World.ownsRow_nil _ _ _ _, Below.refl _ _⟩
  case round =>
    obtain ⟨j, D, f, rfl, rfl, hj, ho, hb⟩ := hrel
    by_cases hlt : j < m
    · obtain ⟨ab, off, x, rfl, hab, hxj, c0, c1, c2, c3, c4⟩ := (hA.below hb).ins_at (show j < n by omega)
      have hxo : x.ok := hx x (List.mem_of_getElem? hxj)
      have hM : 1 ≤ ((m : Int) + 1) ∧ ((m : Int) + 1) ≤ 1000000 := by omega
      have w1 : wrap64 ((m : Int) + 1) = (m : Int) + 1 := by unfold wrap64; omega
      have OC := Lib.hid (fun W => one14_c x hxo ((m : Int) + 1) hM W)
      obtain ⟨y, hy⟩ : ∃ y, y = one14 x ((m : Int) + 1) := ⟨_, rfl⟩
      rw [← hy] at OC
      have hyo : y.ok := hy ▸ one14_ok x hxo _ hM
      have hstep : insV (((xs.take j).map fun x => one14 x (m + 1 : Nat))) ++ y.cells = insV ((xs.take (j + 1)).map fun x => one14 x (m + 1 : Nat)) := by
        rw [List.take_add_one, hxj, hy]
        simp [insV]
      have hab2 : ab < wr.heap.size := by have := hb.size; omega
      have HO := Lib.hid (And.intro ho (And.intro hstep hb))
      obtain ⟨x0, xa, xb, xc, xn⟩ := x
      obtain ⟨y0, ya, yb, yc, yn⟩ := y
      unfold Ins.v at OC
      dsimp only at OC c0 c1 c2 c3 c4
      clear ho hstep hb hA hxj hy hxo hyo
      go_wp2_with fail
      go_at_call 54
      refine (OC.out _).mono ?_
      rintro e W1 ⟨rfl, hb1⟩
      have hB1 : Below wr.heap.size wr W1 := ((Below.refl _ wr).alloc (Nat.le_refl _) _).trans (hb1.mono (by simp))
      have ho1 : W1.ownsRow w.heap.size 28 5 (.slice D j f) j (insV ((xs.take j).map fun x => one14 x (m + 1 : Nat))) := ownsRow_keep HO.out.1 fun k _ hk => hB1.block k hk
      have hb2 : Below w.heap.size w W1 := HO.out.2.2.trans (hB1.mono HO.out.2.2.size)
      have HQ := Lib.hid (And.intro ho1 hb2)
      have hrd : Reads (W1.alloc (.cells #[.int .u8 y0, .int .u8 ya, .int .u8 yb, .int .u8 yc, .int .i64 yn] 28)) (W1.heap.size + 1) 5 (some ⟨W1.heap.size, 0, none⟩) 1 [.int .u8 y0, .int .u8 ya, .int .u8 yb, .int .u8 yc, .int .i64 yn] := reads_new5 _ _ _ _ _ _ _ _ rfl
      have hones : ∀ u ∈ [Value.int .u8 y0, .int .u8 ya, .int .u8 yb, .int .u8 yc, .int .i64 yn], u.oneCell' = true := by
        intro u hu; simp at hu; rcases hu with rfl | rfl | rfl | rfl | rfl <;> rfl
      clear hb1 hB1 ho1 hb2
      go_wp2_with (at_builtin
                   refine wpList_append_any _ rfl (.tmp 17) (.tmp 23) _ rfl w.heap.size 28 iS _ 5 16 Try.underlying25 hi hz0 hz1 hz2 rfl (by omega) (.slice D j f) j _ rfl
                     (own_alloc HQ.out.1 _) (W1.heap.size + 1) (some ⟨W1.heap.size, 0, none⟩) 1 1 _ rfl hrd hones (by unfold maxLen; omega) (by omega) (by have := HQ.out.2.size; simp; omega) ?_
                   intro v1 w1 hown1 hg1 hat1)
      obtain ⟨D1, f1, rfl⟩ := own_slice hown1
      have hf2 := HO.out.2.1
      have hn2 : insV ((xs.take j).map fun x => one14 x (m + 1 : Nat)) ++ [.int .u8 y0, .int .u8 ya, .int .u8 yb, .int .u8 yc, .int .i64 yn] = insV ((xs.take (j + 1)).map fun x => one14 x (m + 1 : Nat)) := hf2
      rw [hn2] at hown1
      go_roundw
      case rel => exact ⟨j + 1, D1, f1, by go_num, rfl, by omega, hown1, (HQ.out.2.alloc HQ.out.2.size _).grown hg1 (Nat.le_trans HQ.out.2.size (by simp)) (fun k hk => own_base HQ.out.1 k hk)⟩
      case measure => simp [intOf]; omega
    · have hjm : j = m := by omega
      subst hjm
      have hfin : insV ((xs.take j).map fun x => one14 x (j + 1 : Nat)) ++ haltI.cells = insV (made14 xs) := by
        have ht : xs.take j = xs.take 40 := by
          have := HL.out
          rw [List.length_take] at this
          rcases Nat.le_total xs.length 40 with h | h
          · rw [List.take_of_length_le (by omega), List.take_of_length_le h]
          · rw [show j = 40 by omega]
        unfold made14
        rw [HL.out, ht]
        simp [insV]
      have hlen : (made14 xs).length = j + 1 := by rw [made14_len, HL.out]
      have HQ := Lib.hid (And.intro ho (And.intro hb (And.intro hfin hlen)))
      have hrd : Reads (wr.alloc (.cells #[.int .u8 1, .int .u8 0, .int .u8 0, .int .u8 0, .int .i64 0] 28)) (wr.heap.size + 1) 5 (some ⟨wr.heap.size, 0, none⟩) 1 [.int .u8 1, .int .u8 0, .int .u8 0, .int .u8 0, .int .i64 0] := reads_new5 _ _ _ _ _ _ _ _ rfl
      have hones : ∀ u ∈ [Value.int .u8 1, .int .u8 0, .int .u8 0, .int .u8 0, .int .i64 0], u.oneCell' = true := by
        intro u hu; simp at hu; rcases hu with rfl | rfl | rfl | rfl | rfl <;> rfl
      clear ho hb hfin hlen hA
      go_wp2_with (at_builtin
                   refine wpList_append_any _ rfl (.tmp 26) (.tmp 28) _ rfl w.heap.size 28 iS _ 5 16 Try.underlying25 hi hz0 hz1 hz2 rfl (by omega) (.slice D j f) j _ rfl
                     (own_alloc HQ.out.1 _) (wr.heap.size + 1) (some ⟨wr.heap.size, 0, none⟩) 1 1 _ rfl hrd hones (by unfold maxLen; omega) (by omega) (by have := HQ.out.2.1.size; simp; omega) ?_
                   intro v1 w1 hown1 hg1 hat1)
      obtain ⟨h1, h2, h3, h4⟩ := HQ.out
      have hn2 : insV ((xs.take j).map fun x => one14 x (j + 1 : Nat)) ++ [.int .u8 1, .int .u8 0, .int .u8 0, .int .u8 0, .int .i64 0] = insV (made14 xs) := h3
      rw [hn2] at hown1
      go_ret
      rw [h4]
      exact ⟨_, rfl, hown1, (h2.alloc h2.size _).grown hg1 (Nat.le_trans h2.size (by simp)) (fun k hk => own_base h1 k hk)⟩
end Go.Proofs.Ytmljmabbopkpiaa
end

section
/- fermatalaw14.Made, for walks over symbolic values. -/
namespace Go.Proofs.Ytmljmabbopkpiaa.Vm
open Go.RowKit
set_option linter.unusedVariables false
set_option linter.unusedSimpArgs false
set_option maxRecDepth 100000
def sMd14 : Spec := fun args h m => match args with
  | [.sl z i pa k s n' (some cp)] => match srcV h 5 (.tup []) (.sl z i pa k s n' (some cp)) with
    | some (c, n, f, rd) =>
        some (c ∧ n = n' ∧ (∀ q, q < n → isIns (f q) = true) ∧ (∀ x ∈ ls insOf n f, x.ok) ∧ max n cp ≤ 9223372036854775807, .sl m m [] 5 0 (made14 (ls insOf n f)).length none, rd, [(m, .own 28 (.arr (made14 (ls insOf n f)).length 5 (prS (made14 (ls insOf n f)))) false)])
    | _ => none
  | _ => none
theorem sMd14_ok : CallOk Try.prog 19 sMd14 := by
  refine ⟨named_spec (by kernel_rfl), fun args h m c v rd wr hs hm hc w0 M β h' w R hrd hwr hst => ?_⟩
  unfold sMd14 at hs
  split at hs
  · rename_i z i pa k' s n' cp
    split at hs
    · rename_i c' n f rd' ha
      simp only [Option.some.injEq, Prod.mk.injEq] at hs
      obtain ⟨rfl, rfl, rfl, rfl⟩ := hs
      obtain ⟨hc1, hn, hi, hok, hcp⟩ := hc
      obtain ⟨A, cap, hden, hnc, hr⟩ := reads_src R ha hc1 hrd (by omega)
      rw [elems_ins hi] at hr
      have hcap : cap ≤ 9223372036854775807 := by
        simp only [SV.den, Option.getD_some] at hden
        injection hden with _ _ h3
        omega
      simp only [denL, hden]
      refine (made14_c (ls insOf n f) hok A n cap w hr hnc hcap).mono fun e w' he => ?_
      obtain ⟨p, rfl, ho, hb⟩ := he
      have hmd : h' m = .dead := (hwr _ (.head _)).trans (hm m (Nat.le_refl _))
      obtain ⟨e', R', hv⟩ := (R.below hb).made (f := prS (made14 (ls insOf n f))) hmd ho R.size (elems_prS _) prS_stable (fun g i a' hg hmi hai e => by
        have := R.lt i a' hmi hai
        obtain ⟨_, ⟨rfl, _⟩ | ⟨g', cap', cur, rfl, hg', _⟩⟩ := ho
        · cases hg
        · simp [Value.ownBlock] at hg
          omega)
      exact ⟨_, agree_setE hmd, R', stable_new, by rw [hv]⟩
    · cases hs
  · cases hs
end Go.Proofs.Ytmljmabbopkpiaa.Vm
end

section
/- fermatalaw17.limits; slices.IsSorted of integers. -/
namespace Go.Proofs.Ytmljmabbopkpiaa.Vm
open Go.RowKit
attribute [local push_cast] runR opG gtmp gval gus opX tmpsOf tm tmO tmP restr look look2 tab tys zs ets eqB eqBL allB numOf ieq Int.cast_ofNat_Int Int.ofNat_zero beq_true beq_false frameOf ev evL ofV opV loadV noW pushF wrsL setH allBorn allGone HB.born HB.isGone HB.val SV.plain dstOk hp nav fitsT SV.size sizeL SV.isAgg TK.size TK.agg bin binE binN binI arN arI cmpN cmpI keq kn narrow callV storeV setp fillV buildV buildSliceV makeV sliceV appendV copyV List.isEmpty_nil srcV evO asN ite_t ite_f ite_bool ite_int ite_nat maxV v_beq v_ble v_blt cond_true cond_false List.getElem?_cons_zero List.getElem?_cons_succ List.getD_cons_zero List.getD_cons_succ List.getD_nil List.length_cons List.length_nil List.take_succ_cons List.take_zero List.set_cons_zero List.set_cons_succ List.cons_append List.nil_append List.append_assoc List.replicate_succ List.replicate_zero Nat.zero_add Nat.add_zero decide_true decide_false Bool.true_and Bool.and_true Bool.false_and Bool.and_false Bool.true_or Bool.or_true Bool.false_or Bool.or_false beq_self_eq_true Bool.or_self Nat.lt_irrefl Nat.not_lt_zero Nat.le_refl Option.getD_some Option.getD_none BEq.rfl Bool.not_true Bool.not_false Bool.cond_true_left Bool.cond_false_right prS sndsS i64S nav_ins nav_ins0 nav_ins1 nav_ins2 nav_ins3 nav_ins4 nav_snd nav_snd0 nav_snd1 nav_snd2 isIns_insS insOf_insS isSnd_sndS sndOf_sndS isI_int isI_nat iOf nav_k nav_k0 nav_k1 nav_ka nav_kai nav_ft nav_ft0 nav_ft1 isKn_kS knOf_kS isKa_kaS kaOf_kaS isFt_ftS ftOf_ftS setp_ka setp_ftk setp_ftr setp_fti evm_ins evm_snd evm_k evm_ka evm_ft
set_option linter.unusedVariables false
set_option linter.unusedSimpArgs false
set_option maxRecDepth 100000
set_option maxHeartbeats 4000000
theorem limits_lit (a b c : Int) (ha : 0 ≤ a ∧ a ≤ 255) (hb : 0 ≤ b ∧ b ≤ 255) (hc : 0 ≤ c ∧ c ≤ 255) : LitOk Try.prog 36 [.int .u8 a, .int .u8 b, .int .u8 c] [.gone] (.agg [.int .i64 (a % 12), .int .i64 (b % 17), .int .i64 (1 + c % 9)]) [.gone] := by
  refine litOkM (fn := Try.f36) 1 18 0 rfl rfl rfl rfl rfl (by simp only [StableL, Stable, hp]; simp [HB.born]) rfl fun w0 M E hro => ?_
  have e1 : a.tmod 12 = a % 12 := Int.tmod_eq_emod_of_nonneg ha.1
  have e2 : b.tmod 17 = b % 17 := Int.tmod_eq_emod_of_nonneg hb.1
  have e3 : c.tmod 9 = c % 9 := Int.tmod_eq_emod_of_nonneg hc.1
  repeat' (first | with_reducible (first | apply J1 | apply J3 | apply J4 | apply J5 | apply J6 | apply J7 | apply J8 | apply J9 | apply J10 | apply J11 | apply J12 | apply J13 | apply J14 | apply J15 | apply J16 | apply J17 | apply J18 | apply J19 | apply J20 | refine J2 ?_) | ((with_reducible apply J21); (· rfl)) | ((with_reducible intro hif); first | (focus (cases hif; done)) | (simp only [JH] at hif; try (exfalso; omega)) | (try (exfalso; omega))) | ((first | ((with_reducible apply J22 noCk_ok tab_ok); (· rfl)) | ((with_reducible apply J23 fol noCk_ok tab_ok); (· rfl)) | with_reducible apply J24); (· (simp only [push_cast, ↓JP, Nat.reduceAdd, Nat.reduceEqDiff, Nat.reduceLT, Nat.reduceMul, Nat.reduceLeDiff, reduceCtorEq, reduceIte, ↓JK, ↓JF, e1, e2, e3, inN, inR]; rfl)); (try kernel_rfl); (try (focus (first | exact True.intro | ((try simp only [JS, implies_true, forall_const, shaped, shapedL, kndOf, e1, e2, e3, inN, inR]); (repeat' (first | assumption | exact True.intro | omega | apply And.intro)); done) | ((repeat' (first | assumption | exact True.intro | omega | apply And.intro)); done))))) | fail)
  apply At.endsRet tab_ok (fn := Try.f36) (rs := [.cell 6 31]) Anc.refl hro (Nat.le_of_ble_eq_true rfl) rfl
  · simp only [push_cast, ↓JP, Nat.reduceAdd, Nat.reduceEqDiff, Nat.reduceLT, Nat.reduceMul, Nat.reduceLeDiff, reduceCtorEq, reduceIte, ↓JK, ↓JF, resV, resV1]; rfl
  · (first | trivial | (simp only [and_self]; done))
  · (repeat' (first | exact trivial | exact .same _ | exact .dead _ | exact .gone rfl | exact .loose | assumption | exact .arr (by assumption) | apply And.intro))
  · rfl
  · (repeat' (first | exact trivial | exact rfl | assumption | apply Stable.ite | apply And.intro | intro _ | (simp only [Stable, StableL, i64S, prS, insS, sndsS, sndS, kS, kaS, ftS, ftsS]; done)))
  · (repeat' (first | exact trivial | exact .inl rfl | exact .inr rfl | exact rfl | apply And.intro))
  · exact fun β => rfl
  · (repeat' (first | exact trivial | exact rfl | assumption | apply Stable.ite | apply And.intro | intro _ | (simp only [Stable, StableL, i64S, prS, insS, sndsS, sndS, kS, kaS, ftS, ftsS]; done)))
def sLims : Spec := fun args h m => match args with
  | [v1, v2, v3] => bif isI .u8 v1 && isI .u8 v2 && isI .u8 v3 then some (((0 ≤ (iOf v1) ∧ (iOf v1) ≤ 255)) ∧ ((0 ≤ (iOf v2) ∧ (iOf v2) ≤ 255)) ∧ ((0 ≤ (iOf v3) ∧ (iOf v3) ≤ 255)), .agg [.int .i64 ((iOf v1) % 12), .int .i64 ((iOf v2) % 17), .int .i64 (1 + (iOf v3) % 9)], [], []) else none
  | _ => none
theorem sLims_ok : CallOk Try.prog 36 sLims := by
  refine ⟨named_spec (by kernel_rfl), fun args h m c v rd wr hs hm hc w0 M β h' w R hrd hwr hst => ?_⟩
  unfold sLims at hs
  split at hs
  · rename_i v1 v2 v3
    obtain ⟨hb, hs⟩ := bif_some hs
    simp only [Option.some.injEq, Prod.mk.injEq] at hs
    obtain ⟨rfl, rfl, rfl, rfl⟩ := hs
    simp only [Bool.and_eq_true] at hb
    obtain ⟨⟨b1, b2⟩, b3⟩ := hb
    obtain ⟨y1, y2, y3⟩ := hc
    refine callRo (views := []) (limits_lit (iOf v1) (iOf v2) (iOf v3) y1 y2 y3) ?_ R hm hwr ?_ ?_ ?_
    · intro x hx; cases hx
    · intro β1 hv
      simp only [denL, aggDen, intDen, natDen, boolDen, ls_length, isI_den b1, isI_den b2, isI_den b3]
    · (repeat' (first | exact trivial | exact rfl | assumption | apply Stable.ite | apply And.intro | intro _ | (simp only [Stable, StableL, i64S, prS, insS, sndsS, sndS, kS, kaS, ftS, ftsS]; done)))
    · (repeat' (first | exact trivial | exact rfl | assumption | apply Stable.ite | apply And.intro | intro _ | (simp only [Stable, StableL, i64S, prS, insS, sndsS, sndS, kS, kaS, ftS, ftsS]; done)))
  · cases hs
theorem nan_lit (a : Int) : LitOk Try.prog 118 [.int .i64 a] [.gone] (.bool false) [.gone] := by
  refine litOkM (fn := Try.f118) 1 6 0 rfl rfl rfl rfl rfl (by simp only [StableL, Stable, hp]; simp [HB.born]) rfl fun w0 M E hro => ?_
  repeat' (first | with_reducible (first | apply J1 | apply J3 | apply J4 | apply J5 | apply J6 | apply J7 | apply J8 | apply J9 | apply J10 | apply J11 | apply J12 | apply J13 | apply J14 | apply J15 | apply J16 | apply J17 | apply J18 | apply J19 | apply J20 | refine J2 ?_) | ((with_reducible apply J21); (· rfl)) | ((with_reducible intro hif); first | (focus (cases hif; done)) | (simp only [JH] at hif; try (exfalso; omega)) | (try (exfalso; omega))) | ((first | ((with_reducible apply J22 noCk_ok tab_ok); (· rfl)) | ((with_reducible apply J23 fol noCk_ok tab_ok); (· rfl)) | with_reducible apply J24); (· (simp only [push_cast, ↓JP, Nat.reduceAdd, Nat.reduceEqDiff, Nat.reduceLT, Nat.reduceMul, Nat.reduceLeDiff, reduceCtorEq, reduceIte, ↓JK, ↓JF, inN, inR, eq_self]; rfl)); (try kernel_rfl); (try (focus (first | exact True.intro | ((try simp only [JS, implies_true, forall_const, shaped, shapedL, kndOf, inN, inR, eq_self]); (repeat' (first | assumption | exact True.intro | omega | apply And.intro)); done) | ((repeat' (first | assumption | exact True.intro | omega | apply And.intro)); done))))) | fail)
  apply At.endsRet tab_ok (fn := Try.f118) (rs := [.tmp 2]) Anc.refl hro (Nat.le_of_ble_eq_true rfl) rfl
  · simp only [push_cast, ↓JP, Nat.reduceAdd, Nat.reduceEqDiff, Nat.reduceLT, Nat.reduceMul, Nat.reduceLeDiff, reduceCtorEq, reduceIte, ↓JK, ↓JF, resV, resV1]; rfl
  · (first | trivial | (simp only [and_self]; done))
  · (repeat' (first | exact trivial | exact .same _ | exact .dead _ | exact .gone rfl | exact .loose | assumption | exact .arr (by assumption) | apply And.intro))
  · rfl
  · (repeat' (first | exact trivial | exact rfl | assumption | apply Stable.ite | apply And.intro | intro _ | (simp only [Stable, StableL, i64S, prS, insS, sndsS, sndS, kS, kaS, ftS, ftsS]; done)))
  · (repeat' (first | exact trivial | exact .inl rfl | exact .inr rfl | exact rfl | apply And.intro))
  · exact fun β => rfl
  · (repeat' (first | exact trivial | exact rfl | assumption | apply Stable.ite | apply And.intro | intro _ | (simp only [Stable, StableL, i64S, prS, insS, sndsS, sndS, kS, kaS, ftS, ftsS]; done)))
def sNaN : Spec := fun args h m => match args with
  | [v1] => bif isI .i64 v1 then some (True, .bool false, [], []) else none
  | _ => none
theorem sNaN_ok : CallOk Try.prog 118 sNaN := by
  refine ⟨named_spec (by kernel_rfl), fun args h m c v rd wr hs hm hc w0 M β h' w R hrd hwr hst => ?_⟩
  unfold sNaN at hs
  split at hs
  · rename_i v1
    obtain ⟨hb, hs⟩ := bif_some hs
    simp only [Option.some.injEq, Prod.mk.injEq] at hs
    obtain ⟨rfl, rfl, rfl, rfl⟩ := hs
    have b1 := hb
    refine callRo (views := []) (nan_lit (iOf v1)) ?_ R hm hwr ?_ ?_ ?_
    · intro x hx; cases hx
    · intro β1 hv
      simp only [denL, aggDen, intDen, natDen, boolDen, ls_length, isI_den b1]
    · (repeat' (first | exact trivial | exact rfl | assumption | apply Stable.ite | apply And.intro | intro _ | (simp only [Stable, StableL, i64S, prS, insS, sndsS, sndS, kS, kaS, ftS, ftsS]; done)))
    · (repeat' (first | exact trivial | exact rfl | assumption | apply Stable.ite | apply And.intro | intro _ | (simp only [Stable, StableL, i64S, prS, insS, sndsS, sndS, kS, kaS, ftS, ftsS]; done)))
  · cases hs
def cNaN : FuncId → Option Spec := look2 [(118, sNaN)]
theorem cNaN_ok : ∀ f S, cNaN f = some S → CallOk Try.prog f S := allOk_spec ⟨sNaN_ok, trivial⟩
theorem less_lit (a b : Int) : LitOk Try.prog 87 [.int .i64 a, .int .i64 b] [.gone] (.bool (decide (a < b))) [.gone] := by
  refine litOkM (fn := Try.f87) 1 17 0 rfl rfl rfl rfl rfl (by simp only [StableL, Stable, hp]; simp [HB.born]) rfl fun w0 M E hro => ?_
  repeat' (first | with_reducible (first | apply J1 | apply J3 | apply J4 | apply J5 | apply J6 | apply J7 | apply J8 | apply J9 | apply J10 | apply J11 | apply J12 | apply J13 | apply J14 | apply J15 | apply J16 | apply J17 | apply J18 | apply J19 | apply J20 | refine J2 ?_) | ((with_reducible apply J21); (· rfl)) | ((with_reducible intro hif); first | (focus (cases hif; done)) | (simp only [JH] at hif; try (exfalso; omega)) | (try (exfalso; omega))) | ((first | ((with_reducible apply J22 cNaN_ok tab_ok); (· rfl)) | ((with_reducible apply J23 fol cNaN_ok tab_ok); (· rfl)) | with_reducible apply J24); (· (simp only [push_cast, ↓JP, Nat.reduceAdd, Nat.reduceEqDiff, Nat.reduceLT, Nat.reduceMul, Nat.reduceLeDiff, reduceCtorEq, reduceIte, ↓JK, ↓JF, cNaN, sNaN, inN, inR, eq_self]; rfl)); (try kernel_rfl); (try (focus (first | exact True.intro | ((try simp only [JS, implies_true, forall_const, shaped, shapedL, kndOf, cNaN, sNaN, inN, inR, eq_self]); (repeat' (first | assumption | exact True.intro | omega | apply And.intro)); done) | ((repeat' (first | assumption | exact True.intro | omega | apply And.intro)); done))))) | fail)
  apply At.endsRet tab_ok (fn := Try.f87) (rs := [.tmp 4]) Anc.refl hro (Nat.le_of_ble_eq_true rfl) rfl
  · simp only [push_cast, ↓JP, Nat.reduceAdd, Nat.reduceEqDiff, Nat.reduceLT, Nat.reduceMul, Nat.reduceLeDiff, reduceCtorEq, reduceIte, ↓JK, ↓JF, resV, resV1]; rfl
  · (first | trivial | (simp only [and_self]; done))
  · (repeat' (first | exact trivial | exact .same _ | exact .dead _ | exact .gone rfl | exact .loose | assumption | exact .arr (by assumption) | apply And.intro))
  · rfl
  · (repeat' (first | exact trivial | exact rfl | assumption | apply Stable.ite | apply And.intro | intro _ | (simp only [Stable, StableL, i64S, prS, insS, sndsS, sndS, kS, kaS, ftS, ftsS]; done)))
  · (repeat' (first | exact trivial | exact .inl rfl | exact .inr rfl | exact rfl | apply And.intro))
  · exact fun β => rfl
  · (repeat' (first | exact trivial | exact rfl | assumption | apply Stable.ite | apply And.intro | intro _ | (simp only [Stable, StableL, i64S, prS, insS, sndsS, sndS, kS, kaS, ftS, ftsS]; done)))
def sLessI : Spec := fun args h m => match args with
  | [v1, v2] => bif isI .i64 v1 && isI .i64 v2 then some (True, .bool (decide ((iOf v1) < (iOf v2))), [], []) else none
  | _ => none
theorem sLessI_ok : CallOk Try.prog 87 sLessI := by
  refine ⟨named_spec (by kernel_rfl), fun args h m c v rd wr hs hm hc w0 M β h' w R hrd hwr hst => ?_⟩
  unfold sLessI at hs
  split at hs
  · rename_i v1 v2
    obtain ⟨hb, hs⟩ := bif_some hs
    simp only [Option.some.injEq, Prod.mk.injEq] at hs
    obtain ⟨rfl, rfl, rfl, rfl⟩ := hs
    simp only [Bool.and_eq_true] at hb
    obtain ⟨b1, b2⟩ := hb
    refine callRo (views := []) (less_lit (iOf v1) (iOf v2)) ?_ R hm hwr ?_ ?_ ?_
    · intro x hx; cases hx
    · intro β1 hv
      simp only [denL, aggDen, intDen, natDen, boolDen, ls_length, isI_den b1, isI_den b2]
    · (repeat' (first | exact trivial | exact rfl | assumption | apply Stable.ite | apply And.intro | intro _ | (simp only [Stable, StableL, i64S, prS, insS, sndsS, sndS, kS, kaS, ftS, ftsS]; done)))
    · (repeat' (first | exact trivial | exact rfl | assumption | apply Stable.ite | apply And.intro | intro _ | (simp only [Stable, StableL, i64S, prS, insS, sndsS, sndS, kS, kaS, ftS, ftsS]; done)))
  · cases hs
def cSrt : FuncId → Option Spec := look2 [(87, sLessI)]
theorem cSrt_ok : ∀ f S, cSrt f = some S → CallOk Try.prog f S := allOk_spec ⟨sLessI_ok, trivial⟩
theorem sorted_lit (xs : List Int) (p1 : Nat) (hl : xs.length ≤ 1000000) (hs : ∀ k, k + 1 < xs.length → xs.getD k 0 ≤ xs.getD (k + 1) 0) : LitOk Try.prog 46 [.sl 1 2 [] 1 0 xs.length (some p1)] [.gone, .gone, .ro (.arr xs.length 1 (i64S xs))] (.bool true) [.gone] := by
  refine litOkM (fn := Try.f46) 3 21 0 rfl rfl rfl rfl rfl (by simp only [StableL, Stable, hp]; simp [HB.born]) rfl fun w0 M E hro => ?_
  repeat' (first | with_reducible (first | apply J1 | apply J3 | apply J4 | apply J5 | apply J6 | apply J7 | apply J8 | apply J9 | apply J10 | apply J11 | apply J12 | apply J13 | apply J14 | apply J15 | apply J16 | apply J17 | apply J18 | apply J19 | apply J20 | refine J2 ?_) | ((with_reducible apply J21); (· rfl)) | ((with_reducible intro hif); first | (focus (cases hif; done)) | (simp only [JH] at hif; try (exfalso; omega)) | (try (exfalso; omega))) | ((first | ((with_reducible apply J22 cSrt_ok tab_ok); (· rfl)) | ((with_reducible apply J23 fol cSrt_ok tab_ok); (· rfl)) | with_reducible apply J24); (· (simp only [push_cast, ↓JP, Nat.reduceAdd, Nat.reduceEqDiff, Nat.reduceLT, Nat.reduceMul, Nat.reduceLeDiff, reduceCtorEq, reduceIte, ↓JK, ↓JF, inN, inR]; rfl)); (try kernel_rfl); (try (focus (first | exact True.intro | ((try simp only [JS, implies_true, forall_const, shaped, shapedL, kndOf, inN, inR]); (repeat' (first | assumption | exact True.intro | omega | apply And.intro)); done) | ((repeat' (first | assumption | exact True.intro | omega | apply And.intro)); done))))) | fail)
  refine WF.loopAt (fun (k : Int) => -1 ≤ k ∧ k < xs.length) (fun (k : Int) => [(0, .sl 1 2 [] 1 0 xs.length (some p1)), (3, .int .i64 k)]) (fun (k : Int) => [.gone, .gone, .ro (.arr xs.length 1 (i64S xs))]) (fun (k : Int) => (k + 1).toNat) ((xs.length : Int) - 1) (by omega) ?_ ?_ rfl ?_ ?_ rfl ?_
  · ((repeat' (first | exact trivial | apply And.intro)) <;> (first | rfl | (simp only [look, cond_true, cond_false]; done)))
  · (repeat' (first | exact trivial | exact .same _ | exact .dead _ | exact .gone rfl | exact .loose | assumption | exact .arr (by assumption) | apply And.intro))
  · (repeat' (first | exact trivial | exact rfl | assumption | apply Stable.ite | apply And.intro | intro _ | (simp only [Stable, StableL, i64S, prS, insS, sndsS, sndS, kS, kaS, ftS, ftsS]; done)))
  · (repeat' (first | exact trivial | exact rfl | assumption | apply Stable.ite | apply And.intro | intro _ | (simp only [Stable, StableL, i64S, prS, insS, sndsS, sndS, kS, kaS, ftS, ftsS]; done)))
  intro k hk
  by_cases hk0 : 0 < k
  · have h1 := hs (k.toNat - 1) (by omega)
    have h2 : ¬ (xs.getD k.toNat 0 < xs.getD (k - 1).toNat 0) := by
      rw [show (k - 1).toNat = k.toNat - 1 by omega]
      rw [show k.toNat - 1 + 1 = k.toNat by omega] at h1
      omega
    repeat' (first | with_reducible (first | apply J1 | apply J3 | apply J4 | apply J5 | apply J6 | apply J7 | apply J8 | apply J9 | apply J10 | apply J11 | apply J12 | apply J13 | apply J14 | apply J15 | apply J16 | apply J17 | apply J18 | apply J19 | apply J20 | refine J2 ?_) | ((with_reducible apply J21); (· rfl)) | ((with_reducible intro hif); first | (focus (cases hif; done)) | (simp only [JH] at hif; try (exfalso; omega)) | (try (exfalso; omega))) | ((first | ((with_reducible apply J22 cSrt_ok tab_ok); (· rfl)) | ((with_reducible apply J23 fol cSrt_ok tab_ok); (· rfl)) | with_reducible apply J24); (· (simp only [push_cast, ↓JP, Nat.reduceAdd, Nat.reduceEqDiff, Nat.reduceLT, Nat.reduceMul, Nat.reduceLeDiff, reduceCtorEq, reduceIte, ↓JK, ↓JF, cSrt, sLessI, i64S, iOf, isI_int, isI_nat, hk0, h2, inN, inR, Nat.zero_add]; rfl)); (try kernel_rfl); (try (focus (first | exact True.intro | ((try simp only [JS, implies_true, forall_const, shaped, shapedL, kndOf, cSrt, sLessI, i64S, iOf, isI_int, isI_nat, hk0, h2, inN, inR, Nat.zero_add]); (repeat' (first | assumption | exact True.intro | omega | apply And.intro)); done) | ((repeat' (first | assumption | exact True.intro | omega | apply And.intro)); done))))) | fail)
    refine At.next (k - 1) ?_ ?_ ?_ rfl ?_ ?_ rfl
    · omega
    · ((repeat' (first | exact trivial | apply And.intro)) <;> (first | rfl | (simp only [look, cond_true, cond_false]; done)))
    · (repeat' (first | exact trivial | exact .same _ | exact .dead _ | exact .gone rfl | exact .loose | assumption | exact .arr (by assumption) | apply And.intro))
    · (repeat' (first | exact trivial | exact rfl | assumption | apply Stable.ite | apply And.intro | intro _ | (simp only [Stable, StableL, i64S, prS, insS, sndsS, sndS, kS, kaS, ftS, ftsS]; done)))
    · (repeat' (first | exact trivial | exact rfl | assumption | apply Stable.ite | apply And.intro | intro _ | (simp only [Stable, StableL, i64S, prS, insS, sndsS, sndS, kS, kaS, ftS, ftsS]; done)))
  · repeat' (first | with_reducible (first | apply J1 | apply J3 | apply J4 | apply J5 | apply J6 | apply J7 | apply J8 | apply J9 | apply J10 | apply J11 | apply J12 | apply J13 | apply J14 | apply J15 | apply J16 | apply J17 | apply J18 | apply J19 | apply J20 | refine J2 ?_) | ((with_reducible apply J21); (· rfl)) | ((with_reducible intro hif); first | (focus (cases hif; done)) | (simp only [JH] at hif; try (exfalso; omega)) | (try (exfalso; omega))) | ((first | ((with_reducible apply J22 cSrt_ok tab_ok); (· rfl)) | ((with_reducible apply J23 fol cSrt_ok tab_ok); (· rfl)) | with_reducible apply J24); (· (simp only [push_cast, ↓JP, Nat.reduceAdd, Nat.reduceEqDiff, Nat.reduceLT, Nat.reduceMul, Nat.reduceLeDiff, reduceCtorEq, reduceIte, ↓JK, ↓JF, hk0, inN, inR]; rfl)); (try kernel_rfl); (try (focus (first | exact True.intro | ((try simp only [JS, implies_true, forall_const, shaped, shapedL, kndOf, hk0, inN, inR]); (repeat' (first | assumption | exact True.intro | omega | apply And.intro)); done) | ((repeat' (first | assumption | exact True.intro | omega | apply And.intro)); done))))) | fail)
    apply At.endsRet tab_ok (fn := Try.f46) (rs := [.tmp 2]) Anc.refl hro (Nat.le_of_ble_eq_true rfl) rfl
    · simp only [push_cast, ↓JP, Nat.reduceAdd, Nat.reduceEqDiff, Nat.reduceLT, Nat.reduceMul, Nat.reduceLeDiff, reduceCtorEq, reduceIte, ↓JK, ↓JF, resV, resV1]; rfl
    · (first | trivial | (simp only [and_self]; done))
    · (repeat' (first | exact trivial | exact .same _ | exact .dead _ | exact .gone rfl | exact .loose | assumption | exact .arr (by assumption) | apply And.intro))
    · rfl
    · (repeat' (first | exact trivial | exact rfl | assumption | apply Stable.ite | apply And.intro | intro _ | (simp only [Stable, StableL, i64S, prS, insS, sndsS, sndS, kS, kaS, ftS, ftsS]; done)))
    · (repeat' (first | exact trivial | exact .inl rfl | exact .inr rfl | exact rfl | apply And.intro))
    · exact fun β => rfl
    · (repeat' (first | exact trivial | exact rfl | assumption | apply Stable.ite | apply And.intro | intro _ | (simp only [Stable, StableL, i64S, prS, insS, sndsS, sndS, kS, kaS, ftS, ftsS]; done)))
def sSorted : Spec := fun args h m => match args with
  | [v1] => match srcV h 1 (.tup []) v1 with
    | some (c1, n1, f1, r1) => some (c1 ∧ (∀ q, q < n1 → isI .i64 (f1 q) = true) ∧ (n1 ≤ 1000000) ∧ ((∀ k, k + 1 < (ls iOf n1 f1).length → (ls iOf n1 f1).getD k 0 ≤ (ls iOf n1 f1).getD (k + 1) 0)), .bool true, r1, [])
    | _ => none
  | _ => none
theorem sSorted_ok : CallOk Try.prog 46 sSorted := by
  refine ⟨named_spec (by kernel_rfl), fun args h m c v rd wr hs hm hc w0 M β h' w R hrd hwr hst => ?_⟩
  unfold sSorted at hs
  split at hs
  · rename_i v1
    split at hs
    · rename_i c1 n1 f1 r1 a1
      simp only [Option.some.injEq, Prod.mk.injEq] at hs
      obtain ⟨rfl, rfl, rfl, rfl⟩ := hs
      obtain ⟨k1, g1, y1, y2⟩ := hc
      obtain ⟨A1, p1, d1, e1, t1⟩ := reads_src R a1 k1 (fun i hi => hrd i hi) (by omega)
      refine callRo (views := [⟨1, (ls iOf n1 f1).length, i64S (ls iOf n1 f1), A1, p1⟩]) (sorted_lit (ls iOf n1 f1) p1 (by rw [ls_length]; exact y1) y2) ?_ R hm hwr ?_ ?_ ?_
      · intro x hx
        simp only [List.mem_cons, List.not_mem_nil, or_false] at hx
        subst hx
        · exact viewI64 t1 e1 g1
      · intro β1 hv
        simp only [Vd, ls_length, and_true] at hv
        have z1 := hv
        simp only [denL, aggDen, intDen, natDen, boolDen, ls_length, z1, d1]
      · (repeat' (first | exact trivial | exact rfl | assumption | apply Stable.ite | apply And.intro | intro _ | (simp only [Stable, StableL, i64S, prS, insS, sndsS, sndS, kS, kaS, ftS, ftsS]; done)))
      · (repeat' (first | exact trivial | exact rfl | assumption | apply Stable.ite | apply And.intro | intro _ | (simp only [Stable, StableL, i64S, prS, insS, sndsS, sndS, kS, kaS, ftS, ftsS]; done)))
    · cases hs
  · cases hs
end Go.Proofs.Ytmljmabbopkpiaa.Vm
end

section
/- check.Doomed with what it makes, be it nothing or not. -/
namespace Go.Proofs.Ytmljmabbopkpiaa.Vm
open Go.RowKit
attribute [local push_cast] runR opG gtmp gval gus opX tmpsOf tm tmO tmP restr look look2 tab tys zs ets eqB eqBL allB numOf ieq Int.cast_ofNat_Int Int.ofNat_zero beq_true beq_false frameOf ev evL ofV opV loadV noW pushF wrsL setH allBorn allGone HB.born HB.isGone HB.val SV.plain dstOk hp nav fitsT SV.size sizeL SV.isAgg TK.size TK.agg bin binE binN binI arN arI cmpN cmpI keq kn narrow callV storeV setp fillV buildV buildSliceV makeV sliceV appendV copyV List.isEmpty_nil srcV evO asN ite_t ite_f ite_bool ite_int ite_nat maxV v_beq v_ble v_blt cond_true cond_false List.getElem?_cons_zero List.getElem?_cons_succ List.getD_cons_zero List.getD_cons_succ List.getD_nil List.length_cons List.length_nil List.take_succ_cons List.take_zero List.set_cons_zero List.set_cons_succ List.cons_append List.nil_append List.append_assoc List.replicate_succ List.replicate_zero Nat.zero_add Nat.add_zero decide_true decide_false Bool.true_and Bool.and_true Bool.false_and Bool.and_false Bool.true_or Bool.or_true Bool.false_or Bool.or_false beq_self_eq_true Bool.or_self Nat.lt_irrefl Nat.not_lt_zero Nat.le_refl Option.getD_some Option.getD_none BEq.rfl Bool.not_true Bool.not_false Bool.cond_true_left Bool.cond_false_right prS sndsS i64S nav_ins nav_ins0 nav_ins1 nav_ins2 nav_ins3 nav_ins4 nav_snd nav_snd0 nav_snd1 nav_snd2 isIns_insS insOf_insS isSnd_sndS sndOf_sndS isI_int isI_nat iOf nav_k nav_k0 nav_k1 nav_ka nav_kai nav_ft nav_ft0 nav_ft1 isKn_kS knOf_kS isKa_kaS kaOf_kaS isFt_ftS ftOf_ftS setp_ka setp_ftk setp_ftr setp_fti evm_ins evm_snd evm_k evm_ka evm_ft
set_option linter.unusedVariables false
set_option linter.unusedSimpArgs false
set_option maxRecDepth 100000
set_option maxHeartbeats 4000000
theorem Doomed_litU (xs : List Ins) (p1 : Nat) (c p l : Int) (hx : ∀ x ∈ xs, x.ok) (hc : (checkI xs).2 = 0) (hl : limB c p l = true) : LitOk Try.prog 34 [.sl 1 2 [] 5 0 xs.length (some p1), .agg [.int .i64 c, .int .i64 p, .int .i64 l]] [.gone, .gone, .ro (.arr xs.length 5 (prS xs))]
    (.tup [.sl 3 3 [] 1 0 (doomK xs (factsS xs) c p l xs.length).length none, .int .i64 0]) [.gone, .gone, .gone, .own 3 (.arr (doomK xs (factsS xs) c p l xs.length).length 1 (i64S (doomK xs (factsS xs) c p l xs.length))) false] := by
  refine litOkM (fn := Try.f34) 3 25 0 rfl rfl rfl rfl rfl (by simp only [StableL, Stable, hp]; simp [HB.born]) rfl fun w0 M E hro => ?_
  have hl6 : xs.length ≤ 256 := (right_last' hc).2.1
  have hfit : fitE xs c p l = 0 := by unfold fitE; rw [if_pos hc, if_pos hl]
  obtain ⟨F, hF⟩ : ∃ F, F = factsS xs := ⟨_, rfl⟩
  rw [← hF]
  repeat' (first | with_reducible (first | apply J1 | apply J3 | apply J4 | apply J5 | apply J6 | apply J7 | apply J8 | apply J9 | apply J10 | apply J11 | apply J12 | apply J13 | apply J14 | apply J15 | apply J16 | apply J17 | apply J18 | apply J19 | apply J20 | refine J2 ?_) | ((with_reducible apply J21); (· rfl)) | ((with_reducible intro hif); first | (focus (cases hif; done)) | (simp only [JH] at hif; try (exfalso; omega)) | (try (exfalso; omega))) | ((first | ((with_reducible apply J22 cWys_ok tab_ok); (· rfl)) | ((with_reducible apply J23 fol cWys_ok tab_ok); (· rfl)) | with_reducible apply J24); (· (simp only [push_cast, ↓JP, Nat.reduceAdd, Nat.reduceEqDiff, Nat.reduceLT, Nat.reduceMul, Nat.reduceLeDiff, reduceCtorEq, reduceIte, ↓JK, ↓JF, cWys, sFits, sWhys, ls_prS, ls_prS', ls_prS2, hfit]; rfl)); (try kernel_rfl); (try (focus (first | exact True.intro | ((try simp only [JS, implies_true, forall_const, shaped, shapedL, kndOf, cWys, sFits, sWhys, ls_prS, ls_prS', ls_prS2, hfit]); (first | exact ⟨fun q _ => rfl, hx, by omega⟩ | (repeat' (first | assumption | exact True.intro | omega | apply And.intro))); done) | ((first | exact ⟨fun q _ => rfl, hx, by omega⟩ | (repeat' (first | assumption | exact True.intro | omega | apply And.intro))); done))))) | fail)
  with_reducible apply WF.range (fn' := Try.f117) 32
  · simp only [push_cast, ↓JP, Nat.reduceAdd, Nat.reduceEqDiff, Nat.reduceLT, Nat.reduceMul, Nat.reduceLeDiff, reduceCtorEq, reduceIte, ↓JK, ↓JF]; rfl
  · (focus (first | exact True.intro | ((try simp only [JS, implies_true, forall_const, shaped, shapedL, kndOf]); (repeat' (first | assumption | exact True.intro | omega | apply And.intro)); done) | ((repeat' (first | assumption | exact True.intro | omega | apply And.intro)); done)))
  · rfl
  · rfl
  · rfl
  · rfl
  · rfl
  · rfl
  · rfl
  intro E1 rec tmps after hE1 hrec hcf haft
  repeat' (first | with_reducible (first | apply J1 | apply J3 | apply J4 | apply J5 | apply J6 | apply J7 | apply J8 | apply J9 | apply J10 | apply J11 | apply J12 | apply J13 | apply J14 | apply J15 | apply J16 | apply J17 | apply J18 | apply J19 | apply J20 | refine J2 ?_) | ((with_reducible apply J21); (· rfl)) | ((with_reducible intro hif); first | (focus (cases hif; done)) | (simp only [JH] at hif; try (exfalso; omega)) | (try (exfalso; omega))) | ((first | ((with_reducible apply J22 cWys_ok tab_ok); (· rfl)) | ((with_reducible apply J23 fol cWys_ok tab_ok); (· rfl)) | with_reducible apply J24); (· (simp only [push_cast, ↓JP, Nat.reduceAdd, Nat.reduceEqDiff, Nat.reduceLT, Nat.reduceMul, Nat.reduceLeDiff, reduceCtorEq, reduceIte, ↓JK, ↓JF, cWys, sFactsI, ls_prS, ls_prS', ls_prS2, hc, ← hF]; rfl)); (try kernel_rfl); (try (focus (first | exact True.intro | ((try simp only [JS, implies_true, forall_const, shaped, shapedL, kndOf, cWys, sFactsI, ls_prS, ls_prS', ls_prS2, hc, ← hF]); (repeat' (first | assumption | exact True.intro | omega | apply And.intro)); done) | ((repeat' (first | assumption | exact True.intro | omega | apply And.intro)); done))))) | fail)
  refine WF.empty 3 1 (i64S []) (fun _ q => i64S_stable q) ?_
  refine WF.loopAt (fun k => k ≤ xs.length) (fun k => [(0, .yl 8), (1, .ptr 6 []), (2, .ptr 5 []), (8, .sl 9 9 [] 17 0 xs.length none), (9, .nat .i64 xs.length), (10, .nat .i64 k)]) (fun k => [.gone, .gone, .ro (.arr xs.length 5 (prS xs)), .gone, .own 79 (nilOr (doomK xs F c p l k) 10) true, .own 31 (.agg [.int .i64 c, .int .i64 p, .int .i64 l]) true, .own 25 (.sl 1 2 [] 5 0 xs.length (some p1)) true, .raw (.deferred (some [])), .raw (.loop (rec .ready none)), .own 44 (.arr xs.length 17 (ftsS F)) false, .own 3 (.arr (doomK xs F c p l k).length 1 (i64S (doomK xs F c p l k))) false]) (fun k => xs.length - k) 0 (Nat.zero_le _) ?_ ?_ rfl ?_ ?_ rfl ?_
  · ((repeat' (first | exact trivial | apply And.intro)) <;> (first | rfl | (simp only [look, cond_true, cond_false]; done)))
  · (repeat' (first | exact trivial | exact .same _ | exact .dead _ | exact .gone rfl | exact .loose | assumption | exact .arr (by assumption) | apply And.intro))
  · (repeat' (first | exact trivial | exact rfl | assumption | apply Stable.ite | exact nilOr_st rfl rfl | apply And.intro | intro _ | (simp only [Stable, StableL, i64S, prS, insS, sndsS, sndS, kS, kaS, ftS, ftsS]; done)))
  · (repeat' (first | exact trivial | exact rfl | assumption | apply Stable.ite | exact nilOr_st rfl rfl | apply And.intro | intro _ | (simp only [Stable, StableL, i64S, prS, insS, sndsS, sndS, kS, kaS, ftS, ftsS]; done)))
  · intro k hk
    obtain ⟨Dk, hD⟩ : ∃ Dk, doomK xs F c p l k = Dk := ⟨_, rfl⟩
    rw [hD]
    have hDl : Dk.length ≤ 256 := by have := doom_len xs F c p l k; rw [hD] at this; omega
    by_cases hkl : k < xs.length
    · obtain ⟨x, hX⟩ : ∃ x, xs.getD k ⟨0, 0, 0, 0, 0⟩ = x := ⟨_, rfl⟩
      have hR := right_at hx hc hkl
      rw [hX] at hR
      have hok := hR.ok
      have ha8 := hR.a
      have hb8 := hR.b
      have hc8 := hR.c
      by_cases he : whyE c p l x (getF F k) = 0
      · have e : doomK xs F c p l (k + 1) = Dk := by unfold doomK; rw [hD, hX, if_neg (fun h => h he), List.append_nil]
        repeat' (first | with_reducible (first | apply J1 | apply J3 | apply J4 | apply J5 | apply J6 | apply J7 | apply J8 | apply J9 | apply J10 | apply J11 | apply J12 | apply J13 | apply J14 | apply J15 | apply J16 | apply J17 | apply J18 | apply J19 | apply J20 | refine J2 ?_) | ((with_reducible apply J21); (· rfl)) | ((with_reducible intro hif); first | (focus (cases hif; done)) | (simp only [JH] at hif; try (exfalso; omega)) | (try (exfalso; omega))) | ((first | ((with_reducible apply J22 cWys_ok tab_ok); (· rfl)) | ((with_reducible apply J23 fol cWys_ok tab_ok); (· rfl)) | with_reducible apply J24); (· (simp only [push_cast, ↓JP, Nat.reduceAdd, Nat.reduceEqDiff, Nat.reduceLT, Nat.reduceMul, Nat.reduceLeDiff, reduceCtorEq, reduceIte, ↓JK, ↓JF, cWys, sWhyL, ftsS, hX, inN, hkl, he]; rfl)); (try kernel_rfl); (try (focus (first | exact True.intro | ((try simp only [JS, implies_true, forall_const, shaped, shapedL, kndOf, cWys, sWhyL, ftsS, hX, inN, hkl, he]); (repeat' (first | assumption | exact True.intro | omega | apply And.intro)); done) | ((repeat' (first | assumption | exact True.intro | omega | apply And.intro)); done))))) | fail)
        have e4 : Less (.own 79 (nilOr Dk 10) true) (.own 79 (nilOr (doomK xs F c p l (k + 1)) 10) true) := by rw [e]; exact .same _
        have e5 : Less (.own 3 (.arr Dk.length 1 (i64S Dk)) false) (.own 3 (.arr (doomK xs F c p l (k + 1)).length 1 (i64S (doomK xs F c p l (k + 1)))) false) := by rw [e]; exact .same _
        refine At.next (k + 1) ?_ ?_ ?_ rfl ?_ ?_ rfl
        · omega
        · ((repeat' (first | exact trivial | apply And.intro)) <;> (first | rfl | (simp only [look, cond_true, cond_false]; done)))
        · (repeat' (first | exact trivial | exact .same _ | exact .dead _ | exact .gone rfl | exact .loose | assumption | exact .arr (by assumption) | apply And.intro))
        · (repeat' (first | exact trivial | exact rfl | assumption | apply Stable.ite | exact nilOr_st rfl rfl | apply And.intro | intro _ | (simp only [Stable, StableL, i64S, prS, insS, sndsS, sndS, kS, kaS, ftS, ftsS]; done)))
        · (repeat' (first | exact trivial | exact rfl | assumption | apply Stable.ite | exact nilOr_st rfl rfl | apply And.intro | intro _ | (simp only [Stable, StableL, i64S, prS, insS, sndsS, sndS, kS, kaS, ftS, ftsS]; done)))
      · have e : doomK xs F c p l (k + 1) = Dk ++ [(k : Int)] := by unfold doomK; rw [hD, hX, if_pos he]
        have ht : whyE c p l x (getF F k) = 0 ↔ False := ⟨he, False.elim⟩
        cases hDe : Dk.isEmpty
        · rw [nilOr_f hDe]
          repeat' (first | with_reducible (first | apply J1 | apply J3 | apply J4 | apply J5 | apply J6 | apply J7 | apply J8 | apply J9 | apply J10 | apply J11 | apply J12 | apply J13 | apply J14 | apply J15 | apply J16 | apply J17 | apply J18 | apply J19 | apply J20 | refine J2 ?_) | ((with_reducible apply J21); (· rfl)) | ((with_reducible intro hif); first | (focus (cases hif; done)) | (simp only [JH] at hif; try (exfalso; omega)) | (try (exfalso; omega))) | ((first | ((with_reducible apply J22 cWys_ok tab_ok); (· rfl)) | ((with_reducible apply J23 fol cWys_ok tab_ok); (· rfl)) | with_reducible apply J24); (· (simp only [push_cast, ↓JP, Nat.reduceAdd, Nat.reduceEqDiff, Nat.reduceLT, Nat.reduceMul, Nat.reduceLeDiff, reduceCtorEq, reduceIte, ↓JK, ↓JF, cWys, sWhyL, ftsS, hX, inN, hkl, he]; rfl)); (try kernel_rfl); (try (focus (first | exact True.intro | ((try simp only [JS, implies_true, forall_const, shaped, shapedL, kndOf, cWys, sWhyL, ftsS, hX, inN, hkl, he]); (repeat' (first | assumption | exact True.intro | omega | apply And.intro)); done) | ((repeat' (first | assumption | exact True.intro | omega | apply And.intro)); done))))) | fail)
          with_reducible apply WF.split 6 2
          · rfl
          with_reducible apply At.run cWys_ok tab_ok
          · rfl
          · rfl
          · rfl
          · simp only [push_cast, ↓JP, Nat.reduceAdd, Nat.reduceEqDiff, Nat.reduceLT, Nat.reduceMul, Nat.reduceLeDiff, reduceCtorEq, reduceIte, ↓JK, ↓JF, noDefer, List.drop_zero, List.drop_succ_cons, cWys, inN, he]; rfl
          · (focus (first | exact True.intro | ((try simp only [JS, implies_true, forall_const, shaped, shapedL, kndOf, cWys, inN, he]); (repeat' (first | assumption | exact True.intro | omega | apply And.intro)); done) | ((repeat' (first | assumption | exact True.intro | omega | apply And.intro)); done)))
          with_reducible apply At.yield (gr := _)
          · rfl
          · rfl
          · rfl
          · rfl
          · rfl
          · rfl
          · simp only [push_cast, ↓JP, Nat.reduceAdd, Nat.reduceEqDiff, Nat.reduceLT, Nat.reduceMul, Nat.reduceLeDiff, reduceCtorEq, reduceIte, ↓JK, ↓JF, noDefer, List.drop_zero, List.drop_succ_cons, cWys, inN, he]; rfl
          · first | rfl | (simp only [push_cast, ↓JP, Nat.reduceAdd, Nat.reduceEqDiff, Nat.reduceLT, Nat.reduceMul, Nat.reduceLeDiff, reduceCtorEq, reduceIte, ↓JK, ↓JF, noDefer, List.drop_zero, List.drop_succ_cons, cWys, inN, he]; done)
          · simp only [push_cast, ↓JP, Nat.reduceAdd, Nat.reduceEqDiff, Nat.reduceLT, Nat.reduceMul, Nat.reduceLeDiff, reduceCtorEq, reduceIte, ↓JK, ↓JF, noDefer, List.drop_zero, List.drop_succ_cons, cWys, inN, he]; rfl
          · (focus (first | exact True.intro | ((try simp only [JS, implies_true, forall_const, shaped, shapedL, kndOf, cWys, inN, he]); (repeat' (first | assumption | exact True.intro | omega | apply And.intro)); done) | ((repeat' (first | assumption | exact True.intro | omega | apply And.intro)); done)))
          · simp only [push_cast, ↓JP, Nat.reduceAdd, Nat.reduceEqDiff, Nat.reduceLT, Nat.reduceMul, Nat.reduceLeDiff, reduceCtorEq, reduceIte, ↓JK, ↓JF, noDefer, List.drop_zero, List.drop_succ_cons, cWys, inN, he]; rfl
          · (focus (first | exact True.intro | ((try simp only [JS, implies_true, forall_const, shaped, shapedL, kndOf, cWys, inN, he]); (repeat' (first | assumption | exact True.intro | omega | apply And.intro)); done) | ((repeat' (first | assumption | exact True.intro | omega | apply And.intro)); done)))
          · first | rfl | (simp only [push_cast, ↓JP, Nat.reduceAdd, Nat.reduceEqDiff, Nat.reduceLT, Nat.reduceMul, Nat.reduceLeDiff, reduceCtorEq, reduceIte, ↓JK, ↓JF, noDefer, List.drop_zero, List.drop_succ_cons, cWys, inN, he]; done)
          · exact hrec
          · exact hcf
          · rfl
          · rfl
          · rfl
          intro lb E2 next hE2 hnext
          repeat' (first | with_reducible (first | apply J1 | apply J3 | apply J4 | apply J5 | apply J6 | apply J7 | apply J8 | apply J9 | apply J10 | apply J11 | apply J12 | apply J13 | apply J14 | apply J15 | apply J16 | apply J17 | apply J18 | apply J19 | apply J20 | refine J2 ?_) | ((with_reducible apply J21); (· rfl)) | ((with_reducible intro hif); first | (focus (cases hif; done)) | (simp only [JH] at hif; try (exfalso; omega)) | (try (exfalso; omega))) | ((first | ((with_reducible apply J22 cWys_ok tab_ok); (· rfl)) | ((with_reducible apply J23 fol cWys_ok tab_ok); (· rfl)) | with_reducible apply J24); (· (simp only [push_cast, ↓JP, Nat.reduceAdd, Nat.reduceEqDiff, Nat.reduceLT, Nat.reduceMul, Nat.reduceLeDiff, reduceCtorEq, reduceIte, ↓JK, ↓JF, cWys, inN, he]; rfl)); (try kernel_rfl); (try (focus (first | exact True.intro | ((try simp only [JS, implies_true, forall_const, shaped, shapedL, kndOf, cWys, inN, he]); (repeat' (first | assumption | exact True.intro | omega | apply And.intro)); done) | ((repeat' (first | assumption | exact True.intro | omega | apply And.intro)); done))))) | fail)
          with_reducible apply At.begins hrec
          · rfl
          with_reducible refine At.code ?_
          repeat' (first | with_reducible (first | apply J1 | apply J3 | apply J4 | apply J5 | apply J6 | apply J7 | apply J8 | apply J9 | apply J10 | apply J11 | apply J12 | apply J13 | apply J14 | apply J15 | apply J16 | apply J17 | apply J18 | apply J19 | apply J20 | refine J2 ?_) | ((with_reducible apply J21); (· rfl)) | ((with_reducible intro hif); first | (focus (cases hif; done)) | (simp only [JH] at hif; try (exfalso; omega)) | (try (exfalso; omega))) | ((first | ((with_reducible apply J22 cWys_ok tab_ok); (· rfl)) | ((with_reducible apply J23 fol cWys_ok tab_ok); (· rfl)) | with_reducible apply J24); (· (simp only [push_cast, ↓JP, Nat.reduceAdd, Nat.reduceEqDiff, Nat.reduceLT, Nat.reduceMul, Nat.reduceLeDiff, reduceCtorEq, reduceIte, ↓JK, ↓JF, cWys, inN, he, Nat.sub_zero]; rfl)); (try kernel_rfl); (try (focus (first | exact True.intro | ((try simp only [JS, implies_true, forall_const, shaped, shapedL, kndOf, cWys, inN, he, Nat.sub_zero]); (repeat' (first | assumption | exact True.intro | omega | apply And.intro)); done) | ((repeat' (first | assumption | exact True.intro | omega | apply And.intro)); done))))) | fail)
          with_reducible apply At.roundNormal
          · first | rfl | (simp only [push_cast, ↓JP, Nat.reduceAdd, Nat.reduceEqDiff, Nat.reduceLT, Nat.reduceMul, Nat.reduceLeDiff, reduceCtorEq, reduceIte, ↓JK, ↓JF, noDefer, List.drop_zero, List.drop_succ_cons, cWys, inN, he]; done)
          apply hnext
          with_reducible apply At.runEnd cWys_ok tab_ok
          · rfl
          · rfl
          · rfl
          · simp only [push_cast, ↓JP, Nat.reduceAdd, Nat.reduceEqDiff, Nat.reduceLT, Nat.reduceMul, Nat.reduceLeDiff, reduceCtorEq, reduceIte, ↓JK, ↓JF, noDefer, List.drop_zero, List.drop_succ_cons, cWys, inN, he]; rfl
          · (focus (first | exact True.intro | ((try simp only [JS, implies_true, forall_const, shaped, shapedL, kndOf, cWys, inN, he]); (repeat' (first | assumption | exact True.intro | omega | apply And.intro)); done) | ((repeat' (first | assumption | exact True.intro | omega | apply And.intro)); done)))
          repeat' (first | with_reducible (first | apply J1 | apply J3 | apply J4 | apply J5 | apply J6 | apply J7 | apply J8 | apply J9 | apply J10 | apply J11 | apply J12 | apply J13 | apply J14 | apply J15 | apply J16 | apply J17 | apply J18 | apply J19 | apply J20 | refine J2 ?_) | ((with_reducible apply J21); (· rfl)) | ((with_reducible intro hif); first | (focus (cases hif; done)) | (simp only [JH] at hif; try (exfalso; omega)) | (try (exfalso; omega))) | ((first | ((with_reducible apply J22 cWys_ok tab_ok); (· rfl)) | ((with_reducible apply J23 fol cWys_ok tab_ok); (· rfl)) | with_reducible apply J24); (· (simp only [push_cast, ↓JP, Nat.reduceAdd, Nat.reduceEqDiff, Nat.reduceLT, Nat.reduceMul, Nat.reduceLeDiff, reduceCtorEq, reduceIte, ↓JK, ↓JF, cWys, inN, he]; rfl)); (try kernel_rfl); (try (focus (first | exact True.intro | ((try simp only [JS, implies_true, forall_const, shaped, shapedL, kndOf, cWys, inN, he]); (repeat' (first | assumption | exact True.intro | omega | apply And.intro)); done) | ((repeat' (first | assumption | exact True.intro | omega | apply And.intro)); done))))) | fail)
          have hA1 : ∀ g : Nat → SV, (∀ q, q < Dk.length + 1 → g q = SV.ite (decide (q < Dk.length)) (.int .i64 (Dk.getD q 0)) ([SV.nat .i64 k].getD (q - Dk.length) (.nat .i64 0))) → ∀ σ, Less (.own 3 (.arr (Dk.length + 1) 1 g) false) ((HB.own 3 (.arr (Dk ++ [(k : Int)]).length 1 (i64S (Dk ++ [(k : Int)]))) false).ren σ) := fun g hg σ => less_app Dk k fun q hq β => by
            rw [hg q hq, ite_eq]
            by_cases h : q < Dk.length
            · simp only [h, decide_true, cond_true, List.getD_eq_getElem?_getD, List.getElem?_append_left h]; rfl
            · obtain rfl : q = Dk.length := by omega
              simp only [Nat.lt_irrefl, decide_false, cond_false, Nat.sub_self, List.getD_eq_getElem?_getD, List.getElem?_append_right (Nat.le_refl _), List.getElem?_cons_zero, Option.getD_some]; rfl
          refine At.nextPick [0, 1, 2, 3, 4, 5, 6, 7, 8, 9, 13] (k + 1) ?_ rfl rfl rfl ?_ rfl ?_ ?_ ?_ rfl
          · omega
          · (repeat' (first | exact trivial | exact .inl rfl | exact .inr (.same _) | exact .inr .loose | exact .inr (.arr (by assumption)) | apply And.intro | (rw [e]; exact .inr (hA1 _ (fun q _ => rfl) _)) | (rw [e]; refine .inr (less_nil ?_ ?_ ?_) <;> first | rfl | simp)))
          · (repeat' (first | exact trivial | exact rfl | assumption | apply Stable.ite | exact nilOr_st rfl rfl | apply And.intro | intro _ | (simp only [Stable, StableL, i64S, prS, insS, sndsS, sndS, kS, kaS, ftS, ftsS]; done)))
          · (repeat' (first | exact trivial | exact ⟨_, rfl, fun β => rfl⟩ | apply And.intro))
          · (repeat' (first | exact trivial | exact rfl | assumption | apply Stable.ite | exact nilOr_st rfl rfl | apply And.intro | intro _ | (simp only [Stable, StableL, i64S, prS, insS, sndsS, sndS, kS, kaS, ftS, ftsS]; done)))
        · rw [nilOr_t hDe]
          have hDz : Dk = [] := by simpa using hDe
          subst hDz
          repeat' (first | with_reducible (first | apply J1 | apply J3 | apply J4 | apply J5 | apply J6 | apply J7 | apply J8 | apply J9 | apply J10 | apply J11 | apply J12 | apply J13 | apply J14 | apply J15 | apply J16 | apply J17 | apply J18 | apply J19 | apply J20 | refine J2 ?_) | ((with_reducible apply J21); (· rfl)) | ((with_reducible intro hif); first | (focus (cases hif; done)) | (simp only [JH] at hif; try (exfalso; omega)) | (try (exfalso; omega))) | ((first | ((with_reducible apply J22 cWys_ok tab_ok); (· rfl)) | ((with_reducible apply J23 fol cWys_ok tab_ok); (· rfl)) | with_reducible apply J24); (· (simp only [push_cast, ↓JP, Nat.reduceAdd, Nat.reduceEqDiff, Nat.reduceLT, Nat.reduceMul, Nat.reduceLeDiff, reduceCtorEq, reduceIte, ↓JK, ↓JF, cWys, sWhyL, ftsS, hX, inN, hkl, he]; rfl)); (try kernel_rfl); (try (focus (first | exact True.intro | ((try simp only [JS, implies_true, forall_const, shaped, shapedL, kndOf, cWys, sWhyL, ftsS, hX, inN, hkl, he]); (repeat' (first | assumption | exact True.intro | omega | apply And.intro)); done) | ((repeat' (first | assumption | exact True.intro | omega | apply And.intro)); done))))) | fail)
          with_reducible apply WF.split 6 2
          · rfl
          with_reducible apply At.run cWys_ok tab_ok
          · rfl
          · rfl
          · rfl
          · simp only [push_cast, ↓JP, Nat.reduceAdd, Nat.reduceEqDiff, Nat.reduceLT, Nat.reduceMul, Nat.reduceLeDiff, reduceCtorEq, reduceIte, ↓JK, ↓JF, noDefer, List.drop_zero, List.drop_succ_cons, cWys, inN, he]; rfl
          · (focus (first | exact True.intro | ((try simp only [JS, implies_true, forall_const, shaped, shapedL, kndOf, cWys, inN, he]); (repeat' (first | assumption | exact True.intro | omega | apply And.intro)); done) | ((repeat' (first | assumption | exact True.intro | omega | apply And.intro)); done)))
          with_reducible apply At.yield (gr := _)
          · rfl
          · rfl
          · rfl
          · rfl
          · rfl
          · rfl
          · simp only [push_cast, ↓JP, Nat.reduceAdd, Nat.reduceEqDiff, Nat.reduceLT, Nat.reduceMul, Nat.reduceLeDiff, reduceCtorEq, reduceIte, ↓JK, ↓JF, noDefer, List.drop_zero, List.drop_succ_cons, cWys, inN, he]; rfl
          · first | rfl | (simp only [push_cast, ↓JP, Nat.reduceAdd, Nat.reduceEqDiff, Nat.reduceLT, Nat.reduceMul, Nat.reduceLeDiff, reduceCtorEq, reduceIte, ↓JK, ↓JF, noDefer, List.drop_zero, List.drop_succ_cons, cWys, inN, he]; done)
          · simp only [push_cast, ↓JP, Nat.reduceAdd, Nat.reduceEqDiff, Nat.reduceLT, Nat.reduceMul, Nat.reduceLeDiff, reduceCtorEq, reduceIte, ↓JK, ↓JF, noDefer, List.drop_zero, List.drop_succ_cons, cWys, inN, he]; rfl
          · (focus (first | exact True.intro | ((try simp only [JS, implies_true, forall_const, shaped, shapedL, kndOf, cWys, inN, he]); (repeat' (first | assumption | exact True.intro | omega | apply And.intro)); done) | ((repeat' (first | assumption | exact True.intro | omega | apply And.intro)); done)))
          · simp only [push_cast, ↓JP, Nat.reduceAdd, Nat.reduceEqDiff, Nat.reduceLT, Nat.reduceMul, Nat.reduceLeDiff, reduceCtorEq, reduceIte, ↓JK, ↓JF, noDefer, List.drop_zero, List.drop_succ_cons, cWys, inN, he]; rfl
          · (focus (first | exact True.intro | ((try simp only [JS, implies_true, forall_const, shaped, shapedL, kndOf, cWys, inN, he]); (repeat' (first | assumption | exact True.intro | omega | apply And.intro)); done) | ((repeat' (first | assumption | exact True.intro | omega | apply And.intro)); done)))
          · first | rfl | (simp only [push_cast, ↓JP, Nat.reduceAdd, Nat.reduceEqDiff, Nat.reduceLT, Nat.reduceMul, Nat.reduceLeDiff, reduceCtorEq, reduceIte, ↓JK, ↓JF, noDefer, List.drop_zero, List.drop_succ_cons, cWys, inN, he]; done)
          · exact hrec
          · exact hcf
          · rfl
          · rfl
          · rfl
          intro lb E2 next hE2 hnext
          repeat' (first | with_reducible (first | apply J1 | apply J3 | apply J4 | apply J5 | apply J6 | apply J7 | apply J8 | apply J9 | apply J10 | apply J11 | apply J12 | apply J13 | apply J14 | apply J15 | apply J16 | apply J17 | apply J18 | apply J19 | apply J20 | refine J2 ?_) | ((with_reducible apply J21); (· rfl)) | ((with_reducible intro hif); first | (focus (cases hif; done)) | (simp only [JH] at hif; try (exfalso; omega)) | (try (exfalso; omega))) | ((first | ((with_reducible apply J22 cWys_ok tab_ok); (· rfl)) | ((with_reducible apply J23 fol cWys_ok tab_ok); (· rfl)) | with_reducible apply J24); (· (simp only [push_cast, ↓JP, Nat.reduceAdd, Nat.reduceEqDiff, Nat.reduceLT, Nat.reduceMul, Nat.reduceLeDiff, reduceCtorEq, reduceIte, ↓JK, ↓JF, cWys, inN, he]; rfl)); (try kernel_rfl); (try (focus (first | exact True.intro | ((try simp only [JS, implies_true, forall_const, shaped, shapedL, kndOf, cWys, inN, he]); (repeat' (first | assumption | exact True.intro | omega | apply And.intro)); done) | ((repeat' (first | assumption | exact True.intro | omega | apply And.intro)); done))))) | fail)
          with_reducible apply At.begins hrec
          · rfl
          with_reducible refine At.code ?_
          repeat' (first | with_reducible (first | apply J1 | apply J3 | apply J4 | apply J5 | apply J6 | apply J7 | apply J8 | apply J9 | apply J10 | apply J11 | apply J12 | apply J13 | apply J14 | apply J15 | apply J16 | apply J17 | apply J18 | apply J19 | apply J20 | refine J2 ?_) | ((with_reducible apply J21); (· rfl)) | ((with_reducible intro hif); first | (focus (cases hif; done)) | (simp only [JH] at hif; try (exfalso; omega)) | (try (exfalso; omega))) | ((first | ((with_reducible apply J22 cWys_ok tab_ok); (· rfl)) | ((with_reducible apply J23 fol cWys_ok tab_ok); (· rfl)) | with_reducible apply J24); (· (simp only [push_cast, ↓JP, Nat.reduceAdd, Nat.reduceEqDiff, Nat.reduceLT, Nat.reduceMul, Nat.reduceLeDiff, reduceCtorEq, reduceIte, ↓JK, ↓JF, cWys, inN, he, Nat.sub_zero]; rfl)); (try kernel_rfl); (try (focus (first | exact True.intro | ((try simp only [JS, implies_true, forall_const, shaped, shapedL, kndOf, cWys, inN, he, Nat.sub_zero]); (repeat' (first | assumption | exact True.intro | omega | apply And.intro)); done) | ((repeat' (first | assumption | exact True.intro | omega | apply And.intro)); done))))) | fail)
          with_reducible apply At.roundNormal
          · first | rfl | (simp only [push_cast, ↓JP, Nat.reduceAdd, Nat.reduceEqDiff, Nat.reduceLT, Nat.reduceMul, Nat.reduceLeDiff, reduceCtorEq, reduceIte, ↓JK, ↓JF, noDefer, List.drop_zero, List.drop_succ_cons, cWys, inN, he]; done)
          apply hnext
          with_reducible apply At.runEnd cWys_ok tab_ok
          · rfl
          · rfl
          · rfl
          · simp only [push_cast, ↓JP, Nat.reduceAdd, Nat.reduceEqDiff, Nat.reduceLT, Nat.reduceMul, Nat.reduceLeDiff, reduceCtorEq, reduceIte, ↓JK, ↓JF, noDefer, List.drop_zero, List.drop_succ_cons, cWys, inN, he]; rfl
          · (focus (first | exact True.intro | ((try simp only [JS, implies_true, forall_const, shaped, shapedL, kndOf, cWys, inN, he]); (repeat' (first | assumption | exact True.intro | omega | apply And.intro)); done) | ((repeat' (first | assumption | exact True.intro | omega | apply And.intro)); done)))
          repeat' (first | with_reducible (first | apply J1 | apply J3 | apply J4 | apply J5 | apply J6 | apply J7 | apply J8 | apply J9 | apply J10 | apply J11 | apply J12 | apply J13 | apply J14 | apply J15 | apply J16 | apply J17 | apply J18 | apply J19 | apply J20 | refine J2 ?_) | ((with_reducible apply J21); (· rfl)) | ((with_reducible intro hif); first | (focus (cases hif; done)) | (simp only [JH] at hif; try (exfalso; omega)) | (try (exfalso; omega))) | ((first | ((with_reducible apply J22 cWys_ok tab_ok); (· rfl)) | ((with_reducible apply J23 fol cWys_ok tab_ok); (· rfl)) | with_reducible apply J24); (· (simp only [push_cast, ↓JP, Nat.reduceAdd, Nat.reduceEqDiff, Nat.reduceLT, Nat.reduceMul, Nat.reduceLeDiff, reduceCtorEq, reduceIte, ↓JK, ↓JF, cWys, inN, he]; rfl)); (try kernel_rfl); (try (focus (first | exact True.intro | ((try simp only [JS, implies_true, forall_const, shaped, shapedL, kndOf, cWys, inN, he]); (repeat' (first | assumption | exact True.intro | omega | apply And.intro)); done) | ((repeat' (first | assumption | exact True.intro | omega | apply And.intro)); done))))) | fail)
          have hA1 : ∀ g : Nat → SV, (∀ q, q < 0 + 1 → g q = [SV.nat .i64 k].getD q (.nat .i64 0)) → ∀ σ, Less (.own 3 (.arr (0 + 1) 1 g) false) ((HB.own 3 (.arr ([] ++ [(k : Int)]).length 1 (i64S ([] ++ [(k : Int)]))) false).ren σ) := fun g hg σ => less_app [] k fun q hq β => by
            rw [hg q hq]
            obtain rfl : q = 0 := by simp at hq; omega
            rfl
          refine At.nextPick [0, 1, 2, 3, 4, 5, 6, 7, 8, 9, 13] (k + 1) ?_ rfl rfl rfl ?_ rfl ?_ ?_ ?_ rfl
          · omega
          · (repeat' (first | exact trivial | exact .inl rfl | exact .inr (.same _) | exact .inr .loose | exact .inr (.arr (by assumption)) | apply And.intro | (rw [e]; exact .inr (hA1 _ (fun q _ => rfl) _)) | (rw [e]; refine .inr (less_nil ?_ ?_ ?_) <;> first | rfl | simp)))
          · (repeat' (first | exact trivial | exact rfl | assumption | apply Stable.ite | exact nilOr_st rfl rfl | apply And.intro | intro _ | (simp only [Stable, StableL, i64S, prS, insS, sndsS, sndS, kS, kaS, ftS, ftsS]; done)))
          · (repeat' (first | exact trivial | exact ⟨_, rfl, fun β => rfl⟩ | apply And.intro))
          · (repeat' (first | exact trivial | exact rfl | assumption | apply Stable.ite | exact nilOr_st rfl rfl | apply And.intro | intro _ | (simp only [Stable, StableL, i64S, prS, insS, sndsS, sndS, kS, kaS, ftS, ftsS]; done)))
    · obtain rfl : k = xs.length := by omega
      cases hDe : Dk.isEmpty
      · rw [nilOr_f hDe]
        repeat' (first | with_reducible (first | apply J1 | apply J3 | apply J4 | apply J5 | apply J6 | apply J7 | apply J8 | apply J9 | apply J10 | apply J11 | apply J12 | apply J13 | apply J14 | apply J15 | apply J16 | apply J17 | apply J18 | apply J19 | apply J20 | refine J2 ?_) | ((with_reducible apply J21); (· rfl)) | ((with_reducible intro hif); first | (focus (cases hif; done)) | (simp only [JH] at hif; try (exfalso; omega)) | (try (exfalso; omega))) | ((first | ((with_reducible apply J22 cWys_ok tab_ok); (· rfl)) | ((with_reducible apply J23 fol cWys_ok tab_ok); (· rfl)) | with_reducible apply J24); (· (simp only [push_cast, ↓JP, Nat.reduceAdd, Nat.reduceEqDiff, Nat.reduceLT, Nat.reduceMul, Nat.reduceLeDiff, reduceCtorEq, reduceIte, ↓JK, ↓JF, cWys, inN]; rfl)); (try kernel_rfl); (try (focus (first | exact True.intro | ((try simp only [JS, implies_true, forall_const, shaped, shapedL, kndOf, cWys, inN]); (repeat' (first | assumption | exact True.intro | omega | apply And.intro)); done) | ((repeat' (first | assumption | exact True.intro | omega | apply And.intro)); done))))) | fail)
        with_reducible apply At.itNormal .ready
        · rfl
        · rfl
        · intro h; cases h
        apply haft
        intro w1 M1 D1 hA
        dsimp only
        rw [hD]
        repeat' (first | with_reducible (first | apply J1 | apply J3 | apply J4 | apply J5 | apply J6 | apply J7 | apply J8 | apply J9 | apply J10 | apply J11 | apply J12 | apply J13 | apply J14 | apply J15 | apply J16 | apply J17 | apply J18 | apply J19 | apply J20 | refine J2 ?_) | ((with_reducible apply J21); (· rfl)) | ((with_reducible intro hif); first | (focus (cases hif; done)) | (simp only [JH] at hif; try (exfalso; omega)) | (try (exfalso; omega))) | ((first | ((with_reducible apply J22 cWys_ok tab_ok); (· rfl)) | ((with_reducible apply J23 fol cWys_ok tab_ok); (· rfl)) | with_reducible apply J24); (· (simp only [push_cast, ↓JP, Nat.reduceAdd, Nat.reduceEqDiff, Nat.reduceLT, Nat.reduceMul, Nat.reduceLeDiff, reduceCtorEq, reduceIte, ↓JK, ↓JF, cWys, inN]; rfl)); (try kernel_rfl); (try (focus (first | exact True.intro | ((try simp only [JS, implies_true, forall_const, shaped, shapedL, kndOf, cWys, inN]); (repeat' (first | assumption | exact True.intro | omega | apply And.intro)); done) | ((repeat' (first | assumption | exact True.intro | omega | apply And.intro)); done))))) | fail)
        apply At.endsPick [0, 1, 2, 10] tab_ok (fn := Try.f34) (rs := [.tmp 4, .tmp 5]) hA hro (Nat.le_of_ble_eq_true rfl) rfl
        · simp only [push_cast, ↓JP, Nat.reduceAdd, Nat.reduceEqDiff, Nat.reduceLT, Nat.reduceMul, Nat.reduceLeDiff, reduceCtorEq, reduceIte, ↓JK, ↓JF, resV, resV1]; rfl
        · (focus (first | exact True.intro | ((try simp only [JS, implies_true, forall_const, shaped, shapedL, kndOf]); (repeat' (first | assumption | exact True.intro | omega | apply And.intro)); done) | ((repeat' (first | assumption | exact True.intro | omega | apply And.intro)); done)))
        · rfl
        · rfl
        · rfl
        · (repeat' (first | exact trivial | exact .inl rfl | exact .inr (.same _) | exact .inr .loose | exact .inr (.arr (by assumption)) | apply And.intro))
        · rfl
        · (repeat' (first | exact trivial | exact rfl | assumption | apply Stable.ite | exact nilOr_st rfl rfl | apply And.intro | intro _ | (simp only [Stable, StableL, i64S, prS, insS, sndsS, sndS, kS, kaS, ftS, ftsS]; done)))
        · (repeat' (first | exact trivial | exact .inl rfl | exact .inr rfl | exact rfl | apply And.intro))
        · exact fun β => rfl
        · (repeat' (first | exact trivial | exact rfl | assumption | apply Stable.ite | exact nilOr_st rfl rfl | apply And.intro | intro _ | (simp only [Stable, StableL, i64S, prS, insS, sndsS, sndS, kS, kaS, ftS, ftsS]; done)))
      · rw [nilOr_t hDe]
        have hDz : Dk = [] := by simpa using hDe
        subst hDz
        repeat' (first | with_reducible (first | apply J1 | apply J3 | apply J4 | apply J5 | apply J6 | apply J7 | apply J8 | apply J9 | apply J10 | apply J11 | apply J12 | apply J13 | apply J14 | apply J15 | apply J16 | apply J17 | apply J18 | apply J19 | apply J20 | refine J2 ?_) | ((with_reducible apply J21); (· rfl)) | ((with_reducible intro hif); first | (focus (cases hif; done)) | (simp only [JH] at hif; try (exfalso; omega)) | (try (exfalso; omega))) | ((first | ((with_reducible apply J22 cWys_ok tab_ok); (· rfl)) | ((with_reducible apply J23 fol cWys_ok tab_ok); (· rfl)) | with_reducible apply J24); (· (simp only [push_cast, ↓JP, Nat.reduceAdd, Nat.reduceEqDiff, Nat.reduceLT, Nat.reduceMul, Nat.reduceLeDiff, reduceCtorEq, reduceIte, ↓JK, ↓JF, cWys, inN]; rfl)); (try kernel_rfl); (try (focus (first | exact True.intro | ((try simp only [JS, implies_true, forall_const, shaped, shapedL, kndOf, cWys, inN]); (repeat' (first | assumption | exact True.intro | omega | apply And.intro)); done) | ((repeat' (first | assumption | exact True.intro | omega | apply And.intro)); done))))) | fail)
        with_reducible apply At.itNormal .ready
        · rfl
        · rfl
        · intro h; cases h
        apply haft
        intro w1 M1 D1 hA
        dsimp only
        rw [hD]
        repeat' (first | with_reducible (first | apply J1 | apply J3 | apply J4 | apply J5 | apply J6 | apply J7 | apply J8 | apply J9 | apply J10 | apply J11 | apply J12 | apply J13 | apply J14 | apply J15 | apply J16 | apply J17 | apply J18 | apply J19 | apply J20 | refine J2 ?_) | ((with_reducible apply J21); (· rfl)) | ((with_reducible intro hif); first | (focus (cases hif; done)) | (simp only [JH] at hif; try (exfalso; omega)) | (try (exfalso; omega))) | ((first | ((with_reducible apply J22 cWys_ok tab_ok); (· rfl)) | ((with_reducible apply J23 fol cWys_ok tab_ok); (· rfl)) | with_reducible apply J24); (· (simp only [push_cast, ↓JP, Nat.reduceAdd, Nat.reduceEqDiff, Nat.reduceLT, Nat.reduceMul, Nat.reduceLeDiff, reduceCtorEq, reduceIte, ↓JK, ↓JF, cWys, inN]; rfl)); (try kernel_rfl); (try (focus (first | exact True.intro | ((try simp only [JS, implies_true, forall_const, shaped, shapedL, kndOf, cWys, inN]); (repeat' (first | assumption | exact True.intro | omega | apply And.intro)); done) | ((repeat' (first | assumption | exact True.intro | omega | apply And.intro)); done))))) | fail)
        refine At.nil 4 3 1 (i64S []) rfl (fun h q => i64S_stable q) ?_
        apply At.endsPick [0, 1, 2, 11] tab_ok (fn := Try.f34) (rs := [.tmp 4, .tmp 5]) hA hro (Nat.le_of_ble_eq_true rfl) rfl
        · simp only [push_cast, ↓JP, Nat.reduceAdd, Nat.reduceEqDiff, Nat.reduceLT, Nat.reduceMul, Nat.reduceLeDiff, reduceCtorEq, reduceIte, ↓JK, ↓JF, resV, resV1]; rfl
        · (focus (first | exact True.intro | ((try simp only [JS, implies_true, forall_const, shaped, shapedL, kndOf]); (repeat' (first | assumption | exact True.intro | omega | apply And.intro)); done) | ((repeat' (first | assumption | exact True.intro | omega | apply And.intro)); done)))
        · rfl
        · rfl
        · rfl
        · (repeat' (first | exact trivial | exact .inl rfl | exact .inr (.same _) | exact .inr .loose | exact .inr (.arr (by assumption)) | apply And.intro | exact .inr (.arr fun q hq => absurd hq (Nat.not_lt_zero q))))
        · rfl
        · (repeat' (first | exact trivial | exact rfl | assumption | apply Stable.ite | exact nilOr_st rfl rfl | apply And.intro | intro _ | (simp only [Stable, StableL, i64S, prS, insS, sndsS, sndS, kS, kaS, ftS, ftsS]; done)))
        · (repeat' (first | exact trivial | exact .inl rfl | exact .inr rfl | exact rfl | apply And.intro))
        · exact fun β => rfl
        · (repeat' (first | exact trivial | exact rfl | assumption | apply Stable.ite | exact nilOr_st rfl rfl | apply And.intro | intro _ | (simp only [Stable, StableL, i64S, prS, insS, sndsS, sndS, kS, kaS, ftS, ftsS]; done)))
def sDoomU : Spec := fun args h m => match args with
  | [v1, .agg [v2, v3, v4]] => match srcV h 5 (.tup []) v1 with
    | some (c1, n1, f1, r1) => bif isI .i64 v2 && isI .i64 v3 && isI .i64 v4 then some (c1 ∧ (∀ q, q < n1 → isIns (f1 q) = true) ∧ ((∀ x ∈ (ls insOf n1 f1), x.ok)) ∧ ((checkI (ls insOf n1 f1)).2 = 0) ∧ (limB (iOf v2) (iOf v3) (iOf v4) = true), .tup [.sl m m [] 1 0 (doomK (ls insOf n1 f1) (factsS (ls insOf n1 f1)) (iOf v2) (iOf v3) (iOf v4) (ls insOf n1 f1).length).length none, .int .i64 0], r1, [(m, .own 3 (.arr (doomK (ls insOf n1 f1) (factsS (ls insOf n1 f1)) (iOf v2) (iOf v3) (iOf v4) (ls insOf n1 f1).length).length 1 (i64S (doomK (ls insOf n1 f1) (factsS (ls insOf n1 f1)) (iOf v2) (iOf v3) (iOf v4) (ls insOf n1 f1).length))) false)]) else none
    | _ => none
  | _ => none
theorem sDoomU_ok : CallOk Try.prog 34 sDoomU := by
  refine ⟨named_spec (by kernel_rfl), fun args h m c v rd wr hs hm hc w0 M β h' w R hrd hwr hst => ?_⟩
  unfold sDoomU at hs
  split at hs
  · rename_i v1 v2 v3 v4
    split at hs
    · rename_i c1 n1 f1 r1 a1
      obtain ⟨hb, hs⟩ := bif_some hs
      simp only [Option.some.injEq, Prod.mk.injEq] at hs
      obtain ⟨rfl, rfl, rfl, rfl⟩ := hs
      simp only [Bool.and_eq_true] at hb
      obtain ⟨⟨b2, b3⟩, b4⟩ := hb
      obtain ⟨k1, g1, y1, y2, y3⟩ := hc
      obtain ⟨A1, p1, d1, e1, t1⟩ := reads_src R a1 k1 (fun i hi => hrd i hi) (by omega)
      refine callRo (views := [⟨5, (ls insOf n1 f1).length, prS (ls insOf n1 f1), A1, p1⟩]) (Doomed_litU (ls insOf n1 f1) p1 (iOf v2) (iOf v3) (iOf v4) y1 y2 y3) ?_ R hm hwr ?_ ?_ ?_
      · intro x hx
        simp only [List.mem_cons, List.not_mem_nil, or_false] at hx
        subst hx
        · exact viewIns t1 e1 g1
      · intro β1 hv
        simp only [Vd, ls_length, and_true] at hv
        have z1 := hv
        simp only [denL, aggDen, intDen, natDen, boolDen, ls_length, z1, d1, isI_den b2, isI_den b3, isI_den b4]
      · (repeat' (first | exact trivial | exact rfl | assumption | apply Stable.ite | exact nilOr_st rfl rfl | apply And.intro | intro _ | (simp only [Stable, StableL, i64S, prS, insS, sndsS, sndS, kS, kaS, ftS, ftsS]; done)))
      · (repeat' (first | exact trivial | exact rfl | assumption | apply Stable.ite | exact nilOr_st rfl rfl | apply And.intro | intro _ | (simp only [Stable, StableL, i64S, prS, insS, sndsS, sndS, kS, kaS, ftS, ftsS]; done)))
    · cases hs
  · cases hs
end Go.Proofs.Ytmljmabbopkpiaa.Vm
end

section
/- What is doomed within some limits, and within more; the first one. -/
namespace Go.Proofs.Ytmljmabbopkpiaa.Vm
set_option linter.unusedVariables false
set_option linter.unusedSimpArgs false
theorem doom_mem (xs : List Ins) (F : List Ft) (c p l v : Int) : ∀ k, v ∈ doomK xs F c p l k ↔ ∃ j, j < k ∧ (j : Int) = v ∧ whyK xs F c p l j ≠ 0
  | 0 => by simp [doomK]
  | k + 1 => by
    have ih := doom_mem xs F c p l v k
    show v ∈ doomK xs F c p l k ++ (if whyE c p l (xs.getD k ⟨0, 0, 0, 0, 0⟩) (getF F k) ≠ 0 then [(k : Int)] else []) ↔ _
    rw [List.mem_append, ih]
    constructor
    · rintro (⟨j, h1, h2⟩ | h)
      · exact ⟨j, by omega, h2⟩
      · split at h
        · rename_i hw
          exact ⟨k, by omega, (List.mem_singleton.1 h).symm, hw⟩
        · cases h
    · rintro ⟨j, h1, h2, h3⟩
      by_cases hj : j = k
      · subst hj
        right
        rw [if_pos (show whyE c p l (xs.getD j ⟨0, 0, 0, 0, 0⟩) (getF F j) ≠ 0 from h3)]
        exact List.mem_singleton.2 h2.symm
      · exact .inl ⟨j, by omega, h2, h3⟩
theorem doom_sorted (xs : List Ins) (F : List Ft) (c p l : Int) (k : Nat) : ∀ q, q + 1 < (doomK xs F c p l k).length → (doomK xs F c p l k).getD q 0 ≤ (doomK xs F c p l k).getD (q + 1) 0 := by
  induction k with
  | zero => intro q h; simp [doomK] at h
  | succ k ih =>
    intro q h
    have e : doomK xs F c p l (k + 1) = doomK xs F c p l k ++ (if whyE c p l (xs.getD k ⟨0, 0, 0, 0, 0⟩) (getF F k) ≠ 0 then [(k : Int)] else []) := rfl
    rw [e] at h ⊢
    by_cases hw : whyE c p l (xs.getD k ⟨0, 0, 0, 0, 0⟩) (getF F k) ≠ 0
    · rw [if_pos hw] at h ⊢
      rw [List.length_append] at h
      by_cases hq : q + 1 < (doomK xs F c p l k).length
      · have := ih q hq
        rw [List.getD_eq_getElem?_getD, List.getD_eq_getElem?_getD, List.getElem?_append_left (by omega), List.getElem?_append_left hq, ← List.getD_eq_getElem?_getD, ← List.getD_eq_getElem?_getD]
        exact this
      · have hq1 : q + 1 = (doomK xs F c p l k).length := by simp at h; omega
        rw [List.getD_eq_getElem?_getD, List.getD_eq_getElem?_getD, List.getElem?_append_left (by omega), hq1, List.getElem?_append_right (Nat.le_refl _), Nat.sub_self]
        have hm : (doomK xs F c p l k)[q]?.getD 0 ∈ doomK xs F c p l k := by
          rw [List.getElem?_eq_getElem (by omega)]; exact List.getElem_mem _
        obtain ⟨j, h1, h2, _⟩ := (doom_mem xs F c p l _ k).1 hm
        show _ ≤ (k : Int)
        omega
    · rw [if_neg hw, List.append_nil] at h ⊢
      exact ih q h
theorem why_mono {c c' p p' l l' : Int} {i : Ins} {f : Ft} (hc : 0 ≤ c ∧ c ≤ c') (hp : p ≤ p') (hl : l' ≤ l) (h : whyE c p l i f = 0) : whyE c' p' l' i f = 0 := by
  unfold whyE at h ⊢
  by_cases hr : f.reached = false
  · rw [if_pos hr]
  rw [if_neg hr] at h ⊢
  by_cases h2 : i.op = 2
  · rw [if_pos h2] at h; exact absurd h (by decide)
  rw [if_neg h2] at h ⊢
  by_cases h5 : i.op = 5 ∨ i.op = 6
  · rw [if_pos h5] at h ⊢
    rw [if_neg]
    intro hq
    rw [if_pos] at h
    · exact absurd h (by decide)
    · rcases hq with q | ⟨q1, q2⟩
      · left; omega
      · right; exact ⟨q1, by omega⟩
  rw [if_neg h5] at h ⊢
  by_cases h8 : i.op = 8 ∧ p ≤ i.n
  · rw [if_pos h8] at h; exact absurd h (by decide)
  rw [if_neg h8] at h
  rw [if_neg (fun q => h8 ⟨q.1, by have := q.2; omega⟩)]
  by_cases h9 : i.op = 8 ∧ (f.regs i.a.toNat).is_ = true ∧ (f.regs i.a.toNat).n < l
  · rw [if_pos h9] at h; exact absurd h (by decide)
  rw [if_neg h9] at h
  rw [if_neg (fun q => h9 ⟨q.1, q.2.1, by have := q.2.2; omega⟩)]
  exact h
def firstK (xs : List Ins) (F : List Ft) (c p l : Int) : Nat → Int
  | 0 => -1
  | k + 1 => if firstK xs F c p l k < 0 ∧ badB xs F c p l k = true then (k : Int) else firstK xs F c p l k
theorem first_spec (xs : List Ins) (F : List Ft) (c p l : Int) : ∀ k, (firstK xs F c p l k = -1 ∧ ∀ j, j < k → badB xs F c p l j = false) ∨ ∃ j, j < k ∧ firstK xs F c p l k = (j : Int) ∧ badB xs F c p l j = true ∧ ∀ q, q < j → badB xs F c p l q = false
  | 0 => .inl ⟨rfl, fun j h => absurd h (Nat.not_lt_zero j)⟩
  | k + 1 => by
    have e : firstK xs F c p l (k + 1) = if firstK xs F c p l k < 0 ∧ badB xs F c p l k = true then (k : Int) else firstK xs F c p l k := rfl
    rcases first_spec xs F c p l k with ⟨h1, h2⟩ | ⟨j, h1, h2, h3, h4⟩
    · cases hb : badB xs F c p l k
      · left
        rw [e, if_neg (by rw [hb]; simp)]
        refine ⟨h1, fun j hj => ?_⟩
        by_cases q : j = k
        · rw [q]; exact hb
        · exact h2 j (by omega)
      · right
        rw [e, if_pos ⟨by omega, hb⟩]
        exact ⟨k, by omega, rfl, hb, h2⟩
    · right
      rw [e, if_neg (by omega)]
      exact ⟨j, by omega, h2, h3, h4⟩
theorem first_chk (xs : List Ins) (F : List Ft) (c p l : Int) : (chkR xs F c p l).1 = firstK xs F c p l xs.length ∧ (0 ≤ firstK xs F c p l xs.length ∨ (chkR xs F c p l).2 = 0) := by
  rcases first_spec xs F c p l xs.length with ⟨h1, h2⟩ | ⟨j, h1, h2, h3, h4⟩
  · rw [chkR_none h2, h1]; exact ⟨rfl, .inr rfl⟩
  · rw [chkR_some h1 h3 h4, h2]; exact ⟨rfl, .inl (by omega)⟩
end Go.Proofs.Ytmljmabbopkpiaa.Vm
end

section
/- fermatalaw17.CheckMore, walked through. -/
namespace Go.Proofs.Ytmljmabbopkpiaa.Vm
open Go.RowKit
attribute [local push_cast] runR opG gtmp gval gus opX tmpsOf tm tmO tmP restr look look2 tab tys zs ets eqB eqBL allB numOf ieq Int.cast_ofNat_Int Int.ofNat_zero beq_true beq_false frameOf ev evL ofV opV loadV noW pushF wrsL setH allBorn allGone HB.born HB.isGone HB.val SV.plain dstOk hp nav fitsT SV.size sizeL SV.isAgg TK.size TK.agg bin binE binN binI arN arI cmpN cmpI keq kn narrow callV storeV setp fillV buildV buildSliceV makeV sliceV appendV copyV List.isEmpty_nil srcV evO asN ite_t ite_f ite_bool ite_int ite_nat maxV v_beq v_ble v_blt cond_true cond_false List.getElem?_cons_zero List.getElem?_cons_succ List.getD_cons_zero List.getD_cons_succ List.getD_nil List.length_cons List.length_nil List.take_succ_cons List.take_zero List.set_cons_zero List.set_cons_succ List.cons_append List.nil_append List.append_assoc List.replicate_succ List.replicate_zero Nat.zero_add Nat.add_zero decide_true decide_false Bool.true_and Bool.and_true Bool.false_and Bool.and_false Bool.true_or Bool.or_true Bool.false_or Bool.or_false beq_self_eq_true Bool.or_self Nat.lt_irrefl Nat.not_lt_zero Nat.le_refl Option.getD_some Option.getD_none BEq.rfl Bool.not_true Bool.not_false Bool.cond_true_left Bool.cond_false_right prS sndsS i64S nav_ins nav_ins0 nav_ins1 nav_ins2 nav_ins3 nav_ins4 nav_snd nav_snd0 nav_snd1 nav_snd2 isIns_insS insOf_insS isSnd_sndS sndOf_sndS isI_int isI_nat iOf nav_k nav_k0 nav_k1 nav_ka nav_kai nav_ft nav_ft0 nav_ft1 isKn_kS knOf_kS isKa_kaS kaOf_kaS isFt_ftS ftOf_ftS setp_ka setp_ftk setp_ftr setp_fti evm_ins evm_snd evm_k evm_ka evm_ft
set_option linter.unusedVariables false
set_option linter.unusedSimpArgs false
set_option maxRecDepth 100000
set_option maxHeartbeats 4000000
def cL3 : FuncId → Option Spec := look2 [(18, sAwake17), (19, sMd14), (36, sLims), (22, sWhy17), (34, sDoomU), (35, sChk17), (46, sSorted), (38, sCont)]
theorem cL3_ok : ∀ f S, cL3 f = some S → CallOk Try.prog f S := allOk_spec ⟨sAwake17_ok, sMd14_ok, sLims_ok, sWhy17_ok, sDoomU_ok, sChk17_ok, sSorted_ok, sCont_ok, trivial⟩
theorem lsI2 (l : List Int) : ls iOf l.length (fun q => .int .i64 (l.getD q 0)) = l := ls_i64S l
theorem more_lit17 (zs : List Ins) (p1 : Nat) (a b : Nat → Int) (hz : ∀ x ∈ zs, x.ok) (hp1 : max zs.length p1 ≤ 9223372036854775807) (ha : ∀ q, 0 ≤ a q ∧ a q ≤ 255) (hb : ∀ q, 0 ≤ b q ∧ b q ≤ 255) :
    LitOk Try.prog 14 [.sl 1 2 [] 5 0 zs.length (some p1), .arr 3 1 (fun q => .int .u8 (a q)), .arr 3 1 (fun q => .int .u8 (b q))] [.gone, .gone, .ro (.arr zs.length 5 (prS zs))] (.bool true) [.gone] := by
  refine litOkM (fn := Try.f14) 3 143 0 rfl rfl rfl rfl rfl (by simp only [StableL, Stable, hp]; simp [HB.born]) rfl fun w0 M E hro => ?_
  obtain ⟨p, hp⟩ : ∃ p, p = made14 zs := ⟨_, rfl⟩
  have hpok := made14_ok zs hz
  have hpr := made14_right zs
  have hpl := made14_le zs
  rw [← hp] at hpok hpr hpl
  obtain ⟨a0, a0'⟩ := ha 0
  obtain ⟨a1, a1'⟩ := ha 1
  obtain ⟨a2, a2'⟩ := ha 2
  obtain ⟨b0, b0'⟩ := hb 0
  obtain ⟨b1, b1'⟩ := hb 1
  obtain ⟨b2, b2'⟩ := hb 2
  obtain ⟨c, hc⟩ : ∃ c, a 0 % 12 = c := ⟨_, rfl⟩
  obtain ⟨pp, hpp⟩ : ∃ c, a 1 % 17 = c := ⟨_, rfl⟩
  obtain ⟨l, hl⟩ : ∃ c, 1 + a 2 % 9 = c := ⟨_, rfl⟩
  obtain ⟨c2, hc2⟩ : ∃ x, b 0 % 12 = x := ⟨_, rfl⟩
  obtain ⟨pp2, hpp2⟩ : ∃ c, b 1 % 17 = c := ⟨_, rfl⟩
  obtain ⟨l2, hl2⟩ : ∃ c, 1 + b 2 % 9 = c := ⟨_, rfl⟩
  obtain ⟨F, hF⟩ : ∃ F, F = factsS p := ⟨_, rfl⟩
  have hb1 : limB c pp l = true := by simp only [limB, Bool.and_eq_true, decide_eq_true_eq]; omega
  have hb2 : limB (max c c2) (max pp pp2) (min l l2) = true := by simp only [limB, Bool.and_eq_true, decide_eq_true_eq]; omega
  obtain ⟨D, hD⟩ : ∃ D, doomK p F c pp l p.length = D := ⟨_, rfl⟩
  obtain ⟨D2, hD2⟩ : ∃ D, doomK p F (max c c2) (max pp pp2) (min l l2) p.length = D := ⟨_, rfl⟩
  have hDs := doom_sorted p F c pp l p.length
  have hDm := fun v => doom_mem p F c pp l v p.length
  have hDm2 := fun v => doom_mem p F (max c c2) (max pp pp2) (min l l2) v p.length
  have hDl := doom_len p F c pp l p.length
  have hDl2 := doom_len p F (max c c2) (max pp pp2) (min l l2) p.length
  rw [hD] at hDs hDl
  rw [hD2] at hDl2
  simp only [hD] at hDm
  simp only [hD2] at hDm2
  have hsub : ∀ v, v ∈ D2 → v ∈ D := fun v hv => by
    obtain ⟨j, h1, h2, h3⟩ := (hDm2 v).1 hv
    refine (hDm v).2 ⟨j, h1, h2, fun h => h3 ?_⟩
    exact why_mono (by omega) (by omega) (by omega) h
  repeat' (first | with_reducible (first | apply J1 | apply J3 | apply J4 | apply J5 | apply J6 | apply J7 | apply J8 | apply J9 | apply J10 | apply J11 | apply J12 | apply J13 | apply J14 | apply J15 | apply J16 | apply J17 | apply J18 | apply J19 | apply J20 | refine J2 ?_) | ((with_reducible apply J21); (· rfl)) | ((with_reducible intro hif); first | (focus (cases hif; done)) | (simp only [JH] at hif; try (exfalso; omega)) | (try (exfalso; omega))) | ((first | ((with_reducible apply J22 cL3_ok tab_ok); (· rfl)) | ((with_reducible apply J23 fol cL3_ok tab_ok); (· rfl)) | with_reducible apply J24); (· (simp only [push_cast, ↓JP, Nat.reduceAdd, Nat.reduceEqDiff, Nat.reduceLT, Nat.reduceMul, Nat.reduceLeDiff, reduceCtorEq, reduceIte, ↓JK, ↓JF, cL3, sAwake17, sMd14, sLims, sDoomU, sChk17, sSorted, ls_prS, ls_prS', ls_prS2, ls_i64S, ls_i64S', ← hp, ← hF, hc, hpp, hl, hc2, hpp2, hl2, hD, hD2, inN, inR, lsI2, Int.add_zero, eq_self]; rfl)); (try kernel_rfl); (try (focus (first | exact True.intro | ((repeat' (first | exact True.intro | assumption | omega | exact fun q _ => rfl | apply And.intro)); done) | ((try simp only [JS, implies_true, forall_const, shaped, shapedL, kndOf, cL3, sAwake17, sMd14, sLims, sDoomU, sChk17, sSorted, ls_prS, ls_prS', ls_prS2, ls_i64S, ls_i64S', ← hp, ← hF, hc, hpp, hl, hc2, hpp2, hl2, hD, hD2, inN, inR, lsI2, Int.add_zero, eq_self]); (repeat' (first | assumption | exact True.intro | omega | apply And.intro)); done) | ((repeat' (first | assumption | exact True.intro | omega | apply And.intro)); done))))) | fail)
  refine WF.loopAt (fun k => k ≤ D2.length) (fun k => [(7, .sl 5 5 [] 5 0 p.length none), (8, .ptr 6 []), (11, .sl 9 9 [] 1 0 D.length none), (15, .int .i64 (chkR p F c pp l).1), (16, .int .i64 (chkR p F c pp l).2), (84, .sl 10 10 [] 1 0 D2.length none), (85, .nat .i64 D2.length), (86, .nat .i64 k)]) (fun k => [.gone, .gone, .ro (.arr zs.length 5 (prS zs)), .gone, .gone, .own 28 (.arr p.length 5 (prS p)) false, .own 31 (.agg [.int .i64 c, .int .i64 pp, .int .i64 l]) true, .gone, .gone, .own 3 (.arr D.length 1 (i64S D)) false, .own 3 (.arr D2.length 1 (i64S D2)) false]) (fun k => D2.length - k) 0 (Nat.zero_le _) ?_ ?_ rfl ?_ ?_ rfl ?_
  · ((repeat' (first | exact trivial | apply And.intro)) <;> (first | rfl | (simp only [look, cond_true, cond_false]; done)))
  · (repeat' (first | exact trivial | exact .same _ | exact .dead _ | exact .gone rfl | exact .loose | assumption | exact .arr (by assumption) | apply And.intro))
  · (repeat' (first | exact trivial | exact rfl | assumption | apply Stable.ite | apply And.intro | intro _ | (simp only [Stable, StableL, i64S, prS, insS, sndsS, sndS, kS, kaS, ftS, ftsS]; done)))
  · (repeat' (first | exact trivial | exact rfl | assumption | apply Stable.ite | apply And.intro | intro _ | (simp only [Stable, StableL, i64S, prS, insS, sndsS, sndS, kS, kaS, ftS, ftsS]; done)))
  intro k hk
  by_cases hkl : k < D2.length
  · have hv : (D2.getD k 0 ∈ D) = True := eq_true (hsub _ (by rw [List.getD_eq_getElem?_getD, List.getElem?_eq_getElem hkl]; exact List.getElem_mem hkl))
    repeat' (first | with_reducible (first | apply J1 | apply J3 | apply J4 | apply J5 | apply J6 | apply J7 | apply J8 | apply J9 | apply J10 | apply J11 | apply J12 | apply J13 | apply J14 | apply J15 | apply J16 | apply J17 | apply J18 | apply J19 | apply J20 | refine J2 ?_) | ((with_reducible apply J21); (· rfl)) | ((with_reducible intro hif); first | (focus (cases hif; done)) | (simp only [JH] at hif; try (exfalso; omega)) | (try (exfalso; omega))) | ((first | ((with_reducible apply J22 cL3_ok tab_ok); (· rfl)) | ((with_reducible apply J23 fol cL3_ok tab_ok); (· rfl)) | with_reducible apply J24); (· (simp only [push_cast, ↓JP, Nat.reduceAdd, Nat.reduceEqDiff, Nat.reduceLT, Nat.reduceMul, Nat.reduceLeDiff, reduceCtorEq, reduceIte, ↓JK, ↓JF, cL3, sCont, ls_i64S, ls_i64S', lsI2, hv, hkl, inN, inR, Nat.zero_add]; rfl)); (try kernel_rfl); (try (focus (first | exact True.intro | ((try simp only [JS, implies_true, forall_const, shaped, shapedL, kndOf, cL3, sCont, ls_i64S, ls_i64S', lsI2, hv, hkl, inN, inR, Nat.zero_add]); (first | exact ⟨fun q _ => rfl, by omega⟩ | (repeat' (first | assumption | exact True.intro | omega | apply And.intro))); done) | ((first | exact ⟨fun q _ => rfl, by omega⟩ | (repeat' (first | assumption | exact True.intro | omega | apply And.intro))); done))))) | fail)
    refine At.next (k + 1) ?_ ?_ ?_ rfl ?_ ?_ rfl
    · omega
    · ((repeat' (first | exact trivial | apply And.intro)) <;> (first | rfl | (simp only [look, cond_true, cond_false]; done)))
    · (repeat' (first | exact trivial | exact .same _ | exact .dead _ | exact .gone rfl | exact .loose | assumption | exact .arr (by assumption) | apply And.intro))
    · (repeat' (first | exact trivial | exact rfl | assumption | apply Stable.ite | apply And.intro | intro _ | (simp only [Stable, StableL, i64S, prS, insS, sndsS, sndS, kS, kaS, ftS, ftsS]; done)))
    · (repeat' (first | exact trivial | exact rfl | assumption | apply Stable.ite | apply And.intro | intro _ | (simp only [Stable, StableL, i64S, prS, insS, sndsS, sndS, kS, kaS, ftS, ftsS]; done)))
  obtain rfl : k = D2.length := by omega
  repeat' (first | with_reducible (first | apply J1 | apply J3 | apply J4 | apply J5 | apply J6 | apply J7 | apply J8 | apply J9 | apply J10 | apply J11 | apply J12 | apply J13 | apply J14 | apply J15 | apply J16 | apply J17 | apply J18 | apply J19 | apply J20 | refine J2 ?_) | ((with_reducible apply J21); (· rfl)) | ((with_reducible intro hif); first | (focus (cases hif; done)) | (simp only [JH] at hif; try (exfalso; omega)) | (try (exfalso; omega))) | ((first | ((with_reducible apply J22 cL3_ok tab_ok); (· rfl)) | ((with_reducible apply J23 fol cL3_ok tab_ok); (· rfl)) | with_reducible apply J24); (· (simp only [push_cast, ↓JP, Nat.reduceAdd, Nat.reduceEqDiff, Nat.reduceLT, Nat.reduceMul, Nat.reduceLeDiff, reduceCtorEq, reduceIte, ↓JK, ↓JF, inN, inR]; rfl)); (try kernel_rfl); (try (focus (first | exact True.intro | ((try simp only [JS, implies_true, forall_const, shaped, shapedL, kndOf, inN, inR]); (repeat' (first | assumption | exact True.intro | omega | apply And.intro)); done) | ((repeat' (first | assumption | exact True.intro | omega | apply And.intro)); done))))) | fail)
  refine WF.loopAt (fun k => k ≤ p.length) (fun k => [(7, .sl 5 5 [] 5 0 p.length none), (8, .ptr 6 []), (11, .sl 9 9 [] 1 0 D.length none), (15, .int .i64 (chkR p F c pp l).1), (16, .int .i64 (chkR p F c pp l).2), (19, .int .i64 (firstK p F c pp l k)), (96, .nat .i64 p.length), (97, .nat .i64 k)]) (fun k => [.gone, .gone, .ro (.arr zs.length 5 (prS zs)), .gone, .gone, .own 28 (.arr p.length 5 (prS p)) false, .own 31 (.agg [.int .i64 c, .int .i64 pp, .int .i64 l]) true, .gone, .gone, .own 3 (.arr D.length 1 (i64S D)) false]) (fun k => p.length - k) 0 (Nat.zero_le _) ?_ ?_ rfl ?_ ?_ rfl ?_
  · ((repeat' (first | exact trivial | apply And.intro)) <;> (first | rfl | (simp only [look, cond_true, cond_false]; done)))
  · (repeat' (first | exact trivial | exact .same _ | exact .dead _ | exact .gone rfl | exact .loose | assumption | exact .arr (by assumption) | apply And.intro))
  · (repeat' (first | exact trivial | exact rfl | assumption | apply Stable.ite | apply And.intro | intro _ | (simp only [Stable, StableL, i64S, prS, insS, sndsS, sndS, kS, kaS, ftS, ftsS]; done)))
  · (repeat' (first | exact trivial | exact rfl | assumption | apply Stable.ite | apply And.intro | intro _ | (simp only [Stable, StableL, i64S, prS, insS, sndsS, sndS, kS, kaS, ftS, ftsS]; done)))
  intro k hk
  by_cases hkl : k < p.length
  · have hfit : fitE p c pp l = 0 := by unfold fitE; rw [if_pos hpr, if_pos hb1]
    obtain ⟨e, he⟩ : ∃ e, whyK p F c pp l k = e := ⟨_, rfl⟩
    have hW : whyR p c pp l (k : Int) = (e, 0) := by
      unfold whyR
      rw [if_neg (fun h => h hfit), if_neg (by omega), ← hF]
      rw [← he]
      rfl
    have hin : ((k : Int) ∈ D) ↔ e ≠ 0 := by
      rw [hDm]
      constructor
      · rintro ⟨j, h1, h2, h3⟩
        obtain rfl : j = k := by omega
        rw [← he]; exact h3
      · intro h
        exact ⟨k, hkl, rfl, by rw [he]; exact h⟩
    have hbad : badB p F c pp l k = (decide (e ≠ 0) && decide (e ≠ 176)) := by unfold badB; rw [he]
    have hf : firstK p F c pp l (k + 1) = if firstK p F c pp l k < 0 ∧ badB p F c pp l k = true then (k : Int) else firstK p F c pp l k := rfl
    obtain ⟨f, hfk⟩ : ∃ f, firstK p F c pp l k = f := ⟨_, rfl⟩
    by_cases e0 : e = 0
    · have hD0 : ((k : Int) ∈ D) = False := eq_false (fun h => (hin.1 h) e0)
      have e19 : firstK p F c pp l (k + 1) = f := by rw [hf, hbad, e0, hfk]; simp
      rw [hfk]
      repeat' (first | with_reducible (first | apply J1 | apply J3 | apply J4 | apply J5 | apply J6 | apply J7 | apply J8 | apply J9 | apply J10 | apply J11 | apply J12 | apply J13 | apply J14 | apply J15 | apply J16 | apply J17 | apply J18 | apply J19 | apply J20 | refine J2 ?_) | ((with_reducible apply J21); (· rfl)) | ((with_reducible intro hif); first | (focus (cases hif; done)) | (simp only [JH] at hif; try (exfalso; omega)) | (try (exfalso; omega))) | ((first | ((with_reducible apply J22 cL3_ok tab_ok); (· rfl)) | ((with_reducible apply J23 fol cL3_ok tab_ok); (· rfl)) | with_reducible apply J24); (· (simp only [push_cast, ↓JP, Nat.reduceAdd, Nat.reduceEqDiff, Nat.reduceLT, Nat.reduceMul, Nat.reduceLeDiff, reduceCtorEq, reduceIte, ↓JK, ↓JF, cL3, sWhy17, sCont, ls_prS, ls_prS', ls_prS2, ls_i64S, ls_i64S', lsI2, hW, e0, hD0, hkl, inN, inR, Nat.zero_add]; rfl)); (try kernel_rfl); (try (focus (first | exact True.intro | ((try simp only [JS, implies_true, forall_const, shaped, shapedL, kndOf, cL3, sWhy17, sCont, ls_prS, ls_prS', ls_prS2, ls_i64S, ls_i64S', lsI2, hW, e0, hD0, hkl, inN, inR, Nat.zero_add]); (first | exact ⟨fun q _ => rfl, hpok, by omega⟩ | (repeat' (first | assumption | exact True.intro | omega | apply And.intro))); done) | ((first | exact ⟨fun q _ => rfl, hpok, by omega⟩ | (repeat' (first | assumption | exact True.intro | omega | apply And.intro))); done))))) | fail)
      refine At.next (k + 1) ?_ ?_ ?_ rfl ?_ ?_ rfl
      · omega
      · ((repeat' (first | exact trivial | apply And.intro)) <;> (first | rfl | (rw [e19]; rfl)))
      · (repeat' (first | exact trivial | exact .same _ | exact .dead _ | exact .gone rfl | exact .loose | assumption | exact .arr (by assumption) | apply And.intro))
      · (repeat' (first | exact trivial | exact rfl | assumption | apply Stable.ite | apply And.intro | intro _ | (simp only [Stable, StableL, i64S, prS, insS, sndsS, sndS, kS, kaS, ftS, ftsS]; done)))
      · (repeat' (first | exact trivial | exact rfl | assumption | apply Stable.ite | apply And.intro | intro _ | (simp only [Stable, StableL, i64S, prS, insS, sndsS, sndS, kS, kaS, ftS, ftsS]; done)))
    · have hD0 : ((k : Int) ∈ D) = True := eq_true (hin.2 e0)
      by_cases e6 : e = 176
      · have h176 : ¬ ((176 : Int) = 0) := by decide
        have e19 : firstK p F c pp l (k + 1) = f := by rw [hf, hbad, e6, hfk]; simp
        rw [hfk]
        repeat' (first | with_reducible (first | apply J1 | apply J3 | apply J4 | apply J5 | apply J6 | apply J7 | apply J8 | apply J9 | apply J10 | apply J11 | apply J12 | apply J13 | apply J14 | apply J15 | apply J16 | apply J17 | apply J18 | apply J19 | apply J20 | refine J2 ?_) | ((with_reducible apply J21); (· rfl)) | ((with_reducible intro hif); first | (focus (cases hif; done)) | (simp only [JH] at hif; try (exfalso; omega)) | (try (exfalso; omega))) | ((first | ((with_reducible apply J22 cL3_ok tab_ok); (· rfl)) | ((with_reducible apply J23 fol cL3_ok tab_ok); (· rfl)) | with_reducible apply J24); (· (simp only [push_cast, ↓JP, Nat.reduceAdd, Nat.reduceEqDiff, Nat.reduceLT, Nat.reduceMul, Nat.reduceLeDiff, reduceCtorEq, reduceIte, ↓JK, ↓JF, cL3, sWhy17, sCont, ls_prS, ls_prS', ls_prS2, ls_i64S, ls_i64S', lsI2, hW, e6, h176, hD0, hkl, inN, inR, Nat.zero_add]; rfl)); (try kernel_rfl); (try (focus (first | exact True.intro | ((try simp only [JS, implies_true, forall_const, shaped, shapedL, kndOf, cL3, sWhy17, sCont, ls_prS, ls_prS', ls_prS2, ls_i64S, ls_i64S', lsI2, hW, e6, h176, hD0, hkl, inN, inR, Nat.zero_add]); (first | exact ⟨fun q _ => rfl, hpok, by omega⟩ | (repeat' (first | assumption | exact True.intro | omega | apply And.intro))); done) | ((first | exact ⟨fun q _ => rfl, hpok, by omega⟩ | (repeat' (first | assumption | exact True.intro | omega | apply And.intro))); done))))) | fail)
        refine At.next (k + 1) ?_ ?_ ?_ rfl ?_ ?_ rfl
        · omega
        · ((repeat' (first | exact trivial | apply And.intro)) <;> (first | rfl | (rw [e19]; rfl)))
        · (repeat' (first | exact trivial | exact .same _ | exact .dead _ | exact .gone rfl | exact .loose | assumption | exact .arr (by assumption) | apply And.intro))
        · (repeat' (first | exact trivial | exact rfl | assumption | apply Stable.ite | apply And.intro | intro _ | (simp only [Stable, StableL, i64S, prS, insS, sndsS, sndS, kS, kaS, ftS, ftsS]; done)))
        · (repeat' (first | exact trivial | exact rfl | assumption | apply Stable.ite | apply And.intro | intro _ | (simp only [Stable, StableL, i64S, prS, insS, sndsS, sndS, kS, kaS, ftS, ftsS]; done)))
      · by_cases hf0 : f < 0
        · have e19 : firstK p F c pp l (k + 1) = (k : Int) := by rw [hf, hbad, hfk, if_pos ⟨hf0, by simp [e0, e6]⟩]
          have hch : (chkR p F c pp l).2 = e := by
            rcases first_spec p F c pp l k with ⟨h1, h2⟩ | ⟨j, h1, h2, h3, h4⟩
            · rw [chkR_some hkl (by rw [hbad]; simp [e0, e6]) h2]; exact he
            · omega
          rw [hfk]
          repeat' (first | with_reducible (first | apply J1 | apply J3 | apply J4 | apply J5 | apply J6 | apply J7 | apply J8 | apply J9 | apply J10 | apply J11 | apply J12 | apply J13 | apply J14 | apply J15 | apply J16 | apply J17 | apply J18 | apply J19 | apply J20 | refine J2 ?_) | ((with_reducible apply J21); (· rfl)) | ((with_reducible intro hif); first | (focus (cases hif; done)) | (simp only [JH] at hif; try (exfalso; omega)) | (try (exfalso; omega))) | ((first | ((with_reducible apply J22 cL3_ok tab_ok); (· rfl)) | ((with_reducible apply J23 fol cL3_ok tab_ok); (· rfl)) | with_reducible apply J24); (· (simp only [push_cast, ↓JP, Nat.reduceAdd, Nat.reduceEqDiff, Nat.reduceLT, Nat.reduceMul, Nat.reduceLeDiff, reduceCtorEq, reduceIte, ↓JK, ↓JF, cL3, sWhy17, sCont, ls_prS, ls_prS', ls_prS2, ls_i64S, ls_i64S', lsI2, hW, e0, e6, hD0, hf0, hch, hkl, inN, inR, Nat.zero_add, eq_self]; rfl)); (try kernel_rfl); (try (focus (first | exact True.intro | ((try simp only [JS, implies_true, forall_const, shaped, shapedL, kndOf, cL3, sWhy17, sCont, ls_prS, ls_prS', ls_prS2, ls_i64S, ls_i64S', lsI2, hW, e0, e6, hD0, hf0, hch, hkl, inN, inR, Nat.zero_add, eq_self]); (first | exact ⟨fun q _ => rfl, hpok, by omega⟩ | (repeat' (first | assumption | exact True.intro | omega | apply And.intro))); done) | ((first | exact ⟨fun q _ => rfl, hpok, by omega⟩ | (repeat' (first | assumption | exact True.intro | omega | apply And.intro))); done))))) | fail)
          refine At.nextPick [0, 1, 2, 3, 4, 5, 6, 7, 8, 9] (k + 1) ?_ rfl rfl rfl ?_ rfl ?_ ?_ ?_ rfl
          · omega
          · (repeat' (first | exact trivial | exact .inl rfl | exact .inr (.same _) | exact .inr .loose | exact .inr (.arr (by assumption)) | apply And.intro))
          · (repeat' (first | exact trivial | exact rfl | assumption | apply Stable.ite | apply And.intro | intro _ | (simp only [Stable, StableL, i64S, prS, insS, sndsS, sndS, kS, kaS, ftS, ftsS]; done)))
          · (repeat' (first | exact trivial | exact ⟨_, rfl, fun β => rfl⟩ | apply And.intro | exact ⟨_, rfl, fun β => by first | (rw [e19]; rfl) | (rw [hch]; rfl)⟩))
          · (repeat' (first | exact trivial | exact rfl | assumption | apply Stable.ite | apply And.intro | intro _ | (simp only [Stable, StableL, i64S, prS, insS, sndsS, sndS, kS, kaS, ftS, ftsS]; done)))
        · have e19 : firstK p F c pp l (k + 1) = f := by rw [hf, hfk, if_neg (fun h => hf0 h.1)]
          rw [hfk]
          repeat' (first | with_reducible (first | apply J1 | apply J3 | apply J4 | apply J5 | apply J6 | apply J7 | apply J8 | apply J9 | apply J10 | apply J11 | apply J12 | apply J13 | apply J14 | apply J15 | apply J16 | apply J17 | apply J18 | apply J19 | apply J20 | refine J2 ?_) | ((with_reducible apply J21); (· rfl)) | ((with_reducible intro hif); first | (focus (cases hif; done)) | (simp only [JH] at hif; try (exfalso; omega)) | (try (exfalso; omega))) | ((first | ((with_reducible apply J22 cL3_ok tab_ok); (· rfl)) | ((with_reducible apply J23 fol cL3_ok tab_ok); (· rfl)) | with_reducible apply J24); (· (simp only [push_cast, ↓JP, Nat.reduceAdd, Nat.reduceEqDiff, Nat.reduceLT, Nat.reduceMul, Nat.reduceLeDiff, reduceCtorEq, reduceIte, ↓JK, ↓JF, cL3, sWhy17, sCont, ls_prS, ls_prS', ls_prS2, ls_i64S, ls_i64S', lsI2, hW, e0, e6, hD0, hf0, hkl, inN, inR, Nat.zero_add]; rfl)); (try kernel_rfl); (try (focus (first | exact True.intro | ((try simp only [JS, implies_true, forall_const, shaped, shapedL, kndOf, cL3, sWhy17, sCont, ls_prS, ls_prS', ls_prS2, ls_i64S, ls_i64S', lsI2, hW, e0, e6, hD0, hf0, hkl, inN, inR, Nat.zero_add]); (first | exact ⟨fun q _ => rfl, hpok, by omega⟩ | (repeat' (first | assumption | exact True.intro | omega | apply And.intro))); done) | ((first | exact ⟨fun q _ => rfl, hpok, by omega⟩ | (repeat' (first | assumption | exact True.intro | omega | apply And.intro))); done))))) | fail)
          refine At.next (k + 1) ?_ ?_ ?_ rfl ?_ ?_ rfl
          · omega
          · ((repeat' (first | exact trivial | apply And.intro)) <;> (first | rfl | (rw [e19]; rfl)))
          · (repeat' (first | exact trivial | exact .same _ | exact .dead _ | exact .gone rfl | exact .loose | assumption | exact .arr (by assumption) | apply And.intro))
          · (repeat' (first | exact trivial | exact rfl | assumption | apply Stable.ite | apply And.intro | intro _ | (simp only [Stable, StableL, i64S, prS, insS, sndsS, sndS, kS, kaS, ftS, ftsS]; done)))
          · (repeat' (first | exact trivial | exact rfl | assumption | apply Stable.ite | apply And.intro | intro _ | (simp only [Stable, StableL, i64S, prS, insS, sndsS, sndS, kS, kaS, ftS, ftsS]; done)))
  obtain rfl : k = p.length := by omega
  obtain ⟨q1, q2⟩ := first_chk p F c pp l
  obtain ⟨f, hfk⟩ : ∃ f, firstK p F c pp l p.length = f := ⟨_, rfl⟩
  rw [hfk] at q1 q2
  rw [hfk]
  by_cases hf0 : 0 ≤ f
  · repeat' (first | with_reducible (first | apply J1 | apply J3 | apply J4 | apply J5 | apply J6 | apply J7 | apply J8 | apply J9 | apply J10 | apply J11 | apply J12 | apply J13 | apply J14 | apply J15 | apply J16 | apply J17 | apply J18 | apply J19 | apply J20 | refine J2 ?_) | ((with_reducible apply J21); (· rfl)) | ((with_reducible intro hif); first | (focus (cases hif; done)) | (simp only [JH] at hif; try (exfalso; omega)) | (try (exfalso; omega))) | ((first | ((with_reducible apply J22 cL3_ok tab_ok); (· rfl)) | ((with_reducible apply J23 fol cL3_ok tab_ok); (· rfl)) | with_reducible apply J24); (· (simp only [push_cast, ↓JP, Nat.reduceAdd, Nat.reduceEqDiff, Nat.reduceLT, Nat.reduceMul, Nat.reduceLeDiff, reduceCtorEq, reduceIte, ↓JK, ↓JF, q1, hf0, inN, inR, eq_self]; rfl)); (try kernel_rfl); (try (focus (first | exact True.intro | ((try simp only [JS, implies_true, forall_const, shaped, shapedL, kndOf, q1, hf0, inN, inR, eq_self]); (repeat' (first | assumption | exact True.intro | omega | apply And.intro)); done) | ((repeat' (first | assumption | exact True.intro | omega | apply And.intro)); done))))) | fail)
    apply At.endsRet tab_ok (fn := Try.f14) (rs := [.tmp 6]) Anc.refl hro (Nat.le_of_ble_eq_true rfl) rfl
    · simp only [push_cast, ↓JP, Nat.reduceAdd, Nat.reduceEqDiff, Nat.reduceLT, Nat.reduceMul, Nat.reduceLeDiff, reduceCtorEq, reduceIte, ↓JK, ↓JF, resV, resV1]; rfl
    · (first | trivial | (simp only [and_self]; done))
    · (repeat' (first | exact trivial | exact .same _ | exact .dead _ | exact .gone rfl | exact .loose | assumption | exact .arr (by assumption) | apply And.intro))
    · rfl
    · (repeat' (first | exact trivial | exact rfl | assumption | apply Stable.ite | apply And.intro | intro _ | (simp only [Stable, StableL, i64S, prS, insS, sndsS, sndS, kS, kaS, ftS, ftsS]; done)))
    · (repeat' (first | exact trivial | exact .inl rfl | exact .inr rfl | exact rfl | apply And.intro))
    · exact fun β => rfl
    · (repeat' (first | exact trivial | exact rfl | assumption | apply Stable.ite | apply And.intro | intro _ | (simp only [Stable, StableL, i64S, prS, insS, sndsS, sndS, kS, kaS, ftS, ftsS]; done)))
  · have q3 : (chkR p F c pp l).2 = 0 := by
      rcases q2 with h | h
      · exact absurd h hf0
      · exact h
    repeat' (first | with_reducible (first | apply J1 | apply J3 | apply J4 | apply J5 | apply J6 | apply J7 | apply J8 | apply J9 | apply J10 | apply J11 | apply J12 | apply J13 | apply J14 | apply J15 | apply J16 | apply J17 | apply J18 | apply J19 | apply J20 | refine J2 ?_) | ((with_reducible apply J21); (· rfl)) | ((with_reducible intro hif); first | (focus (cases hif; done)) | (simp only [JH] at hif; try (exfalso; omega)) | (try (exfalso; omega))) | ((first | ((with_reducible apply J22 cL3_ok tab_ok); (· rfl)) | ((with_reducible apply J23 fol cL3_ok tab_ok); (· rfl)) | with_reducible apply J24); (· (simp only [push_cast, ↓JP, Nat.reduceAdd, Nat.reduceEqDiff, Nat.reduceLT, Nat.reduceMul, Nat.reduceLeDiff, reduceCtorEq, reduceIte, ↓JK, ↓JF, q1, q3, hf0, inN, inR, eq_self]; rfl)); (try kernel_rfl); (try (focus (first | exact True.intro | ((try simp only [JS, implies_true, forall_const, shaped, shapedL, kndOf, q1, q3, hf0, inN, inR, eq_self]); (repeat' (first | assumption | exact True.intro | omega | apply And.intro)); done) | ((repeat' (first | assumption | exact True.intro | omega | apply And.intro)); done))))) | fail)
    apply At.endsRet tab_ok (fn := Try.f14) (rs := [.tmp 6]) Anc.refl hro (Nat.le_of_ble_eq_true rfl) rfl
    · simp only [push_cast, ↓JP, Nat.reduceAdd, Nat.reduceEqDiff, Nat.reduceLT, Nat.reduceMul, Nat.reduceLeDiff, reduceCtorEq, reduceIte, ↓JK, ↓JF, resV, resV1]; rfl
    · (first | trivial | (simp only [and_self]; done))
    · (repeat' (first | exact trivial | exact .same _ | exact .dead _ | exact .gone rfl | exact .loose | assumption | exact .arr (by assumption) | apply And.intro))
    · rfl
    · (repeat' (first | exact trivial | exact rfl | assumption | apply Stable.ite | apply And.intro | intro _ | (simp only [Stable, StableL, i64S, prS, insS, sndsS, sndS, kS, kaS, ftS, ftsS]; done)))
    · (repeat' (first | exact trivial | exact .inl rfl | exact .inr rfl | exact rfl | apply And.intro))
    · exact fun β => rfl
    · (repeat' (first | exact trivial | exact rfl | assumption | apply Stable.ite | apply And.intro | intro _ | (simp only [Stable, StableL, i64S, prS, insS, sndsS, sndS, kS, kaS, ftS, ftsS]; done)))
end Go.Proofs.Ytmljmabbopkpiaa.Vm
end
