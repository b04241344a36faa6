import Derived.Test.YtmljmabbopkpiaaG5
import Derived.Test.YtmljmabbopkpiaaG7
import Derived.Test.YtmljmabbopkpiaaG8
import Derived.Test.YtmljmabbopkpiaaG11
import Derived.Test.YtmljmabbopkpiaaG12
import Derived.StillTailTactics
import Derived.Deep.QuietTactic
import Derived.Deep.RegionLaw
import Derived.Deep.DrawnRows
import Derived.Laws.EntriesVeiled
import Derived.BigQuiet
import Derived.WalkSpells
import Derived.Handy
import Derived.Deep.DeepCutAuto
section
/- fermatalaw14.Made: the program that small numbers make, and that it is right. -/
namespace Go.Proofs.Ytmljmabbopkpiaa
open Go.RowKit
set_option linter.unusedVariables false
set_option linter.unusedSimpArgs false

def one14 (x : Ins) (M : Int) : Ins := (fold14 x M (formS (formC (op14 x.op))) (formS (formC (op14 x.op))).size).2
theorem formC_cases (op : Int) : formC op = 0 ∨ formC op = 1 ∨ formC op = 2 ∨ formC op = 3 ∨ formC op = 4 ∨ formC op = 5 ∨ formC op = 6 ∨ formC op = 7 := by
  unfold formC; repeat (first | (split; · simp) | simp)
theorem formS_size (k : Nat) : (formS k).size ≤ 100 := by
  unfold formS; split <;> decide
theorem formS_asc (k : Nat) : ∀ p (h : p < (formS k).size), ((formS k)[p]'h).toNat < 128 := by
  have key : ∀ k, k < 8 → ∀ p (h : p < (formS k).size), ((formS k)[p]'h).toNat < 128 := by decide
  rcases Nat.lt_or_ge k 8 with h | h
  · exact key k h
  · intro p hp
    have : formS k = ⟨#[]⟩ := by
      unfold formS
      split <;> first | omega | rfl
    rw [this] at hp
    exact absurd hp (Nat.not_lt_zero p)
theorem one14_c (x : Ins) (hx : x.ok) (n : Int) (hn : 1 ≤ n ∧ n ≤ 1000000) (w : World) :
    Calls Try.prog 54 #[x.v, .int .i64 n] w fun e w' => e = .returned (one14 x n).v ∧ Below w.heap.size w w' := by
  have hb := op14_bd x.op
  have hf := fun w => form_c (op14 x.op) (by omega) w
  have h0 : (formC (op14 x.op) != 0) = true := by simpa using hb.2.2
  rw [h0] at hf
  exact one14_w x hx n hn _ (formS_size _) (formS_asc _) w hf
/-- by the form of its Op -/
theorem one14_eq (x : Ins) (M : Int) : one14 x M = match formC (op14 x.op) with
    | 1 => ⟨op14 x.op, x.a % 8, x.b % 8, x.c % 8, 0⟩
    | 3 => ⟨op14 x.op, x.a % 8, 0, 0, x.n⟩
    | 4 => ⟨op14 x.op, x.a % 8, x.b % 8, 0, 0⟩
    | 5 => ⟨op14 x.op, x.a % 8, x.b % 8, 0, IntKind.u64.wrap x.n % 16⟩
    | 6 => ⟨op14 x.op, 0, 0, 0, IntKind.u64.wrap x.n % M⟩
    | 7 => ⟨op14 x.op, x.a % 8, 0, 0, IntKind.u64.wrap x.n % M⟩
    | _ => ⟨op14 x.op, 0, 0, 0, 0⟩ := by
  unfold one14
  rcases formC_cases (op14 x.op) with h | h | h | h | h | h | h | h <;> (rw [h]; rfl)
theorem one14_forms (x : Ins) (M : Int) : (formC (op14 x.op) = 1 ∧ one14 x M = ⟨op14 x.op, x.a % 8, x.b % 8, x.c % 8, 0⟩) ∨ (formC (op14 x.op) = 2 ∧ one14 x M = ⟨op14 x.op, 0, 0, 0, 0⟩) ∨
    (formC (op14 x.op) = 3 ∧ one14 x M = ⟨op14 x.op, x.a % 8, 0, 0, x.n⟩) ∨ (formC (op14 x.op) = 4 ∧ one14 x M = ⟨op14 x.op, x.a % 8, x.b % 8, 0, 0⟩) ∨
    (formC (op14 x.op) = 5 ∧ one14 x M = ⟨op14 x.op, x.a % 8, x.b % 8, 0, IntKind.u64.wrap x.n % 16⟩) ∨ (formC (op14 x.op) = 6 ∧ one14 x M = ⟨op14 x.op, 0, 0, 0, IntKind.u64.wrap x.n % M⟩) ∨
    (formC (op14 x.op) = 7 ∧ one14 x M = ⟨op14 x.op, x.a % 8, 0, 0, IntKind.u64.wrap x.n % M⟩) := by
  have he := one14_eq x M
  rcases formC_cases (op14 x.op) with h | h | h | h | h | h | h | h
  · exact absurd h (op14_bd x.op).2.2
  · exact .inl ⟨h, by rw [he, h]; rfl⟩
  · exact .inr (.inl ⟨h, by rw [he, h]; rfl⟩)
  · exact .inr (.inr (.inl ⟨h, by rw [he, h]; rfl⟩))
  · exact .inr (.inr (.inr (.inl ⟨h, by rw [he, h]; rfl⟩)))
  · exact .inr (.inr (.inr (.inr (.inl ⟨h, by rw [he, h]; rfl⟩))))
  · exact .inr (.inr (.inr (.inr (.inr (.inl ⟨h, by rw [he, h]; rfl⟩)))))
  · exact .inr (.inr (.inr (.inr (.inr (.inr ⟨h, by rw [he, h]; rfl⟩)))))
theorem one14_op (x : Ins) (M : Int) : (one14 x M).op = op14 x.op := by
  rcases one14_forms x M with ⟨_, h⟩ | ⟨_, h⟩ | ⟨_, h⟩ | ⟨_, h⟩ | ⟨_, h⟩ | ⟨_, h⟩ | ⟨_, h⟩ <;> rw [h]
theorem ok_mk {op a b c n : Int} (h : (0 ≤ op ∧ op ≤ 255) ∧ (0 ≤ a ∧ a ≤ 255) ∧ (0 ≤ b ∧ b ≤ 255) ∧ (0 ≤ c ∧ c ≤ 255) ∧ (-9223372036854775808 ≤ n ∧ n ≤ 9223372036854775807)) : (⟨op, a, b, c, n⟩ : Ins).ok :=
  ⟨h.1.1, h.1.2, h.2.1.1, h.2.1.2, h.2.2.1.1, h.2.2.1.2, h.2.2.2.1.1, h.2.2.2.1.2, h.2.2.2.2.1, h.2.2.2.2.2⟩
theorem one14_ok (x : Ins) (hx : x.ok) (M : Int) (hM : 1 ≤ M ∧ M ≤ 1000000) : (one14 x M).ok := by
  have hb := op14_bd x.op
  have hu := u64_bd4 x.n
  have hm := Int.emod_nonneg (IntKind.u64.wrap x.n) (b := M) (by omega)
  have hm2 := Int.emod_lt_of_pos (IntKind.u64.wrap x.n) (b := M) (by omega)
  obtain ⟨-, -, -, -, -, -, -, -, n0, n1⟩ := hx
  rcases one14_forms x M with ⟨_, h⟩ | ⟨_, h⟩ | ⟨_, h⟩ | ⟨_, h⟩ | ⟨_, h⟩ | ⟨_, h⟩ | ⟨_, h⟩ <;> (rw [h]; exact ok_mk (by omega))
theorem one14_one (x : Ins) (M : Int) (hM : 1 ≤ M ∧ M ≤ 256) : oneE (one14 x M) = 0 := by
  have hb := op14_bd x.op
  have hu := u64_bd4 x.n
  have hm := Int.emod_nonneg (IntKind.u64.wrap x.n) (b := M) (by omega)
  have hm2 := Int.emod_lt_of_pos (IntKind.u64.wrap x.n) (b := M) (by omega)
  unfold oneE
  rw [one14_op, if_neg hb.2.2]
  rcases one14_forms x M with ⟨h1, h⟩ | ⟨h1, h⟩ | ⟨h1, h⟩ | ⟨h1, h⟩ | ⟨h1, h⟩ | ⟨h1, h⟩ | ⟨h1, h⟩ <;> rw [h1, h]
  · exact oneK_pos (show _ ∧ _ ∧ _ ∧ _ by dsimp only; omega)
  · exact oneK_pos (show _ ∧ _ ∧ _ ∧ _ by dsimp only; omega)
  · exact oneK_pos (show _ ∧ _ ∧ _ by dsimp only; omega)
  · exact oneK_pos (show _ ∧ _ ∧ _ ∧ _ by dsimp only; omega)
  · exact oneK_pos (show _ ∧ _ ∧ _ ∧ _ ∧ _ by dsimp only; omega)
  · exact oneK_pos (show _ ∧ _ ∧ _ ∧ _ ∧ _ by dsimp only; omega)
  · exact oneK_pos (show _ ∧ _ ∧ _ ∧ _ ∧ _ by dsimp only; omega)
theorem one14_bad (x : Ins) (M : Int) (hM : 1 ≤ M ∧ M ≤ 256) : badAt M (one14 x M) = 0 := by
  have h1 := one14_one x M hM
  have hb := op14_bd x.op
  have hm2 := Int.emod_lt_of_pos (IntKind.u64.wrap x.n) (b := M) (by omega)
  unfold badAt
  rw [if_neg (by simp [h1])]
  by_cases ht : targB (one14 x M) = true
  · rw [if_neg]
    rintro ⟨-, h2⟩
    have h3 : targV (one14 x M) = (one14 x M).n := by unfold targV; rw [if_pos ht]
    rw [h3] at h2
    unfold targB at ht
    rw [one14_op] at ht
    simp [h1] at ht
    have hc : formC (op14 x.op) = 6 ∨ formC (op14 x.op) = 7 := by
      rcases ht with h | h | h <;> rw [h] <;> decide
    rcases one14_forms x M with ⟨h5, h⟩ | ⟨h5, h⟩ | ⟨h5, h⟩ | ⟨h5, h⟩ | ⟨h5, h⟩ | ⟨h5, h⟩ | ⟨h5, h⟩ <;> first | omega | (rw [h] at h2; dsimp only at h2; omega)
  · rw [if_neg (by simp [ht])]
def made14 (xs : List Ins) : List Ins := (xs.take 40).map (fun x => one14 x ((xs.take 40).length + 1 : Nat)) ++ [haltI]
theorem made14_len (xs : List Ins) : (made14 xs).length = (xs.take 40).length + 1 := by simp [made14]
theorem made14_le (xs : List Ins) : 1 ≤ (made14 xs).length ∧ (made14 xs).length ≤ 41 := by
  rw [made14_len, List.length_take]; omega
theorem made14_ok (xs : List Ins) (hx : ∀ x ∈ xs, x.ok) : ∀ i ∈ made14 xs, i.ok := by
  intro i hi
  unfold made14 at hi
  rw [List.mem_append, List.mem_map] at hi
  rcases hi with ⟨x, h, rfl⟩ | h
  · exact one14_ok x (hx x (List.mem_of_mem_take h)) _ (by rw [List.length_take]; omega)
  · rw [List.mem_singleton] at h
    rw [h]; exact haltI_ok
theorem made14_bad (xs : List Ins) : ∀ i ∈ made14 xs, badAt (made14 xs).length i = 0 := by
  intro i hi
  rw [made14_len]
  unfold made14 at hi
  rw [List.mem_append, List.mem_map] at hi
  rcases hi with ⟨x, h, rfl⟩ | h
  · exact one14_bad x _ (by rw [List.length_take]; omega)
  · rw [List.mem_singleton] at h
    rw [h]
    unfold badAt
    rw [if_neg (by decide), if_neg (fun h => absurd h.1 (by decide))]
theorem made14_right (xs : List Ins) : (checkI (made14 xs)).2 = 0 := by
  have hl := made14_le xs
  unfold checkI
  rw [if_neg (by omega), if_neg (by omega)]
  have hK := checkK_none (p := made14 xs) (fun k hk y hy => made14_bad xs y (List.mem_of_getElem? hy))
  rw [hK]
  have : (made14 xs).getD ((made14 xs).length - 1) ⟨0, 0, 0, 0, 0⟩ = haltI := by
    rw [made14_len]
    simp [made14, List.getD]
  rw [this, if_neg (by decide)]
theorem reads_new5 (X : World) (t : TypeId) (a b c d e : Value) (gg : Nat) (h : gg = X.heap.size) : Reads (X.alloc (.cells #[a, b, c, d, e] t)) (gg + 1) 5 (some ⟨gg, 0, none⟩) 1 [a, b, c, d, e] := by
  subst h
  refine ⟨rfl, fun _ => ⟨_, rfl, Nat.lt_succ_self _, fun j u hu => ?_⟩⟩
  rw [Addr.add_lit, cell_of_row _ _ _ _ _ _ (heap_alloc_new X _), Nat.zero_add]
  simpa using hu
set_option maxRecDepth 100000 in
set_option maxHeartbeats 4000000 in
theorem made14_c (xs : List Ins) (hx : ∀ x ∈ xs, x.ok) (A : Option Addr) (n c : Nat) (w : World) (hA : Reads w w.heap.size 5 A n (insV xs)) (hc : n ≤ c) (hcm : c ≤ 9223372036854775807) :
    Calls Try.prog 19 #[.slice A n c] w fun e w' => ∃ P, e = .returned P ∧ w'.ownsRow w.heap.size 28 5 P (made14 xs).length (insV (made14 xs)) ∧ Below w.heap.size w w' := by
  have hn := hA.ins_len
  obtain ⟨m, hm⟩ : ∃ m, m = min n 40 := ⟨_, rfl⟩
  have hmn : m ≤ n := by omega
  have hm40 : m ≤ 40 := by omega
  have hml : (xs.take 40).length = m := by rw [List.length_take]; omega
  have hmin : ∀ W : World, (Builtin.min_ #[3, 3] 3 #[.int .i64 (n : Int), .int .i64 40]).run Try.prog W = .ok (.int .i64 (m : Int)) W := fun W => min_i64 _ _ _ _ 0 _ (by split <;> omega) W
  have hm0 : (0 : Int) ≤ (m : Int) := by omega
  have hmc : (m : Int) ≤ (c : Int) := by omega
  obtain ⟨iS, hi, hz0, hz1, hz2⟩ := info_parts infoIns
  have HL := Lib.hid hml
  clear hm hml
  go_enter Try.func19, Try.ntmps19
  go_wp2
  go_loopw [3, 13] (fun s k wr => ∃ (j : Nat) (D : Option Addr) (f : Nat), k = .int .i64 j ∧ s = .slice D j f ∧ j ≤ m ∧ wr.ownsRow w.heap.size 28 5 (.slice D j f) j (insV ((xs.take j).map fun x => one14 x (m + 1 : Nat))) ∧ Below w.heap.size w wr) (fun _ k _ => m - (intOf k).toNat)
  case atStart => exact ⟨0, none, 0, rfl, rfl, by omega, World.ownsRow_nil _ _ _ _, Below.refl _ _⟩
  case round =>
    obtain ⟨j, D, f, rfl, rfl, hj, ho, hb⟩ := hrel
    by_cases hlt : j < m
    · obtain ⟨ab, off, x, rfl, hab, hxj, c0, c1, c2, c3, c4⟩ := (hA.below hb).ins_at (show j < n by omega)
      have hxo : x.ok := hx x (List.mem_of_getElem? hxj)
      have hM : 1 ≤ ((m : Int) + 1) ∧ ((m : Int) + 1) ≤ 1000000 := by omega
      have w1 : wrap64 ((m : Int) + 1) = (m : Int) + 1 := by unfold wrap64; omega
      have OC := Lib.hid (fun W => one14_c x hxo ((m : Int) + 1) hM W)
      obtain ⟨y, hy⟩ : ∃ y, y = one14 x ((m : Int) + 1) := ⟨_, rfl⟩
      rw [← hy] at OC
      have hyo : y.ok := hy ▸ one14_ok x hxo _ hM
      have hstep : insV (((xs.take j).map fun x => one14 x (m + 1 : Nat))) ++ y.cells = insV ((xs.take (j + 1)).map fun x => one14 x (m + 1 : Nat)) := by
        rw [List.take_add_one, hxj, hy]
        simp [insV]
      have hab2 : ab < wr.heap.size := by have := hb.size; omega
      have HO := Lib.hid (And.intro ho (And.intro hstep hb))
      obtain ⟨x0, xa, xb, xc, xn⟩ := x
      obtain ⟨y0, ya, yb, yc, yn⟩ := y
      unfold Ins.v at OC
      dsimp only at OC c0 c1 c2 c3 c4
      clear ho hstep hb hA hxj hy hxo hyo
      go_wp2_with fail
      go_at_call 54
      refine (OC.out _).mono ?_
      rintro e W1 ⟨rfl, hb1⟩
      have hB1 : Below wr.heap.size wr W1 := ((Below.refl _ wr).alloc (Nat.le_refl _) _).trans (hb1.mono (by simp))
      have ho1 : W1.ownsRow w.heap.size 28 5 (.slice D j f) j (insV ((xs.take j).map fun x => one14 x (m + 1 : Nat))) := ownsRow_keep HO.out.1 fun k _ hk => hB1.block k hk
      have hb2 : Below w.heap.size w W1 := HO.out.2.2.trans (hB1.mono HO.out.2.2.size)
      have HQ := Lib.hid (And.intro ho1 hb2)
      have hrd : Reads (W1.alloc (.cells #[.int .u8 y0, .int .u8 ya, .int .u8 yb, .int .u8 yc, .int .i64 yn] 28)) (W1.heap.size + 1) 5 (some ⟨W1.heap.size, 0, none⟩) 1 [.int .u8 y0, .int .u8 ya, .int .u8 yb, .int .u8 yc, .int .i64 yn] := reads_new5 _ _ _ _ _ _ _ _ rfl
      have hones : ∀ u ∈ [Value.int .u8 y0, .int .u8 ya, .int .u8 yb, .int .u8 yc, .int .i64 yn], u.oneCell' = true := by
        intro u hu; simp at hu; rcases hu with rfl | rfl | rfl | rfl | rfl <;> rfl
      clear hb1 hB1 ho1 hb2
      go_wp2_with (at_builtin
                   refine wpList_append_any _ rfl (.tmp 17) (.tmp 23) _ rfl w.heap.size 28 iS _ 5 16 Try.underlying25 hi hz0 hz1 hz2 rfl (by omega) (.slice D j f) j _ rfl
                     (own_alloc HQ.out.1 _) (W1.heap.size + 1) (some ⟨W1.heap.size, 0, none⟩) 1 1 _ rfl hrd hones (by unfold maxLen; omega) (by omega) (by have := HQ.out.2.size; simp; omega) ?_
                   intro v1 w1 hown1 hg1 hat1)
      obtain ⟨D1, f1, rfl⟩ := own_slice hown1
      have hf2 := HO.out.2.1
      have hn2 : insV ((xs.take j).map fun x => one14 x (m + 1 : Nat)) ++ [.int .u8 y0, .int .u8 ya, .int .u8 yb, .int .u8 yc, .int .i64 yn] = insV ((xs.take (j + 1)).map fun x => one14 x (m + 1 : Nat)) := hf2
      rw [hn2] at hown1
      go_roundw
      case rel => exact ⟨j + 1, D1, f1, by go_num, rfl, by omega, hown1, (HQ.out.2.alloc HQ.out.2.size _).grown hg1 (Nat.le_trans HQ.out.2.size (by simp)) (fun k hk => own_base HQ.out.1 k hk)⟩
      case measure => simp [intOf]; omega
    · have hjm : j = m := by omega
      subst hjm
      have hfin : insV ((xs.take j).map fun x => one14 x (j + 1 : Nat)) ++ haltI.cells = insV (made14 xs) := by
        have ht : xs.take j = xs.take 40 := by
          have := HL.out
          rw [List.length_take] at this
          rcases Nat.le_total xs.length 40 with h | h
          · rw [List.take_of_length_le (by omega), List.take_of_length_le h]
          · rw [show j = 40 by omega]
        unfold made14
        rw [HL.out, ht]
        simp [insV]
      have hlen : (made14 xs).length = j + 1 := by rw [made14_len, HL.out]
      have HQ := Lib.hid (And.intro ho (And.intro hb (And.intro hfin hlen)))
      have hrd : Reads (wr.alloc (.cells #[.int .u8 1, .int .u8 0, .int .u8 0, .int .u8 0, .int .i64 0] 28)) (wr.heap.size + 1) 5 (some ⟨wr.heap.size, 0, none⟩) 1 [.int .u8 1, .int .u8 0, .int .u8 0, .int .u8 0, .int .i64 0] := reads_new5 _ _ _ _ _ _ _ _ rfl
      have hones : ∀ u ∈ [Value.int .u8 1, .int .u8 0, .int .u8 0, .int .u8 0, .int .i64 0], u.oneCell' = true := by
        intro u hu; simp at hu; rcases hu with rfl | rfl | rfl | rfl | rfl <;> rfl
      clear ho hb hfin hlen hA
      go_wp2_with (at_builtin
                   refine wpList_append_any _ rfl (.tmp 26) (.tmp 28) _ rfl w.heap.size 28 iS _ 5 16 Try.underlying25 hi hz0 hz1 hz2 rfl (by omega) (.slice D j f) j _ rfl
                     (own_alloc HQ.out.1 _) (wr.heap.size + 1) (some ⟨wr.heap.size, 0, none⟩) 1 1 _ rfl hrd hones (by unfold maxLen; omega) (by omega) (by have := HQ.out.2.1.size; simp; omega) ?_
                   intro v1 w1 hown1 hg1 hat1)
      obtain ⟨h1, h2, h3, h4⟩ := HQ.out
      have hn2 : insV ((xs.take j).map fun x => one14 x (j + 1 : Nat)) ++ [.int .u8 1, .int .u8 0, .int .u8 0, .int .u8 0, .int .i64 0] = insV (made14 xs) := h3
      rw [hn2] at hown1
      go_ret
      rw [h4]
      exact ⟨_, rfl, hown1, (h2.alloc h2.size _).grown hg1 (Nat.le_trans h2.size (by simp)) (fun k hk => own_base h1 k hk)⟩
end Go.Proofs.Ytmljmabbopkpiaa
end

section
/- fermatalaw14.Made, for walks over symbolic values. -/
namespace Go.Proofs.Ytmljmabbopkpiaa.Vm
open Go.RowKit
set_option linter.unusedVariables false
set_option linter.unusedSimpArgs false
set_option maxRecDepth 100000
def sMd14 : Spec := fun args h m => match args with
  | [.sl z i pa k s n' (some cp)] => match srcV h 5 (.tup []) (.sl z i pa k s n' (some cp)) with
    | some (c, n, f, rd) =>
        some (c ∧ n = n' ∧ (∀ q, q < n → isIns (f q) = true) ∧ (∀ x ∈ ls insOf n f, x.ok) ∧ max n cp ≤ 9223372036854775807, .sl m m [] 5 0 (made14 (ls insOf n f)).length none, rd, [(m, .own 28 (.arr (made14 (ls insOf n f)).length 5 (prS (made14 (ls insOf n f)))) false)])
    | _ => none
  | _ => none
theorem sMd14_ok : CallOk Try.prog 19 sMd14 := by
  refine ⟨named_spec (by kernel_rfl), fun args h m c v rd wr hs hm hc w0 M β h' w R hrd hwr hst => ?_⟩
  unfold sMd14 at hs
  split at hs
  · rename_i z i pa k' s n' cp
    split at hs
    · rename_i c' n f rd' ha
      simp only [Option.some.injEq, Prod.mk.injEq] at hs
      obtain ⟨rfl, rfl, rfl, rfl⟩ := hs
      obtain ⟨hc1, hn, hi, hok, hcp⟩ := hc
      obtain ⟨A, cap, hden, hnc, hr⟩ := reads_src R ha hc1 hrd (by omega)
      rw [elems_ins hi] at hr
      have hcap : cap ≤ 9223372036854775807 := by
        simp only [SV.den, Option.getD_some] at hden
        injection hden with _ _ h3
        omega
      simp only [denL, hden]
      refine (made14_c (ls insOf n f) hok A n cap w hr hnc hcap).mono fun e w' he => ?_
      obtain ⟨p, rfl, ho, hb⟩ := he
      have hmd : h' m = .dead := (hwr _ (.head _)).trans (hm m (Nat.le_refl _))
      obtain ⟨e', R', hv⟩ := (R.below hb).made (f := prS (made14 (ls insOf n f))) hmd ho R.size (elems_prS _) prS_stable (fun g i a' hg hmi hai e => by
        have := R.lt i a' hmi hai
        obtain ⟨_, ⟨rfl, _⟩ | ⟨g', cap', cur, rfl, hg', _⟩⟩ := ho
        · cases hg
        · simp [Value.ownBlock] at hg
          omega)
      exact ⟨_, agree_setE hmd, R', stable_new, by rw [hv]⟩
    · cases hs
  · cases hs
end Go.Proofs.Ytmljmabbopkpiaa.Vm
end

section
/- One operation of a region by itself: a conversion between integers of the same size. -/
namespace Go.Proofs.Ytmljmabbopkpiaa.Vm
open Go.RowKit
set_option linter.unusedVariables false
set_option linter.unusedSimpArgs false
set_option maxRecDepth 100000
section
variable {P : Program} {T : Tab} {w0 : World} {M : Nat → Prop} {E : Env} {n0 N n : Nat} {D : List Deferred} {φ : Fr} {L : List HB} {Q : Exit → Act → World → Prop} {ro : Option Nat}
theorem At.conv (hT : TabOk P T) {ops : Array Oper} {k : Nat} {rest : List Nat} {o : Oper} {s t : TypeId} {x : Operand} {d : Tmp} {c : Prop} {v : SV} {k1 k2 : IntKind} {z : Int} {K : TK}
    (ho : ops[k]? = some o) (hop : o.op = .convert s t x) (hdst : o.dst = some d) (hg : o.guard = none) (hdN : Nat.blt d N = true) (hs : T.ty s = some K) (ht : T.ty t = some (.int k2)) (hx : ev φ x = some (c, v)) (hc : c) (hv : ∀ β, v.den β = .int k1 z)
    (h : At w0 M E n0 N D ((d, .int k2 (k2.wrap z)) :: φ) L (wpOpsIn (FR ro) n P ops Q rest)) : At w0 M E n0 N D φ L (wpOpsIn (FR ro) n P ops Q (k :: rest)) := fun a w hS => by
  obtain ⟨⟨β, hE, R, F⟩, hbn, hsz, hdf⟩ := id hS
  have h2 := (ev_spec F R.nil R.nil0 hx hc).2
  obtain ⟨i1, d1, _, _, hd1, _⟩ := hT.ty s _ hs
  obtain ⟨i2, d2, _, _, hd2, hf2⟩ := hT.ty t _ ht
  have hf2 : d2 = .int k2 := hf2
  subst hf2
  have hrun : (execOp a.eval o).run P w = .ok (.value (.int k2 (k2.wrap z))) w := by
    obtain ⟨dst, op, ty, pos, after, gd⟩ := o
    simp only at hop
    subst hop
    have : (convert s t (.int k1 z)).run P w = .ok (.int k2 (k2.wrap z)) w := by
      simp [convert, run_underlying hd1, run_underlying hd2, Conv.intToInt]
    simp [execOp, h2, hv, this]
  have hw : Region.wanted o (yielded ops a.tmps) = true := by
    obtain ⟨dst, op, ty, pos, after, gd⟩ := o
    simp only at hg
    subst hg
    rfl
  simp only [wpOpsIn, ho, hw, if_true]
  refine ⟨fun _ _ => trivial, ?_⟩
  have hsm := Oper.semAt_eq (FR ro).round a.eval o (fun c e => by rw [hop] at e; cases e)
  rw [hsm, hrun, Oper.uponIn_value]
  refine h _ _ ⟨⟨β, hE, R, fun u y hu => ?_⟩, hbn, by rw [put_size]; exact hsz, by rw [put_defers]; exact hdf⟩
  rw [put_get hsz (fun t' e => by rw [hdst] at e; injection e with e; subst e; exact Nat.le_of_ble_eq_true hdN), hdst]
  simp only [look] at hu
  cases hq : Nat.beq d u with
  | true =>
    rw [hq] at hu
    have := Nat.eq_of_beq_eq_true hq
    subst this
    injection hu with hu
    subst hu
    exact ⟨trivial, by simp [SV.den]⟩
  | false =>
    rw [hq] at hu
    have hne : d ≠ u := fun e => by rw [e] at hq; simp at hq
    obtain ⟨k1, k2⟩ := F u y hu
    exact ⟨k1, by rw [if_neg (by simp [hne]), k2]⟩
end
end Go.Proofs.Ytmljmabbopkpiaa.Vm
end

section
/- The least limits of a program: no cell and no port is missing, and with one less, one is. -/
namespace Go.Proofs.Ytmljmabbopkpiaa.Vm
set_option linter.unusedVariables false
set_option linter.unusedSimpArgs false
section
variable {P : List Ins} {F : List Ft}
theorem least_ge (P : List Ins) (F : List Ft) : ∀ k i, i < k → (getF F i).reached = true → ((P.getD i ⟨0, 0, 0, 0, 0⟩).op = 8 → (P.getD i ⟨0, 0, 0, 0, 0⟩).n + 1 ≤ (leastK P F k).2) ∧ ((P.getD i ⟨0, 0, 0, 0, 0⟩).op = 5 ∨ (P.getD i ⟨0, 0, 0, 0, 0⟩).op = 6 → lstN (getF F i) (P.getD i ⟨0, 0, 0, 0, 0⟩) + 1 ≤ (leastK P F k).1)
  | 0, i, h, _ => absurd h (Nat.not_lt_zero i)
  | k + 1, i, h, hr => by
    have mono : (leastK P F k).1 ≤ (leastK P F (k + 1)).1 ∧ (leastK P F k).2 ≤ (leastK P F (k + 1)).2 := by
      show _ ≤ (leastS _ _ _).1 ∧ _ ≤ (leastS _ _ _).2
      unfold leastS
      split
      · exact ⟨Int.le_refl _, Int.le_refl _⟩
      · split
        · exact ⟨Int.le_refl _, by dsimp only; omega⟩
        · split
          · exact ⟨by dsimp only; omega, Int.le_refl _⟩
          · exact ⟨Int.le_refl _, Int.le_refl _⟩
    by_cases hi : i < k
    · obtain ⟨h1, h2⟩ := least_ge P F k i hi hr
      exact ⟨fun h => Int.le_trans (h1 h) mono.2, fun h => Int.le_trans (h2 h) mono.1⟩
    · obtain rfl : i = k := by omega
      refine ⟨fun h8 => ?_, fun h5 => ?_⟩
      · show _ ≤ (leastS _ _ _).2
        unfold leastS
        rw [if_neg (by rw [hr]; decide), if_pos h8]
        dsimp only; omega
      · show _ ≤ (leastS _ _ _).1
        unfold leastS
        rw [if_neg (by rw [hr]; decide), if_neg (by omega), if_pos h5]
        dsimp only; omega
theorem least_att (P : List Ins) (F : List Ft) : ∀ k, ((leastK P F k).1 = 0 ∨ ∃ i, i < k ∧ (getF F i).reached = true ∧ ((P.getD i ⟨0, 0, 0, 0, 0⟩).op = 5 ∨ (P.getD i ⟨0, 0, 0, 0, 0⟩).op = 6) ∧ lstN (getF F i) (P.getD i ⟨0, 0, 0, 0, 0⟩) + 1 = (leastK P F k).1) ∧
    ((leastK P F k).2 = 0 ∨ ∃ i, i < k ∧ (getF F i).reached = true ∧ (P.getD i ⟨0, 0, 0, 0, 0⟩).op = 8 ∧ (P.getD i ⟨0, 0, 0, 0, 0⟩).n + 1 = (leastK P F k).2)
  | 0 => ⟨.inl rfl, .inl rfl⟩
  | k + 1 => by
    obtain ⟨h1, h2⟩ := least_att P F k
    have up1 : ∀ v, v = (leastK P F k).1 → (v = 0 ∨ ∃ i, i < k + 1 ∧ (getF F i).reached = true ∧ ((P.getD i ⟨0, 0, 0, 0, 0⟩).op = 5 ∨ (P.getD i ⟨0, 0, 0, 0, 0⟩).op = 6) ∧ lstN (getF F i) (P.getD i ⟨0, 0, 0, 0, 0⟩) + 1 = v) := fun v hv => by
      subst hv
      rcases h1 with h | ⟨i, q1, q2⟩
      · exact .inl h
      · exact .inr ⟨i, by omega, q2⟩
    have up2 : ∀ v, v = (leastK P F k).2 → (v = 0 ∨ ∃ i, i < k + 1 ∧ (getF F i).reached = true ∧ (P.getD i ⟨0, 0, 0, 0, 0⟩).op = 8 ∧ (P.getD i ⟨0, 0, 0, 0, 0⟩).n + 1 = v) := fun v hv => by
      subst hv
      rcases h2 with h | ⟨i, q1, q2⟩
      · exact .inl h
      · exact .inr ⟨i, by omega, q2⟩
    obtain ⟨S, hS⟩ : ∃ S, S = leastK P F (k + 1) := ⟨_, rfl⟩
    rw [← hS]
    have hS2 : S = leastS (P.getD k ⟨0, 0, 0, 0, 0⟩) (getF F k) (leastK P F k) := hS
    unfold leastS at hS2
    by_cases hr : (getF F k).reached = false
    · rw [if_pos hr] at hS2
      subst hS2
      exact ⟨up1 _ rfl, up2 _ rfl⟩
    · rw [if_neg hr] at hS2
      simp only [Bool.not_eq_false] at hr
      by_cases h8 : (P.getD k ⟨0, 0, 0, 0, 0⟩).op = 8
      · rw [if_pos h8] at hS2
        subst hS2
        refine ⟨up1 _ rfl, ?_⟩
        dsimp only
        by_cases hm : (leastK P F k).2 ≤ (P.getD k ⟨0, 0, 0, 0, 0⟩).n + 1
        · exact .inr ⟨k, by omega, hr, h8, by omega⟩
        · exact up2 _ (by omega)
      · rw [if_neg h8] at hS2
        by_cases h5 : (P.getD k ⟨0, 0, 0, 0, 0⟩).op = 5 ∨ (P.getD k ⟨0, 0, 0, 0, 0⟩).op = 6
        · rw [if_pos h5] at hS2
          subst hS2
          refine ⟨?_, up2 _ rfl⟩
          dsimp only
          by_cases hm : (leastK P F k).1 ≤ lstN (getF F k) (P.getD k ⟨0, 0, 0, 0, 0⟩) + 1
          · exact .inr ⟨k, by omega, hr, h5, by omega⟩
          · exact up1 _ (by omega)
        · rw [if_neg h5] at hS2
          subst hS2
          exact ⟨up1 _ rfl, up2 _ rfl⟩
theorem least_port {n i : Nat} (hi : i < n) {c : Int} : whyE c (leastK P F n).2 1 (P.getD i ⟨0, 0, 0, 0, 0⟩) (getF F i) ≠ 173 := by
  intro h
  unfold whyE at h
  by_cases hr : (getF F i).reached = false
  · rw [if_pos hr] at h; exact absurd h (by decide)
  rw [if_neg hr] at h
  simp only [Bool.not_eq_false] at hr
  have hg := (least_ge P F n i hi hr).1
  split at h
  · exact absurd h (by decide)
  split at h
  · split at h <;> exact absurd h (by decide)
  split at h
  · rename_i q
    have := hg q.1
    omega
  split at h
  · exact absurd h (by decide)
  split at h
  · exact absurd h (by decide)
  split at h <;> exact absurd h (by decide)
theorem least_cell {n i : Nat} (hi : i < n) {p : Int} (h : whyE (leastK P F n).1 p 1 (P.getD i ⟨0, 0, 0, 0, 0⟩) (getF F i) = 172) : ((getF F i).regs (P.getD i ⟨0, 0, 0, 0, 0⟩).b.toNat).is_ = true ∧ (((getF F i).regs (P.getD i ⟨0, 0, 0, 0, 0⟩).b.toNat).n < 0 ∨ 1024 ≤ ((getF F i).regs (P.getD i ⟨0, 0, 0, 0, 0⟩).b.toNat).n) := by
  unfold whyE at h
  by_cases hr : (getF F i).reached = false
  · rw [if_pos hr] at h; exact absurd h (by decide)
  rw [if_neg hr] at h
  simp only [Bool.not_eq_false] at hr
  have hg := (least_ge P F n i hi hr).2
  split at h
  · exact absurd h (by decide)
  split at h
  · rename_i q5
    have h5 := hg q5
    have hb := lstN_bd (getF F i) (P.getD i ⟨0, 0, 0, 0, 0⟩)
    split at h
    · rename_i q
      rcases q with q | ⟨q1, q2⟩
      · omega
      · refine ⟨q1, ?_⟩
        rcases q2 with q2 | q2
        · exact .inl q2
        · right
          unfold lstN at h5
          split at h5
          · rename_i z
            rcases z with z | z | z
            · rw [q1] at z; cases z
            · omega
            · exact z
          · omega
    · exact absurd h (by decide)
  split at h
  · exact absurd h (by decide)
  split at h
  · exact absurd h (by decide)
  split at h
  · exact absurd h (by decide)
  split at h <;> exact absurd h (by decide)
theorem least_cut_cell {n : Nat} {p : Int} (hc : 0 < (leastK P F n).1) : ∃ i, i < n ∧ whyE ((leastK P F n).1 - 1) p 1 (P.getD i ⟨0, 0, 0, 0, 0⟩) (getF F i) = 172 ∧
    ((((getF F i).regs (P.getD i ⟨0, 0, 0, 0, 0⟩).b.toNat).is_ = true ∧ ((getF F i).regs (P.getD i ⟨0, 0, 0, 0, 0⟩).b.toNat).n = (leastK P F n).1 - 1) ∨ (leastK P F n).1 - 1 = 0) := by
  rcases (least_att P F n).1 with h | ⟨i, hi, hr, h5, he⟩
  · omega
  have hb := lstN_bd (getF F i) (P.getD i ⟨0, 0, 0, 0, 0⟩)
  have hcases : (leastK P F n).1 - 1 = 0 ∨ (((getF F i).regs (P.getD i ⟨0, 0, 0, 0, 0⟩).b.toNat).is_ = true ∧ ((getF F i).regs (P.getD i ⟨0, 0, 0, 0, 0⟩).b.toNat).n = (leastK P F n).1 - 1) := by
    unfold lstN at he
    split at he
    · left; omega
    · rename_i z
      right
      refine ⟨?_, by omega⟩
      cases hq : ((getF F i).regs (P.getD i ⟨0, 0, 0, 0, 0⟩).b.toNat).is_
      · exact absurd (.inl hq) z
      · rfl
  refine ⟨i, hi, ?_, hcases.symm⟩
  unfold whyE
  rw [if_neg (by rw [hr]; decide), if_neg (by omega), if_pos h5, if_pos]
  rcases hcases with h | ⟨h1, h2⟩
  · exact .inl h
  · exact .inr ⟨h1, .inr (by omega)⟩
theorem least_cut_port {n : Nat} {c : Int} (hc : 0 < (leastK P F n).2) : ∃ i, i < n ∧ whyE c ((leastK P F n).2 - 1) 1 (P.getD i ⟨0, 0, 0, 0, 0⟩) (getF F i) = 173 ∧ (P.getD i ⟨0, 0, 0, 0, 0⟩).n = (leastK P F n).2 - 1 := by
  rcases (least_att P F n).2 with h | ⟨i, hi, hr, h8, he⟩
  · omega
  refine ⟨i, hi, ?_, by omega⟩
  unfold whyE
  rw [if_neg (by rw [hr]; decide), if_neg (by omega), if_neg (by omega), if_pos ⟨h8, by omega⟩]
end
theorem right_intro {p : List Ins} (h0 : 0 < p.length) (h1 : p.length ≤ 256) (hb : ∀ k, k < p.length → badAt p.length (p.getD k ⟨0, 0, 0, 0, 0⟩) = 0) (hl : goesB (p.getD (p.length - 1) ⟨0, 0, 0, 0, 0⟩) = false) : (checkI p).2 = 0 := by
  unfold checkI
  rw [if_neg (by omega), if_neg (by omega), checkK_none fun i hi y hy => by
    have := hb i hi
    rw [List.getD_eq_getElem?_getD, hy] at this
    exact this]
  rw [hl]; rfl
end Go.Proofs.Ytmljmabbopkpiaa.Vm
end

section
/- fermatalaw17.CheckLeast, walked through. -/
namespace Go.Proofs.Ytmljmabbopkpiaa.Vm
open Go.RowKit
attribute [local push_cast] runR opG gtmp gval gus opX tmpsOf tm tmO tmP restr look look2 tab tys zs ets eqB eqBL allB numOf ieq Int.cast_ofNat_Int Int.ofNat_zero beq_true beq_false frameOf ev evL ofV opV loadV noW pushF wrsL setH allBorn allGone HB.born HB.isGone HB.val SV.plain dstOk hp nav fitsT SV.size sizeL SV.isAgg TK.size TK.agg bin binE binN binI arN arI cmpN cmpI keq kn narrow callV storeV setp fillV buildV buildSliceV makeV sliceV appendV copyV List.isEmpty_nil srcV evO asN ite_t ite_f ite_bool ite_int ite_nat maxV v_beq v_ble v_blt cond_true cond_false List.getElem?_cons_zero List.getElem?_cons_succ List.getD_cons_zero List.getD_cons_succ List.getD_nil List.length_cons List.length_nil List.take_succ_cons List.take_zero List.set_cons_zero List.set_cons_succ List.cons_append List.nil_append List.append_assoc List.replicate_succ List.replicate_zero Nat.zero_add Nat.add_zero decide_true decide_false Bool.true_and Bool.and_true Bool.false_and Bool.and_false Bool.true_or Bool.or_true Bool.false_or Bool.or_false beq_self_eq_true Bool.or_self Nat.lt_irrefl Nat.not_lt_zero Nat.le_refl Option.getD_some Option.getD_none BEq.rfl Bool.not_true Bool.not_false Bool.cond_true_left Bool.cond_false_right prS sndsS i64S nav_ins nav_ins0 nav_ins1 nav_ins2 nav_ins3 nav_ins4 nav_snd nav_snd0 nav_snd1 nav_snd2 isIns_insS insOf_insS isSnd_sndS sndOf_sndS isI_int isI_nat iOf nav_k nav_k0 nav_k1 nav_ka nav_kai nav_ft nav_ft0 nav_ft1 isKn_kS knOf_kS isKa_kaS kaOf_kaS isFt_ftS ftOf_ftS setp_ka setp_ftk setp_ftr setp_fti evm_ins evm_snd evm_k evm_ka evm_ft
set_option linter.unusedVariables false
set_option linter.unusedSimpArgs false
set_option maxRecDepth 100000
set_option maxHeartbeats 4000000
def cL1 : FuncId → Option Spec := look2 [(18, sAwake17), (19, sMd14), (20, sLeast), (21, sFactsR), (22, sWhy17)]
theorem cL1_ok : ∀ f S, cL1 f = some S → CallOk Try.prog f S := allOk_spec ⟨sAwake17_ok, sMd14_ok, sLeast_ok, sFactsR_ok, sWhy17_ok, trivial⟩
/-- words modulo some number -/
def modI (m : Int) (x : Ins) : Ins := ⟨x.op, x.a, x.b, x.c, (IntKind.u64.wrap x.n).tmod (1 + m)⟩
def modK (p : List Ins) (m : Int) : Nat → List Ins
  | 0 => p
  | k + 1 => if (p.getD k ⟨0, 0, 0, 0, 0⟩).op = 3 then (modK p m k).set k (modI m (p.getD k ⟨0, 0, 0, 0, 0⟩)) else modK p m k
theorem modK_len (p : List Ins) (m : Int) : ∀ k, (modK p m k).length = p.length
  | 0 => rfl
  | k + 1 => by
    unfold modK
    split
    · rw [List.length_set]; exact modK_len p m k
    · exact modK_len p m k
theorem modK_at (p : List Ins) (m : Int) : ∀ k q, (modK p m k).getD q ⟨0, 0, 0, 0, 0⟩ = if q < k ∧ q < p.length ∧ (p.getD q ⟨0, 0, 0, 0, 0⟩).op = 3 then modI m (p.getD q ⟨0, 0, 0, 0, 0⟩) else p.getD q ⟨0, 0, 0, 0, 0⟩
  | 0, q => by rw [if_neg (by omega)]; rfl
  | k + 1, q => by
    have ih := modK_at p m k q
    unfold modK
    by_cases h3 : (p.getD k ⟨0, 0, 0, 0, 0⟩).op = 3
    · rw [if_pos h3]
      by_cases hq : q = k
      · subst hq
        by_cases hl : q < p.length
        · rw [if_pos ⟨by omega, hl, h3⟩, List.getD_eq_getElem?_getD, List.getElem?_set_self (by rw [modK_len]; exact hl)]; rfl
        · rw [if_neg (by omega), List.getD_eq_getElem?_getD, List.getElem?_eq_none (by rw [List.length_set, modK_len]; omega), List.getD_eq_getElem?_getD, List.getElem?_eq_none (by omega)]
      · rw [List.getD_eq_getElem?_getD, List.getElem?_set_ne (fun e => hq e.symm), ← List.getD_eq_getElem?_getD, ih]
        by_cases hc : q < k ∧ q < p.length ∧ (p.getD q ⟨0, 0, 0, 0, 0⟩).op = 3
        · rw [if_pos hc, if_pos ⟨by omega, hc.2⟩]
        · rw [if_neg hc, if_neg (fun h => hc ⟨by omega, h.2⟩)]
    · rw [if_neg h3, ih]
      by_cases hc : q < k ∧ q < p.length ∧ (p.getD q ⟨0, 0, 0, 0, 0⟩).op = 3
      · rw [if_pos hc, if_pos ⟨by omega, hc.2⟩]
      · rw [if_neg hc, if_neg (fun h => hc ⟨by
          by_cases hq : q = k
          · subst hq; exact absurd h.2.2 h3
          · omega, h.2⟩)]
theorem wrapU64l (z : Int) : IntKind.u64.wrap z = z % 18446744073709551616 := by simp [IntKind.wrap, IntKind.bits, IntKind.signed]
theorem modI_bd {m : Int} (hm : 0 ≤ m ∧ m ≤ 65535) (z : Int) : 0 ≤ (IntKind.u64.wrap z).tmod (1 + m) ∧ (IntKind.u64.wrap z).tmod (1 + m) ≤ 65535 := by
  have h0 : 0 ≤ IntKind.u64.wrap z := by rw [wrapU64l]; omega
  rw [Int.tmod_eq_emod_of_nonneg h0]
  have h1 := Int.emod_nonneg (IntKind.u64.wrap z) (b := 1 + m) (by omega)
  have h2 := Int.emod_lt_of_pos (IntKind.u64.wrap z) (b := 1 + m) (by omega)
  omega
theorem setp_insn (i : Ins) (o : Nat) (v : Int) : setp (insS i) [.f 4 o] (.int .i64 v) = some (insS ⟨i.op, i.a, i.b, i.c, v⟩) := rfl
theorem modK_ok {p : List Ins} {m : Int} (hp : ∀ x ∈ p, x.ok) (hm : 0 ≤ m ∧ m ≤ 65535) : ∀ x ∈ modK p m p.length, x.ok := fun x hx => by
  obtain ⟨q, hq, rfl⟩ := List.getElem_of_mem hx
  rw [modK_len] at hq
  have e := modK_at p m p.length q
  rw [List.getD_eq_getElem?_getD, List.getElem?_eq_getElem (by rw [modK_len]; exact hq)] at e
  have hpq : (p.getD q ⟨0, 0, 0, 0, 0⟩).ok := hp _ (by rw [List.getD_eq_getElem?_getD, List.getElem?_eq_getElem hq]; exact List.getElem_mem hq)
  simp only [Option.getD_some] at e
  rw [e]
  split
  · obtain ⟨h0, h1, h2, h3, h4, h5, h6, h7, h8, h9⟩ := hpq
    obtain ⟨r0, r1⟩ := modI_bd hm (p.getD q ⟨0, 0, 0, 0, 0⟩).n
    exact ⟨h0, h1, h2, h3, h4, h5, h6, h7, by show _ ≤ Int.tmod _ _; omega, by show Int.tmod _ _ ≤ _; omega⟩
  · exact hpq
theorem modI_one {x : Ins} {m : Int} (h3 : x.op = 3) : oneE (modI m x) = oneE x ∧ targB (modI m x) = false ∧ targB x = false ∧ goesB (modI m x) = goesB x := by
  have e : oneE (modI m x) = oneE x := by
    unfold oneE modI
    dsimp only
    rw [h3]
    rfl
  refine ⟨e, ?_, ?_, ?_⟩
  · unfold targB; rw [show (modI m x).op = 3 from h3]; simp
  · unfold targB; rw [h3]; simp
  · unfold goesB; rw [e]; rfl
theorem modK_right {p : List Ins} {m : Int} (hp : ∀ x ∈ p, x.ok) (hr : (checkI p).2 = 0) : (checkI (modK p m p.length)).2 = 0 := by
  obtain ⟨l0, l1, hg, hb⟩ := right_last' hr
  refine right_intro (by rw [modK_len]; exact l0) (by rw [modK_len]; exact l1) (fun k hk => ?_) ?_
  · rw [modK_len] at hk ⊢
    rw [modK_at]
    split
    · rename_i h
      have h1 := hb k hk
      obtain ⟨e1, e2, e3, e4⟩ := modI_one (m := m) h.2.2
      unfold badAt at h1 ⊢
      rw [e1, e2]
      rw [e3] at h1
      exact h1
    · exact hb k hk
  · rw [modK_len, modK_at]
    split
    · rename_i h
      rw [(modI_one (m := m) h.2.2).2.2.2]; exact hg
    · exact hg
def hit1 (Q : List Ins) (F : List Ft) (c pp : Int) (k : Nat) : Bool := decide (whyE (c - 1) pp 1 (Q.getD k ⟨0, 0, 0, 0, 0⟩) (getF F k) = 172) && ((((getF F k).regs (Q.getD k ⟨0, 0, 0, 0, 0⟩).b.toNat).is_ && decide (((getF F k).regs (Q.getD k ⟨0, 0, 0, 0, 0⟩).b.toNat).n = c - 1)) || decide (c - 1 = 0))
def hit2 (Q : List Ins) (F : List Ft) (c pp : Int) (k : Nat) : Bool := decide (whyE c (pp - 1) 1 (Q.getD k ⟨0, 0, 0, 0, 0⟩) (getF F k) = 173) && decide ((Q.getD k ⟨0, 0, 0, 0, 0⟩).n = pp - 1)
def cellK (Q : List Ins) (F : List Ft) (c pp : Int) : Nat → Bool
  | 0 => decide (c = 0)
  | k + 1 => cellK Q F c pp k || (decide (0 < c) && hit1 Q F c pp k)
def portK (Q : List Ins) (F : List Ft) (c pp : Int) : Nat → Bool
  | 0 => decide (pp = 0)
  | k + 1 => portK Q F c pp k || (decide (0 < pp) && hit2 Q F c pp k)
theorem cellK_at {n : Nat} {Q : List Ins} {F : List Ft} {c pp : Int} (h : c = 0 ∨ 0 < c ∧ ∃ i, i < n ∧ hit1 Q F c pp i = true) : cellK Q F c pp n = true := by
  induction n with
  | zero =>
    rcases h with h | ⟨_, i, hi, _⟩
    · simp [cellK, h]
    · exact absurd hi (Nat.not_lt_zero i)
  | succ n ih =>
    unfold cellK
    rcases h with h | ⟨h0, i, hi, hh⟩
    · rw [ih (.inl h)]; rfl
    · by_cases hn : i = n
      · subst hn; rw [hh]; simp [h0]
      · rw [ih (.inr ⟨h0, i, by omega, hh⟩)]; rfl
theorem portK_at {n : Nat} {Q : List Ins} {F : List Ft} {c pp : Int} (h : pp = 0 ∨ 0 < pp ∧ ∃ i, i < n ∧ hit2 Q F c pp i = true) : portK Q F c pp n = true := by
  induction n with
  | zero =>
    rcases h with h | ⟨_, i, hi, _⟩
    · simp [portK, h]
    · exact absurd hi (Nat.not_lt_zero i)
  | succ n ih =>
    unfold portK
    rcases h with h | ⟨h0, i, hi, hh⟩
    · rw [ih (.inl h)]; rfl
    · by_cases hn : i = n
      · subst hn; rw [hh]; simp [h0]
      · rw [ih (.inr ⟨h0, i, by omega, hh⟩)]; rfl
theorem band {a b : Bool} (h1 : a = true) (h2 : b = true) : (a && b) = true := by rw [h1, h2]; rfl
theorem bnot {a : Bool} (h : a = false) : (!a) = true := by rw [h]; rfl
theorem least_lit17 (zs : List Ins) (p1 : Nat) (m : Int) (hz : ∀ x ∈ zs, x.ok) (hp1 : max zs.length p1 ≤ 9223372036854775807) (hm : 0 ≤ m ∧ m ≤ 65535) : LitOk Try.prog 3 [.sl 1 2 [] 5 0 zs.length (some p1), .int .u16 m] [.gone, .gone, .ro (.arr zs.length 5 (prS zs))] (.bool true) [.gone] := by
  refine litOkM (fn := Try.f3) 3 232 0 rfl rfl rfl rfl rfl (by simp only [StableL, Stable, hp]; simp [HB.born]) rfl fun w0 M E hro => ?_
  obtain ⟨p, hp⟩ : ∃ p, p = made14 zs := ⟨_, rfl⟩
  have hpok := made14_ok zs hz
  have hpr := made14_right zs
  have hpl := made14_le zs
  rw [← hp] at hpok hpr hpl
  repeat' (first | with_reducible (first | apply J1 | apply J3 | apply J4 | apply J5 | apply J6 | apply J7 | apply J8 | apply J9 | apply J10 | apply J11 | apply J12 | apply J13 | apply J14 | apply J15 | apply J16 | apply J17 | apply J18 | apply J19 | apply J20 | refine J2 ?_) | ((with_reducible apply J21); (· rfl)) | ((with_reducible intro hif); first | (focus (cases hif; done)) | (simp only [JH] at hif; try (exfalso; omega)) | (try (exfalso; omega))) | ((first | ((with_reducible apply J22 cL1_ok tab_ok); (· rfl)) | ((with_reducible apply J23 fol cL1_ok tab_ok); (· rfl)) | with_reducible apply J24); (· (simp only [push_cast, ↓JP, Nat.reduceAdd, Nat.reduceEqDiff, Nat.reduceLT, Nat.reduceMul, Nat.reduceLeDiff, reduceCtorEq, reduceIte, ↓JK, ↓JF, cL1, sAwake17, sMd14, ls_prS, ls_prS', ls_prS2, ← hp]; rfl)); (try kernel_rfl); (try (focus (first | exact True.intro | ((repeat' (first | exact True.intro | assumption | omega | exact fun q _ => rfl | apply And.intro)); done) | ((try simp only [JS, implies_true, forall_const, shaped, shapedL, kndOf, cL1, sAwake17, sMd14, ls_prS, ls_prS', ls_prS2, ← hp]); (repeat' (first | assumption | exact True.intro | omega | apply And.intro)); done) | ((repeat' (first | assumption | exact True.intro | omega | apply And.intro)); done))))) | fail)
  refine WF.loopAt (fun k => k ≤ p.length) (fun k => [(1, .int .u16 m), (5, .sl 3 3 [] 5 0 p.length none), (30, .sl 3 3 [] 5 0 p.length none), (31, .nat .i64 p.length), (32, .nat .i64 k)]) (fun k => [.gone, .gone, .ro (.arr zs.length 5 (prS zs)), .own 28 (.arr p.length 5 (prS (modK p m k))) false]) (fun k => p.length - k) 0 (Nat.zero_le _) ?_ ?_ rfl ?_ ?_ rfl ?_
  · ((repeat' (first | exact trivial | apply And.intro)) <;> (first | rfl | (simp only [look, cond_true, cond_false]; done)))
  · (repeat' (first | exact trivial | exact .same _ | exact .dead _ | exact .gone rfl | exact .loose | assumption | exact .arr (by assumption) | apply And.intro))
  · (repeat' (first | exact trivial | exact rfl | assumption | apply Stable.ite | apply And.intro | intro _ | (simp only [Stable, StableL, i64S, prS, insS, sndsS, sndS, kS, kaS, ftS, ftsS]; done)))
  · (repeat' (first | exact trivial | exact rfl | assumption | apply Stable.ite | apply And.intro | intro _ | (simp only [Stable, StableL, i64S, prS, insS, sndsS, sndS, kS, kaS, ftS, ftsS]; done)))
  · intro k hk
    by_cases hkl : k < p.length
    · obtain ⟨x, hX⟩ : ∃ x, (modK p m k).getD k ⟨0, 0, 0, 0, 0⟩ = x := ⟨_, rfl⟩
      have hXp : p.getD k ⟨0, 0, 0, 0, 0⟩ = x := by
        have := modK_at p m k k
        rw [if_neg (by omega), hX] at this
        exact this.symm
      by_cases h3 : x.op = 3
      · iterate 20 (try (first | with_reducible (first | apply J1 | apply J3 | apply J4 | apply J5 | apply J6 | apply J7 | apply J8 | apply J9 | apply J10 | apply J11 | apply J12 | apply J13 | apply J14 | apply J15 | apply J16 | apply J17 | apply J18 | apply J19 | apply J20 | refine J2 ?_) | ((with_reducible apply J21); (· rfl)) | ((with_reducible intro hif); first | (focus (cases hif; done)) | (simp only [JH] at hif; try (exfalso; omega)) | (try (exfalso; omega))) | ((first | ((with_reducible apply J22 cL1_ok tab_ok); (· rfl)) | ((with_reducible apply J23 fol cL1_ok tab_ok); (· rfl)) | with_reducible apply J24); (· (simp only [push_cast, ↓JP, Nat.reduceAdd, Nat.reduceEqDiff, Nat.reduceLT, Nat.reduceMul, Nat.reduceLeDiff, reduceCtorEq, reduceIte, ↓JK, ↓JF, cL1, hX, inN, inR, hkl, h3]; rfl)); (try kernel_rfl); (try (focus (first | exact True.intro | ((try simp only [JS, implies_true, forall_const, shaped, shapedL, kndOf, cL1, hX, inN, inR, hkl, h3]); (repeat' (first | assumption | exact True.intro | omega | apply And.intro)); done) | ((repeat' (first | assumption | exact True.intro | omega | apply And.intro)); done))))) | fail))
        rotate_left
        · intro hif; cases hif
        with_reducible apply WF.cond
        · simp only [push_cast, ↓JP, Nat.reduceAdd, Nat.reduceEqDiff, Nat.reduceLT, Nat.reduceMul, Nat.reduceLeDiff, reduceCtorEq, reduceIte, ↓JK, ↓JF]; rfl
        · exact True.intro
        · intro hif
          obtain ⟨r0, r1⟩ := modI_bd hm x.n
          have hl : ∀ q, q < p.length → SV.ite (decide (q = k)) (insS (modI m x)) (insS ((modK p m k).getD q ⟨0, 0, 0, 0, 0⟩)) = prS (modK p m (k + 1)) q := fun q hq => by
            rw [ite_eq]
            show _ = insS ((if (p.getD k ⟨0, 0, 0, 0, 0⟩).op = 3 then (modK p m k).set k (modI m (p.getD k ⟨0, 0, 0, 0, 0⟩)) else modK p m k).getD q ⟨0, 0, 0, 0, 0⟩)
            rw [hXp, if_pos h3]
            by_cases h : q = k
            · subst h
              simp only [decide_true, cond_true, List.getD_eq_getElem?_getD, List.getElem?_set_self (show q < (modK p m q).length by rw [modK_len]; exact hq)]; rfl
            · simp only [h, decide_false, cond_false, List.getD_eq_getElem?_getD, List.getElem?_set_ne (fun e => h e.symm)]
          with_reducible apply WF.split 4 8
          · rfl
          with_reducible apply At.run cL1_ok tab_ok
          · rfl
          · rfl
          · rfl
          · simp only [push_cast, ↓JP, Nat.reduceAdd, Nat.reduceEqDiff, Nat.reduceLT, Nat.reduceMul, Nat.reduceLeDiff, reduceCtorEq, reduceIte, ↓JK, ↓JF, noDefer, List.drop_zero, List.drop_succ_cons, cL1, hX, inN, inR, hkl, setp_insn]; rfl
          · (repeat' (first | exact True.intro | omega | apply And.intro))
          with_reducible apply At.conv tab_ok
          · rfl
          · rfl
          · rfl
          · rfl
          · rfl
          · rfl
          · rfl
          · simp only [push_cast, ↓JP, Nat.reduceAdd, Nat.reduceEqDiff, Nat.reduceLT, Nat.reduceMul, Nat.reduceLeDiff, reduceCtorEq, reduceIte, ↓JK, ↓JF]; rfl
          · exact True.intro
          · exact fun β => rfl
          with_reducible apply At.runEnd cL1_ok tab_ok
          · rfl
          · rfl
          · rfl
          · simp only [push_cast, ↓JP, Nat.reduceAdd, Nat.reduceEqDiff, Nat.reduceLT, Nat.reduceMul, Nat.reduceLeDiff, reduceCtorEq, reduceIte, ↓JK, ↓JF, noDefer, List.drop_zero, List.drop_succ_cons, cL1, hX, inN, inR, hkl, setp_insn]; rfl
          · (repeat' (first | exact True.intro | omega | apply And.intro))
          repeat' (first | with_reducible (first | apply J1 | apply J3 | apply J4 | apply J5 | apply J6 | apply J7 | apply J8 | apply J9 | apply J10 | apply J11 | apply J12 | apply J13 | apply J14 | apply J15 | apply J16 | apply J17 | apply J18 | apply J19 | apply J20 | refine J2 ?_) | ((with_reducible apply J21); (· rfl)) | ((with_reducible intro hif); first | (focus (cases hif; done)) | (simp only [JH] at hif; try (exfalso; omega)) | (try (exfalso; omega))) | ((first | ((with_reducible apply J22 cL1_ok tab_ok); (· rfl)) | ((with_reducible apply J23 fol cL1_ok tab_ok); (· rfl)) | with_reducible apply J24); (· (simp only [push_cast, ↓JP, Nat.reduceAdd, Nat.reduceEqDiff, Nat.reduceLT, Nat.reduceMul, Nat.reduceLeDiff, reduceCtorEq, reduceIte, ↓JK, ↓JF, inN]; rfl)); (try kernel_rfl); (try (focus (first | exact True.intro | ((try simp only [JS, implies_true, forall_const, shaped, shapedL, kndOf, inN]); (repeat' (first | assumption | exact True.intro | omega | apply And.intro)); done) | ((repeat' (first | assumption | exact True.intro | omega | apply And.intro)); done))))) | fail)
          refine At.next (k + 1) ?_ ?_ ?_ rfl ?_ ?_ rfl
          · omega
          · ((repeat' (first | exact trivial | apply And.intro)) <;> (first | rfl | (simp only [look, cond_true, cond_false]; done)))
          · (repeat' (first | exact trivial | exact .same _ | exact .dead _ | exact .gone rfl | exact .loose | assumption | exact .arr (by assumption) | apply And.intro))
          · (repeat' (first | exact trivial | exact rfl | assumption | apply Stable.ite | apply And.intro | intro _ | (simp only [Stable, StableL, i64S, prS, insS, sndsS, sndS, kS, kaS, ftS, ftsS]; done)))
          · (repeat' (first | exact trivial | exact rfl | assumption | apply Stable.ite | apply And.intro | intro _ | (simp only [Stable, StableL, i64S, prS, insS, sndsS, sndS, kS, kaS, ftS, ftsS]; done)))
        · intro hif
          cases hif
      · have hK : modK p m (k + 1) = modK p m k := by
          show (if (p.getD k ⟨0, 0, 0, 0, 0⟩).op = 3 then (modK p m k).set k (modI m (p.getD k ⟨0, 0, 0, 0, 0⟩)) else modK p m k) = _
          rw [hXp, if_neg h3]
        repeat' (first | with_reducible (first | apply J1 | apply J3 | apply J4 | apply J5 | apply J6 | apply J7 | apply J8 | apply J9 | apply J10 | apply J11 | apply J12 | apply J13 | apply J14 | apply J15 | apply J16 | apply J17 | apply J18 | apply J19 | apply J20 | refine J2 ?_) | ((with_reducible apply J21); (· rfl)) | ((with_reducible intro hif); first | (focus (cases hif; done)) | (simp only [JH] at hif; try (exfalso; omega)) | (try (exfalso; omega))) | ((first | ((with_reducible apply J22 cL1_ok tab_ok); (· rfl)) | ((with_reducible apply J23 fol cL1_ok tab_ok); (· rfl)) | with_reducible apply J24); (· (simp only [push_cast, ↓JP, Nat.reduceAdd, Nat.reduceEqDiff, Nat.reduceLT, Nat.reduceMul, Nat.reduceLeDiff, reduceCtorEq, reduceIte, ↓JK, ↓JF, cL1, hX, inN, inR, hkl, h3]; rfl)); (try kernel_rfl); (try (focus (first | exact True.intro | ((try simp only [JS, implies_true, forall_const, shaped, shapedL, kndOf, cL1, hX, inN, inR, hkl, h3]); (repeat' (first | assumption | exact True.intro | omega | apply And.intro)); done) | ((repeat' (first | assumption | exact True.intro | omega | apply And.intro)); done))))) | fail)
        have e4 : Less (.own 28 (.arr p.length 5 (prS (modK p m k))) false) (.own 28 (.arr p.length 5 (prS (modK p m (k + 1)))) false) := by rw [hK]; exact .same _
        refine At.next (k + 1) ?_ ?_ ?_ rfl ?_ ?_ rfl
        · omega
        · ((repeat' (first | exact trivial | apply And.intro)) <;> (first | rfl | (simp only [look, cond_true, cond_false]; done)))
        · (repeat' (first | exact trivial | exact .same _ | exact .dead _ | exact .gone rfl | exact .loose | assumption | exact .arr (by assumption) | apply And.intro))
        · (repeat' (first | exact trivial | exact rfl | assumption | apply Stable.ite | apply And.intro | intro _ | (simp only [Stable, StableL, i64S, prS, insS, sndsS, sndS, kS, kaS, ftS, ftsS]; done)))
        · (repeat' (first | exact trivial | exact rfl | assumption | apply Stable.ite | apply And.intro | intro _ | (simp only [Stable, StableL, i64S, prS, insS, sndsS, sndS, kS, kaS, ftS, ftsS]; done)))
    · obtain rfl : k = p.length := by omega
      obtain ⟨Q, hQ⟩ : ∃ Q, modK p m p.length = Q := ⟨_, rfl⟩
      have hQl : Q.length = p.length := by rw [← hQ]; exact modK_len p m _
      have hQok : ∀ x ∈ Q, x.ok := by rw [← hQ]; exact modK_ok hpok hm
      have hQr : (checkI Q).2 = 0 := by rw [← hQ]; exact modK_right hpok hpr
      rw [hQ, ← hQl]
      have hQ41 : Q.length ≤ 41 := by omega
      clear hQ
      obtain ⟨F, hF⟩ : ∃ F, F = factsS Q := ⟨_, rfl⟩
      obtain ⟨w1, w2, w3, w4⟩ := leastK_bd hQok hQr F Q.length (Nat.le_refl _)
      have HP := fun i (hi : i < Q.length) (c : Int) => least_port (P := Q) (F := F) hi (c := c)
      have HC := fun i (hi : i < Q.length) (pp : Int) => least_cell (P := Q) (F := F) hi (p := pp)
      have HCC := fun (pp : Int) => least_cut_cell (P := Q) (F := F) (n := Q.length) (p := pp)
      have HCP := fun (c : Int) => least_cut_port (P := Q) (F := F) (n := Q.length) (c := c)
      obtain ⟨c, hc⟩ : ∃ c, (leastK Q F Q.length).1 = c := ⟨_, rfl⟩
      obtain ⟨pp, hpp⟩ : ∃ pp, (leastK Q F Q.length).2 = pp := ⟨_, rfl⟩
      simp only [hc, hpp] at w1 w2 w3 w4 HP HC HCC HCP
      repeat' (first | with_reducible (first | apply J1 | apply J3 | apply J4 | apply J5 | apply J6 | apply J7 | apply J8 | apply J9 | apply J10 | apply J11 | apply J12 | apply J13 | apply J14 | apply J15 | apply J16 | apply J17 | apply J18 | apply J19 | apply J20 | refine J2 ?_) | ((with_reducible apply J21); (· rfl)) | ((with_reducible intro hif); first | (focus (cases hif; done)) | (simp only [JH] at hif; try (exfalso; omega)) | (try (exfalso; omega))) | ((first | ((with_reducible apply J22 cL1_ok tab_ok); (· rfl)) | ((with_reducible apply J23 fol cL1_ok tab_ok); (· rfl)) | with_reducible apply J24); (· (simp only [push_cast, ↓JP, Nat.reduceAdd, Nat.reduceEqDiff, Nat.reduceLT, Nat.reduceMul, Nat.reduceLeDiff, reduceCtorEq, reduceIte, ↓JK, ↓JF, cL1, sLeast, sFactsR, ls_prS, ls_prS', ls_prS2, ← hF, hc, hpp, inN, inR, Int.add_zero, Nat.zero_add]; rfl)); (try kernel_rfl); (try (focus (first | exact True.intro | ((try simp only [JS, implies_true, forall_const, shaped, shapedL, kndOf, cL1, sLeast, sFactsR, ls_prS, ls_prS', ls_prS2, ← hF, hc, hpp, inN, inR, Int.add_zero, Nat.zero_add]); (repeat' (first | assumption | exact True.intro | omega | apply And.intro)); done) | ((repeat' (first | assumption | exact True.intro | omega | apply And.intro)); done))))) | fail)
      have hlim : ∀ a b : Int, 0 ≤ a → a ≤ 1024 → 0 ≤ b → b ≤ 16 → limB a b 1 = true := fun a b q1 q2 q3 q4 => by simp [limB, q1, q2, q3, q4]
      have hW : ∀ a b : Int, 0 ≤ a → a ≤ 1024 → 0 ≤ b → b ≤ 16 → ∀ k : Nat, k < Q.length → whyR Q a b 1 (k : Int) = (whyE a b 1 (Q.getD k ⟨0, 0, 0, 0, 0⟩) (getF F k), 0) := fun a b q1 q2 q3 q4 k hk => by
        have hf : fitE Q a b 1 = 0 := by unfold fitE; rw [if_pos hQr, if_pos (hlim a b q1 q2 q3 q4)]
        unfold whyR
        rw [if_neg (fun h => h hf), if_neg (by omega), hF]
        rfl
      refine WF.loopAt (fun k => k ≤ Q.length) (fun k => [(5, .sl 3 3 [] 5 0 Q.length none), (8, .ptr 4 []), (10, .sl 5 5 [] 17 0 Q.length none), (12, .bool (cellK Q F c pp k)), (13, .bool (portK Q F c pp k)), (105, .sl 3 3 [] 5 0 Q.length none), (106, .nat .i64 Q.length), (107, .nat .i64 k)]) (fun k => [.gone, .gone, .ro (.arr zs.length 5 (prS zs)), .own 28 (.arr Q.length 5 (prS Q)) false, .own 31 (.agg [.int .i64 c, .int .i64 pp, .int .i64 1]) true, .own 44 (.arr Q.length 17 (ftsS F)) false]) (fun k => Q.length - k) 0 (Nat.zero_le _) ?_ ?_ rfl ?_ ?_ rfl ?_
      · ((repeat' (first | exact trivial | apply And.intro)) <;> (first | rfl | (simp only [look, cond_true, cond_false]; done)))
      · (repeat' (first | exact trivial | exact .same _ | exact .dead _ | exact .gone rfl | exact .loose | assumption | exact .arr (by assumption) | apply And.intro))
      · (repeat' (first | exact trivial | exact rfl | assumption | apply Stable.ite | apply And.intro | intro _ | (simp only [Stable, StableL, i64S, prS, insS, sndsS, sndS, kS, kaS, ftS, ftsS]; done)))
      · (repeat' (first | exact trivial | exact rfl | assumption | apply Stable.ite | apply And.intro | intro _ | (simp only [Stable, StableL, i64S, prS, insS, sndsS, sndS, kS, kaS, ftS, ftsS]; done)))
      · intro k hk
        by_cases hkl : k < Q.length
        · obtain ⟨x, hX⟩ : ∃ x, Q.getD k ⟨0, 0, 0, 0, 0⟩ = x := ⟨_, rfl⟩
          have hR := right_at hQok hQr hkl
          rw [hX] at hR
          have hok := hR.ok
          obtain ⟨o0, o1, a0, a1, b0, b1, c0, c1, n0', n1'⟩ := hR.ok
          have hb8 := hR.b
          have hbm : x.b.tmod 8 = x.b := by rw [Int.tmod_eq_emod_of_nonneg b0]; omega
          have hbn : x.b.toNat < 8 := by omega
          have h1 := hW c pp w1 w2 w3 w4 k hkl
          have g1 := HP k hkl c
          have g2 := HC k hkl pp
          rw [hX] at h1 g1 g2
          obtain ⟨w, hw⟩ : ∃ w, whyE c pp 1 x (getF F k) = w := ⟨_, rfl⟩
          rw [hw] at h1 g1 g2
          obtain ⟨cb, hcb⟩ : ∃ cb, cellK Q F c pp k = cb := ⟨_, rfl⟩
          obtain ⟨pb, hpb⟩ : ∃ pb, portK Q F c pp k = pb := ⟨_, rfl⟩
          rw [hcb, hpb]
          have c0e : ¬ 0 < c → cellK Q F c pp (k + 1) = cb := fun h => by unfold cellK; rw [hcb]; simp [h]
          have p0e : ¬ 0 < pp → portK Q F c pp (k + 1) = pb := fun h => by unfold portK; rw [hpb]; simp [h]
          by_cases hc0 : 0 < c
          · have h2 := hW (c - 1) pp (by omega) (by omega) w3 w4 k hkl
            rw [hX] at h2
            obtain ⟨wc, hwc⟩ : ∃ wc, whyE (c - 1) pp 1 x (getF F k) = wc := ⟨_, rfl⟩
            rw [hwc] at h2
            have E12 : cellK Q F c pp (k + 1) = (cb || decide (wc = 172) && ((((getF F k).regs x.b.toNat).is_ && decide (((getF F k).regs x.b.toNat).n = c - 1)) || decide (c - 1 = 0))) := by unfold cellK hit1; rw [hcb, hX, hwc]; simp [hc0]
            by_cases hp0 : 0 < pp
            · have h3 := hW c (pp - 1) w1 w2 (by omega) (by omega) k hkl
              rw [hX] at h3
              obtain ⟨wp, hwp⟩ : ∃ wp, whyE c (pp - 1) 1 x (getF F k) = wp := ⟨_, rfl⟩
              rw [hwp] at h3
              have e13 : portK Q F c pp (k + 1) = (pb || decide (wp = 173) && decide (x.n = pp - 1)) := by unfold portK hit2; rw [hpb, hX, hwp]; simp [hp0]
              by_cases h172 : w = 172
              · obtain ⟨z1, z2⟩ := g2 h172
                have e12 := E12
                rw [z1, Bool.true_and] at e12
                repeat' (first | with_reducible (first | apply J1 | apply J3 | apply J4 | apply J5 | apply J6 | apply J7 | apply J8 | apply J9 | apply J10 | apply J11 | apply J12 | apply J13 | apply J14 | apply J15 | apply J16 | apply J17 | apply J18 | apply J19 | apply J20 | refine J2 ?_) | ((with_reducible apply J21); (· rfl)) | ((with_reducible intro hif); first | (focus (cases hif; done)) | (simp only [JH] at hif; try (exfalso; omega)) | (try (exfalso; omega))) | ((first | ((with_reducible apply J22 cL1_ok tab_ok); (· rfl)) | ((with_reducible apply J23 fol cL1_ok tab_ok); (· rfl)) | with_reducible apply J24); (· (simp only [push_cast, ↓JP, Nat.reduceAdd, Nat.reduceEqDiff, Nat.reduceLT, Nat.reduceMul, Nat.reduceLeDiff, reduceCtorEq, reduceIte, ↓JK, ↓JF, cL1, sWhy17, ls_prS, ls_prS', ls_prS2, hX, h1, h2, h3, hbm, hkl, hc0, hp0, h172, z1, ftsS, inN, inR, Nat.zero_add]; rfl)); (try kernel_rfl); (try (focus (first | exact True.intro | ((repeat' (first | exact True.intro | omega | assumption | apply And.intro | intro h | apply band | apply bnot)); done) | ((try simp only [JS, implies_true, forall_const, shaped, shapedL, kndOf, cL1, sWhy17, ls_prS, ls_prS', ls_prS2, hX, h1, h2, h3, hbm, hkl, hc0, hp0, h172, z1, ftsS, inN, inR, Nat.zero_add]); (repeat' (first | assumption | exact True.intro | omega | apply And.intro)); done) | ((repeat' (first | assumption | exact True.intro | omega | apply And.intro)); done))))) | fail)
                refine At.next (k + 1) ?_ ?_ ?_ rfl ?_ ?_ rfl
                · omega
                · ((repeat' (first | exact trivial | apply And.intro)) <;> (first | rfl | (first | (rw [e12]; rfl) | (rw [e13]; rfl))))
                · (repeat' (first | exact trivial | exact .same _ | exact .dead _ | exact .gone rfl | exact .loose | assumption | exact .arr (by assumption) | apply And.intro))
                · (repeat' (first | exact trivial | exact rfl | assumption | apply Stable.ite | apply And.intro | intro _ | (simp only [Stable, StableL, i64S, prS, insS, sndsS, sndS, kS, kaS, ftS, ftsS]; done)))
                · (repeat' (first | exact trivial | exact rfl | assumption | apply Stable.ite | apply And.intro | intro _ | (simp only [Stable, StableL, i64S, prS, insS, sndsS, sndS, kS, kaS, ftS, ftsS]; done)))
              · have e12 := E12
                repeat' (first | with_reducible (first | apply J1 | apply J3 | apply J4 | apply J5 | apply J6 | apply J7 | apply J8 | apply J9 | apply J10 | apply J11 | apply J12 | apply J13 | apply J14 | apply J15 | apply J16 | apply J17 | apply J18 | apply J19 | apply J20 | refine J2 ?_) | ((with_reducible apply J21); (· rfl)) | ((with_reducible intro hif); first | (focus (cases hif; done)) | (simp only [JH] at hif; try (exfalso; omega)) | (try (exfalso; omega))) | ((first | ((with_reducible apply J22 cL1_ok tab_ok); (· rfl)) | ((with_reducible apply J23 fol cL1_ok tab_ok); (· rfl)) | with_reducible apply J24); (· (simp only [push_cast, ↓JP, Nat.reduceAdd, Nat.reduceEqDiff, Nat.reduceLT, Nat.reduceMul, Nat.reduceLeDiff, reduceCtorEq, reduceIte, ↓JK, ↓JF, cL1, sWhy17, ls_prS, ls_prS', ls_prS2, hX, h1, h2, h3, hbm, hkl, hc0, hp0, h172, ftsS, inN, inR, Nat.zero_add]; rfl)); (try kernel_rfl); (try (focus (first | exact True.intro | ((repeat' (first | exact True.intro | omega | assumption | apply And.intro | intro h | apply band | apply bnot)); done) | ((try simp only [JS, implies_true, forall_const, shaped, shapedL, kndOf, cL1, sWhy17, ls_prS, ls_prS', ls_prS2, hX, h1, h2, h3, hbm, hkl, hc0, hp0, h172, ftsS, inN, inR, Nat.zero_add]); (repeat' (first | assumption | exact True.intro | omega | apply And.intro)); done) | ((repeat' (first | assumption | exact True.intro | omega | apply And.intro)); done))))) | fail)
                refine At.next (k + 1) ?_ ?_ ?_ rfl ?_ ?_ rfl
                · omega
                · ((repeat' (first | exact trivial | apply And.intro)) <;> (first | rfl | (first | (rw [e12]; rfl) | (rw [e13]; rfl))))
                · (repeat' (first | exact trivial | exact .same _ | exact .dead _ | exact .gone rfl | exact .loose | assumption | exact .arr (by assumption) | apply And.intro))
                · (repeat' (first | exact trivial | exact rfl | assumption | apply Stable.ite | apply And.intro | intro _ | (simp only [Stable, StableL, i64S, prS, insS, sndsS, sndS, kS, kaS, ftS, ftsS]; done)))
                · (repeat' (first | exact trivial | exact rfl | assumption | apply Stable.ite | apply And.intro | intro _ | (simp only [Stable, StableL, i64S, prS, insS, sndsS, sndS, kS, kaS, ftS, ftsS]; done)))
            · have e13 := p0e hp0
              by_cases h172 : w = 172
              · obtain ⟨z1, z2⟩ := g2 h172
                have e12 := E12
                rw [z1, Bool.true_and] at e12
                repeat' (first | with_reducible (first | apply J1 | apply J3 | apply J4 | apply J5 | apply J6 | apply J7 | apply J8 | apply J9 | apply J10 | apply J11 | apply J12 | apply J13 | apply J14 | apply J15 | apply J16 | apply J17 | apply J18 | apply J19 | apply J20 | refine J2 ?_) | ((with_reducible apply J21); (· rfl)) | ((with_reducible intro hif); first | (focus (cases hif; done)) | (simp only [JH] at hif; try (exfalso; omega)) | (try (exfalso; omega))) | ((first | ((with_reducible apply J22 cL1_ok tab_ok); (· rfl)) | ((with_reducible apply J23 fol cL1_ok tab_ok); (· rfl)) | with_reducible apply J24); (· (simp only [push_cast, ↓JP, Nat.reduceAdd, Nat.reduceEqDiff, Nat.reduceLT, Nat.reduceMul, Nat.reduceLeDiff, reduceCtorEq, reduceIte, ↓JK, ↓JF, cL1, sWhy17, ls_prS, ls_prS', ls_prS2, hX, h1, h2, hbm, hkl, hc0, hp0, h172, z1, ftsS, inN, inR, Nat.zero_add]; rfl)); (try kernel_rfl); (try (focus (first | exact True.intro | ((repeat' (first | exact True.intro | omega | assumption | apply And.intro | intro h | apply band | apply bnot)); done) | ((try simp only [JS, implies_true, forall_const, shaped, shapedL, kndOf, cL1, sWhy17, ls_prS, ls_prS', ls_prS2, hX, h1, h2, hbm, hkl, hc0, hp0, h172, z1, ftsS, inN, inR, Nat.zero_add]); (repeat' (first | assumption | exact True.intro | omega | apply And.intro)); done) | ((repeat' (first | assumption | exact True.intro | omega | apply And.intro)); done))))) | fail)
                refine At.next (k + 1) ?_ ?_ ?_ rfl ?_ ?_ rfl
                · omega
                · ((repeat' (first | exact trivial | apply And.intro)) <;> (first | rfl | (first | (rw [e12]; rfl) | (rw [e13]; rfl))))
                · (repeat' (first | exact trivial | exact .same _ | exact .dead _ | exact .gone rfl | exact .loose | assumption | exact .arr (by assumption) | apply And.intro))
                · (repeat' (first | exact trivial | exact rfl | assumption | apply Stable.ite | apply And.intro | intro _ | (simp only [Stable, StableL, i64S, prS, insS, sndsS, sndS, kS, kaS, ftS, ftsS]; done)))
                · (repeat' (first | exact trivial | exact rfl | assumption | apply Stable.ite | apply And.intro | intro _ | (simp only [Stable, StableL, i64S, prS, insS, sndsS, sndS, kS, kaS, ftS, ftsS]; done)))
              · have e12 := E12
                repeat' (first | with_reducible (first | apply J1 | apply J3 | apply J4 | apply J5 | apply J6 | apply J7 | apply J8 | apply J9 | apply J10 | apply J11 | apply J12 | apply J13 | apply J14 | apply J15 | apply J16 | apply J17 | apply J18 | apply J19 | apply J20 | refine J2 ?_) | ((with_reducible apply J21); (· rfl)) | ((with_reducible intro hif); first | (focus (cases hif; done)) | (simp only [JH] at hif; try (exfalso; omega)) | (try (exfalso; omega))) | ((first | ((with_reducible apply J22 cL1_ok tab_ok); (· rfl)) | ((with_reducible apply J23 fol cL1_ok tab_ok); (· rfl)) | with_reducible apply J24); (· (simp only [push_cast, ↓JP, Nat.reduceAdd, Nat.reduceEqDiff, Nat.reduceLT, Nat.reduceMul, Nat.reduceLeDiff, reduceCtorEq, reduceIte, ↓JK, ↓JF, cL1, sWhy17, ls_prS, ls_prS', ls_prS2, hX, h1, h2, hbm, hkl, hc0, hp0, h172, ftsS, inN, inR, Nat.zero_add]; rfl)); (try kernel_rfl); (try (focus (first | exact True.intro | ((repeat' (first | exact True.intro | omega | assumption | apply And.intro | intro h | apply band | apply bnot)); done) | ((try simp only [JS, implies_true, forall_const, shaped, shapedL, kndOf, cL1, sWhy17, ls_prS, ls_prS', ls_prS2, hX, h1, h2, hbm, hkl, hc0, hp0, h172, ftsS, inN, inR, Nat.zero_add]); (repeat' (first | assumption | exact True.intro | omega | apply And.intro)); done) | ((repeat' (first | assumption | exact True.intro | omega | apply And.intro)); done))))) | fail)
                refine At.next (k + 1) ?_ ?_ ?_ rfl ?_ ?_ rfl
                · omega
                · ((repeat' (first | exact trivial | apply And.intro)) <;> (first | rfl | (first | (rw [e12]; rfl) | (rw [e13]; rfl))))
                · (repeat' (first | exact trivial | exact .same _ | exact .dead _ | exact .gone rfl | exact .loose | assumption | exact .arr (by assumption) | apply And.intro))
                · (repeat' (first | exact trivial | exact rfl | assumption | apply Stable.ite | apply And.intro | intro _ | (simp only [Stable, StableL, i64S, prS, insS, sndsS, sndS, kS, kaS, ftS, ftsS]; done)))
                · (repeat' (first | exact trivial | exact rfl | assumption | apply Stable.ite | apply And.intro | intro _ | (simp only [Stable, StableL, i64S, prS, insS, sndsS, sndS, kS, kaS, ftS, ftsS]; done)))
          · have e12 := c0e hc0
            by_cases hp0 : 0 < pp
            · have h3 := hW c (pp - 1) w1 w2 (by omega) (by omega) k hkl
              rw [hX] at h3
              obtain ⟨wp, hwp⟩ : ∃ wp, whyE c (pp - 1) 1 x (getF F k) = wp := ⟨_, rfl⟩
              rw [hwp] at h3
              have e13 : portK Q F c pp (k + 1) = (pb || decide (wp = 173) && decide (x.n = pp - 1)) := by unfold portK hit2; rw [hpb, hX, hwp]; simp [hp0]
              by_cases h172 : w = 172
              · obtain ⟨z1, z2⟩ := g2 h172
                repeat' (first | with_reducible (first | apply J1 | apply J3 | apply J4 | apply J5 | apply J6 | apply J7 | apply J8 | apply J9 | apply J10 | apply J11 | apply J12 | apply J13 | apply J14 | apply J15 | apply J16 | apply J17 | apply J18 | apply J19 | apply J20 | refine J2 ?_) | ((with_reducible apply J21); (· rfl)) | ((with_reducible intro hif); first | (focus (cases hif; done)) | (simp only [JH] at hif; try (exfalso; omega)) | (try (exfalso; omega))) | ((first | ((with_reducible apply J22 cL1_ok tab_ok); (· rfl)) | ((with_reducible apply J23 fol cL1_ok tab_ok); (· rfl)) | with_reducible apply J24); (· (simp only [push_cast, ↓JP, Nat.reduceAdd, Nat.reduceEqDiff, Nat.reduceLT, Nat.reduceMul, Nat.reduceLeDiff, reduceCtorEq, reduceIte, ↓JK, ↓JF, cL1, sWhy17, ls_prS, ls_prS', ls_prS2, hX, h1, h3, hbm, hkl, hc0, hp0, h172, z1, ftsS, inN, inR, Nat.zero_add]; rfl)); (try kernel_rfl); (try (focus (first | exact True.intro | ((repeat' (first | exact True.intro | omega | assumption | apply And.intro | intro h | apply band | apply bnot)); done) | ((try simp only [JS, implies_true, forall_const, shaped, shapedL, kndOf, cL1, sWhy17, ls_prS, ls_prS', ls_prS2, hX, h1, h3, hbm, hkl, hc0, hp0, h172, z1, ftsS, inN, inR, Nat.zero_add]); (repeat' (first | assumption | exact True.intro | omega | apply And.intro)); done) | ((repeat' (first | assumption | exact True.intro | omega | apply And.intro)); done))))) | fail)
                refine At.next (k + 1) ?_ ?_ ?_ rfl ?_ ?_ rfl
                · omega
                · ((repeat' (first | exact trivial | apply And.intro)) <;> (first | rfl | (first | (rw [e12]; rfl) | (rw [e13]; rfl))))
                · (repeat' (first | exact trivial | exact .same _ | exact .dead _ | exact .gone rfl | exact .loose | assumption | exact .arr (by assumption) | apply And.intro))
                · (repeat' (first | exact trivial | exact rfl | assumption | apply Stable.ite | apply And.intro | intro _ | (simp only [Stable, StableL, i64S, prS, insS, sndsS, sndS, kS, kaS, ftS, ftsS]; done)))
                · (repeat' (first | exact trivial | exact rfl | assumption | apply Stable.ite | apply And.intro | intro _ | (simp only [Stable, StableL, i64S, prS, insS, sndsS, sndS, kS, kaS, ftS, ftsS]; done)))
              · repeat' (first | with_reducible (first | apply J1 | apply J3 | apply J4 | apply J5 | apply J6 | apply J7 | apply J8 | apply J9 | apply J10 | apply J11 | apply J12 | apply J13 | apply J14 | apply J15 | apply J16 | apply J17 | apply J18 | apply J19 | apply J20 | refine J2 ?_) | ((with_reducible apply J21); (· rfl)) | ((with_reducible intro hif); first | (focus (cases hif; done)) | (simp only [JH] at hif; try (exfalso; omega)) | (try (exfalso; omega))) | ((first | ((with_reducible apply J22 cL1_ok tab_ok); (· rfl)) | ((with_reducible apply J23 fol cL1_ok tab_ok); (· rfl)) | with_reducible apply J24); (· (simp only [push_cast, ↓JP, Nat.reduceAdd, Nat.reduceEqDiff, Nat.reduceLT, Nat.reduceMul, Nat.reduceLeDiff, reduceCtorEq, reduceIte, ↓JK, ↓JF, cL1, sWhy17, ls_prS, ls_prS', ls_prS2, hX, h1, h3, hbm, hkl, hc0, hp0, h172, ftsS, inN, inR, Nat.zero_add]; rfl)); (try kernel_rfl); (try (focus (first | exact True.intro | ((repeat' (first | exact True.intro | omega | assumption | apply And.intro | intro h | apply band | apply bnot)); done) | ((try simp only [JS, implies_true, forall_const, shaped, shapedL, kndOf, cL1, sWhy17, ls_prS, ls_prS', ls_prS2, hX, h1, h3, hbm, hkl, hc0, hp0, h172, ftsS, inN, inR, Nat.zero_add]); (repeat' (first | assumption | exact True.intro | omega | apply And.intro)); done) | ((repeat' (first | assumption | exact True.intro | omega | apply And.intro)); done))))) | fail)
                refine At.next (k + 1) ?_ ?_ ?_ rfl ?_ ?_ rfl
                · omega
                · ((repeat' (first | exact trivial | apply And.intro)) <;> (first | rfl | (first | (rw [e12]; rfl) | (rw [e13]; rfl))))
                · (repeat' (first | exact trivial | exact .same _ | exact .dead _ | exact .gone rfl | exact .loose | assumption | exact .arr (by assumption) | apply And.intro))
                · (repeat' (first | exact trivial | exact rfl | assumption | apply Stable.ite | apply And.intro | intro _ | (simp only [Stable, StableL, i64S, prS, insS, sndsS, sndS, kS, kaS, ftS, ftsS]; done)))
                · (repeat' (first | exact trivial | exact rfl | assumption | apply Stable.ite | apply And.intro | intro _ | (simp only [Stable, StableL, i64S, prS, insS, sndsS, sndS, kS, kaS, ftS, ftsS]; done)))
            · have e13 := p0e hp0
              by_cases h172 : w = 172
              · obtain ⟨z1, z2⟩ := g2 h172
                repeat' (first | with_reducible (first | apply J1 | apply J3 | apply J4 | apply J5 | apply J6 | apply J7 | apply J8 | apply J9 | apply J10 | apply J11 | apply J12 | apply J13 | apply J14 | apply J15 | apply J16 | apply J17 | apply J18 | apply J19 | apply J20 | refine J2 ?_) | ((with_reducible apply J21); (· rfl)) | ((with_reducible intro hif); first | (focus (cases hif; done)) | (simp only [JH] at hif; try (exfalso; omega)) | (try (exfalso; omega))) | ((first | ((with_reducible apply J22 cL1_ok tab_ok); (· rfl)) | ((with_reducible apply J23 fol cL1_ok tab_ok); (· rfl)) | with_reducible apply J24); (· (simp only [push_cast, ↓JP, Nat.reduceAdd, Nat.reduceEqDiff, Nat.reduceLT, Nat.reduceMul, Nat.reduceLeDiff, reduceCtorEq, reduceIte, ↓JK, ↓JF, cL1, sWhy17, ls_prS, ls_prS', ls_prS2, hX, h1, hbm, hkl, hc0, hp0, h172, z1, ftsS, inN, inR, Nat.zero_add]; rfl)); (try kernel_rfl); (try (focus (first | exact True.intro | ((repeat' (first | exact True.intro | omega | assumption | apply And.intro | intro h | apply band | apply bnot)); done) | ((try simp only [JS, implies_true, forall_const, shaped, shapedL, kndOf, cL1, sWhy17, ls_prS, ls_prS', ls_prS2, hX, h1, hbm, hkl, hc0, hp0, h172, z1, ftsS, inN, inR, Nat.zero_add]); (repeat' (first | assumption | exact True.intro | omega | apply And.intro)); done) | ((repeat' (first | assumption | exact True.intro | omega | apply And.intro)); done))))) | fail)
                refine At.next (k + 1) ?_ ?_ ?_ rfl ?_ ?_ rfl
                · omega
                · ((repeat' (first | exact trivial | apply And.intro)) <;> (first | rfl | (first | (rw [e12]; rfl) | (rw [e13]; rfl))))
                · (repeat' (first | exact trivial | exact .same _ | exact .dead _ | exact .gone rfl | exact .loose | assumption | exact .arr (by assumption) | apply And.intro))
                · (repeat' (first | exact trivial | exact rfl | assumption | apply Stable.ite | apply And.intro | intro _ | (simp only [Stable, StableL, i64S, prS, insS, sndsS, sndS, kS, kaS, ftS, ftsS]; done)))
                · (repeat' (first | exact trivial | exact rfl | assumption | apply Stable.ite | apply And.intro | intro _ | (simp only [Stable, StableL, i64S, prS, insS, sndsS, sndS, kS, kaS, ftS, ftsS]; done)))
              · repeat' (first | with_reducible (first | apply J1 | apply J3 | apply J4 | apply J5 | apply J6 | apply J7 | apply J8 | apply J9 | apply J10 | apply J11 | apply J12 | apply J13 | apply J14 | apply J15 | apply J16 | apply J17 | apply J18 | apply J19 | apply J20 | refine J2 ?_) | ((with_reducible apply J21); (· rfl)) | ((with_reducible intro hif); first | (focus (cases hif; done)) | (simp only [JH] at hif; try (exfalso; omega)) | (try (exfalso; omega))) | ((first | ((with_reducible apply J22 cL1_ok tab_ok); (· rfl)) | ((with_reducible apply J23 fol cL1_ok tab_ok); (· rfl)) | with_reducible apply J24); (· (simp only [push_cast, ↓JP, Nat.reduceAdd, Nat.reduceEqDiff, Nat.reduceLT, Nat.reduceMul, Nat.reduceLeDiff, reduceCtorEq, reduceIte, ↓JK, ↓JF, cL1, sWhy17, ls_prS, ls_prS', ls_prS2, hX, h1, hbm, hkl, hc0, hp0, h172, ftsS, inN, inR, Nat.zero_add]; rfl)); (try kernel_rfl); (try (focus (first | exact True.intro | ((repeat' (first | exact True.intro | omega | assumption | apply And.intro | intro h | apply band | apply bnot)); done) | ((try simp only [JS, implies_true, forall_const, shaped, shapedL, kndOf, cL1, sWhy17, ls_prS, ls_prS', ls_prS2, hX, h1, hbm, hkl, hc0, hp0, h172, ftsS, inN, inR, Nat.zero_add]); (repeat' (first | assumption | exact True.intro | omega | apply And.intro)); done) | ((repeat' (first | assumption | exact True.intro | omega | apply And.intro)); done))))) | fail)
                refine At.next (k + 1) ?_ ?_ ?_ rfl ?_ ?_ rfl
                · omega
                · ((repeat' (first | exact trivial | apply And.intro)) <;> (first | rfl | (first | (rw [e12]; rfl) | (rw [e13]; rfl))))
                · (repeat' (first | exact trivial | exact .same _ | exact .dead _ | exact .gone rfl | exact .loose | assumption | exact .arr (by assumption) | apply And.intro))
                · (repeat' (first | exact trivial | exact rfl | assumption | apply Stable.ite | apply And.intro | intro _ | (simp only [Stable, StableL, i64S, prS, insS, sndsS, sndS, kS, kaS, ftS, ftsS]; done)))
                · (repeat' (first | exact trivial | exact rfl | assumption | apply Stable.ite | apply And.intro | intro _ | (simp only [Stable, StableL, i64S, prS, insS, sndsS, sndS, kS, kaS, ftS, ftsS]; done)))
        · obtain rfl : k = Q.length := by omega
          have hcK : cellK Q F c pp Q.length = true := cellK_at (by
            by_cases h0 : c = 0
            · exact .inl h0
            · obtain ⟨i, hi, q1, q2⟩ := HCC pp (by omega)
              refine .inr ⟨by omega, i, hi, ?_⟩
              unfold hit1
              rw [q1]
              rcases q2 with ⟨q2, q3⟩ | q2
              · rw [q2, q3]; simp
              · rw [q2]; simp)
          have hpK : portK Q F c pp Q.length = true := portK_at (by
            by_cases h0 : pp = 0
            · exact .inl h0
            · obtain ⟨i, hi, q1, q2⟩ := HCP c (by omega)
              refine .inr ⟨by omega, i, hi, ?_⟩
              unfold hit2
              rw [q1, q2]; simp)
          repeat' (first | with_reducible (first | apply J1 | apply J3 | apply J4 | apply J5 | apply J6 | apply J7 | apply J8 | apply J9 | apply J10 | apply J11 | apply J12 | apply J13 | apply J14 | apply J15 | apply J16 | apply J17 | apply J18 | apply J19 | apply J20 | refine J2 ?_) | ((with_reducible apply J21); (· rfl)) | ((with_reducible intro hif); first | (focus (cases hif; done)) | (simp only [JH] at hif; try (exfalso; omega)) | (try (exfalso; omega))) | ((first | ((with_reducible apply J22 cL1_ok tab_ok); (· rfl)) | ((with_reducible apply J23 fol cL1_ok tab_ok); (· rfl)) | with_reducible apply J24); (· (simp only [push_cast, ↓JP, Nat.reduceAdd, Nat.reduceEqDiff, Nat.reduceLT, Nat.reduceMul, Nat.reduceLeDiff, reduceCtorEq, reduceIte, ↓JK, ↓JF, hcK, hpK]; rfl)); (try kernel_rfl); (try (focus (first | exact True.intro | ((try simp only [JS, implies_true, forall_const, shaped, shapedL, kndOf, hcK, hpK]); (repeat' (first | assumption | exact True.intro | omega | apply And.intro)); done) | ((repeat' (first | assumption | exact True.intro | omega | apply And.intro)); done))))) | fail)
          apply At.endsRet tab_ok (fn := Try.f3) (rs := [.tmp 4]) Anc.refl hro (Nat.le_of_ble_eq_true rfl) rfl
          · simp only [push_cast, ↓JP, Nat.reduceAdd, Nat.reduceEqDiff, Nat.reduceLT, Nat.reduceMul, Nat.reduceLeDiff, reduceCtorEq, reduceIte, ↓JK, ↓JF, resV, resV1]; rfl
          · (first | trivial | (simp only [and_self]; done))
          · (repeat' (first | exact trivial | exact .same _ | exact .dead _ | exact .gone rfl | exact .loose | assumption | exact .arr (by assumption) | apply And.intro))
          · rfl
          · (repeat' (first | exact trivial | exact rfl | assumption | apply Stable.ite | apply And.intro | intro _ | (simp only [Stable, StableL, i64S, prS, insS, sndsS, sndS, kS, kaS, ftS, ftsS]; done)))
          · (repeat' (first | exact trivial | exact .inl rfl | exact .inr rfl | exact rfl | apply And.intro))
          · exact fun β => rfl
          · (repeat' (first | exact trivial | exact rfl | assumption | apply Stable.ite | apply And.intro | intro _ | (simp only [Stable, StableL, i64S, prS, insS, sndsS, sndS, kS, kaS, ftS, ftsS]; done)))
end Go.Proofs.Ytmljmabbopkpiaa.Vm
end
