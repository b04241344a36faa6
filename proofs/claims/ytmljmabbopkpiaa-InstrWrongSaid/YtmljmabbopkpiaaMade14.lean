/- fermatalaw14.Made: the program that small numbers make, and that it is right. -/
import Derived.Test.YtmljmabbopkpiaaOne14
import Derived.Test.YtmljmabbopkpiaaCode
import Derived.Test.YtmljmabbopkpiaaCheck
import Derived.Test.YtmljmabbopkpiaaOne18
namespace Go.Proofs.Ytmljmabbopkpiaa
open Go.RowKit
set_option linter.unusedVariables false
set_option linter.unusedSimpArgs false

def one14 (x : Ins) (M : Int) : Ins := (fold14 x M (formS (formC (op14 x.op))) (formS (formC (op14 x.op))).size).2
theorem formC_cases (op : Int) : formC op = 0 ∨ formC op = 1 ∨ formC op = 2 ∨ formC op = 3 ∨ formC op = 4 ∨ formC op = 5 ∨ formC op = 6 ∨ formC op = 7 := by
  unfold formC; repeat (first | (split; · simp) | simp)
theorem formS_size (k : Nat) : (formS k).size ≤ 100 := by
  unfold formS; split <;> decide
theorem formS_asc (k : Nat) : ∀ p (h : p < (formS k).size), ((formS k)[p]'h).toNat < 128 := by
  have key : ∀ k, k < 8 → ∀ p (h : p < (formS k).size), ((formS k)[p]'h).toNat < 128 := by decide
  rcases Nat.lt_or_ge k 8 with h | h
  · exact key k h
  · intro p hp
    have : formS k = ⟨#[]⟩ := by
      unfold formS
      split <;> first | omega | rfl
    rw [this] at hp
    exact absurd hp (Nat.not_lt_zero p)
theorem one14_c (x : Ins) (hx : x.ok) (n : Int) (hn : 1 ≤ n ∧ n ≤ 1000000) (w : World) :
    Calls Try.prog 54 #[x.v, .int .i64 n] w fun e w' => e = .returned (one14 x n).v ∧ Below w.heap.size w w' := by
  have hb := op14_bd x.op
  have hf := fun w => form_c (op14 x.op) (by omega) w
  have h0 : (formC (op14 x.op) != 0) = true := by simpa using hb.2.2
  rw [h0] at hf
  exact one14_w x hx n hn _ (formS_size _) (formS_asc _) w hf
/-- by the form of its Op -/
theorem one14_eq (x : Ins) (M : Int) : one14 x M = match formC (op14 x.op) with
    | 1 => ⟨op14 x.op, x.a % 8, x.b % 8, x.c % 8, 0⟩
    | 3 => ⟨op14 x.op, x.a % 8, 0, 0, x.n⟩
    | 4 => ⟨op14 x.op, x.a % 8, x.b % 8, 0, 0⟩
    | 5 => ⟨op14 x.op, x.a % 8, x.b % 8, 0, IntKind.u64.wrap x.n % 16⟩
    | 6 => ⟨op14 x.op, 0, 0, 0, IntKind.u64.wrap x.n % M⟩
    | 7 => ⟨op14 x.op, x.a % 8, 0, 0, IntKind.u64.wrap x.n % M⟩
    | _ => ⟨op14 x.op, 0, 0, 0, 0⟩ := by
  unfold one14
  rcases formC_cases (op14 x.op) with h | h | h | h | h | h | h | h <;> (rw [h]; rfl)
theorem one14_forms (x : Ins) (M : Int) : (formC (op14 x.op) = 1 ∧ one14 x M = ⟨op14 x.op, x.a % 8, x.b % 8, x.c % 8, 0⟩) ∨ (formC (op14 x.op) = 2 ∧ one14 x M = ⟨op14 x.op, 0, 0, 0, 0⟩) ∨
    (formC (op14 x.op) = 3 ∧ one14 x M = ⟨op14 x.op, x.a % 8, 0, 0, x.n⟩) ∨ (formC (op14 x.op) = 4 ∧ one14 x M = ⟨op14 x.op, x.a % 8, x.b % 8, 0, 0⟩) ∨
    (formC (op14 x.op) = 5 ∧ one14 x M = ⟨op14 x.op, x.a % 8, x.b % 8, 0, IntKind.u64.wrap x.n % 16⟩) ∨ (formC (op14 x.op) = 6 ∧ one14 x M = ⟨op14 x.op, 0, 0, 0, IntKind.u64.wrap x.n % M⟩) ∨
    (formC (op14 x.op) = 7 ∧ one14 x M = ⟨op14 x.op, x.a % 8, 0, 0, IntKind.u64.wrap x.n % M⟩) := by
  have he := one14_eq x M
  rcases formC_cases (op14 x.op) with h | h | h | h | h | h | h | h
  · exact absurd h (op14_bd x.op).2.2
  · exact .inl ⟨h, by rw [he, h]; rfl⟩
  · exact .inr (.inl ⟨h, by rw [he, h]; rfl⟩)
  · exact .inr (.inr (.inl ⟨h, by rw [he, h]; rfl⟩))
  · exact .inr (.inr (.inr (.inl ⟨h, by rw [he, h]; rfl⟩)))
  · exact .inr (.inr (.inr (.inr (.inl ⟨h, by rw [he, h]; rfl⟩))))
  · exact .inr (.inr (.inr (.inr (.inr (.inl ⟨h, by rw [he, h]; rfl⟩)))))
  · exact .inr (.inr (.inr (.inr (.inr (.inr ⟨h, by rw [he, h]; rfl⟩)))))
theorem one14_op (x : Ins) (M : Int) : (one14 x M).op = op14 x.op := by
  rcases one14_forms x M with ⟨_, h⟩ | ⟨_, h⟩ | ⟨_, h⟩ | ⟨_, h⟩ | ⟨_, h⟩ | ⟨_, h⟩ | ⟨_, h⟩ <;> rw [h]
theorem ok_mk {op a b c n : Int} (h : (0 ≤ op ∧ op ≤ 255) ∧ (0 ≤ a ∧ a ≤ 255) ∧ (0 ≤ b ∧ b ≤ 255) ∧ (0 ≤ c ∧ c ≤ 255) ∧ (-9223372036854775808 ≤ n ∧ n ≤ 9223372036854775807)) : (⟨op, a, b, c, n⟩ : Ins).ok :=
  ⟨h.1.1, h.1.2, h.2.1.1, h.2.1.2, h.2.2.1.1, h.2.2.1.2, h.2.2.2.1.1, h.2.2.2.1.2, h.2.2.2.2.1, h.2.2.2.2.2⟩
theorem one14_ok (x : Ins) (hx : x.ok) (M : Int) (hM : 1 ≤ M ∧ M ≤ 1000000) : (one14 x M).ok := by
  have hb := op14_bd x.op
  have hu := u64_bd x.n
  have hm := Int.emod_nonneg (IntKind.u64.wrap x.n) (b := M) (by omega)
  have hm2 := Int.emod_lt_of_pos (IntKind.u64.wrap x.n) (b := M) (by omega)
  obtain ⟨-, -, -, -, -, -, -, -, n0, n1⟩ := hx
  rcases one14_forms x M with ⟨_, h⟩ | ⟨_, h⟩ | ⟨_, h⟩ | ⟨_, h⟩ | ⟨_, h⟩ | ⟨_, h⟩ | ⟨_, h⟩ <;> (rw [h]; exact ok_mk (by omega))
theorem one14_one (x : Ins) (M : Int) (hM : 1 ≤ M ∧ M ≤ 256) : oneE (one14 x M) = 0 := by
  have hb := op14_bd x.op
  have hu := u64_bd x.n
  have hm := Int.emod_nonneg (IntKind.u64.wrap x.n) (b := M) (by omega)
  have hm2 := Int.emod_lt_of_pos (IntKind.u64.wrap x.n) (b := M) (by omega)
  unfold oneE
  rw [one14_op, if_neg hb.2.2]
  rcases one14_forms x M with ⟨h1, h⟩ | ⟨h1, h⟩ | ⟨h1, h⟩ | ⟨h1, h⟩ | ⟨h1, h⟩ | ⟨h1, h⟩ | ⟨h1, h⟩ <;> rw [h1, h]
  · exact oneK_pos (show _ ∧ _ ∧ _ ∧ _ by dsimp only; omega)
  · exact oneK_pos (show _ ∧ _ ∧ _ ∧ _ by dsimp only; omega)
  · exact oneK_pos (show _ ∧ _ ∧ _ by dsimp only; omega)
  · exact oneK_pos (show _ ∧ _ ∧ _ ∧ _ by dsimp only; omega)
  · exact oneK_pos (show _ ∧ _ ∧ _ ∧ _ ∧ _ by dsimp only; omega)
  · exact oneK_pos (show _ ∧ _ ∧ _ ∧ _ ∧ _ by dsimp only; omega)
  · exact oneK_pos (show _ ∧ _ ∧ _ ∧ _ ∧ _ by dsimp only; omega)
theorem one14_bad (x : Ins) (M : Int) (hM : 1 ≤ M ∧ M ≤ 256) : badAt M (one14 x M) = 0 := by
  have h1 := one14_one x M hM
  have hb := op14_bd x.op
  have hm2 := Int.emod_lt_of_pos (IntKind.u64.wrap x.n) (b := M) (by omega)
  unfold badAt
  rw [if_neg (by simp [h1])]
  by_cases ht : targB (one14 x M) = true
  · rw [if_neg]
    rintro ⟨-, h2⟩
    have h3 : targV (one14 x M) = (one14 x M).n := by unfold targV; rw [if_pos ht]
    rw [h3] at h2
    unfold targB at ht
    rw [one14_op] at ht
    simp [h1] at ht
    have hc : formC (op14 x.op) = 6 ∨ formC (op14 x.op) = 7 := by
      rcases ht with h | h | h <;> rw [h] <;> decide
    rcases one14_forms x M with ⟨h5, h⟩ | ⟨h5, h⟩ | ⟨h5, h⟩ | ⟨h5, h⟩ | ⟨h5, h⟩ | ⟨h5, h⟩ | ⟨h5, h⟩ <;> first | omega | (rw [h] at h2; dsimp only at h2; omega)
  · rw [if_neg (by simp [ht])]
def made14 (xs : List Ins) : List Ins := (xs.take 40).map (fun x => one14 x ((xs.take 40).length + 1 : Nat)) ++ [haltI]
theorem made14_len (xs : List Ins) : (made14 xs).length = (xs.take 40).length + 1 := by simp [made14]
theorem made14_le (xs : List Ins) : 1 ≤ (made14 xs).length ∧ (made14 xs).length ≤ 41 := by
  rw [made14_len, List.length_take]; omega
theorem made14_ok (xs : List Ins) (hx : ∀ x ∈ xs, x.ok) : ∀ i ∈ made14 xs, i.ok := by
  intro i hi
  unfold made14 at hi
  rw [List.mem_append, List.mem_map] at hi
  rcases hi with ⟨x, h, rfl⟩ | h
  · exact one14_ok x (hx x (List.mem_of_mem_take h)) _ (by rw [List.length_take]; omega)
  · rw [List.mem_singleton] at h
    rw [h]; exact haltI_ok
theorem made14_bad (xs : List Ins) : ∀ i ∈ made14 xs, badAt (made14 xs).length i = 0 := by
  intro i hi
  rw [made14_len]
  unfold made14 at hi
  rw [List.mem_append, List.mem_map] at hi
  rcases hi with ⟨x, h, rfl⟩ | h
  · exact one14_bad x _ (by rw [List.length_take]; omega)
  · rw [List.mem_singleton] at h
    rw [h]
    unfold badAt
    rw [if_neg (by decide), if_neg (fun h => absurd h.1 (by decide))]
theorem made14_right (xs : List Ins) : (checkI (made14 xs)).2 = 0 := by
  have hl := made14_le xs
  unfold checkI
  rw [if_neg (by omega), if_neg (by omega)]
  have hK := checkK_none (p := made14 xs) (fun k hk y hy => made14_bad xs y (List.mem_of_getElem? hy))
  rw [hK]
  have : (made14 xs).getD ((made14 xs).length - 1) ⟨0, 0, 0, 0, 0⟩ = haltI := by
    rw [made14_len]
    simp [made14, List.getD]
  rw [this, if_neg (by decide)]
theorem reads_new5 (X : World) (t : TypeId) (a b c d e : Value) (gg : Nat) (h : gg = X.heap.size) : Reads (X.alloc (.cells #[a, b, c, d, e] t)) (gg + 1) 5 (some ⟨gg, 0, none⟩) 1 [a, b, c, d, e] := by
  subst h
  refine ⟨rfl, fun _ => ⟨_, rfl, Nat.lt_succ_self _, fun j u hu => ?_⟩⟩
  rw [Addr.add_lit, cell_of_row _ _ _ _ _ _ (heap_alloc_new X _), Nat.zero_add]
  simpa using hu
set_option maxRecDepth 100000 in
set_option maxHeartbeats 4000000 in
theorem made14_c (xs : List Ins) (hx : ∀ x ∈ xs, x.ok) (A : Option Addr) (n c : Nat) (w : World) (hA : Reads w w.heap.size 5 A n (insV xs)) (hc : n ≤ c) (hcm : c ≤ 9223372036854775807) :
    Calls Try.prog 19 #[.slice A n c] w fun e w' => ∃ P, e = .returned P ∧ w'.ownsRow w.heap.size 28 5 P (made14 xs).length (insV (made14 xs)) ∧ Below w.heap.size w w' := by
  have hn := hA.ins_len
  obtain ⟨m, hm⟩ : ∃ m, m = min n 40 := ⟨_, rfl⟩
  have hmn : m ≤ n := by omega
  have hm40 : m ≤ 40 := by omega
  have hml : (xs.take 40).length = m := by rw [List.length_take]; omega
  have hmin : ∀ W : World, (Builtin.min_ #[3, 3] 3 #[.int .i64 (n : Int), .int .i64 40]).run Try.prog W = .ok (.int .i64 (m : Int)) W := fun W => min_i64 _ _ _ _ 0 _ (by split <;> omega) W
  have hm0 : (0 : Int) ≤ (m : Int) := by omega
  have hmc : (m : Int) ≤ (c : Int) := by omega
  obtain ⟨iS, hi, hz0, hz1, hz2⟩ := info_parts infoIns
  have HL := Lib.hid hml
  clear hm hml
  go_enter Try.func19, Try.ntmps19
  go_wp2
  go_loopw [3, 13] (fun s k wr => ∃ (j : Nat) (D : Option Addr) (f : Nat), k = .int .i64 j ∧ s = .slice D j f ∧ j ≤ m ∧ wr.ownsRow w.heap.size 28 5 (.slice D j f) j (insV ((xs.take j).map fun x => one14 x (m + 1 : Nat))) ∧ Below w.heap.size w wr) (fun _ k _ => m - (intOf k).toNat)
  case atStart => exact ⟨0, none, 0, rfl, rfl, by omega, World.ownsRow_nil _ _ _ _, Below.refl _ _⟩
  case round =>
    obtain ⟨j, D, f, rfl, rfl, hj, ho, hb⟩ := hrel
    by_cases hlt : j < m
    · obtain ⟨ab, off, x, rfl, hab, hxj, c0, c1, c2, c3, c4⟩ := (hA.below hb).ins_at (show j < n by omega)
      have hxo : x.ok := hx x (List.mem_of_getElem? hxj)
      have hM : 1 ≤ ((m : Int) + 1) ∧ ((m : Int) + 1) ≤ 1000000 := by omega
      have w1 : wrap64 ((m : Int) + 1) = (m : Int) + 1 := by unfold wrap64; omega
      have OC := Lib.hid (fun W => one14_c x hxo ((m : Int) + 1) hM W)
      obtain ⟨y, hy⟩ : ∃ y, y = one14 x ((m : Int) + 1) := ⟨_, rfl⟩
      rw [← hy] at OC
      have hyo : y.ok := hy ▸ one14_ok x hxo _ hM
      have hstep : insV (((xs.take j).map fun x => one14 x (m + 1 : Nat))) ++ y.cells = insV ((xs.take (j + 1)).map fun x => one14 x (m + 1 : Nat)) := by
        rw [List.take_add_one, hxj, hy]
        simp [insV]
      have hab2 : ab < wr.heap.size := by have := hb.size; omega
      have HO := Lib.hid (And.intro ho (And.intro hstep hb))
      obtain ⟨x0, xa, xb, xc, xn⟩ := x
      obtain ⟨y0, ya, yb, yc, yn⟩ := y
      unfold Ins.v at OC
      dsimp only at OC c0 c1 c2 c3 c4
      clear ho hstep hb hA hxj hy hxo hyo
      go_wp2_with fail
      go_at_call 54
      refine (OC.out _).mono ?_
      rintro e W1 ⟨rfl, hb1⟩
      have hB1 : Below wr.heap.size wr W1 := ((Below.refl _ wr).alloc (Nat.le_refl _) _).trans (hb1.mono (by simp))
      have ho1 : W1.ownsRow w.heap.size 28 5 (.slice D j f) j (insV ((xs.take j).map fun x => one14 x (m + 1 : Nat))) := ownsRow_keep HO.out.1 fun k _ hk => hB1.block k hk
      have hb2 : Below w.heap.size w W1 := HO.out.2.2.trans (hB1.mono HO.out.2.2.size)
      have HQ := Lib.hid (And.intro ho1 hb2)
      have hrd : Reads (W1.alloc (.cells #[.int .u8 y0, .int .u8 ya, .int .u8 yb, .int .u8 yc, .int .i64 yn] 28)) (W1.heap.size + 1) 5 (some ⟨W1.heap.size, 0, none⟩) 1 [.int .u8 y0, .int .u8 ya, .int .u8 yb, .int .u8 yc, .int .i64 yn] := reads_new5 _ _ _ _ _ _ _ _ rfl
      have hones : ∀ u ∈ [Value.int .u8 y0, .int .u8 ya, .int .u8 yb, .int .u8 yc, .int .i64 yn], u.oneCell' = true := by
        intro u hu; simp at hu; rcases hu with rfl | rfl | rfl | rfl | rfl <;> rfl
      clear hb1 hB1 ho1 hb2
      go_wp2_with (at_builtin
                   refine wpList_append_any _ rfl (.tmp 17) (.tmp 23) _ rfl w.heap.size 28 iS _ 5 16 Try.underlying25 hi hz0 hz1 hz2 rfl (by omega) (.slice D j f) j _ rfl
                     (own_alloc HQ.out.1 _) (W1.heap.size + 1) (some ⟨W1.heap.size, 0, none⟩) 1 1 _ rfl hrd hones (by unfold maxLen; omega) (by omega) (by have := HQ.out.2.size; simp; omega) ?_
                   intro v1 w1 hown1 hg1 hat1)
      obtain ⟨D1, f1, rfl⟩ := own_slice hown1
      have hf2 := HO.out.2.1
      have hn2 : insV ((xs.take j).map fun x => one14 x (m + 1 : Nat)) ++ [.int .u8 y0, .int .u8 ya, .int .u8 yb, .int .u8 yc, .int .i64 yn] = insV ((xs.take (j + 1)).map fun x => one14 x (m + 1 : Nat)) := hf2
      rw [hn2] at hown1
      go_roundw
      case rel => exact ⟨j + 1, D1, f1, by go_num, rfl, by omega, hown1, (HQ.out.2.alloc HQ.out.2.size _).grown hg1 (Nat.le_trans HQ.out.2.size (by simp)) (fun k hk => own_base HQ.out.1 k hk)⟩
      case measure => simp [intOf]; omega
    · have hjm : j = m := by omega
      subst hjm
      have hfin : insV ((xs.take j).map fun x => one14 x (j + 1 : Nat)) ++ haltI.cells = insV (made14 xs) := by
        have ht : xs.take j = xs.take 40 := by
          have := HL.out
          rw [List.length_take] at this
          rcases Nat.le_total xs.length 40 with h | h
          · rw [List.take_of_length_le (by omega), List.take_of_length_le h]
          · rw [show j = 40 by omega]
        unfold made14
        rw [HL.out, ht]
        simp [insV]
      have hlen : (made14 xs).length = j + 1 := by rw [made14_len, HL.out]
      have HQ := Lib.hid (And.intro ho (And.intro hb (And.intro hfin hlen)))
      have hrd : Reads (wr.alloc (.cells #[.int .u8 1, .int .u8 0, .int .u8 0, .int .u8 0, .int .i64 0] 28)) (wr.heap.size + 1) 5 (some ⟨wr.heap.size, 0, none⟩) 1 [.int .u8 1, .int .u8 0, .int .u8 0, .int .u8 0, .int .i64 0] := reads_new5 _ _ _ _ _ _ _ _ rfl
      have hones : ∀ u ∈ [Value.int .u8 1, .int .u8 0, .int .u8 0, .int .u8 0, .int .i64 0], u.oneCell' = true := by
        intro u hu; simp at hu; rcases hu with rfl | rfl | rfl | rfl | rfl <;> rfl
      clear ho hb hfin hlen hA
      go_wp2_with (at_builtin
                   refine wpList_append_any _ rfl (.tmp 26) (.tmp 28) _ rfl w.heap.size 28 iS _ 5 16 Try.underlying25 hi hz0 hz1 hz2 rfl (by omega) (.slice D j f) j _ rfl
                     (own_alloc HQ.out.1 _) (wr.heap.size + 1) (some ⟨wr.heap.size, 0, none⟩) 1 1 _ rfl hrd hones (by unfold maxLen; omega) (by omega) (by have := HQ.out.2.1.size; simp; omega) ?_
                   intro v1 w1 hown1 hg1 hat1)
      obtain ⟨h1, h2, h3, h4⟩ := HQ.out
      have hn2 : insV ((xs.take j).map fun x => one14 x (j + 1 : Nat)) ++ [.int .u8 1, .int .u8 0, .int .u8 0, .int .u8 0, .int .i64 0] = insV (made14 xs) := h3
      rw [hn2] at hown1
      go_ret
      rw [h4]
      exact ⟨_, rfl, hown1, (h2.alloc h2.size _).grown hg1 (Nat.le_trans h2.size (by simp)) (fun k hk => own_base h1 k hk)⟩
end Go.Proofs.Ytmljmabbopkpiaa
