import Derived.Test.YtjliakjbdcplcaaG5
import Derived.Test.YtjliakjbdcplcaaG13
import Derived.StillTailTactics
import Derived.Deep.QuietTactic
import Derived.Deep.RegionLaw
import Derived.Deep.DrawnRows
import Derived.Laws.EntriesVeiled
import Derived.BigQuiet
import Derived.WalkSpells
import Derived.Handy
import Derived.Deep.DeepCutAuto
section
/- fermatalaw14.Made: the program that small numbers make, and that it is right. -/
namespace Go.Proofs.Ytjliakjbdcplcaa
open Go.RowKit
set_option linter.unusedVariables false
set_option linter.unusedSimpArgs false

def one14 (x : Ins) (M : Int) : Ins := (fold14 x M (formS (formC (op14 x.op))) (formS (formC (op14 x.op))).size).2
theorem formC_cases (op : Int) : formC op = 0 ∨ formC op = 1 ∨ formC op = 2 ∨ formC op = 3 ∨ formC op = 4 ∨ formC op = 5 ∨ formC op = 6 ∨ formC op = 7 := by
  unfold formC; repeat (first | (split; · simp) | simp)
theorem formS_size (k : Nat) : (formS k).size ≤ 100 := by
  unfold formS; split <;> decide
theorem formS_asc (k : Nat) : ∀ p (h : p < (formS k).size), ((formS k)[p]'h).toNat < 128 := by
  have key : ∀ k, k < 8 → ∀ p (h : p < (formS k).size), ((formS k)[p]'h).toNat < 128 := by decide
  rcases Nat.lt_or_ge k 8 with h | h
  · exact key k h
  · intro p hp
    have : formS k = ⟨#[]⟩ := by
      unfold formS
      split <;> first | omega | rfl
    rw [this] at hp
    exact absurd hp (Nat.not_lt_zero p)
theorem one14_c (x : Ins) (hx : x.ok) (n : Int) (hn : 1 ≤ n ∧ n ≤ 1000000) (w : World) :
    Calls Try.prog 71 #[x.v, .int .i64 n] w fun e w' => e = .returned (one14 x n).v ∧ Below w.heap.size w w' := by
  have hb := op14_bd x.op
  have hf := fun w => form_c (op14 x.op) (by omega) w
  have h0 : (formC (op14 x.op) != 0) = true := by simpa using hb.2.2
  rw [h0] at hf
  exact one14_w x hx n hn _ (formS_size _) (formS_asc _) w hf
/-- by the form of its Op -/
theorem one14_eq (x : Ins) (M : Int) : one14 x M = match formC (op14 x.op) with
    | 1 => ⟨op14 x.op, x.a % 8, x.b % 8, x.c % 8, 0⟩
    | 3 => ⟨op14 x.op, x.a % 8, 0, 0, x.n⟩
    | 4 => ⟨op14 x.op, x.a % 8, x.b % 8, 0, 0⟩
    | 5 => ⟨op14 x.op, x.a % 8, x.b % 8, 0, IntKind.u64.wrap x.n % 16⟩
    | 6 => ⟨op14 x.op, 0, 0, 0, IntKind.u64.wrap x.n % M⟩
    | 7 => ⟨op14 x.op, x.a % 8, 0, 0, IntKind.u64.wrap x.n % M⟩
    | _ => ⟨op14 x.op, 0, 0, 0, 0⟩ := by
  unfold one14
  rcases formC_cases (op14 x.op) with h | h | h | h | h | h | h | h <;> (rw [h]; rfl)
theorem one14_forms (x : Ins) (M : Int) : (formC (op14 x.op) = 1 ∧ one14 x M = ⟨op14 x.op, x.a % 8, x.b % 8, x.c % 8, 0⟩) ∨ (formC (op14 x.op) = 2 ∧ one14 x M = ⟨op14 x.op, 0, 0, 0, 0⟩) ∨
    (formC (op14 x.op) = 3 ∧ one14 x M = ⟨op14 x.op, x.a % 8, 0, 0, x.n⟩) ∨ (formC (op14 x.op) = 4 ∧ one14 x M = ⟨op14 x.op, x.a % 8, x.b % 8, 0, 0⟩) ∨
    (formC (op14 x.op) = 5 ∧ one14 x M = ⟨op14 x.op, x.a % 8, x.b % 8, 0, IntKind.u64.wrap x.n % 16⟩) ∨ (formC (op14 x.op) = 6 ∧ one14 x M = ⟨op14 x.op, 0, 0, 0, IntKind.u64.wrap x.n % M⟩) ∨
    (formC (op14 x.op) = 7 ∧ one14 x M = ⟨op14 x.op, x.a % 8, 0, 0, IntKind.u64.wrap x.n % M⟩) := by
  have he := one14_eq x M
  rcases formC_cases (op14 x.op) with h | h | h | h | h | h | h | h
  · exact absurd h (op14_bd x.op).2.2
  · exact .inl ⟨h, by rw [he, h]; rfl⟩
  · exact .inr (.inl ⟨h, by rw [he, h]; rfl⟩)
  · exact .inr (.inr (.inl ⟨h, by rw [he, h]; rfl⟩))
  · exact .inr (.inr (.inr (.inl ⟨h, by rw [he, h]; rfl⟩)))
  · exact .inr (.inr (.inr (.inr (.inl ⟨h, by rw [he, h]; rfl⟩))))
  · exact .inr (.inr (.inr (.inr (.inr (.inl ⟨h, by rw [he, h]; rfl⟩)))))
  · exact .inr (.inr (.inr (.inr (.inr (.inr ⟨h, by rw [he, h]; rfl⟩)))))
theorem one14_op (x : Ins) (M : Int) : (one14 x M).op = op14 x.op := by
  rcases one14_forms x M with ⟨_, h⟩ | ⟨_, h⟩ | ⟨_, h⟩ | ⟨_, h⟩ | ⟨_, h⟩ | ⟨_, h⟩ | ⟨_, h⟩ <;> rw [h]
theorem ok_mk {op a b c n : Int} (h : (0 ≤ op ∧ op ≤ 255) ∧ (0 ≤ a ∧ a ≤ 255) ∧ (0 ≤ b ∧ b ≤ 255) ∧ (0 ≤ c ∧ c ≤ 255) ∧ (-9223372036854775808 ≤ n ∧ n ≤ 9223372036854775807)) : (⟨op, a, b, c, n⟩ : Ins).ok :=
  ⟨h.1.1, h.1.2, h.2.1.1, h.2.1.2, h.2.2.1.1, h.2.2.1.2, h.2.2.2.1.1, h.2.2.2.1.2, h.2.2.2.2.1, h.2.2.2.2.2⟩
theorem one14_ok (x : Ins) (hx : x.ok) (M : Int) (hM : 1 ≤ M ∧ M ≤ 1000000) : (one14 x M).ok := by
  have hb := op14_bd x.op
  have hu := u64_bd4 x.n
  have hm := Int.emod_nonneg (IntKind.u64.wrap x.n) (b := M) (by omega)
  have hm2 := Int.emod_lt_of_pos (IntKind.u64.wrap x.n) (b := M) (by omega)
  obtain ⟨-, -, -, -, -, -, -, -, n0, n1⟩ := hx
  rcases one14_forms x M with ⟨_, h⟩ | ⟨_, h⟩ | ⟨_, h⟩ | ⟨_, h⟩ | ⟨_, h⟩ | ⟨_, h⟩ | ⟨_, h⟩ <;> (rw [h]; exact ok_mk (by omega))
theorem one14_one (x : Ins) (M : Int) (hM : 1 ≤ M ∧ M ≤ 256) : oneE (one14 x M) = 0 := by
  have hb := op14_bd x.op
  have hu := u64_bd4 x.n
  have hm := Int.emod_nonneg (IntKind.u64.wrap x.n) (b := M) (by omega)
  have hm2 := Int.emod_lt_of_pos (IntKind.u64.wrap x.n) (b := M) (by omega)
  unfold oneE
  rw [one14_op, if_neg hb.2.2]
  rcases one14_forms x M with ⟨h1, h⟩ | ⟨h1, h⟩ | ⟨h1, h⟩ | ⟨h1, h⟩ | ⟨h1, h⟩ | ⟨h1, h⟩ | ⟨h1, h⟩ <;> rw [h1, h]
  · exact oneK_pos (show _ ∧ _ ∧ _ ∧ _ by dsimp only; omega)
  · exact oneK_pos (show _ ∧ _ ∧ _ ∧ _ by dsimp only; omega)
  · exact oneK_pos (show _ ∧ _ ∧ _ by dsimp only; omega)
  · exact oneK_pos (show _ ∧ _ ∧ _ ∧ _ by dsimp only; omega)
  · exact oneK_pos (show _ ∧ _ ∧ _ ∧ _ ∧ _ by dsimp only; omega)
  · exact oneK_pos (show _ ∧ _ ∧ _ ∧ _ ∧ _ by dsimp only; omega)
  · exact oneK_pos (show _ ∧ _ ∧ _ ∧ _ ∧ _ by dsimp only; omega)
theorem one14_bad (x : Ins) (M : Int) (hM : 1 ≤ M ∧ M ≤ 256) : badAt M (one14 x M) = 0 := by
  have h1 := one14_one x M hM
  have hb := op14_bd x.op
  have hm2 := Int.emod_lt_of_pos (IntKind.u64.wrap x.n) (b := M) (by omega)
  unfold badAt
  rw [if_neg (by simp [h1])]
  by_cases ht : targB (one14 x M) = true
  · rw [if_neg]
    rintro ⟨-, h2⟩
    have h3 : targV (one14 x M) = (one14 x M).n := by unfold targV; rw [if_pos ht]
    rw [h3] at h2
    unfold targB at ht
    rw [one14_op] at ht
    simp [h1] at ht
    have hc : formC (op14 x.op) = 6 ∨ formC (op14 x.op) = 7 := by
      rcases ht with h | h | h <;> rw [h] <;> decide
    rcases one14_forms x M with ⟨h5, h⟩ | ⟨h5, h⟩ | ⟨h5, h⟩ | ⟨h5, h⟩ | ⟨h5, h⟩ | ⟨h5, h⟩ | ⟨h5, h⟩ <;> first | omega | (rw [h] at h2; dsimp only at h2; omega)
  · rw [if_neg (by simp [ht])]
def made14 (xs : List Ins) : List Ins := (xs.take 40).map (fun x => one14 x ((xs.take 40).length + 1 : Nat)) ++ [haltI]
theorem made14_len (xs : List Ins) : (made14 xs).length = (xs.take 40).length + 1 := by simp [made14]
theorem made14_le (xs : List Ins) : 1 ≤ (made14 xs).length ∧ (made14 xs).length ≤ 41 := by
  rw [made14_len, List.length_take]; omega
theorem made14_ok (xs : List Ins) (hx : ∀ x ∈ xs, x.ok) : ∀ i ∈ made14 xs, i.ok := by
  intro i hi
  unfold made14 at hi
  rw [List.mem_append, List.mem_map] at hi
  rcases hi with ⟨x, h, rfl⟩ | h
  · exact one14_ok x (hx x (List.mem_of_mem_take h)) _ (by rw [List.length_take]; omega)
  · rw [List.mem_singleton] at h
    rw [h]; exact haltI_ok
theorem made14_bad (xs : List Ins) : ∀ i ∈ made14 xs, badAt (made14 xs).length i = 0 := by
  intro i hi
  rw [made14_len]
  unfold made14 at hi
  rw [List.mem_append, List.mem_map] at hi
  rcases hi with ⟨x, h, rfl⟩ | h
  · exact one14_bad x _ (by rw [List.length_take]; omega)
  · rw [List.mem_singleton] at h
    rw [h]
    unfold badAt
    rw [if_neg (by decide), if_neg (fun h => absurd h.1 (by decide))]
theorem made14_right (xs : List Ins) : (checkI (made14 xs)).2 = 0 := by
  have hl := made14_le xs
  unfold checkI
  rw [if_neg (by omega), if_neg (by omega)]
  have hK := checkK_none (p := made14 xs) (fun k hk y hy => made14_bad xs y (List.mem_of_getElem? hy))
  rw [hK]
  have : (made14 xs).getD ((made14 xs).length - 1) ⟨0, 0, 0, 0, 0⟩ = haltI := by
    rw [made14_len]
    simp [made14, List.getD]
  rw [this, if_neg (by decide)]
theorem reads_new5 (X : World) (t : TypeId) (a b c d e : Value) (gg : Nat) (h : gg = X.heap.size) : Reads (X.alloc (.cells #[a, b, c, d, e] t)) (gg + 1) 5 (some ⟨gg, 0, none⟩) 1 [a, b, c, d, e] := by
  subst h
  refine ⟨rfl, fun _ => ⟨_, rfl, Nat.lt_succ_self _, fun j u hu => ?_⟩⟩
  rw [Addr.add_lit, cell_of_row _ _ _ _ _ _ (heap_alloc_new X _), Nat.zero_add]
  simpa using hu
set_option maxRecDepth 100000 in
set_option maxHeartbeats 4000000 in
theorem made14_c (xs : List Ins) (hx : ∀ x ∈ xs, x.ok) (A : Option Addr) (n c : Nat) (w : World) (hA : Reads w w.heap.size 5 A n (insV xs)) (hc : n ≤ c) (hcm : c ≤ 9223372036854775807) :
    Calls Try.prog 42 #[.slice A n c] w fun e w' => ∃ P, e = .returned P ∧ w'.ownsRow w.heap.size 73 5 P (made14 xs).length (insV (made14 xs)) ∧ Below w.heap.size w w' := by
  have hn := hA.ins_len
  obtain ⟨m, hm⟩ : ∃ m, m = min n 40 := ⟨_, rfl⟩
  have hmn : m ≤ n := by omega
  have hm40 : m ≤ 40 := by omega
  have hml : (xs.take 40).length = m := by rw [List.length_take]; omega
  have hmin : ∀ W : World, (Builtin.min_ #[3, 3] 3 #[.int .i64 (n : Int), .int .i64 40]).run Try.prog W = .ok (.int .i64 (m : Int)) W := fun W => min_i64 _ _ _ _ 0 _ (by split <;> omega) W
  have hm0 : (0 : Int) ≤ (m : Int) := by omega
  have hmc : (m : Int) ≤ (c : Int) := by omega
  obtain ⟨iS, hi, hz0, hz1, hz2⟩ := info_parts infoIns
  have HL := Lib.hid hml
  clear hm hml
  go_enter Try.func42, Try.ntmps42
  go_wp2
  go_loopw [3, 13] (fun s k wr => ∃ (j : Nat) (D : Option Addr) (f : Nat), k = .int .i64 j ∧ s = .slice D j f ∧ j ≤ m ∧ wr.ownsRow w.heap.size 73 5 (.slice D j f) j (insV ((xs.take j).map fun x => one14 x (m + 1 : Nat))) ∧ Below w.heap.size w wr) (fun _ k _ => m - (intOf k).toNat)
  case atStart => exact ⟨0, none, 0, rfl, rfl, by omega, World.ownsRow_nil _ _ _ _, Below.refl _ _⟩
  case round =>
    obtain ⟨j, D, f, rfl, rfl, hj, ho, hb⟩ := hrel
    by_cases hlt : j < m
    · obtain ⟨ab, off, x, rfl, hab, hxj, c0, c1, c2, c3, c4⟩ := (hA.below hb).ins_at (show j < n by omega)
      have hxo : x.ok := hx x (List.mem_of_getElem? hxj)
      have hM : 1 ≤ ((m : Int) + 1) ∧ ((m : Int) + 1) ≤ 1000000 := by omega
      have w1 : wrap64 ((m : Int) + 1) = (m : Int) + 1 := by unfold wrap64; omega
      have OC := Lib.hid (fun W => one14_c x hxo ((m : Int) + 1) hM W)
      obtain ⟨y, hy⟩ : ∃ y, y = one14 x ((m : Int) + 1) := ⟨_, rfl⟩
      rw [← hy] at OC
      have hyo : y.ok := hy ▸ one14_ok x hxo _ hM
      have hstep : insV (((xs.take j).map fun x => one14 x (m + 1 : Nat))) ++ y.cells = insV ((xs.take (j + 1)).map fun x => one14 x (m + 1 : Nat)) := by
        rw [List.take_add_one, hxj, hy]
        simp [insV]
      have hab2 : ab < wr.heap.size := by have := hb.size; omega
      have HO := Lib.hid (And.intro ho (And.intro hstep hb))
      obtain ⟨x0, xa, xb, xc, xn⟩ := x
      obtain ⟨y0, ya, yb, yc, yn⟩ := y
      unfold Ins.v at OC
      dsimp only at OC c0 c1 c2 c3 c4
      clear ho hstep hb hA hxj hy hxo hyo
      go_wp2_with fail
      go_at_call 71
      refine (OC.out _).mono ?_
      rintro e W1 ⟨rfl, hb1⟩
      have hB1 : Below wr.heap.size wr W1 := ((Below.refl _ wr).alloc (Nat.le_refl _) _).trans (hb1.mono (by simp))
      have ho1 : W1.ownsRow w.heap.size 73 5 (.slice D j f) j (insV ((xs.take j).map fun x => one14 x (m + 1 : Nat))) := ownsRow_keep HO.out.1 fun k _ hk => hB1.block k hk
      have hb2 : Below w.heap.size w W1 := HO.out.2.2.trans (hB1.mono HO.out.2.2.size)
      have HQ := Lib.hid (And.intro ho1 hb2)
      have hrd : Reads (W1.alloc (.cells #[.int .u8 y0, .int .u8 ya, .int .u8 yb, .int .u8 yc, .int .i64 yn] 73)) (W1.heap.size + 1) 5 (some ⟨W1.heap.size, 0, none⟩) 1 [.int .u8 y0, .int .u8 ya, .int .u8 yb, .int .u8 yc, .int .i64 yn] := reads_new5 _ _ _ _ _ _ _ _ rfl
      have hones : ∀ u ∈ [Value.int .u8 y0, .int .u8 ya, .int .u8 yb, .int .u8 yc, .int .i64 yn], u.oneCell' = true := by
        intro u hu; simp at hu; rcases hu with rfl | rfl | rfl | rfl | rfl <;> rfl
      clear hb1 hB1 ho1 hb2
      go_wp2_with (at_builtin
                   refine wpList_append_any _ rfl (.tmp 17) (.tmp 23) _ rfl w.heap.size 73 iS _ 5 16 Try.underlying35 hi hz0 hz1 hz2 rfl (by omega) (.slice D j f) j _ rfl
                     (own_alloc HQ.out.1 _) (W1.heap.size + 1) (some ⟨W1.heap.size, 0, none⟩) 1 1 _ rfl hrd hones (by unfold maxLen; omega) (by omega) (by have := HQ.out.2.size; simp; omega) ?_
                   intro v1 w1 hown1 hg1 hat1)
      obtain ⟨D1, f1, rfl⟩ := own_slice hown1
      have hf2 := HO.out.2.1
      have hn2 : insV ((xs.take j).map fun x => one14 x (m + 1 : Nat)) ++ [.int .u8 y0, .int .u8 ya, .int .u8 yb, .int .u8 yc, .int .i64 yn] = insV ((xs.take (j + 1)).map fun x => one14 x (m + 1 : Nat)) := hf2
      rw [hn2] at hown1
      go_roundw
      case rel => exact ⟨j + 1, D1, f1, by go_num, rfl, by omega, hown1, (HQ.out.2.alloc HQ.out.2.size _).grown hg1 (Nat.le_trans HQ.out.2.size (by simp)) (fun k hk => own_base HQ.out.1 k hk)⟩
      case measure => simp [intOf]; omega
    · have hjm : j = m := by omega
      subst hjm
      have hfin : insV ((xs.take j).map fun x => one14 x (j + 1 : Nat)) ++ haltI.cells = insV (made14 xs) := by
        have ht : xs.take j = xs.take 40 := by
          have := HL.out
          rw [List.length_take] at this
          rcases Nat.le_total xs.length 40 with h | h
          · rw [List.take_of_length_le (by omega), List.take_of_length_le h]
          · rw [show j = 40 by omega]
        unfold made14
        rw [HL.out, ht]
        simp [insV]
      have hlen : (made14 xs).length = j + 1 := by rw [made14_len, HL.out]
      have HQ := Lib.hid (And.intro ho (And.intro hb (And.intro hfin hlen)))
      have hrd : Reads (wr.alloc (.cells #[.int .u8 1, .int .u8 0, .int .u8 0, .int .u8 0, .int .i64 0] 73)) (wr.heap.size + 1) 5 (some ⟨wr.heap.size, 0, none⟩) 1 [.int .u8 1, .int .u8 0, .int .u8 0, .int .u8 0, .int .i64 0] := reads_new5 _ _ _ _ _ _ _ _ rfl
      have hones : ∀ u ∈ [Value.int .u8 1, .int .u8 0, .int .u8 0, .int .u8 0, .int .i64 0], u.oneCell' = true := by
        intro u hu; simp at hu; rcases hu with rfl | rfl | rfl | rfl | rfl <;> rfl
      clear ho hb hfin hlen hA
      go_wp2_with (at_builtin
                   refine wpList_append_any _ rfl (.tmp 26) (.tmp 28) _ rfl w.heap.size 73 iS _ 5 16 Try.underlying35 hi hz0 hz1 hz2 rfl (by omega) (.slice D j f) j _ rfl
                     (own_alloc HQ.out.1 _) (wr.heap.size + 1) (some ⟨wr.heap.size, 0, none⟩) 1 1 _ rfl hrd hones (by unfold maxLen; omega) (by omega) (by have := HQ.out.2.1.size; simp; omega) ?_
                   intro v1 w1 hown1 hg1 hat1)
      obtain ⟨h1, h2, h3, h4⟩ := HQ.out
      have hn2 : insV ((xs.take j).map fun x => one14 x (j + 1 : Nat)) ++ [.int .u8 1, .int .u8 0, .int .u8 0, .int .u8 0, .int .i64 0] = insV (made14 xs) := h3
      rw [hn2] at hown1
      go_ret
      rw [h4]
      exact ⟨_, rfl, hown1, (h2.alloc h2.size _).grown hg1 (Nat.le_trans h2.size (by simp)) (fun k hk => own_base h1 k hk)⟩
end Go.Proofs.Ytjliakjbdcplcaa
end

section
/- fermatalaw14.Made, for walks over symbolic values. -/
namespace Go.Proofs.Ytjliakjbdcplcaa.Vm
open Go.RowKit
set_option linter.unusedVariables false
set_option linter.unusedSimpArgs false
set_option maxRecDepth 100000
def sMd14 : Spec := fun args h m => match args with
  | [.sl z i pa k s n' (some cp)] => match srcV h 5 (.tup []) (.sl z i pa k s n' (some cp)) with
    | some (c, n, f, rd) =>
        some (c ∧ n = n' ∧ (∀ q, q < n → isIns (f q) = true) ∧ (∀ x ∈ ls insOf n f, x.ok) ∧ max n cp ≤ 9223372036854775807, .sl m m [] 5 0 (made14 (ls insOf n f)).length none, rd, [(m, .own 73 (.arr (made14 (ls insOf n f)).length 5 (prS (made14 (ls insOf n f)))) false)])
    | _ => none
  | _ => none
theorem sMd14_ok : CallOk Try.prog 42 sMd14 := by
  refine ⟨named_spec (by kernel_rfl), fun args h m c v rd wr hs hm hc w0 M β h' w R hrd hwr hst => ?_⟩
  unfold sMd14 at hs
  split at hs
  · rename_i z i pa k' s n' cp
    split at hs
    · rename_i c' n f rd' ha
      simp only [Option.some.injEq, Prod.mk.injEq] at hs
      obtain ⟨rfl, rfl, rfl, rfl⟩ := hs
      obtain ⟨hc1, hn, hi, hok, hcp⟩ := hc
      obtain ⟨A, cap, hden, hnc, hr⟩ := reads_src R ha hc1 hrd (by omega)
      rw [elems_ins hi] at hr
      have hcap : cap ≤ 9223372036854775807 := by
        simp only [SV.den, Option.getD_some] at hden
        injection hden with _ _ h3
        omega
      simp only [denL, hden]
      refine (made14_c (ls insOf n f) hok A n cap w hr hnc hcap).mono fun e w' he => ?_
      obtain ⟨p, rfl, ho, hb⟩ := he
      have hmd : h' m = .dead := (hwr _ (.head _)).trans (hm m (Nat.le_refl _))
      obtain ⟨e', R', hv⟩ := (R.below hb).made (f := prS (made14 (ls insOf n f))) hmd ho R.size (elems_prS _) prS_stable (fun g i a' hg hmi hai e => by
        have := R.lt i a' hmi hai
        obtain ⟨_, ⟨rfl, _⟩ | ⟨g', cap', cur, rfl, hg', _⟩⟩ := ho
        · cases hg
        · simp [Value.ownBlock] at hg
          omega)
      exact ⟨_, agree_setE hmd, R', stable_new, by rw [hv]⟩
    · cases hs
  · cases hs
end Go.Proofs.Ytjliakjbdcplcaa.Vm
end

section
open Go.Proofs.Ytjliakjbdcplcaa.Vm Go.RowKit
attribute [local push_cast] runR opG gtmp gval gus opX tmpsOf tm tmO tmP restr look look2 tab tys zs ets eqB eqBL allB numOf ieq Int.cast_ofNat_Int Int.ofNat_zero beq_true beq_false frameOf ev evL ofV opV loadV noW pushF wrsL setH allBorn allGone HB.born HB.isGone HB.val SV.plain dstOk hp nav fitsT SV.size sizeL SV.isAgg TK.size TK.agg bin binE binN binI arN arI cmpN cmpI keq kn narrow callV storeV setp fillV buildV buildSliceV makeV sliceV appendV copyV List.isEmpty_nil srcV evO asN ite_t ite_f ite_bool ite_int ite_nat maxV v_beq v_ble v_blt cond_true cond_false List.getElem?_cons_zero List.getElem?_cons_succ List.getD_cons_zero List.getD_cons_succ List.getD_nil List.length_cons List.length_nil List.take_succ_cons List.take_zero List.set_cons_zero List.set_cons_succ List.cons_append List.nil_append List.append_assoc List.replicate_succ List.replicate_zero Nat.zero_add Nat.add_zero decide_true decide_false Bool.true_and Bool.and_true Bool.false_and Bool.and_false Bool.true_or Bool.or_true Bool.false_or Bool.or_false beq_self_eq_true Bool.or_self Nat.lt_irrefl Nat.not_lt_zero Nat.le_refl Option.getD_some Option.getD_none BEq.rfl Bool.not_true Bool.not_false Bool.cond_true_left Bool.cond_false_right prS sndsS i64S nav_ins nav_ins0 nav_ins1 nav_ins2 nav_ins3 nav_ins4 nav_snd nav_snd0 nav_snd1 nav_snd2 isIns_insS insOf_insS isSnd_sndS sndOf_sndS isI_int isI_nat iOf
section
/- fermatalaw18.Env and Made. -/
namespace Go.Proofs.Ytjliakjbdcplcaa.Vm
open Go.RowKit
set_option linter.unusedVariables false
set_option linter.unusedSimpArgs false
set_option maxRecDepth 100000
set_option maxHeartbeats 4000000
def cM18 : FuncId → Option Spec := look2 [(50, sCl64)]
theorem cM18_ok : ∀ f S, cM18 f = some S → CallOk Try.prog f S := allOk_spec ⟨sCl64_ok, trivial⟩
def envV (seed process ports look now : Int) : Evi := ⟨seed, process, ports.tmod 17, 1 + look, now⟩
theorem env_lit (a b c d e : Int) (hb : 0 ≤ b ∧ b ≤ 65535) (hc : 0 ≤ c ∧ c ≤ 255) (hd : 0 ≤ d ∧ d ≤ 255) (he : 0 ≤ e ∧ e ≤ 4294967295) : LitOk Try.prog 41 [.int .u64 a, .int .u16 b, .int .u8 c, .int .u8 d, .int .u32 e] [.gone] (.agg [.int .u64 a, .int .i64 b, .int .i64 (c.tmod 17), .int .i64 (1 + d), .int .i64 e]) [.gone] := by
  refine litOkM (fn := Try.f41) 1 23 0 rfl rfl rfl rfl rfl (by simp only [StableL, Stable, hp, i64S, prS, insS, sndsS, sndS, stS, evS, macS, HB.stable]; simp [HB.born]) rfl fun w0 M E hro => ?_
  repeat' (first | with_reducible (first | apply J1 | apply J3 | apply J4 | apply J5 | apply J6 | apply J7 | apply J8 | apply J9 | apply J10 | apply J11 | apply J12 | apply J13 | apply J14 | apply J15 | apply J16 | apply J17 | apply J18 | apply J19 | apply J20 | refine J2 ?_) | ((with_reducible apply J21); (· rfl)) | ((with_reducible intro hif); first | (focus (cases hif; done)) | (simp only [JH] at hif; try (exfalso; omega)) | (try (exfalso; omega))) | ((first | ((with_reducible apply J22 cM18_ok tab_ok); (· rfl)) | ((with_reducible apply J23 fol cM18_ok tab_ok); (· rfl)) | with_reducible apply J24); (· (simp only [push_cast, ↓JP, Nat.reduceAdd, Nat.reduceEqDiff, Nat.reduceLT, Nat.reduceMul, Nat.reduceLeDiff, reduceCtorEq, reduceIte, ↓JK, JM, JE, inR, inN]; rfl)); (try kernel_rfl); (try (focus (first | exact True.intro | ((try simp only [JS, implies_true, forall_const, shaped, shapedL, kndOf, inR, inN]); (repeat' (first | assumption | exact True.intro | omega | apply And.intro)); done))))) | fail)
  apply At.endsRet tab_ok (fn := Try.f41) (rs := [.cell 10 30]) Anc.refl hro (Nat.le_of_ble_eq_true rfl) rfl
  · simp only [push_cast, ↓JP, Nat.reduceAdd, Nat.reduceEqDiff, Nat.reduceLT, Nat.reduceMul, Nat.reduceLeDiff, reduceCtorEq, reduceIte, ↓JK, resV, resV1]; rfl
  · (first | trivial | (simp only [and_self]; done))
  · (repeat' (first | exact trivial | exact .same _ | exact .dead _ | exact .gone rfl | exact .loose | assumption | exact .arr (by assumption) | apply And.intro))
  · rfl
  · (repeat' (first | exact trivial | exact rfl | assumption | apply Stable.ite | apply And.intro | intro _ | (simp only [Stable, StableL, i64S, prS, insS, sndsS, sndS, stS, evS, macS, HB.stable]; done)))
  · (repeat' (first | exact trivial | exact .inl rfl | exact .inr rfl | exact rfl | apply And.intro))
  · exact fun β => rfl
  · (repeat' (first | exact trivial | exact rfl | assumption | apply Stable.ite | apply And.intro | intro _ | (simp only [Stable, StableL, i64S, prS, insS, sndsS, sndS, stS, evS, macS, HB.stable]; done)))
def sEnv18 : Spec := fun args h m => match args with
  | [v1, v2, v3, v4, v5] => bif isI .u64 v1 && isI .u16 v2 && isI .u8 v3 && isI .u8 v4 && isI .u32 v5 then some ((0 ≤ (iOf v2) ∧ (iOf v2) ≤ 65535) ∧ (0 ≤ (iOf v3) ∧ (iOf v3) ≤ 255) ∧ (0 ≤ (iOf v4) ∧ (iOf v4) ≤ 255) ∧ (0 ≤ (iOf v5) ∧ (iOf v5) ≤ 4294967295), .agg [.int .u64 (iOf v1), .int .i64 (iOf v2), .int .i64 ((iOf v3).tmod 17), .int .i64 (1 + (iOf v4)), .int .i64 (iOf v5)], [], []) else none
  | _ => none
theorem sEnv18_ok : CallOk Try.prog 41 sEnv18 := by
  refine ⟨named_spec (by kernel_rfl), fun args h m c v rd wr hs hm hc w0 M β h' w R hrd hwr hst => ?_⟩
  unfold sEnv18 at hs
  split at hs
  · rename_i v1 v2 v3 v4 v5
    obtain ⟨hb, hs⟩ := bif_some hs
    simp only [Option.some.injEq, Prod.mk.injEq] at hs
    obtain ⟨rfl, rfl, rfl, rfl⟩ := hs
    simp only [Bool.and_eq_true] at hb
    obtain ⟨⟨⟨⟨b1, b2⟩, b3⟩, b4⟩, b5⟩ := hb
    obtain ⟨y1, y2, y3, y4⟩ := hc
    refine callRo (views := []) (env_lit (iOf v1) (iOf v2) (iOf v3) (iOf v4) (iOf v5) y1 y2 y3 y4) ?_ R hm hwr ?_ ?_ ?_
    · intro x hx; cases hx
    · intro β1 hv
      simp only [denL, aggDen, intDen, natDen, boolDen, ls_length, isI_den b1, isI_den b2, isI_den b3, isI_den b4, isI_den b5]
    · (repeat' (first | exact trivial | exact rfl | assumption | apply Stable.ite | apply And.intro | intro _ | (simp only [Stable, StableL, i64S, prS, insS, sndsS, sndS, stS, evS, macS, HB.stable]; done)))
    · (repeat' (first | exact trivial | exact rfl | assumption | apply Stable.ite | apply And.intro | intro _ | (simp only [Stable, StableL, i64S, prS, insS, sndsS, sndS, stS, evS, macS, HB.stable]; done)))
  · cases hs
def nilS (D : List Snd) (b : Nat) : SV := SV.ite D.isEmpty (.sl 0 0 [] 0 0 0 (some 0)) (.sl b b [] 3 0 D.length none)
theorem nilS_t {D : List Snd} {b : Nat} (h : D.isEmpty = true) : nilS D b = .sl 0 0 [] 0 0 0 (some 0) := by unfold nilS; rw [h]; rfl
theorem nilS_f {D : List Snd} {b : Nat} (h : D.isEmpty = false) : nilS D b = .sl b b [] 3 0 D.length none := by unfold nilS; rw [h]; rfl
def mSnd (n : Nat) : List Snd := (List.range n).map fun i : Nat => ⟨(i : Int), (i : Int), 1⟩
theorem mSnd_len (n : Nat) : (mSnd n).length = n := by simp [mSnd]
theorem mSnd_succ (n : Nat) : mSnd (n + 1) = mSnd n ++ [⟨n, n, 1⟩] := by simp [mSnd, List.range_succ]
theorem ls_take (cs : List Int) (k : Nat) (hk : k ≤ cs.length) : ls iOf k (i64S cs) = cs.take k := by
  apply List.ext_getElem
  · rw [ls_length, List.length_take, Nat.min_eq_left hk]
  · intro i h1 h2
    rw [ls_length] at h1
    have := ls_getD (g := iOf) (f := i64S cs) (d := 0) h1
    rw [List.getD_eq_getElem?_getD, List.getElem?_eq_getElem (by rw [ls_length]; exact h1)] at this
    simp only [Option.getD_some] at this
    rw [this]
    show cs.getD i 0 = _
    rw [List.getD_eq_getElem?_getD, List.getElem?_eq_getElem (by omega), List.getElem_take]
    rfl
theorem made18_lit (a d s : Int) (rg : Nat → Int) (cs : List Int) (P : List Ins) (hP : P.length ≤ 1000000) (p p2 : Nat) (hcp : cs.length ≤ p) (ha : 0 ≤ a ∧ a ≤ 255) (hd : 0 ≤ d ∧ d ≤ 4294967295) (hs : 0 ≤ s ∧ s ≤ 255) : LitOk Try.prog 40 [.agg [.int .u8 a, .arr 8 1 (fun q => .int .i64 (rg q)), .sl 1 2 [] 1 0 cs.length (some p), .int .u32 d, .int .u8 s], .sl 3 4 [] 5 0 P.length (some p2)] [.gone, .gone, .ro (.arr cs.length 1 (i64S cs)), .gone, .ro (.arr P.length 5 (prS P))]
    (.agg [.int .i64 (a.tmod ((max P.length 1 : Nat) : Int)), .bool false, .arr 8 1 (fun q => .int .i64 (rg q)), .sl 5 5 [] 1 0 (cs.take 12).length none, .int .i64 d, nilS (mSnd (s.tmod 21).toNat) 6]) [.gone, .gone, .gone, .gone, .gone, .own 2 (.arr (cs.take 12).length 1 (i64S (cs.take 12))) false, .own 64 (.arr (mSnd (s.tmod 21).toNat).length 3 (sndsS (mSnd (s.tmod 21).toNat))) false] := by
  have hk0 := Int.tmod_nonneg 21 hs.1
  have hk1 := Int.tmod_lt_of_pos s (show (0 : Int) < 21 by decide)
  have hm1 : (cs.take 12).length = min cs.length 12 := by rw [List.length_take, Nat.min_comm]
  have hm2 := ls_take cs (min cs.length 12) (Nat.min_le_left _ _)
  have hm3 : cs.take (min cs.length 12) = cs.take 12 := by
    rcases Nat.le_total cs.length 12 with h | h
    · rw [Nat.min_eq_left h, List.take_of_length_le (Nat.le_refl _), List.take_of_length_le h]
    · rw [Nat.min_eq_right h]
  rw [hm3] at hm2
  have hm2' : ls iOf (min cs.length 12) (fun q => .int .i64 (cs.getD q 0)) = cs.take 12 := hm2
  refine litOkM (fn := Try.f40) 5 45 0 rfl rfl rfl rfl rfl (by simp only [StableL, Stable, hp, i64S, prS, insS, sndsS, sndS, stS, evS, macS, HB.stable]; simp [HB.born]) rfl fun w0 M E hro => ?_
  repeat' (first | with_reducible (first | apply J1 | apply J3 | apply J4 | apply J5 | apply J6 | apply J7 | apply J8 | apply J9 | apply J10 | apply J11 | apply J12 | apply J13 | apply J14 | apply J15 | apply J16 | apply J17 | apply J18 | apply J19 | apply J20 | refine J2 ?_) | ((with_reducible apply J21); (· rfl)) | ((with_reducible intro hif); first | (focus (cases hif; done)) | (simp only [JH] at hif; try (exfalso; omega)) | (try (exfalso; omega))) | ((first | ((with_reducible apply J22 cM18_ok tab_ok); (· rfl)) | ((with_reducible apply J23 fol cM18_ok tab_ok); (· rfl)) | with_reducible apply J24); (· (simp only [push_cast, ↓JP, Nat.reduceAdd, Nat.reduceEqDiff, Nat.reduceLT, Nat.reduceMul, Nat.reduceLeDiff, reduceCtorEq, reduceIte, ↓JK, JM, JE, cM18, sCl64, inR, inN, Nat.sub_zero, hm2, hm2']; rfl)); (try kernel_rfl); (try (focus (first | exact True.intro | ((try simp only [JS, implies_true, forall_const, shaped, shapedL, kndOf, inR, inN]); (repeat' (first | assumption | exact True.intro | omega | apply And.intro)); done))))) | fail)
  refine WF.empty 64 3 (sndsS []) (fun _ q => sndsS_stable q) ?_
  refine WF.loopAt (fun (j : Nat) => j ≤ (s.tmod 21).toNat) (fun (j : Nat) => [(2, .ptr 5 []), (4, .ptr 6 []), (5, .ptr 9 []), (31, .int .i64 (s.tmod 21)), (32, .nat .i64 j)]) (fun (j : Nat) => [.gone, .gone, .ro (.arr cs.length 1 (i64S cs)), .gone, .ro (.arr P.length 5 (prS P)), .gone, .own 58 (.agg [.nat .i64 0, .bool false, .arr 8 1 (fun x => .nat .i64 0), .sl 0 0 [] 0 0 0 (some 0), .nat .i64 0, .sl 0 0 [] 0 0 0 (some 0)]) true, .gone, .own 2 (.arr (min cs.length 12) 1 (i64S (cs.take 12))) false, .own 58 (.agg [.int .i64 (a.tmod ((max P.length 1 : Nat) : Int)), .bool false, .arr 8 1 (fun q => .int .i64 (rg q)), .sl 8 8 [] 1 0 (min cs.length 12) none, .int .i64 d, nilS (mSnd j) 10]) true, .own 64 (.arr (mSnd j).length 3 (sndsS (mSnd j))) false]) (fun (j : Nat) => (s.tmod 21).toNat - j) 0 (Nat.zero_le _) ?_ ?_ rfl ?_ ?_ rfl ?_
  · ((repeat' (first | exact trivial | apply And.intro)) <;> (first | rfl | (simp only [look, cond_true, cond_false]; done)))
  · (repeat' (first | exact trivial | exact .same _ | exact .dead _ | exact .gone rfl | exact .loose | assumption | exact .arr (by assumption) | apply And.intro))
  · (repeat' (first | exact trivial | exact rfl | assumption | apply Stable.ite | apply And.intro | intro _ | (simp only [Stable, StableL, i64S, prS, insS, sndsS, sndS, stS, evS, macS, HB.stable]; done)))
  · (repeat' (first | exact trivial | exact rfl | assumption | apply Stable.ite | apply And.intro | intro _ | (simp only [Stable, StableL, i64S, prS, insS, sndsS, sndS, stS, evS, macS, HB.stable]; done)))
  intro j hj
  by_cases hlt : j < (s.tmod 21).toNat
  · have hlt2 : (j : Int) < s.tmod 21 := by omega
    have hne : (mSnd (j + 1)).isEmpty = false := by rw [mSnd_succ]; cases mSnd j <;> rfl
    have hY : ∀ σ, Less (.own 64 (.arr ((mSnd j).length + 1) 3 fun q => SV.ite (decide (q < (mSnd j).length)) (sndS ((mSnd j).getD q ⟨0, 0, 0⟩)) ([SV.agg [.nat .i64 j, .nat .i64 j, .nat .i64 1]].getD (q - (mSnd j).length) (.agg [.nat .i64 0, .nat .i64 0, .nat .i64 0]))) false) ((HB.own 64 (.arr (mSnd (j + 1)).length 3 (sndsS (mSnd (j + 1)))) false).ren σ) := fun σ => by
      rw [mSnd_succ]
      refine less_snd (mSnd j) ⟨j, j, 1⟩ rfl fun q hq β => ?_
      rw [ite_eq]
      by_cases h : q < (mSnd j).length
      · simp only [h, decide_true, cond_true, List.getD_eq_getElem?_getD, List.getElem?_append_left h]
        rw [isSnd_cl (isSnd_sndS _), sndOf_sndS]
      · obtain rfl : q = (mSnd j).length := by omega
        simp only [Nat.lt_irrefl, decide_false, cond_false, Nat.sub_self, List.getD_eq_getElem?_getD, List.getElem?_append_right (Nat.le_refl _), List.getElem?_cons_zero, Option.getD_some]
        rfl
    by_cases h0 : j = 0
    · subst h0
      rw [show nilS (mSnd 0) 10 = .sl 0 0 [] 0 0 0 (some 0) from rfl]
      have hY0 : ∀ σ, Less (.own 64 (.arr (0 + 1) 3 fun q => [SV.agg [.nat .i64 (0 : Nat), .nat .i64 (0 : Nat), .nat .i64 1]].getD q (.agg [.nat .i64 0, .nat .i64 0, .nat .i64 0])) false) ((HB.own 64 (.arr (mSnd (0 + 1)).length 3 (sndsS (mSnd (0 + 1)))) false).ren σ) := fun σ => by
        rw [mSnd_succ]
        refine less_snd (mSnd 0) ⟨0, 0, 1⟩ rfl fun q hq β => ?_
        obtain rfl : q = 0 := by simp [mSnd] at hq; omega
        rfl
      repeat' (first | with_reducible (first | apply J1 | apply J3 | apply J4 | apply J5 | apply J6 | apply J7 | apply J8 | apply J9 | apply J10 | apply J11 | apply J12 | apply J13 | apply J14 | apply J15 | apply J16 | apply J17 | apply J18 | apply J19 | apply J20 | refine J2 ?_) | ((with_reducible apply J21); (· rfl)) | ((with_reducible intro hif); first | (focus (cases hif; done)) | (simp only [JH] at hif; try (exfalso; omega)) | (try (exfalso; omega))) | ((first | ((with_reducible apply J22 cM18_ok tab_ok); (· rfl)) | ((with_reducible apply J23 fol cM18_ok tab_ok); (· rfl)) | with_reducible apply J24); (· (simp only [push_cast, ↓JP, Nat.reduceAdd, Nat.reduceEqDiff, Nat.reduceLT, Nat.reduceMul, Nat.reduceLeDiff, reduceCtorEq, reduceIte, ↓JK, JM, JE, cM18, sCl64, inR, inN, Nat.sub_zero, hm2, hm2', hlt2]; rfl)); (try kernel_rfl); (try (focus (first | exact True.intro | ((try simp only [JS, implies_true, forall_const, shaped, shapedL, kndOf, inR, inN]); (repeat' (first | assumption | exact True.intro | omega | apply And.intro)); done))))) | fail)
      refine At.nextPick [0, 1, 2, 3, 4, 5, 6, 7, 8, 9, 12] 1 ?_ rfl rfl rfl ?_ rfl ?_ ?_ ?_ rfl
      · exact ⟨hlt, by omega⟩
      · (repeat' (first | exact trivial | exact .inl rfl | exact .inr (.same _) | exact .inr .loose | exact .inr (.arr (by assumption)) | apply And.intro | (exact .inr (hY _)) | (exact .inr (hY0 _)) | (rw [nilS_f hne]; exact .inr (by simp only [mSnd_len]; exact .same _)) | (exact .inr (by rw [hm1]; exact .same _))))
      · (repeat' (first | exact trivial | exact rfl | assumption | apply Stable.ite | apply And.intro | intro _ | (simp only [Stable, StableL, i64S, prS, insS, sndsS, sndS, stS, evS, macS, HB.stable]; done)))
      · (repeat' (first | exact trivial | exact ⟨_, rfl, fun β => rfl⟩ | apply And.intro))
      · (repeat' (first | exact trivial | exact rfl | assumption | apply Stable.ite | apply And.intro | intro _ | (simp only [Stable, StableL, i64S, prS, insS, sndsS, sndS, stS, evS, macS, HB.stable]; done)))
    · have hnj : (mSnd j).isEmpty = false := by
        obtain ⟨k, rfl⟩ : ∃ k, j = k + 1 := ⟨j - 1, by omega⟩
        rw [mSnd_succ]; cases mSnd k <;> rfl
      rw [nilS_f hnj]
      have hln : (mSnd j).length ≤ 21 := by rw [mSnd_len]; omega
      repeat' (first | with_reducible (first | apply J1 | apply J3 | apply J4 | apply J5 | apply J6 | apply J7 | apply J8 | apply J9 | apply J10 | apply J11 | apply J12 | apply J13 | apply J14 | apply J15 | apply J16 | apply J17 | apply J18 | apply J19 | apply J20 | refine J2 ?_) | ((with_reducible apply J21); (· rfl)) | ((with_reducible intro hif); first | (focus (cases hif; done)) | (simp only [JH] at hif; try (exfalso; omega)) | (try (exfalso; omega))) | ((first | ((with_reducible apply J22 cM18_ok tab_ok); (· rfl)) | ((with_reducible apply J23 fol cM18_ok tab_ok); (· rfl)) | with_reducible apply J24); (· (simp only [push_cast, ↓JP, Nat.reduceAdd, Nat.reduceEqDiff, Nat.reduceLT, Nat.reduceMul, Nat.reduceLeDiff, reduceCtorEq, reduceIte, ↓JK, JM, JE, cM18, sCl64, inR, inN, Nat.sub_zero, hm2, hm2', hlt2]; rfl)); (try kernel_rfl); (try (focus (first | exact True.intro | ((try simp only [JS, implies_true, forall_const, shaped, shapedL, kndOf, inR, inN]); (repeat' (first | assumption | exact True.intro | omega | apply And.intro)); done))))) | fail)
      refine At.nextPick [0, 1, 2, 3, 4, 5, 6, 7, 8, 9, 12] (j + 1) ?_ rfl rfl rfl ?_ rfl ?_ ?_ ?_ rfl
      · exact ⟨hlt, by omega⟩
      · (repeat' (first | exact trivial | exact .inl rfl | exact .inr (.same _) | exact .inr .loose | exact .inr (.arr (by assumption)) | apply And.intro | (exact .inr (hY _)) | (exact .inr (hY0 _)) | (rw [nilS_f hne]; exact .inr (by simp only [mSnd_len]; exact .same _)) | (exact .inr (by rw [hm1]; exact .same _))))
      · (repeat' (first | exact trivial | exact rfl | assumption | apply Stable.ite | apply And.intro | intro _ | (simp only [Stable, StableL, i64S, prS, insS, sndsS, sndS, stS, evS, macS, HB.stable]; done)))
      · (repeat' (first | exact trivial | exact ⟨_, rfl, fun β => rfl⟩ | apply And.intro))
      · (repeat' (first | exact trivial | exact rfl | assumption | apply Stable.ite | apply And.intro | intro _ | (simp only [Stable, StableL, i64S, prS, insS, sndsS, sndS, stS, evS, macS, HB.stable]; done)))
  · obtain rfl : j = (s.tmod 21).toNat := by omega
    have hlt2 : ¬ ((s.tmod 21).toNat : Int) < s.tmod 21 := by omega
    cases hnj : (mSnd (s.tmod 21).toNat).isEmpty
    · rw [nilS_f hnj, nilS_f hnj]
      repeat' (first | with_reducible (first | apply J1 | apply J3 | apply J4 | apply J5 | apply J6 | apply J7 | apply J8 | apply J9 | apply J10 | apply J11 | apply J12 | apply J13 | apply J14 | apply J15 | apply J16 | apply J17 | apply J18 | apply J19 | apply J20 | refine J2 ?_) | ((with_reducible apply J21); (· rfl)) | ((with_reducible intro hif); first | (focus (cases hif; done)) | (simp only [JH] at hif; try (exfalso; omega)) | (try (exfalso; omega))) | ((first | ((with_reducible apply J22 cM18_ok tab_ok); (· rfl)) | ((with_reducible apply J23 fol cM18_ok tab_ok); (· rfl)) | with_reducible apply J24); (· (simp only [push_cast, ↓JP, Nat.reduceAdd, Nat.reduceEqDiff, Nat.reduceLT, Nat.reduceMul, Nat.reduceLeDiff, reduceCtorEq, reduceIte, ↓JK, JM, JE, cM18, sCl64, inR, inN, Nat.sub_zero, hm2, hm2', hlt2]; rfl)); (try kernel_rfl); (try (focus (first | exact True.intro | ((try simp only [JS, implies_true, forall_const, shaped, shapedL, kndOf, inR, inN]); (repeat' (first | assumption | exact True.intro | omega | apply And.intro)); done))))) | fail)
      apply At.endsPick [0, 1, 2, 3, 4, 8, 10] tab_ok (fn := Try.f40) (rs := [.cell 4 58]) Anc.refl hro (Nat.le_of_ble_eq_true rfl) rfl
      · simp only [push_cast, ↓JP, Nat.reduceAdd, Nat.reduceEqDiff, Nat.reduceLT, Nat.reduceMul, Nat.reduceLeDiff, reduceCtorEq, reduceIte, ↓JK, resV, resV1]; rfl
      · (focus (first | exact True.intro | ((try simp only [JS, implies_true, forall_const, shaped, shapedL, kndOf]); (repeat' (first | assumption | exact True.intro | omega | apply And.intro)); done)))
      · rfl
      · rfl
      · rfl
      · (repeat' (first | exact trivial | exact .inl rfl | exact .inr (.same _) | exact .inr .loose | exact .inr (.arr (by assumption)) | apply And.intro | (exact .inr (hY _)) | (exact .inr (hY0 _)) | (rw [nilS_f hne]; exact .inr (by simp only [mSnd_len]; exact .same _)) | (exact .inr (by rw [hm1]; exact .same _))))
      · rfl
      · (repeat' (first | exact trivial | exact rfl | assumption | apply Stable.ite | apply And.intro | intro _ | (simp only [Stable, StableL, i64S, prS, insS, sndsS, sndS, stS, evS, macS, HB.stable]; done)))
      · (repeat' (first | exact trivial | exact .inl rfl | exact .inr rfl | exact rfl | apply And.intro))
      · exact fun β => by rw [hm1]; rfl
      · (repeat' (first | exact trivial | exact rfl | assumption | apply Stable.ite | apply And.intro | intro _ | (simp only [Stable, StableL, i64S, prS, insS, sndsS, sndS, stS, evS, macS, HB.stable]; done)))
    · rw [nilS_t hnj, nilS_t hnj]
      repeat' (first | with_reducible (first | apply J1 | apply J3 | apply J4 | apply J5 | apply J6 | apply J7 | apply J8 | apply J9 | apply J10 | apply J11 | apply J12 | apply J13 | apply J14 | apply J15 | apply J16 | apply J17 | apply J18 | apply J19 | apply J20 | refine J2 ?_) | ((with_reducible apply J21); (· rfl)) | ((with_reducible intro hif); first | (focus (cases hif; done)) | (simp only [JH] at hif; try (exfalso; omega)) | (try (exfalso; omega))) | ((first | ((with_reducible apply J22 cM18_ok tab_ok); (· rfl)) | ((with_reducible apply J23 fol cM18_ok tab_ok); (· rfl)) | with_reducible apply J24); (· (simp only [push_cast, ↓JP, Nat.reduceAdd, Nat.reduceEqDiff, Nat.reduceLT, Nat.reduceMul, Nat.reduceLeDiff, reduceCtorEq, reduceIte, ↓JK, JM, JE, cM18, sCl64, inR, inN, Nat.sub_zero, hm2, hm2', hlt2]; rfl)); (try kernel_rfl); (try (focus (first | exact True.intro | ((try simp only [JS, implies_true, forall_const, shaped, shapedL, kndOf, inR, inN]); (repeat' (first | assumption | exact True.intro | omega | apply And.intro)); done))))) | fail)
      apply At.endsPick [0, 1, 2, 3, 4, 8, 10] tab_ok (fn := Try.f40) (rs := [.cell 4 58]) Anc.refl hro (Nat.le_of_ble_eq_true rfl) rfl
      · simp only [push_cast, ↓JP, Nat.reduceAdd, Nat.reduceEqDiff, Nat.reduceLT, Nat.reduceMul, Nat.reduceLeDiff, reduceCtorEq, reduceIte, ↓JK, resV, resV1]; rfl
      · (focus (first | exact True.intro | ((try simp only [JS, implies_true, forall_const, shaped, shapedL, kndOf]); (repeat' (first | assumption | exact True.intro | omega | apply And.intro)); done)))
      · rfl
      · rfl
      · rfl
      · (repeat' (first | exact trivial | exact .inl rfl | exact .inr (.same _) | exact .inr .loose | exact .inr (.arr (by assumption)) | apply And.intro | (exact .inr (hY _)) | (exact .inr (hY0 _)) | (rw [nilS_f hne]; exact .inr (by simp only [mSnd_len]; exact .same _)) | (exact .inr (by rw [hm1]; exact .same _))))
      · rfl
      · (repeat' (first | exact trivial | exact rfl | assumption | apply Stable.ite | apply And.intro | intro _ | (simp only [Stable, StableL, i64S, prS, insS, sndsS, sndS, stS, evS, macS, HB.stable]; done)))
      · (repeat' (first | exact trivial | exact .inl rfl | exact .inr rfl | exact rfl | apply And.intro))
      · exact fun β => by rw [hm1]; rfl
      · (repeat' (first | exact trivial | exact rfl | assumption | apply Stable.ite | apply And.intro | intro _ | (simp only [Stable, StableL, i64S, prS, insS, sndsS, sndS, stS, evS, macS, HB.stable]; done)))
theorem made18N (a d s : Int) (rg : Nat → Int) (cs : List Int) (P : List Ins) (hP : P.length ≤ 1000000) (p p2 : Nat) (hcp : cs.length ≤ p) (ha : 0 ≤ a ∧ a ≤ 255) (hd : 0 ≤ d ∧ d ≤ 4294967295) (hs : 0 ≤ s ∧ s ≤ 255) (hm : (mSnd (s.tmod 21).toNat).isEmpty = true) : LitOk Try.prog 40 [.agg [.int .u8 a, .arr 8 1 (fun q => .int .i64 (rg q)), .sl 1 2 [] 1 0 cs.length (some p), .int .u32 d, .int .u8 s], .sl 3 4 [] 5 0 P.length (some p2)] [.gone, .gone, .ro (.arr cs.length 1 (i64S cs)), .gone, .ro (.arr P.length 5 (prS P))]
    (.agg [.int .i64 (a.tmod ((max P.length 1 : Nat) : Int)), .bool false, .arr 8 1 (fun q => .int .i64 (rg q)), .sl 5 5 [] 1 0 (cs.take 12).length none, .int .i64 d, .sl 0 0 [] 0 0 0 (some 0)]) [.gone, .gone, .gone, .gone, .gone, .own 2 (.arr (cs.take 12).length 1 (i64S (cs.take 12))) false] := by
  have H := made18_lit a d s rg cs P hP p p2 hcp ha hd hs
  rw [nilS_t hm] at H
  intro w0 M β w R
  refine (H w0 M β w R).mono fun e w' ⟨β', h1, h2, h3, h4⟩ => ⟨β', h1, h2.less (fun i => ?_) rfl (fun i => ?_), ?_, h4⟩
  · rcases i with _ | _ | _ | _ | _ | _ | i
    · exact .same _
    · exact .same _
    · exact .same _
    · exact .same _
    · exact .same _
    · exact .same _
    · exact .dead _
  · rcases i with _ | _ | _ | _ | _ | _ | i
    · trivial
    · trivial
    · trivial
    · trivial
    · trivial
    · exact fun q => i64S_stable q
    · trivial
  · simp [Stable, StableL, hp, HB.born]
theorem made18S (a d s : Int) (rg : Nat → Int) (cs : List Int) (P : List Ins) (hP : P.length ≤ 1000000) (p p2 : Nat) (hcp : cs.length ≤ p) (ha : 0 ≤ a ∧ a ≤ 255) (hd : 0 ≤ d ∧ d ≤ 4294967295) (hs : 0 ≤ s ∧ s ≤ 255) (hm : (mSnd (s.tmod 21).toNat).isEmpty = false) : LitOk Try.prog 40 [.agg [.int .u8 a, .arr 8 1 (fun q => .int .i64 (rg q)), .sl 1 2 [] 1 0 cs.length (some p), .int .u32 d, .int .u8 s], .sl 3 4 [] 5 0 P.length (some p2)] [.gone, .gone, .ro (.arr cs.length 1 (i64S cs)), .gone, .ro (.arr P.length 5 (prS P))]
    (.agg [.int .i64 (a.tmod ((max P.length 1 : Nat) : Int)), .bool false, .arr 8 1 (fun q => .int .i64 (rg q)), .sl 5 5 [] 1 0 (cs.take 12).length none, .int .i64 d, .sl 6 6 [] 3 0 (mSnd (s.tmod 21).toNat).length none]) [.gone, .gone, .gone, .gone, .gone, .own 2 (.arr (cs.take 12).length 1 (i64S (cs.take 12))) false, .own 64 (.arr (mSnd (s.tmod 21).toNat).length 3 (sndsS (mSnd (s.tmod 21).toNat))) false] := by
  have H := made18_lit a d s rg cs P hP p p2 hcp ha hd hs
  rwa [nilS_f hm] at H
def sMd18N : Spec := fun args h m => match args with
  | [.agg [v1, .arr 8 1 v2, v3, v4, v5], v6] => match srcV h 1 (.tup []) v3, srcV h 5 (.tup []) v6 with
    | some (c3, n3, f3, r3), some (c6, n6, f6, r6) => bif isI .u8 v1 && isI .u32 v4 && isI .u8 v5 then some (c3 ∧ c6 ∧ (∀ q, q < n3 → isI .i64 (f3 q) = true) ∧ (∀ q, q < n6 → isIns (f6 q) = true) ∧ (∀ q, q < 8 → isI .i64 (v2 q) = true) ∧ (0 ≤ (iOf v1) ∧ (iOf v1) ≤ 255) ∧ (0 ≤ (iOf v4) ∧ (iOf v4) ≤ 4294967295) ∧ (0 ≤ (iOf v5) ∧ (iOf v5) ≤ 255) ∧ (n6 ≤ 1000000) ∧ ((mSnd ((iOf v5).tmod 21).toNat).isEmpty = true), .agg [.int .i64 ((iOf v1).tmod ((max (ls insOf n6 f6).length 1 : Nat) : Int)), .bool false, .arr 8 1 (fun q => .int .i64 (iOf (v2 q))), .sl m m [] 1 0 ((ls iOf n3 f3).take 12).length none, .int .i64 (iOf v4), .sl 0 0 [] 0 0 0 (some 0)], r3 ++ r6, [(m, .own 2 (.arr ((ls iOf n3 f3).take 12).length 1 (i64S ((ls iOf n3 f3).take 12))) false)]) else none
    | _, _ => none
  | _ => none
theorem sMd18N_ok : CallOk Try.prog 40 sMd18N := by
  refine ⟨named_spec (by kernel_rfl), fun args h m c v rd wr hs hm hc w0 M β h' w R hrd hwr hst => ?_⟩
  unfold sMd18N at hs
  split at hs
  · rename_i v1 v2 v3 v4 v5 v6
    split at hs
    · rename_i c3 n3 f3 r3 c6 n6 f6 r6 a3 a6
      obtain ⟨hb, hs⟩ := bif_some hs
      simp only [Option.some.injEq, Prod.mk.injEq] at hs
      obtain ⟨rfl, rfl, rfl, rfl⟩ := hs
      simp only [Bool.and_eq_true] at hb
      obtain ⟨⟨b1, b4⟩, b5⟩ := hb
      obtain ⟨k3, k6, g3, g6, g2, y1, y2, y3, y4, y5⟩ := hc
      obtain ⟨A3, p3, d3, e3, t3⟩ := reads_src R a3 k3 (fun i hi => hrd i (List.mem_append_left _ hi)) (by omega)
      obtain ⟨A6, p6, d6, e6, t6⟩ := reads_src R a6 k6 (fun i hi => hrd i (List.mem_append_right _ hi)) (by omega)
      refine callRo (views := [⟨1, (ls iOf n3 f3).length, i64S (ls iOf n3 f3), A3, p3⟩, ⟨5, (ls insOf n6 f6).length, prS (ls insOf n6 f6), A6, p6⟩]) (made18N (iOf v1) (iOf v4) (iOf v5) (fun q => iOf (v2 q)) (ls iOf n3 f3) (ls insOf n6 f6) (by rw [ls_length]; exact y4) p3 p6 (by rw [ls_length]; exact e3) y1 y2 y3 y5) ?_ R hm hwr ?_ ?_ ?_
      · intro x hx
        simp only [List.mem_cons, List.not_mem_nil, or_false] at hx
        rcases hx with rfl | rfl
        · exact viewI64 t3 e3 g3
        · exact viewIns t6 e6 g6
      · intro β1 hv
        simp only [Vd, ls_length, and_true] at hv
        obtain ⟨z3, z6⟩ := hv
        simp only [denL, aggDen, intDen, natDen, boolDen, ls_length, z3, z6, d3, d6, isI_den b1, isI_den b4, isI_den b5, ← r8Den (β := β) (β1 := β1) g2]
      · (repeat' (first | exact trivial | exact rfl | assumption | apply Stable.ite | apply And.intro | intro _ | (simp only [Stable, StableL, i64S, prS, insS, sndsS, sndS, stS, evS, macS, HB.stable]; done)))
      · (repeat' (first | exact trivial | exact rfl | assumption | apply Stable.ite | apply And.intro | intro _ | (simp only [Stable, StableL, i64S, prS, insS, sndsS, sndS, stS, evS, macS, HB.stable]; done)))
    · cases hs
  · cases hs
def sMd18S : Spec := fun args h m => match args with
  | [.agg [v1, .arr 8 1 v2, v3, v4, v5], v6] => match srcV h 1 (.tup []) v3, srcV h 5 (.tup []) v6 with
    | some (c3, n3, f3, r3), some (c6, n6, f6, r6) => bif isI .u8 v1 && isI .u32 v4 && isI .u8 v5 then some (c3 ∧ c6 ∧ (∀ q, q < n3 → isI .i64 (f3 q) = true) ∧ (∀ q, q < n6 → isIns (f6 q) = true) ∧ (∀ q, q < 8 → isI .i64 (v2 q) = true) ∧ (0 ≤ (iOf v1) ∧ (iOf v1) ≤ 255) ∧ (0 ≤ (iOf v4) ∧ (iOf v4) ≤ 4294967295) ∧ (0 ≤ (iOf v5) ∧ (iOf v5) ≤ 255) ∧ (n6 ≤ 1000000) ∧ ((mSnd ((iOf v5).tmod 21).toNat).isEmpty = false), .agg [.int .i64 ((iOf v1).tmod ((max (ls insOf n6 f6).length 1 : Nat) : Int)), .bool false, .arr 8 1 (fun q => .int .i64 (iOf (v2 q))), .sl m m [] 1 0 ((ls iOf n3 f3).take 12).length none, .int .i64 (iOf v4), .sl (m + 1) (m + 1) [] 3 0 (mSnd ((iOf v5).tmod 21).toNat).length none], r3 ++ r6, [(m, .own 2 (.arr ((ls iOf n3 f3).take 12).length 1 (i64S ((ls iOf n3 f3).take 12))) false), (m + 1, .own 64 (.arr (mSnd ((iOf v5).tmod 21).toNat).length 3 (sndsS (mSnd ((iOf v5).tmod 21).toNat))) false)]) else none
    | _, _ => none
  | _ => none
theorem sMd18S_ok : CallOk Try.prog 40 sMd18S := by
  refine ⟨named_spec (by kernel_rfl), fun args h m c v rd wr hs hm hc w0 M β h' w R hrd hwr hst => ?_⟩
  unfold sMd18S at hs
  split at hs
  · rename_i v1 v2 v3 v4 v5 v6
    split at hs
    · rename_i c3 n3 f3 r3 c6 n6 f6 r6 a3 a6
      obtain ⟨hb, hs⟩ := bif_some hs
      simp only [Option.some.injEq, Prod.mk.injEq] at hs
      obtain ⟨rfl, rfl, rfl, rfl⟩ := hs
      simp only [Bool.and_eq_true] at hb
      obtain ⟨⟨b1, b4⟩, b5⟩ := hb
      obtain ⟨k3, k6, g3, g6, g2, y1, y2, y3, y4, y5⟩ := hc
      obtain ⟨A3, p3, d3, e3, t3⟩ := reads_src R a3 k3 (fun i hi => hrd i (List.mem_append_left _ hi)) (by omega)
      obtain ⟨A6, p6, d6, e6, t6⟩ := reads_src R a6 k6 (fun i hi => hrd i (List.mem_append_right _ hi)) (by omega)
      refine callRo (views := [⟨1, (ls iOf n3 f3).length, i64S (ls iOf n3 f3), A3, p3⟩, ⟨5, (ls insOf n6 f6).length, prS (ls insOf n6 f6), A6, p6⟩]) (made18S (iOf v1) (iOf v4) (iOf v5) (fun q => iOf (v2 q)) (ls iOf n3 f3) (ls insOf n6 f6) (by rw [ls_length]; exact y4) p3 p6 (by rw [ls_length]; exact e3) y1 y2 y3 y5) ?_ R hm hwr ?_ ?_ ?_
      · intro x hx
        simp only [List.mem_cons, List.not_mem_nil, or_false] at hx
        rcases hx with rfl | rfl
        · exact viewI64 t3 e3 g3
        · exact viewIns t6 e6 g6
      · intro β1 hv
        simp only [Vd, ls_length, and_true] at hv
        obtain ⟨z3, z6⟩ := hv
        simp only [denL, aggDen, intDen, natDen, boolDen, ls_length, z3, z6, d3, d6, isI_den b1, isI_den b4, isI_den b5, ← r8Den (β := β) (β1 := β1) g2]
      · (repeat' (first | exact trivial | exact rfl | assumption | apply Stable.ite | apply And.intro | intro _ | (simp only [Stable, StableL, i64S, prS, insS, sndsS, sndS, stS, evS, macS, HB.stable]; done)))
      · (repeat' (first | exact trivial | exact rfl | assumption | apply Stable.ite | apply And.intro | intro _ | (simp only [Stable, StableL, i64S, prS, insS, sndsS, sndS, stS, evS, macS, HB.stable]; done)))
    · cases hs
  · cases hs
end Go.Proofs.Ytjliakjbdcplcaa.Vm
end

section
/- fermatalaw19.Made. (printed by gen_rl2.py) -/
namespace Go.Proofs.Ytjliakjbdcplcaa.Vm
open Go.RowKit
set_option linter.unusedVariables false
set_option linter.unusedSimpArgs false
set_option maxRecDepth 100000
set_option maxHeartbeats 4000000
theorem wrap_u16 (x : Int) : 0 ≤ IntKind.wrap .u16 x ∧ IntKind.wrap .u16 x ≤ 65535 := by
  unfold IntKind.wrap; simp [IntKind.bits, IntKind.signed]; omega
theorem wrap_u8 (x : Int) : 0 ≤ IntKind.wrap .u8 x ∧ IntKind.wrap .u8 x ≤ 255 := by
  unfold IntKind.wrap; simp [IntKind.bits, IntKind.signed]; omega
def capB : SV → Prop
  | .sl _ _ _ _ _ n (some cp) => max n cp ≤ 9223372036854775807
  | _ => False
theorem capB_le {v : SV} {β : Env} {A : Option Addr} {n p : Nat} (h : capB v) (d : v.den β = .slice A n p) : p ≤ 9223372036854775807 := by
  cases v with
  | sl z i pa k s n' c => cases c with
    | none => exact h.elim
    | some cp =>
      have h' : max n' cp ≤ 9223372036854775807 := h
      simp only [SV.den, Option.getD_some] at d
      injection d with _ _ h3
      omega
  | _ => exact h.elim
def cMd19N : FuncId → Option Spec := look2 [(41, sEnv18), (40, sMd18N), (42, sMd14)]
theorem cMd19N_ok : ∀ f S, cMd19N f = some S → CallOk Try.prog f S := allOk_spec ⟨sEnv18_ok, sMd18N_ok, sMd14_ok, trivial⟩
theorem made19N (xs : List Ins) (a d sn time source value fuel : Int) (rg : Nat → Int) (cs : List Int) (v : Evi) (p1 p2 : Nat) (hx : ∀ x ∈ xs, x.ok) (hcx : xs.length ≤ p1) (hcap : p1 ≤ 9223372036854775807) (hcp : cs.length ≤ p2) (ha : 0 ≤ a ∧ a ≤ 255) (hd : 0 ≤ d ∧ d ≤ 4294967295) (hs : 0 ≤ sn ∧ sn ≤ 255) (ht : 0 ≤ time ∧ time ≤ 4294967295) (hso : 0 ≤ source ∧ source ≤ 255) (hf : 0 ≤ fuel ∧ fuel ≤ 65535) (hm : (mSnd (sn.tmod 21).toNat).isEmpty = true) : LitOk Try.prog 13
    [.agg [.sl 1 2 [] 5 0 xs.length (some p1), .agg [.int .u8 a, .arr 8 1 (fun q => .int .i64 (rg q)), .sl 3 4 [] 1 0 cs.length (some p2), .int .u32 d, .int .u8 sn], .agg [.int .u64 v.seed, .int .i64 v.process, .int .i64 v.ports, .int .i64 v.look, .int .i64 v.now], .int .u32 time, .int .u8 source, .int .i64 value, .int .u16 fuel]]
    [.gone, .gone, .ro (.arr xs.length 5 (prS xs)), .gone, .ro (.arr cs.length 1 (i64S cs))]
    (.agg [.sl 5 5 [] 5 0 (made14 xs).length none, .agg [.int .u64 v.seed, .int .i64 (IntKind.wrap .u16 v.process), .int .i64 ((IntKind.wrap .u8 v.ports).tmod 17), .int .i64 (1 + IntKind.wrap .u8 v.look), .int .i64 time], .agg [.agg [.int .i64 time, .int .i64 source, .int .i64 1], .int .i64 0, .int .i64 value], .sl 6 6 [] 1 0 (cs.take 12).length none, .int .i64 d, .int .i64 (fuel.tmod 512)])
    [.gone, .gone, .gone, .gone, .gone, .own 73 (.arr (made14 xs).length 5 (prS (made14 xs))) false, .own 2 (.arr (cs.take 12).length 1 (i64S (cs.take 12))) false] := by
  have w1 := wrap_u16 v.process
  have w2 := wrap_u8 v.ports
  have w3 := wrap_u8 v.look
  have hmx : max xs.length p1 ≤ 9223372036854775807 := by omega
  refine litOkM (fn := Try.f13) 5 49 0 rfl rfl rfl rfl rfl (by simp only [StableL, Stable, hp, i64S, prS, insS, sndsS, sndS, stS, evS, macS, HB.stable]; simp [HB.born]) rfl fun w0 M E hro => ?_
  repeat' (first | with_reducible (first | apply J1 | apply J3 | apply J4 | apply J5 | apply J6 | apply J7 | apply J8 | apply J9 | apply J10 | apply J11 | apply J12 | apply J13 | apply J14 | apply J15 | apply J16 | apply J17 | apply J18 | apply J19 | apply J20 | refine J2 ?_) | ((with_reducible apply J21); (· rfl)) | ((with_reducible intro hif); first | (focus (cases hif; done)) | (simp only [JH] at hif; try (exfalso; omega)) | (try (exfalso; omega))) | ((first | ((with_reducible apply J22 cMd19N_ok tab_ok); (· rfl)) | ((with_reducible apply J23 fol cMd19N_ok tab_ok); (· rfl)) | with_reducible apply J24); (· (simp only [push_cast, ↓JP, Nat.reduceAdd, Nat.reduceEqDiff, Nat.reduceLT, Nat.reduceMul, Nat.reduceLeDiff, reduceCtorEq, reduceIte, ↓JK, JM, JE, JB, cMd19N, sEnv18, sMd18N, sMd14, inR, inN, Nat.sub_zero, hm]; rfl)); (try kernel_rfl); (try (focus (first | exact True.intro | ((try simp only [JS, implies_true, forall_const, shaped, shapedL, kndOf, inR, inN]); (first | first | omega | exact ⟨fun q _ => rfl, hx, hmx⟩ | exact ⟨rfl, fun q _ => rfl, hx, hmx⟩ | (repeat' (first | assumption | exact True.intro | omega | apply And.intro))); done))))) | fail)
  apply At.endsPick [0, 1, 2, 3, 4, 10, 7] tab_ok (fn := Try.f13) (rs := [.cell 2 41]) Anc.refl hro (Nat.le_of_ble_eq_true rfl) rfl
  · simp only [push_cast, ↓JP, Nat.reduceAdd, Nat.reduceEqDiff, Nat.reduceLT, Nat.reduceMul, Nat.reduceLeDiff, reduceCtorEq, reduceIte, ↓JK, resV, resV1]; rfl
  · (focus (first | exact True.intro | ((try simp only [JS, implies_true, forall_const, shaped, shapedL, kndOf]); (repeat' (first | assumption | exact True.intro | omega | apply And.intro)); done)))
  · rfl
  · rfl
  · rfl
  · (repeat' (first | exact trivial | exact .inl rfl | exact .inr (.same _) | exact .inr .loose | exact .inr (.arr (by assumption)) | apply And.intro))
  · rfl
  · (repeat' (first | exact trivial | exact rfl | assumption | apply Stable.ite | apply And.intro | intro _ | (simp only [Stable, StableL, i64S, prS, insS, sndsS, sndS, stS, evS, macS, HB.stable]; done)))
  · (repeat' (first | exact trivial | exact .inl rfl | exact .inr rfl | exact rfl | apply And.intro))
  · exact fun β => rfl
  · (repeat' (first | exact trivial | exact rfl | assumption | apply Stable.ite | apply And.intro | intro _ | (simp only [Stable, StableL, i64S, prS, insS, sndsS, sndS, stS, evS, macS, HB.stable]; done)))
def cMd19S : FuncId → Option Spec := look2 [(41, sEnv18), (40, sMd18S), (42, sMd14)]
theorem cMd19S_ok : ∀ f S, cMd19S f = some S → CallOk Try.prog f S := allOk_spec ⟨sEnv18_ok, sMd18S_ok, sMd14_ok, trivial⟩
theorem made19S (xs : List Ins) (a d sn time source value fuel : Int) (rg : Nat → Int) (cs : List Int) (v : Evi) (p1 p2 : Nat) (hx : ∀ x ∈ xs, x.ok) (hcx : xs.length ≤ p1) (hcap : p1 ≤ 9223372036854775807) (hcp : cs.length ≤ p2) (ha : 0 ≤ a ∧ a ≤ 255) (hd : 0 ≤ d ∧ d ≤ 4294967295) (hs : 0 ≤ sn ∧ sn ≤ 255) (ht : 0 ≤ time ∧ time ≤ 4294967295) (hso : 0 ≤ source ∧ source ≤ 255) (hf : 0 ≤ fuel ∧ fuel ≤ 65535) (hm : (mSnd (sn.tmod 21).toNat).isEmpty = false) : LitOk Try.prog 13
    [.agg [.sl 1 2 [] 5 0 xs.length (some p1), .agg [.int .u8 a, .arr 8 1 (fun q => .int .i64 (rg q)), .sl 3 4 [] 1 0 cs.length (some p2), .int .u32 d, .int .u8 sn], .agg [.int .u64 v.seed, .int .i64 v.process, .int .i64 v.ports, .int .i64 v.look, .int .i64 v.now], .int .u32 time, .int .u8 source, .int .i64 value, .int .u16 fuel]]
    [.gone, .gone, .ro (.arr xs.length 5 (prS xs)), .gone, .ro (.arr cs.length 1 (i64S cs))]
    (.agg [.sl 5 5 [] 5 0 (made14 xs).length none, .agg [.int .u64 v.seed, .int .i64 (IntKind.wrap .u16 v.process), .int .i64 ((IntKind.wrap .u8 v.ports).tmod 17), .int .i64 (1 + IntKind.wrap .u8 v.look), .int .i64 time], .agg [.agg [.int .i64 time, .int .i64 source, .int .i64 1], .int .i64 0, .int .i64 value], .sl 6 6 [] 1 0 (cs.take 12).length none, .int .i64 d, .int .i64 (fuel.tmod 512)])
    [.gone, .gone, .gone, .gone, .gone, .own 73 (.arr (made14 xs).length 5 (prS (made14 xs))) false, .own 2 (.arr (cs.take 12).length 1 (i64S (cs.take 12))) false] := by
  have w1 := wrap_u16 v.process
  have w2 := wrap_u8 v.ports
  have w3 := wrap_u8 v.look
  have hmx : max xs.length p1 ≤ 9223372036854775807 := by omega
  refine litOkM (fn := Try.f13) 5 49 0 rfl rfl rfl rfl rfl (by simp only [StableL, Stable, hp, i64S, prS, insS, sndsS, sndS, stS, evS, macS, HB.stable]; simp [HB.born]) rfl fun w0 M E hro => ?_
  repeat' (first | with_reducible (first | apply J1 | apply J3 | apply J4 | apply J5 | apply J6 | apply J7 | apply J8 | apply J9 | apply J10 | apply J11 | apply J12 | apply J13 | apply J14 | apply J15 | apply J16 | apply J17 | apply J18 | apply J19 | apply J20 | refine J2 ?_) | ((with_reducible apply J21); (· rfl)) | ((with_reducible intro hif); first | (focus (cases hif; done)) | (simp only [JH] at hif; try (exfalso; omega)) | (try (exfalso; omega))) | ((first | ((with_reducible apply J22 cMd19S_ok tab_ok); (· rfl)) | ((with_reducible apply J23 fol cMd19S_ok tab_ok); (· rfl)) | with_reducible apply J24); (· (simp only [push_cast, ↓JP, Nat.reduceAdd, Nat.reduceEqDiff, Nat.reduceLT, Nat.reduceMul, Nat.reduceLeDiff, reduceCtorEq, reduceIte, ↓JK, JM, JE, JB, cMd19S, sEnv18, sMd18S, sMd14, inR, inN, Nat.sub_zero, hm]; rfl)); (try kernel_rfl); (try (focus (first | exact True.intro | ((try simp only [JS, implies_true, forall_const, shaped, shapedL, kndOf, inR, inN]); (first | first | omega | exact ⟨fun q _ => rfl, hx, hmx⟩ | exact ⟨rfl, fun q _ => rfl, hx, hmx⟩ | (repeat' (first | assumption | exact True.intro | omega | apply And.intro))); done))))) | fail)
  apply At.endsPick [0, 1, 2, 3, 4, 11, 7] tab_ok (fn := Try.f13) (rs := [.cell 2 41]) Anc.refl hro (Nat.le_of_ble_eq_true rfl) rfl
  · simp only [push_cast, ↓JP, Nat.reduceAdd, Nat.reduceEqDiff, Nat.reduceLT, Nat.reduceMul, Nat.reduceLeDiff, reduceCtorEq, reduceIte, ↓JK, resV, resV1]; rfl
  · (focus (first | exact True.intro | ((try simp only [JS, implies_true, forall_const, shaped, shapedL, kndOf]); (repeat' (first | assumption | exact True.intro | omega | apply And.intro)); done)))
  · rfl
  · rfl
  · rfl
  · (repeat' (first | exact trivial | exact .inl rfl | exact .inr (.same _) | exact .inr .loose | exact .inr (.arr (by assumption)) | apply And.intro))
  · rfl
  · (repeat' (first | exact trivial | exact rfl | assumption | apply Stable.ite | apply And.intro | intro _ | (simp only [Stable, StableL, i64S, prS, insS, sndsS, sndS, stS, evS, macS, HB.stable]; done)))
  · (repeat' (first | exact trivial | exact .inl rfl | exact .inr rfl | exact rfl | apply And.intro))
  · exact fun β => rfl
  · (repeat' (first | exact trivial | exact rfl | assumption | apply Stable.ite | apply And.intro | intro _ | (simp only [Stable, StableL, i64S, prS, insS, sndsS, sndS, stS, evS, macS, HB.stable]; done)))
theorem made19 (xs : List Ins) (a d sn time source value fuel : Int) (rg : Nat → Int) (cs : List Int) (v : Evi) (p1 p2 : Nat) (hx : ∀ x ∈ xs, x.ok) (hcx : xs.length ≤ p1) (hcap : p1 ≤ 9223372036854775807) (hcp : cs.length ≤ p2) (ha : 0 ≤ a ∧ a ≤ 255) (hd : 0 ≤ d ∧ d ≤ 4294967295) (hs : 0 ≤ sn ∧ sn ≤ 255) (ht : 0 ≤ time ∧ time ≤ 4294967295) (hso : 0 ≤ source ∧ source ≤ 255) (hf : 0 ≤ fuel ∧ fuel ≤ 65535) : LitOk Try.prog 13
    [.agg [.sl 1 2 [] 5 0 xs.length (some p1), .agg [.int .u8 a, .arr 8 1 (fun q => .int .i64 (rg q)), .sl 3 4 [] 1 0 cs.length (some p2), .int .u32 d, .int .u8 sn], .agg [.int .u64 v.seed, .int .i64 v.process, .int .i64 v.ports, .int .i64 v.look, .int .i64 v.now], .int .u32 time, .int .u8 source, .int .i64 value, .int .u16 fuel]]
    [.gone, .gone, .ro (.arr xs.length 5 (prS xs)), .gone, .ro (.arr cs.length 1 (i64S cs))]
    (.agg [.sl 5 5 [] 5 0 (made14 xs).length none, .agg [.int .u64 v.seed, .int .i64 (IntKind.wrap .u16 v.process), .int .i64 ((IntKind.wrap .u8 v.ports).tmod 17), .int .i64 (1 + IntKind.wrap .u8 v.look), .int .i64 time], .agg [.agg [.int .i64 time, .int .i64 source, .int .i64 1], .int .i64 0, .int .i64 value], .sl 6 6 [] 1 0 (cs.take 12).length none, .int .i64 d, .int .i64 (fuel.tmod 512)])
    [.gone, .gone, .gone, .gone, .gone, .own 73 (.arr (made14 xs).length 5 (prS (made14 xs))) false, .own 2 (.arr (cs.take 12).length 1 (i64S (cs.take 12))) false] := by
  cases hm : (mSnd (sn.tmod 21).toNat).isEmpty
  · exact made19S xs a d sn time source value fuel rg cs v p1 p2 hx hcx hcap hcp ha hd hs ht hso hf hm
  · exact made19N xs a d sn time source value fuel rg cs v p1 p2 hx hcx hcap hcp ha hd hs ht hso hf hm
/-- the environment of a case that is made -/
def mkV (seed process ports look time : Int) : Evi := ⟨seed, IntKind.wrap .u16 process, (IntKind.wrap .u8 ports).tmod 17, 1 + IntKind.wrap .u8 look, time⟩
def sMd19 : Spec := fun args h m => match args with
  | [.agg [v1, .agg [v2, .arr 8 1 v3, v4, v5, v6], .agg [v7, v8, v9, v10, v11], v12, v13, v14, v15]] => match srcV h 5 (.tup []) v1, srcV h 1 (.tup []) v4 with
    | some (c1, n1, f1, r1), some (c4, n4, f4, r4) => bif isI .u8 v2 && isI .u32 v5 && isI .u8 v6 && isI .u64 v7 && isI .i64 v8 && isI .i64 v9 && isI .i64 v10 && isI .i64 v11 && isI .u32 v12 && isI .u8 v13 && isI .i64 v14 && isI .u16 v15 then some (c1 ∧ c4 ∧ (∀ q, q < n1 → isIns (f1 q) = true) ∧ (∀ q, q < n4 → isI .i64 (f4 q) = true) ∧ (∀ q, q < 8 → isI .i64 (v3 q) = true) ∧ ((∀ x ∈ (ls insOf n1 f1), x.ok)) ∧ (capB v1) ∧ (0 ≤ (iOf v2) ∧ (iOf v2) ≤ 255) ∧ (0 ≤ (iOf v5) ∧ (iOf v5) ≤ 4294967295) ∧ (0 ≤ (iOf v6) ∧ (iOf v6) ≤ 255) ∧ (0 ≤ (iOf v12) ∧ (iOf v12) ≤ 4294967295) ∧ (0 ≤ (iOf v13) ∧ (iOf v13) ≤ 255) ∧ (0 ≤ (iOf v15) ∧ (iOf v15) ≤ 65535), .agg [.sl m m [] 5 0 (made14 (ls insOf n1 f1)).length none, .agg [.int .u64 (iOf v7), .int .i64 (IntKind.wrap .u16 (iOf v8)), .int .i64 ((IntKind.wrap .u8 (iOf v9)).tmod 17), .int .i64 (1 + IntKind.wrap .u8 (iOf v10)), .int .i64 (iOf v12)], .agg [.agg [.int .i64 (iOf v12), .int .i64 (iOf v13), .int .i64 1], .int .i64 0, .int .i64 (iOf v14)], .sl (m + 1) (m + 1) [] 1 0 ((ls iOf n4 f4).take 12).length none, .int .i64 (iOf v5), .int .i64 ((iOf v15).tmod 512)], r1 ++ r4, [(m, .own 73 (.arr (made14 (ls insOf n1 f1)).length 5 (prS (made14 (ls insOf n1 f1)))) false), (m + 1, .own 2 (.arr ((ls iOf n4 f4).take 12).length 1 (i64S ((ls iOf n4 f4).take 12))) false)]) else none
    | _, _ => none
  | _ => none
theorem sMd19_ok : CallOk Try.prog 13 sMd19 := by
  refine ⟨named_spec (by kernel_rfl), fun args h m c v rd wr hs hm hc w0 M β h' w R hrd hwr hst => ?_⟩
  unfold sMd19 at hs
  split at hs
  · rename_i v1 v2 v3 v4 v5 v6 v7 v8 v9 v10 v11 v12 v13 v14 v15
    split at hs
    · rename_i c1 n1 f1 r1 c4 n4 f4 r4 a1 a4
      obtain ⟨hb, hs⟩ := bif_some hs
      simp only [Option.some.injEq, Prod.mk.injEq] at hs
      obtain ⟨rfl, rfl, rfl, rfl⟩ := hs
      simp only [Bool.and_eq_true] at hb
      obtain ⟨⟨⟨⟨⟨⟨⟨⟨⟨⟨⟨b2, b5⟩, b6⟩, b7⟩, b8⟩, b9⟩, b10⟩, b11⟩, b12⟩, b13⟩, b14⟩, b15⟩ := hb
      obtain ⟨k1, k4, g1, g4, g3, y1, y2, y3, y4, y5, y6, y7, y8⟩ := hc
      obtain ⟨A1, p1, d1, e1, t1⟩ := reads_src R a1 k1 (fun i hi => hrd i (List.mem_append_left _ hi)) (by omega)
      obtain ⟨A4, p4, d4, e4, t4⟩ := reads_src R a4 k4 (fun i hi => hrd i (List.mem_append_right _ hi)) (by omega)
      refine callRo (views := [⟨5, (ls insOf n1 f1).length, prS (ls insOf n1 f1), A1, p1⟩, ⟨1, (ls iOf n4 f4).length, i64S (ls iOf n4 f4), A4, p4⟩]) (made19 (ls insOf n1 f1) (iOf v2) (iOf v5) (iOf v6) (iOf v12) (iOf v13) (iOf v14) (iOf v15) (fun q => iOf (v3 q)) (ls iOf n4 f4) ⟨(iOf v7), (iOf v8), (iOf v9), (iOf v10), (iOf v11)⟩ p1 p4 y1 (by rw [ls_length]; exact e1) (capB_le y2 d1) (by rw [ls_length]; exact e4) y3 y4 y5 y6 y7 y8) ?_ R hm hwr ?_ ?_ ?_
      · intro x hx
        simp only [List.mem_cons, List.not_mem_nil, or_false] at hx
        rcases hx with rfl | rfl
        · exact viewIns t1 e1 g1
        · exact viewI64 t4 e4 g4
      · intro β1 hv
        simp only [Vd, ls_length, and_true] at hv
        obtain ⟨z1, z4⟩ := hv
        simp only [denL, aggDen, intDen, natDen, boolDen, ls_length, z1, z4, d1, d4, isI_den b2, isI_den b5, isI_den b6, isI_den b7, isI_den b8, isI_den b9, isI_den b10, isI_den b11, isI_den b12, isI_den b13, isI_den b14, isI_den b15, ← r8Den (β := β) (β1 := β1) g3]
      · (repeat' (first | exact trivial | exact rfl | assumption | apply Stable.ite | apply And.intro | intro _ | (simp only [Stable, StableL, i64S, prS, insS, sndsS, sndS, stS, evS, macS, HB.stable]; done)))
      · (repeat' (first | exact trivial | exact rfl | assumption | apply Stable.ite | apply And.intro | intro _ | (simp only [Stable, StableL, i64S, prS, insS, sndsS, sndS, stS, evS, macS, HB.stable]; done)))
    · cases hs
  · cases hs
end Go.Proofs.Ytjliakjbdcplcaa.Vm
end

section
/- fermatalaw19: Case.run, same. (printed by gen_rl3.py) -/
namespace Go.Proofs.Ytjliakjbdcplcaa.Vm
open Go.RowKit
set_option linter.unusedVariables false
set_option linter.unusedSimpArgs false
set_option maxRecDepth 100000
set_option maxHeartbeats 4000000
def cCrG : FuncId → Option Spec := look2 [(29, sRunG)]
theorem cCrG_ok : ∀ f S, cCrG f = some S → CallOk Try.prog f S := allOk_spec ⟨sRunG_ok, trivial⟩
theorem crunG (P : List Ins) (v : Evi) (t s q o y d f0 f : Int) (cs : List Int) (p1 p2 : Nat) (hP : ∀ x ∈ P, x.ok) (hn : P.length ≤ 1000000) (hc : cs.length ≤ 1000000) (hb : (runO P v (begS y t s cs d) f).bad = 0) : LitOk Try.prog 14 [.agg [.sl 1 2 [] 5 0 P.length (some p1), .agg [.int .u64 v.seed, .int .i64 v.process, .int .i64 v.ports, .int .i64 v.look, .int .i64 v.now], .agg [.agg [.int .i64 t, .int .i64 s, .int .i64 q], .int .i64 o, .int .i64 y], .sl 3 4 [] 1 0 cs.length (some p2), .int .i64 d, .int .i64 f0], .int .i64 f]
    [.gone, .gone, .ro (.arr P.length 5 (prS P)), .gone, .ro (.arr cs.length 1 (i64S cs))]
    (.tup [.agg [.nat .i64 (runO P v (begS y t s cs d) f).tr.length, .int .i64 (runO P v (begS y t s cs d) f).at_, .sl 5 5 [] 1 0 (runO P v (begS y t s cs d) f).s.cells.length none, .int .i64 (runO P v (begS y t s cs d) f).s.draws, .sl 6 6 [] 3 0 (runO P v (begS y t s cs d) f).s.sends.length none], .int .i64 0]) [.gone, .gone, .gone, .gone, .gone, cB (runO P v (begS y t s cs d) f).s, sB (runO P v (begS y t s cs d) f).s] := by
  refine litOkM (fn := Try.f14) 5 20 0 rfl rfl rfl rfl rfl (by simp only [StableL, Stable, hp, i64S, prS, insS, sndsS, sndS, stS, evS, macS, cB, sB, HB.stable]; simp [HB.born]) rfl fun w0 M E hro => ?_
  repeat' (first | with_reducible (first | apply J1 | apply J3 | apply J4 | apply J5 | apply J6 | apply J7 | apply J8 | apply J9 | apply J10 | apply J11 | apply J12 | apply J13 | apply J14 | apply J15 | apply J16 | apply J17 | apply J18 | apply J19 | apply J20 | refine J2 ?_) | ((with_reducible apply J21); (· rfl)) | ((with_reducible intro hif); first | (focus (cases hif; done)) | (simp only [JH] at hif; try (exfalso; omega)) | (try (exfalso; omega))) | ((first | ((with_reducible apply J22 cCrG_ok tab_ok); (· rfl)) | ((with_reducible apply J23 fol cCrG_ok tab_ok); (· rfl)) | with_reducible apply J24); (· (simp only [push_cast, ↓JP, Nat.reduceAdd, Nat.reduceEqDiff, Nat.reduceLT, Nat.reduceMul, Nat.reduceLeDiff, reduceCtorEq, reduceIte, ↓JK, JE, JB, cCrG, sRunG, inR, inN, hb]; rfl)); (try kernel_rfl); (try (focus (first | exact True.intro | ((try simp only [JS, implies_true, forall_const, shaped, shapedL, kndOf, inR, inN]); (first | first | omega | exact ⟨hP, hn, hc⟩ | exact ⟨hP, hn, hc, hb⟩ | (repeat' (first | assumption | exact True.intro | omega | apply And.intro))); done))))) | fail)
  apply At.endsPick [0, 1, 2, 3, 4, 7, 8] tab_ok (fn := Try.f14) (rs := [.cell 4 45, .tmp 5]) Anc.refl hro (Nat.le_of_ble_eq_true rfl) rfl
  · simp only [push_cast, ↓JP, Nat.reduceAdd, Nat.reduceEqDiff, Nat.reduceLT, Nat.reduceMul, Nat.reduceLeDiff, reduceCtorEq, reduceIte, ↓JK, resV, resV1]; rfl
  · (focus (first | exact True.intro | ((try simp only [JS, implies_true, forall_const, shaped, shapedL, kndOf]); (repeat' (first | assumption | exact True.intro | omega | apply And.intro)); done)))
  · rfl
  · rfl
  · rfl
  · (repeat' (first | exact trivial | exact .inl rfl | exact .inr (.same _) | exact .inr .loose | exact .inr (.arr (by assumption)) | apply And.intro))
  · rfl
  · (repeat' (first | exact trivial | exact rfl | assumption | apply Stable.ite | apply And.intro | intro _ | (simp only [Stable, StableL, i64S, prS, insS, sndsS, sndS, stS, evS, macS, cB, sB, HB.stable]; done)))
  · (repeat' (first | exact trivial | exact .inl rfl | exact .inr rfl | exact rfl | apply And.intro))
  · exact fun β => rfl
  · (repeat' (first | exact trivial | exact rfl | assumption | apply Stable.ite | apply And.intro | intro _ | (simp only [Stable, StableL, i64S, prS, insS, sndsS, sndS, stS, evS, macS, cB, sB, HB.stable]; done)))
def sCrG : Spec := fun args h m => match args with
  | [.agg [v1, .agg [v2, v3, v4, v5, v6], .agg [.agg [v7, v8, v9], v10, v11], v12, v13, v14], v15] => match srcV h 5 (.tup []) v1, srcV h 1 (.tup []) v12 with
    | some (c1, n1, f1, r1), some (c12, n12, f12, r12) => bif isI .u64 v2 && isI .i64 v3 && isI .i64 v4 && isI .i64 v5 && isI .i64 v6 && isI .i64 v7 && isI .i64 v8 && isI .i64 v9 && isI .i64 v10 && isI .i64 v11 && isI .i64 v13 && isI .i64 v14 && isI .i64 v15 then some (c1 ∧ c12 ∧ (∀ q, q < n1 → isIns (f1 q) = true) ∧ (∀ q, q < n12 → isI .i64 (f12 q) = true) ∧ ((∀ x ∈ (ls insOf n1 f1), x.ok)) ∧ (n1 ≤ 1000000) ∧ (n12 ≤ 1000000) ∧ ((runO (ls insOf n1 f1) ⟨(iOf v2), (iOf v3), (iOf v4), (iOf v5), (iOf v6)⟩ (begS (iOf v11) (iOf v7) (iOf v8) (ls iOf n12 f12) (iOf v13)) (iOf v15)).bad = 0), .tup [.agg [.nat .i64 (runO (ls insOf n1 f1) ⟨(iOf v2), (iOf v3), (iOf v4), (iOf v5), (iOf v6)⟩ (begS (iOf v11) (iOf v7) (iOf v8) (ls iOf n12 f12) (iOf v13)) (iOf v15)).tr.length, .int .i64 (runO (ls insOf n1 f1) ⟨(iOf v2), (iOf v3), (iOf v4), (iOf v5), (iOf v6)⟩ (begS (iOf v11) (iOf v7) (iOf v8) (ls iOf n12 f12) (iOf v13)) (iOf v15)).at_, .sl m m [] 1 0 (runO (ls insOf n1 f1) ⟨(iOf v2), (iOf v3), (iOf v4), (iOf v5), (iOf v6)⟩ (begS (iOf v11) (iOf v7) (iOf v8) (ls iOf n12 f12) (iOf v13)) (iOf v15)).s.cells.length none, .int .i64 (runO (ls insOf n1 f1) ⟨(iOf v2), (iOf v3), (iOf v4), (iOf v5), (iOf v6)⟩ (begS (iOf v11) (iOf v7) (iOf v8) (ls iOf n12 f12) (iOf v13)) (iOf v15)).s.draws, .sl (m + 1) (m + 1) [] 3 0 (runO (ls insOf n1 f1) ⟨(iOf v2), (iOf v3), (iOf v4), (iOf v5), (iOf v6)⟩ (begS (iOf v11) (iOf v7) (iOf v8) (ls iOf n12 f12) (iOf v13)) (iOf v15)).s.sends.length none], .int .i64 0], r1 ++ r12, [(m, cB (runO (ls insOf n1 f1) ⟨(iOf v2), (iOf v3), (iOf v4), (iOf v5), (iOf v6)⟩ (begS (iOf v11) (iOf v7) (iOf v8) (ls iOf n12 f12) (iOf v13)) (iOf v15)).s), (m + 1, sB (runO (ls insOf n1 f1) ⟨(iOf v2), (iOf v3), (iOf v4), (iOf v5), (iOf v6)⟩ (begS (iOf v11) (iOf v7) (iOf v8) (ls iOf n12 f12) (iOf v13)) (iOf v15)).s)]) else none
    | _, _ => none
  | _ => none
theorem sCrG_ok : CallOk Try.prog 14 sCrG := by
  refine ⟨named_spec (by kernel_rfl), fun args h m c v rd wr hs hm hc w0 M β h' w R hrd hwr hst => ?_⟩
  unfold sCrG at hs
  split at hs
  · rename_i v1 v2 v3 v4 v5 v6 v7 v8 v9 v10 v11 v12 v13 v14 v15
    split at hs
    · rename_i c1 n1 f1 r1 c12 n12 f12 r12 a1 a12
      obtain ⟨hb, hs⟩ := bif_some hs
      simp only [Option.some.injEq, Prod.mk.injEq] at hs
      obtain ⟨rfl, rfl, rfl, rfl⟩ := hs
      simp only [Bool.and_eq_true] at hb
      obtain ⟨⟨⟨⟨⟨⟨⟨⟨⟨⟨⟨⟨b2, b3⟩, b4⟩, b5⟩, b6⟩, b7⟩, b8⟩, b9⟩, b10⟩, b11⟩, b13⟩, b14⟩, b15⟩ := hb
      obtain ⟨k1, k12, g1, g12, y1, y2, y3, y4⟩ := hc
      obtain ⟨A1, p1, d1, e1, t1⟩ := reads_src R a1 k1 (fun i hi => hrd i (List.mem_append_left _ hi)) (by omega)
      obtain ⟨A12, p12, d12, e12, t12⟩ := reads_src R a12 k12 (fun i hi => hrd i (List.mem_append_right _ hi)) (by omega)
      refine callRo (views := [⟨5, (ls insOf n1 f1).length, prS (ls insOf n1 f1), A1, p1⟩, ⟨1, (ls iOf n12 f12).length, i64S (ls iOf n12 f12), A12, p12⟩]) (crunG (ls insOf n1 f1) ⟨(iOf v2), (iOf v3), (iOf v4), (iOf v5), (iOf v6)⟩ (iOf v7) (iOf v8) (iOf v9) (iOf v10) (iOf v11) (iOf v13) (iOf v14) (iOf v15) (ls iOf n12 f12) p1 p12 y1 (by rw [ls_length]; exact y2) (by rw [ls_length]; exact y3) y4) ?_ R hm hwr ?_ ?_ ?_
      · intro x hx
        simp only [List.mem_cons, List.not_mem_nil, or_false] at hx
        rcases hx with rfl | rfl
        · exact viewIns t1 e1 g1
        · exact viewI64 t12 e12 g12
      · intro β1 hv
        simp only [Vd, ls_length, and_true] at hv
        obtain ⟨z1, z12⟩ := hv
        simp only [denL, aggDen, intDen, natDen, boolDen, ls_length, z1, z12, d1, d12, isI_den b2, isI_den b3, isI_den b4, isI_den b5, isI_den b6, isI_den b7, isI_den b8, isI_den b9, isI_den b10, isI_den b11, isI_den b13, isI_den b14, isI_den b15]
      · (repeat' (first | exact trivial | exact rfl | assumption | apply Stable.ite | apply And.intro | intro _ | (simp only [Stable, StableL, i64S, prS, insS, sndsS, sndS, stS, evS, macS, cB, sB, HB.stable]; done)))
      · (repeat' (first | exact trivial | exact rfl | assumption | apply Stable.ite | apply And.intro | intro _ | (simp only [Stable, StableL, i64S, prS, insS, sndsS, sndS, stS, evS, macS, cB, sB, HB.stable]; done)))
    · cases hs
  · cases hs
def cCrB : FuncId → Option Spec := look2 [(29, sRunB)]
theorem cCrB_ok : ∀ f S, cCrB f = some S → CallOk Try.prog f S := allOk_spec ⟨sRunB_ok, trivial⟩
theorem crunB (P : List Ins) (v : Evi) (t s q o y d f0 f : Int) (cs : List Int) (p1 p2 : Nat) (hP : ∀ x ∈ P, x.ok) (hn : P.length ≤ 1000000) (hc : cs.length ≤ 1000000) (hb : (runO P v (begS y t s cs d) f).bad ≠ 0) : LitOk Try.prog 14 [.agg [.sl 1 2 [] 5 0 P.length (some p1), .agg [.int .u64 v.seed, .int .i64 v.process, .int .i64 v.ports, .int .i64 v.look, .int .i64 v.now], .agg [.agg [.int .i64 t, .int .i64 s, .int .i64 q], .int .i64 o, .int .i64 y], .sl 3 4 [] 1 0 cs.length (some p2), .int .i64 d, .int .i64 f0], .int .i64 f]
    [.gone, .gone, .ro (.arr P.length 5 (prS P)), .gone, .ro (.arr cs.length 1 (i64S cs))]
    (.tup [.agg [.nat .i64 (runO P v (begS y t s cs d) f).tr.length, .int .i64 (runO P v (begS y t s cs d) f).at_, .sl 0 0 [] 0 0 0 (some 0), .nat .i64 0, .sl 0 0 [] 0 0 0 (some 0)], .int .i64 (runO P v (begS y t s cs d) f).bad]) [.gone] := by
  refine litOkM (fn := Try.f14) 5 20 0 rfl rfl rfl rfl rfl (by simp only [StableL, Stable, hp, i64S, prS, insS, sndsS, sndS, stS, evS, macS, cB, sB, HB.stable]; simp [HB.born]) rfl fun w0 M E hro => ?_
  repeat' (first | with_reducible (first | apply J1 | apply J3 | apply J4 | apply J5 | apply J6 | apply J7 | apply J8 | apply J9 | apply J10 | apply J11 | apply J12 | apply J13 | apply J14 | apply J15 | apply J16 | apply J17 | apply J18 | apply J19 | apply J20 | refine J2 ?_) | ((with_reducible apply J21); (· rfl)) | ((with_reducible intro hif); first | (focus (cases hif; done)) | (simp only [JH] at hif; try (exfalso; omega)) | (try (exfalso; omega))) | ((first | ((with_reducible apply J22 cCrB_ok tab_ok); (· rfl)) | ((with_reducible apply J23 fol cCrB_ok tab_ok); (· rfl)) | with_reducible apply J24); (· (simp only [push_cast, ↓JP, Nat.reduceAdd, Nat.reduceEqDiff, Nat.reduceLT, Nat.reduceMul, Nat.reduceLeDiff, reduceCtorEq, reduceIte, ↓JK, JE, JB, cCrB, sRunB, inR, inN, hb]; rfl)); (try kernel_rfl); (try (focus (first | exact True.intro | ((try simp only [JS, implies_true, forall_const, shaped, shapedL, kndOf, inR, inN]); (first | first | omega | exact ⟨hP, hn, hc⟩ | exact ⟨hP, hn, hc, hb⟩ | (repeat' (first | assumption | exact True.intro | omega | apply And.intro))); done))))) | fail)
  apply At.endsRet tab_ok (fn := Try.f14) (rs := [.cell 4 45, .tmp 5]) Anc.refl hro (Nat.le_of_ble_eq_true rfl) rfl
  · simp only [push_cast, ↓JP, Nat.reduceAdd, Nat.reduceEqDiff, Nat.reduceLT, Nat.reduceMul, Nat.reduceLeDiff, reduceCtorEq, reduceIte, ↓JK, resV, resV1]; rfl
  · (first | trivial | (simp only [and_self]; done))
  · (repeat' (first | exact trivial | exact .same _ | exact .dead _ | exact .gone rfl | exact .loose | assumption | exact .arr (by assumption) | apply And.intro))
  · rfl
  · (repeat' (first | exact trivial | exact rfl | assumption | apply Stable.ite | apply And.intro | intro _ | (simp only [Stable, StableL, i64S, prS, insS, sndsS, sndS, stS, evS, macS, cB, sB, HB.stable]; done)))
  · (repeat' (first | exact trivial | exact .inl rfl | exact .inr rfl | exact rfl | apply And.intro))
  · exact fun β => rfl
  · (repeat' (first | exact trivial | exact rfl | assumption | apply Stable.ite | apply And.intro | intro _ | (simp only [Stable, StableL, i64S, prS, insS, sndsS, sndS, stS, evS, macS, cB, sB, HB.stable]; done)))
def sCrB : Spec := fun args h m => match args with
  | [.agg [v1, .agg [v2, v3, v4, v5, v6], .agg [.agg [v7, v8, v9], v10, v11], v12, v13, v14], v15] => match srcV h 5 (.tup []) v1, srcV h 1 (.tup []) v12 with
    | some (c1, n1, f1, r1), some (c12, n12, f12, r12) => bif isI .u64 v2 && isI .i64 v3 && isI .i64 v4 && isI .i64 v5 && isI .i64 v6 && isI .i64 v7 && isI .i64 v8 && isI .i64 v9 && isI .i64 v10 && isI .i64 v11 && isI .i64 v13 && isI .i64 v14 && isI .i64 v15 then some (c1 ∧ c12 ∧ (∀ q, q < n1 → isIns (f1 q) = true) ∧ (∀ q, q < n12 → isI .i64 (f12 q) = true) ∧ ((∀ x ∈ (ls insOf n1 f1), x.ok)) ∧ (n1 ≤ 1000000) ∧ (n12 ≤ 1000000) ∧ ((runO (ls insOf n1 f1) ⟨(iOf v2), (iOf v3), (iOf v4), (iOf v5), (iOf v6)⟩ (begS (iOf v11) (iOf v7) (iOf v8) (ls iOf n12 f12) (iOf v13)) (iOf v15)).bad ≠ 0), .tup [.agg [.nat .i64 (runO (ls insOf n1 f1) ⟨(iOf v2), (iOf v3), (iOf v4), (iOf v5), (iOf v6)⟩ (begS (iOf v11) (iOf v7) (iOf v8) (ls iOf n12 f12) (iOf v13)) (iOf v15)).tr.length, .int .i64 (runO (ls insOf n1 f1) ⟨(iOf v2), (iOf v3), (iOf v4), (iOf v5), (iOf v6)⟩ (begS (iOf v11) (iOf v7) (iOf v8) (ls iOf n12 f12) (iOf v13)) (iOf v15)).at_, .sl 0 0 [] 0 0 0 (some 0), .nat .i64 0, .sl 0 0 [] 0 0 0 (some 0)], .int .i64 (runO (ls insOf n1 f1) ⟨(iOf v2), (iOf v3), (iOf v4), (iOf v5), (iOf v6)⟩ (begS (iOf v11) (iOf v7) (iOf v8) (ls iOf n12 f12) (iOf v13)) (iOf v15)).bad], r1 ++ r12, []) else none
    | _, _ => none
  | _ => none
theorem sCrB_ok : CallOk Try.prog 14 sCrB := by
  refine ⟨named_spec (by kernel_rfl), fun args h m c v rd wr hs hm hc w0 M β h' w R hrd hwr hst => ?_⟩
  unfold sCrB at hs
  split at hs
  · rename_i v1 v2 v3 v4 v5 v6 v7 v8 v9 v10 v11 v12 v13 v14 v15
    split at hs
    · rename_i c1 n1 f1 r1 c12 n12 f12 r12 a1 a12
      obtain ⟨hb, hs⟩ := bif_some hs
      simp only [Option.some.injEq, Prod.mk.injEq] at hs
      obtain ⟨rfl, rfl, rfl, rfl⟩ := hs
      simp only [Bool.and_eq_true] at hb
      obtain ⟨⟨⟨⟨⟨⟨⟨⟨⟨⟨⟨⟨b2, b3⟩, b4⟩, b5⟩, b6⟩, b7⟩, b8⟩, b9⟩, b10⟩, b11⟩, b13⟩, b14⟩, b15⟩ := hb
      obtain ⟨k1, k12, g1, g12, y1, y2, y3, y4⟩ := hc
      obtain ⟨A1, p1, d1, e1, t1⟩ := reads_src R a1 k1 (fun i hi => hrd i (List.mem_append_left _ hi)) (by omega)
      obtain ⟨A12, p12, d12, e12, t12⟩ := reads_src R a12 k12 (fun i hi => hrd i (List.mem_append_right _ hi)) (by omega)
      refine callRo (views := [⟨5, (ls insOf n1 f1).length, prS (ls insOf n1 f1), A1, p1⟩, ⟨1, (ls iOf n12 f12).length, i64S (ls iOf n12 f12), A12, p12⟩]) (crunB (ls insOf n1 f1) ⟨(iOf v2), (iOf v3), (iOf v4), (iOf v5), (iOf v6)⟩ (iOf v7) (iOf v8) (iOf v9) (iOf v10) (iOf v11) (iOf v13) (iOf v14) (iOf v15) (ls iOf n12 f12) p1 p12 y1 (by rw [ls_length]; exact y2) (by rw [ls_length]; exact y3) y4) ?_ R hm hwr ?_ ?_ ?_
      · intro x hx
        simp only [List.mem_cons, List.not_mem_nil, or_false] at hx
        rcases hx with rfl | rfl
        · exact viewIns t1 e1 g1
        · exact viewI64 t12 e12 g12
      · intro β1 hv
        simp only [Vd, ls_length, and_true] at hv
        obtain ⟨z1, z12⟩ := hv
        simp only [denL, aggDen, intDen, natDen, boolDen, ls_length, z1, z12, d1, d12, isI_den b2, isI_den b3, isI_den b4, isI_den b5, isI_den b6, isI_den b7, isI_den b8, isI_den b9, isI_den b10, isI_den b11, isI_den b13, isI_den b14, isI_den b15]
      · (repeat' (first | exact trivial | exact rfl | assumption | apply Stable.ite | apply And.intro | intro _ | (simp only [Stable, StableL, i64S, prS, insS, sndsS, sndS, stS, evS, macS, cB, sB, HB.stable]; done)))
      · (repeat' (first | exact trivial | exact rfl | assumption | apply Stable.ite | apply And.intro | intro _ | (simp only [Stable, StableL, i64S, prS, insS, sndsS, sndS, stS, evS, macS, cB, sB, HB.stable]; done)))
    · cases hs
  · cases hs
def sameE (u a : Int) (c : List Int) (d : Int) (s : List Snd) (u' a' : Int) (c' : List Int) (d' : Int) (s' : List Snd) : Bool := decide (u = u') && (decide (a = a') && (eqL c c' && (decide (d = d') && eqL s s')))
def cSm : FuncId → Option Spec := look2 [(20, sEqI64), (21, sEqSnd)]
theorem cSm_ok : ∀ f S, cSm f = some S → CallOk Try.prog f S := allOk_spec ⟨sEqI64_ok, sEqSnd_ok, trivial⟩
theorem same_lit (u a d u' a' d' : Int) (c c' : List Int) (s s' : List Snd) (p1 p2 p3 p4 : Nat) (hc : c.length ≤ 1000000) (hs : s.length ≤ 1000000) : LitOk Try.prog 15 [.agg [.int .i64 u, .int .i64 a, .sl 1 2 [] 1 0 c.length (some p1), .int .i64 d, .sl 3 4 [] 3 0 s.length (some p2)], .agg [.int .i64 u', .int .i64 a', .sl 5 6 [] 1 0 c'.length (some p3), .int .i64 d', .sl 7 8 [] 3 0 s'.length (some p4)]]
    [.gone, .gone, .ro (.arr c.length 1 (i64S c)), .gone, .ro (.arr s.length 3 (sndsS s)), .gone, .ro (.arr c'.length 1 (i64S c')), .gone, .ro (.arr s'.length 3 (sndsS s'))] (.bool (sameE u a c d s u' a' c' d' s')) [.gone] := by
  have hc2 : c.length ≤ 281474976710656 := by omega
  have hs2 : s.length ≤ 281474976710656 := by omega
  by_cases q1 : u = u'
  · by_cases q2 : a = a'
    · cases q3 : eqL c c'
      · have e : sameE u a c d s u' a' c' d' s' = false := by simp [sameE, q3]
        rw [e]
        refine litOkM (fn := Try.f15) 9 38 0 rfl rfl rfl rfl rfl (by simp only [StableL, Stable, hp, i64S, prS, insS, sndsS, sndS, stS, evS, macS, cB, sB, HB.stable]; simp [HB.born]) rfl fun w0 M E hro => ?_
        repeat' (first | with_reducible (first | apply J1 | apply J3 | apply J4 | apply J5 | apply J6 | apply J7 | apply J8 | apply J9 | apply J10 | apply J11 | apply J12 | apply J13 | apply J14 | apply J15 | apply J16 | apply J17 | apply J18 | apply J19 | apply J20 | refine J2 ?_) | ((with_reducible apply J21); (· rfl)) | ((with_reducible intro hif); first | (focus (cases hif; done)) | (simp only [JH] at hif; try (exfalso; omega)) | (try (exfalso; omega))) | ((first | ((with_reducible apply J22 cSm_ok tab_ok); (· rfl)) | ((with_reducible apply J23 fol cSm_ok tab_ok); (· rfl)) | with_reducible apply J24); (· (simp only [push_cast, ↓JP, Nat.reduceAdd, Nat.reduceEqDiff, Nat.reduceLT, Nat.reduceMul, Nat.reduceLeDiff, reduceCtorEq, reduceIte, ↓JK, JE, cSm, sEqI64, sEqSnd, inR, inN, q1, q2, q3]; rfl)); (try kernel_rfl); (try (focus (first | exact True.intro | ((try simp only [JS, implies_true, forall_const, shaped, shapedL, kndOf, inR, inN]); (repeat' (first | assumption | exact True.intro | omega | apply And.intro)); done))))) | fail)
        apply At.endsRet tab_ok (fn := Try.f15) (rs := [.tmp 4]) Anc.refl hro (Nat.le_of_ble_eq_true rfl) rfl
        · simp only [push_cast, ↓JP, Nat.reduceAdd, Nat.reduceEqDiff, Nat.reduceLT, Nat.reduceMul, Nat.reduceLeDiff, reduceCtorEq, reduceIte, ↓JK, resV, resV1]; rfl
        · (first | trivial | (simp only [and_self]; done))
        · (repeat' (first | exact trivial | exact .same _ | exact .dead _ | exact .gone rfl | exact .loose | assumption | exact .arr (by assumption) | apply And.intro))
        · rfl
        · (repeat' (first | exact trivial | exact rfl | assumption | apply Stable.ite | apply And.intro | intro _ | (simp only [Stable, StableL, i64S, prS, insS, sndsS, sndS, stS, evS, macS, cB, sB, HB.stable]; done)))
        · (repeat' (first | exact trivial | exact .inl rfl | exact .inr rfl | exact rfl | apply And.intro))
        · exact fun β => rfl
        · (repeat' (first | exact trivial | exact rfl | assumption | apply Stable.ite | apply And.intro | intro _ | (simp only [Stable, StableL, i64S, prS, insS, sndsS, sndS, stS, evS, macS, cB, sB, HB.stable]; done)))
      · by_cases q4 : d = d'
        · have e : sameE u a c d s u' a' c' d' s' = eqL s s' := by simp [sameE, q1, q2, q3, q4]
          rw [e]
          refine litOkM (fn := Try.f15) 9 38 0 rfl rfl rfl rfl rfl (by simp only [StableL, Stable, hp, i64S, prS, insS, sndsS, sndS, stS, evS, macS, cB, sB, HB.stable]; simp [HB.born]) rfl fun w0 M E hro => ?_
          repeat' (first | with_reducible (first | apply J1 | apply J3 | apply J4 | apply J5 | apply J6 | apply J7 | apply J8 | apply J9 | apply J10 | apply J11 | apply J12 | apply J13 | apply J14 | apply J15 | apply J16 | apply J17 | apply J18 | apply J19 | apply J20 | refine J2 ?_) | ((with_reducible apply J21); (· rfl)) | ((with_reducible intro hif); first | (focus (cases hif; done)) | (simp only [JH] at hif; try (exfalso; omega)) | (try (exfalso; omega))) | ((first | ((with_reducible apply J22 cSm_ok tab_ok); (· rfl)) | ((with_reducible apply J23 fol cSm_ok tab_ok); (· rfl)) | with_reducible apply J24); (· (simp only [push_cast, ↓JP, Nat.reduceAdd, Nat.reduceEqDiff, Nat.reduceLT, Nat.reduceMul, Nat.reduceLeDiff, reduceCtorEq, reduceIte, ↓JK, JE, cSm, sEqI64, sEqSnd, inR, inN, q1, q2, q3, q4]; rfl)); (try kernel_rfl); (try (focus (first | exact True.intro | ((try simp only [JS, implies_true, forall_const, shaped, shapedL, kndOf, inR, inN]); (repeat' (first | assumption | exact True.intro | omega | apply And.intro)); done))))) | fail)
          apply At.endsRet tab_ok (fn := Try.f15) (rs := [.tmp 4]) Anc.refl hro (Nat.le_of_ble_eq_true rfl) rfl
          · simp only [push_cast, ↓JP, Nat.reduceAdd, Nat.reduceEqDiff, Nat.reduceLT, Nat.reduceMul, Nat.reduceLeDiff, reduceCtorEq, reduceIte, ↓JK, resV, resV1]; rfl
          · (first | trivial | (simp only [and_self]; done))
          · (repeat' (first | exact trivial | exact .same _ | exact .dead _ | exact .gone rfl | exact .loose | assumption | exact .arr (by assumption) | apply And.intro))
          · rfl
          · (repeat' (first | exact trivial | exact rfl | assumption | apply Stable.ite | apply And.intro | intro _ | (simp only [Stable, StableL, i64S, prS, insS, sndsS, sndS, stS, evS, macS, cB, sB, HB.stable]; done)))
          · (repeat' (first | exact trivial | exact .inl rfl | exact .inr rfl | exact rfl | apply And.intro))
          · exact fun β => rfl
          · (repeat' (first | exact trivial | exact rfl | assumption | apply Stable.ite | apply And.intro | intro _ | (simp only [Stable, StableL, i64S, prS, insS, sndsS, sndS, stS, evS, macS, cB, sB, HB.stable]; done)))
        · have e : sameE u a c d s u' a' c' d' s' = false := by simp [sameE, q4]
          rw [e]
          refine litOkM (fn := Try.f15) 9 38 0 rfl rfl rfl rfl rfl (by simp only [StableL, Stable, hp, i64S, prS, insS, sndsS, sndS, stS, evS, macS, cB, sB, HB.stable]; simp [HB.born]) rfl fun w0 M E hro => ?_
          repeat' (first | with_reducible (first | apply J1 | apply J3 | apply J4 | apply J5 | apply J6 | apply J7 | apply J8 | apply J9 | apply J10 | apply J11 | apply J12 | apply J13 | apply J14 | apply J15 | apply J16 | apply J17 | apply J18 | apply J19 | apply J20 | refine J2 ?_) | ((with_reducible apply J21); (· rfl)) | ((with_reducible intro hif); first | (focus (cases hif; done)) | (simp only [JH] at hif; try (exfalso; omega)) | (try (exfalso; omega))) | ((first | ((with_reducible apply J22 cSm_ok tab_ok); (· rfl)) | ((with_reducible apply J23 fol cSm_ok tab_ok); (· rfl)) | with_reducible apply J24); (· (simp only [push_cast, ↓JP, Nat.reduceAdd, Nat.reduceEqDiff, Nat.reduceLT, Nat.reduceMul, Nat.reduceLeDiff, reduceCtorEq, reduceIte, ↓JK, JE, cSm, sEqI64, sEqSnd, inR, inN, q1, q2, q3, q4]; rfl)); (try kernel_rfl); (try (focus (first | exact True.intro | ((try simp only [JS, implies_true, forall_const, shaped, shapedL, kndOf, inR, inN]); (repeat' (first | assumption | exact True.intro | omega | apply And.intro)); done))))) | fail)
          apply At.endsRet tab_ok (fn := Try.f15) (rs := [.tmp 4]) Anc.refl hro (Nat.le_of_ble_eq_true rfl) rfl
          · simp only [push_cast, ↓JP, Nat.reduceAdd, Nat.reduceEqDiff, Nat.reduceLT, Nat.reduceMul, Nat.reduceLeDiff, reduceCtorEq, reduceIte, ↓JK, resV, resV1]; rfl
          · (first | trivial | (simp only [and_self]; done))
          · (repeat' (first | exact trivial | exact .same _ | exact .dead _ | exact .gone rfl | exact .loose | assumption | exact .arr (by assumption) | apply And.intro))
          · rfl
          · (repeat' (first | exact trivial | exact rfl | assumption | apply Stable.ite | apply And.intro | intro _ | (simp only [Stable, StableL, i64S, prS, insS, sndsS, sndS, stS, evS, macS, cB, sB, HB.stable]; done)))
          · (repeat' (first | exact trivial | exact .inl rfl | exact .inr rfl | exact rfl | apply And.intro))
          · exact fun β => rfl
          · (repeat' (first | exact trivial | exact rfl | assumption | apply Stable.ite | apply And.intro | intro _ | (simp only [Stable, StableL, i64S, prS, insS, sndsS, sndS, stS, evS, macS, cB, sB, HB.stable]; done)))
    · have e : sameE u a c d s u' a' c' d' s' = false := by simp [sameE, q2]
      rw [e]
      refine litOkM (fn := Try.f15) 9 38 0 rfl rfl rfl rfl rfl (by simp only [StableL, Stable, hp, i64S, prS, insS, sndsS, sndS, stS, evS, macS, cB, sB, HB.stable]; simp [HB.born]) rfl fun w0 M E hro => ?_
      repeat' (first | with_reducible (first | apply J1 | apply J3 | apply J4 | apply J5 | apply J6 | apply J7 | apply J8 | apply J9 | apply J10 | apply J11 | apply J12 | apply J13 | apply J14 | apply J15 | apply J16 | apply J17 | apply J18 | apply J19 | apply J20 | refine J2 ?_) | ((with_reducible apply J21); (· rfl)) | ((with_reducible intro hif); first | (focus (cases hif; done)) | (simp only [JH] at hif; try (exfalso; omega)) | (try (exfalso; omega))) | ((first | ((with_reducible apply J22 cSm_ok tab_ok); (· rfl)) | ((with_reducible apply J23 fol cSm_ok tab_ok); (· rfl)) | with_reducible apply J24); (· (simp only [push_cast, ↓JP, Nat.reduceAdd, Nat.reduceEqDiff, Nat.reduceLT, Nat.reduceMul, Nat.reduceLeDiff, reduceCtorEq, reduceIte, ↓JK, JE, cSm, sEqI64, sEqSnd, inR, inN, q1, q2]; rfl)); (try kernel_rfl); (try (focus (first | exact True.intro | ((try simp only [JS, implies_true, forall_const, shaped, shapedL, kndOf, inR, inN]); (repeat' (first | assumption | exact True.intro | omega | apply And.intro)); done))))) | fail)
      apply At.endsRet tab_ok (fn := Try.f15) (rs := [.tmp 4]) Anc.refl hro (Nat.le_of_ble_eq_true rfl) rfl
      · simp only [push_cast, ↓JP, Nat.reduceAdd, Nat.reduceEqDiff, Nat.reduceLT, Nat.reduceMul, Nat.reduceLeDiff, reduceCtorEq, reduceIte, ↓JK, resV, resV1]; rfl
      · (first | trivial | (simp only [and_self]; done))
      · (repeat' (first | exact trivial | exact .same _ | exact .dead _ | exact .gone rfl | exact .loose | assumption | exact .arr (by assumption) | apply And.intro))
      · rfl
      · (repeat' (first | exact trivial | exact rfl | assumption | apply Stable.ite | apply And.intro | intro _ | (simp only [Stable, StableL, i64S, prS, insS, sndsS, sndS, stS, evS, macS, cB, sB, HB.stable]; done)))
      · (repeat' (first | exact trivial | exact .inl rfl | exact .inr rfl | exact rfl | apply And.intro))
      · exact fun β => rfl
      · (repeat' (first | exact trivial | exact rfl | assumption | apply Stable.ite | apply And.intro | intro _ | (simp only [Stable, StableL, i64S, prS, insS, sndsS, sndS, stS, evS, macS, cB, sB, HB.stable]; done)))
  · have e : sameE u a c d s u' a' c' d' s' = false := by simp [sameE, q1]
    rw [e]
    refine litOkM (fn := Try.f15) 9 38 0 rfl rfl rfl rfl rfl (by simp only [StableL, Stable, hp, i64S, prS, insS, sndsS, sndS, stS, evS, macS, cB, sB, HB.stable]; simp [HB.born]) rfl fun w0 M E hro => ?_
    repeat' (first | with_reducible (first | apply J1 | apply J3 | apply J4 | apply J5 | apply J6 | apply J7 | apply J8 | apply J9 | apply J10 | apply J11 | apply J12 | apply J13 | apply J14 | apply J15 | apply J16 | apply J17 | apply J18 | apply J19 | apply J20 | refine J2 ?_) | ((with_reducible apply J21); (· rfl)) | ((with_reducible intro hif); first | (focus (cases hif; done)) | (simp only [JH] at hif; try (exfalso; omega)) | (try (exfalso; omega))) | ((first | ((with_reducible apply J22 cSm_ok tab_ok); (· rfl)) | ((with_reducible apply J23 fol cSm_ok tab_ok); (· rfl)) | with_reducible apply J24); (· (simp only [push_cast, ↓JP, Nat.reduceAdd, Nat.reduceEqDiff, Nat.reduceLT, Nat.reduceMul, Nat.reduceLeDiff, reduceCtorEq, reduceIte, ↓JK, JE, cSm, sEqI64, sEqSnd, inR, inN, q1]; rfl)); (try kernel_rfl); (try (focus (first | exact True.intro | ((try simp only [JS, implies_true, forall_const, shaped, shapedL, kndOf, inR, inN]); (repeat' (first | assumption | exact True.intro | omega | apply And.intro)); done))))) | fail)
    apply At.endsRet tab_ok (fn := Try.f15) (rs := [.tmp 4]) Anc.refl hro (Nat.le_of_ble_eq_true rfl) rfl
    · simp only [push_cast, ↓JP, Nat.reduceAdd, Nat.reduceEqDiff, Nat.reduceLT, Nat.reduceMul, Nat.reduceLeDiff, reduceCtorEq, reduceIte, ↓JK, resV, resV1]; rfl
    · (first | trivial | (simp only [and_self]; done))
    · (repeat' (first | exact trivial | exact .same _ | exact .dead _ | exact .gone rfl | exact .loose | assumption | exact .arr (by assumption) | apply And.intro))
    · rfl
    · (repeat' (first | exact trivial | exact rfl | assumption | apply Stable.ite | apply And.intro | intro _ | (simp only [Stable, StableL, i64S, prS, insS, sndsS, sndS, stS, evS, macS, cB, sB, HB.stable]; done)))
    · (repeat' (first | exact trivial | exact .inl rfl | exact .inr rfl | exact rfl | apply And.intro))
    · exact fun β => rfl
    · (repeat' (first | exact trivial | exact rfl | assumption | apply Stable.ite | apply And.intro | intro _ | (simp only [Stable, StableL, i64S, prS, insS, sndsS, sndS, stS, evS, macS, cB, sB, HB.stable]; done)))
def sSame19 : Spec := fun args h m => match args with
  | [.agg [v1, v2, v3, v4, v5], .agg [v6, v7, v8, v9, v10]] => match srcV h 1 (.tup []) v3, srcV h 3 (.tup []) v5, srcV h 1 (.tup []) v8, srcV h 3 (.tup []) v10 with
    | some (c3, n3, f3, r3), some (c5, n5, f5, r5), some (c8, n8, f8, r8), some (c10, n10, f10, r10) => bif isI .i64 v1 && isI .i64 v2 && isI .i64 v4 && isI .i64 v6 && isI .i64 v7 && isI .i64 v9 then some (c3 ∧ c5 ∧ c8 ∧ c10 ∧ (∀ q, q < n3 → isI .i64 (f3 q) = true) ∧ (∀ q, q < n5 → isSnd (f5 q) = true) ∧ (∀ q, q < n8 → isI .i64 (f8 q) = true) ∧ (∀ q, q < n10 → isSnd (f10 q) = true) ∧ (n3 ≤ 1000000) ∧ (n5 ≤ 1000000), .bool (sameE (iOf v1) (iOf v2) (ls iOf n3 f3) (iOf v4) (ls sndOf n5 f5) (iOf v6) (iOf v7) (ls iOf n8 f8) (iOf v9) (ls sndOf n10 f10)), r3 ++ r5 ++ r8 ++ r10, []) else none
    | _, _, _, _ => none
  | _ => none
theorem sSame19_ok : CallOk Try.prog 15 sSame19 := by
  refine ⟨named_spec (by kernel_rfl), fun args h m c v rd wr hs hm hc w0 M β h' w R hrd hwr hst => ?_⟩
  unfold sSame19 at hs
  split at hs
  · rename_i v1 v2 v3 v4 v5 v6 v7 v8 v9 v10
    split at hs
    · rename_i c3 n3 f3 r3 c5 n5 f5 r5 c8 n8 f8 r8 c10 n10 f10 r10 a3 a5 a8 a10
      obtain ⟨hb, hs⟩ := bif_some hs
      simp only [Option.some.injEq, Prod.mk.injEq] at hs
      obtain ⟨rfl, rfl, rfl, rfl⟩ := hs
      simp only [Bool.and_eq_true] at hb
      obtain ⟨⟨⟨⟨⟨b1, b2⟩, b4⟩, b6⟩, b7⟩, b9⟩ := hb
      obtain ⟨k3, k5, k8, k10, g3, g5, g8, g10, y1, y2⟩ := hc
      obtain ⟨A3, p3, d3, e3, t3⟩ := reads_src R a3 k3 (fun i hi => hrd i (List.mem_append_left _ (List.mem_append_left _ (List.mem_append_left _ hi)))) (by omega)
      obtain ⟨A5, p5, d5, e5, t5⟩ := reads_src R a5 k5 (fun i hi => hrd i (List.mem_append_left _ (List.mem_append_left _ (List.mem_append_right _ hi)))) (by omega)
      obtain ⟨A8, p8, d8, e8, t8⟩ := reads_src R a8 k8 (fun i hi => hrd i (List.mem_append_left _ (List.mem_append_right _ hi))) (by omega)
      obtain ⟨A10, p10, d10, e10, t10⟩ := reads_src R a10 k10 (fun i hi => hrd i (List.mem_append_right _ hi)) (by omega)
      refine callRo (views := [⟨1, (ls iOf n3 f3).length, i64S (ls iOf n3 f3), A3, p3⟩, ⟨3, (ls sndOf n5 f5).length, sndsS (ls sndOf n5 f5), A5, p5⟩, ⟨1, (ls iOf n8 f8).length, i64S (ls iOf n8 f8), A8, p8⟩, ⟨3, (ls sndOf n10 f10).length, sndsS (ls sndOf n10 f10), A10, p10⟩]) (same_lit (iOf v1) (iOf v2) (iOf v4) (iOf v6) (iOf v7) (iOf v9) (ls iOf n3 f3) (ls iOf n8 f8) (ls sndOf n5 f5) (ls sndOf n10 f10) p3 p5 p8 p10 (by rw [ls_length]; exact y1) (by rw [ls_length]; exact y2)) ?_ R hm hwr ?_ ?_ ?_
      · intro x hx
        simp only [List.mem_cons, List.not_mem_nil, or_false] at hx
        rcases hx with rfl | rfl | rfl | rfl
        · exact viewI64 t3 e3 g3
        · exact viewSnd t5 e5 g5
        · exact viewI64 t8 e8 g8
        · exact viewSnd t10 e10 g10
      · intro β1 hv
        simp only [Vd, ls_length, and_true] at hv
        obtain ⟨z3, z5, z8, z10⟩ := hv
        simp only [denL, aggDen, intDen, natDen, boolDen, ls_length, z3, z5, z8, z10, d3, d5, d8, d10, isI_den b1, isI_den b2, isI_den b4, isI_den b6, isI_den b7, isI_den b9]
      · (repeat' (first | exact trivial | exact rfl | assumption | apply Stable.ite | apply And.intro | intro _ | (simp only [Stable, StableL, i64S, prS, insS, sndsS, sndS, stS, evS, macS, cB, sB, HB.stable]; done)))
      · (repeat' (first | exact trivial | exact rfl | assumption | apply Stable.ite | apply And.intro | intro _ | (simp only [Stable, StableL, i64S, prS, insS, sndsS, sndS, stS, evS, macS, cB, sB, HB.stable]; done)))
    · cases hs
  · cases hs
end Go.Proofs.Ytjliakjbdcplcaa.Vm
end

section
/- fermatalaw19.awake. -/
namespace Go.Proofs.Ytjliakjbdcplcaa.Vm
open Go.RowKit
set_option linter.unusedVariables false
set_option linter.unusedSimpArgs false
set_option maxRecDepth 100000
set_option maxHeartbeats 4000000
def sRunA : Spec := fun args h m => match args with
  | [_, _, _, _, _, .nat .i64 2] => sRunG args h m
  | _ => sRunB args h m
theorem sRunA_ok : CallOk Try.prog 29 sRunA := by
  refine ⟨named_spec (by kernel_rfl), fun args h m c v rd wr hs hm hc w0 M β h' w R hrd hwr hst => ?_⟩
  unfold sRunA at hs
  split at hs
  · exact sRunG_ok.2 _ h m c v rd wr hs hm hc w0 M β h' w R hrd hwr hst
  · exact sRunB_ok.2 _ h m c v rd wr hs hm hc w0 M β h' w R hrd hwr hst
def cAw : FuncId → Option Spec := look2 [(29, sRunA), (16, sNewG), (17, rGo), (18, rState), (22, rBack), (19, rUsed), (20, sEqI64)]
theorem cAw_ok : ∀ f S, cAw f = some S → CallOk Try.prog f S := allOk_spec ⟨sRunA_ok, sNewG_ok, rGo_ok, rState_ok, rBack_ok, rUsed_ok, sEqI64_ok, trivial⟩
theorem ls_one {α : Type} (g : SV → α) (f : Nat → SV) : ls g 1 f = [g (f 0)] := rfl
theorem ls_two {α : Type} (g : SV → α) (f : Nat → SV) : ls g 2 f = [g (f 0), g (f 1)] := rfl
theorem ls_three {α : Type} (g : SV → α) (f : Nat → SV) : ls g 3 f = [g (f 0), g (f 1), g (f 2)] := rfl
theorem nat_zero_int : ((0 : Nat) : Int) = 0 := rfl
theorem insOf_agg (a b c d e : SV) : insOf (.agg [a, b, c, d, e]) = ⟨iOf a, iOf b, iOf c, iOf d, iOf e⟩ := rfl
theorem toNat2 : Int.toNat 2 = 2 := rfl
theorem awake_lit : LitOk Try.prog 12 [] [.gone] (.bool true) [.gone] := by
  have k1 : ∀ x ∈ ([⟨34, 0, 0, 3, 0⟩, ⟨1, 0, 0, 0, 0⟩] : List Ins), x.ok := by intro x hx; simp only [List.mem_cons, List.not_mem_nil, or_false] at hx; rcases hx with rfl | rfl <;> (refine ⟨?_, ?_, ?_, ?_, ?_, ?_, ?_, ?_, ?_, ?_⟩ <;> decide)
  have k2 : ∀ x ∈ ([⟨9, 0, 0, 0, 0⟩, ⟨1, 0, 0, 0, 0⟩] : List Ins), x.ok := by intro x hx; simp only [List.mem_cons, List.not_mem_nil, or_false] at hx; rcases hx with rfl | rfl <;> (refine ⟨?_, ?_, ?_, ?_, ?_, ?_, ?_, ?_, ?_, ?_⟩ <;> decide)
  have k3 : ∀ x ∈ ([⟨3, 4, 0, 0, 7⟩, ⟨6, 4, 3, 0, 0⟩, ⟨2, 0, 0, 0, 0⟩] : List Ins), x.ok := by intro x hx; simp only [List.mem_cons, List.not_mem_nil, or_false] at hx; rcases hx with rfl | rfl | rfl <;> (refine ⟨?_, ?_, ?_, ?_, ?_, ?_, ?_, ?_, ?_, ?_⟩ <;> decide)
  have b1 : (runO [⟨34, 0, 0, 3, 0⟩, ⟨1, 0, 0, 0, 0⟩] ⟨0, 0, 0, 1, 0⟩ (begS 0 0 0 [] 0) 2).bad = 0 := by kernel_rfl
  have t1 : (runO [⟨34, 0, 0, 3, 0⟩, ⟨1, 0, 0, 0, 0⟩] ⟨0, 0, 0, 1, 0⟩ (begS 0 0 0 [] 0) 2).tr.length = 2 := by kernel_rfl
  have a1 : (runO [⟨34, 0, 0, 3, 0⟩, ⟨1, 0, 0, 0, 0⟩] ⟨0, 0, 0, 1, 0⟩ (begS 0 0 0 [] 0) 2).at_ = 1 := by kernel_rfl
  have b2 : (runO [⟨34, 0, 0, 3, 0⟩, ⟨1, 0, 0, 0, 0⟩] ⟨0, 0, 0, 1, 0⟩ (begS 0 0 0 [] 0) 1).bad = 190 := by kernel_rfl
  have t2 : (runO [⟨34, 0, 0, 3, 0⟩, ⟨1, 0, 0, 0, 0⟩] ⟨0, 0, 0, 1, 0⟩ (begS 0 0 0 [] 0) 1).tr.length = 1 := by kernel_rfl
  have a2 : (runO [⟨34, 0, 0, 3, 0⟩, ⟨1, 0, 0, 0, 0⟩] ⟨0, 0, 0, 1, 0⟩ (begS 0 0 0 [] 0) 1).at_ = 1 := by kernel_rfl
  have n2 : (runO [⟨34, 0, 0, 3, 0⟩, ⟨1, 0, 0, 0, 0⟩] ⟨0, 0, 0, 1, 0⟩ (begS 0 0 0 [] 0) 1).bad ≠ 0 := by rw [b2]; decide
  have b3 : (runO [⟨34, 0, 0, 3, 0⟩, ⟨1, 0, 0, 0, 0⟩] ⟨0, 0, 0, 1, 0⟩ (begS 0 0 0 [] 0) 0).bad = 190 := by kernel_rfl
  have t3 : (runO [⟨34, 0, 0, 3, 0⟩, ⟨1, 0, 0, 0, 0⟩] ⟨0, 0, 0, 1, 0⟩ (begS 0 0 0 [] 0) 0).tr.length = 0 := by kernel_rfl
  have a3 : (runO [⟨34, 0, 0, 3, 0⟩, ⟨1, 0, 0, 0, 0⟩] ⟨0, 0, 0, 1, 0⟩ (begS 0 0 0 [] 0) 0).at_ = 0 := by kernel_rfl
  have n3 : (runO [⟨34, 0, 0, 3, 0⟩, ⟨1, 0, 0, 0, 0⟩] ⟨0, 0, 0, 1, 0⟩ (begS 0 0 0 [] 0) 0).bad ≠ 0 := by rw [b3]; decide
  have b4 : (runO [⟨9, 0, 0, 0, 0⟩, ⟨1, 0, 0, 0, 0⟩] ⟨0, 0, 0, 1, 0⟩ (begS 0 0 0 [] 0) 100).bad = 190 := by kernel_rfl
  have t4 : (runO [⟨9, 0, 0, 0, 0⟩, ⟨1, 0, 0, 0, 0⟩] ⟨0, 0, 0, 1, 0⟩ (begS 0 0 0 [] 0) 100).tr.length = 100 := by kernel_rfl
  have a4 : (runO [⟨9, 0, 0, 0, 0⟩, ⟨1, 0, 0, 0, 0⟩] ⟨0, 0, 0, 1, 0⟩ (begS 0 0 0 [] 0) 100).at_ = 0 := by kernel_rfl
  have n4 : (runO [⟨9, 0, 0, 0, 0⟩, ⟨1, 0, 0, 0, 0⟩] ⟨0, 0, 0, 1, 0⟩ (begS 0 0 0 [] 0) 100).bad ≠ 0 := by rw [b4]; decide
  have b5 : (runO [⟨3, 4, 0, 0, 7⟩, ⟨6, 4, 3, 0, 0⟩, ⟨2, 0, 0, 0, 0⟩] ⟨0, 0, 0, 1, 0⟩ (begS 0 0 0 [0] 0) 9).bad = 184 := by kernel_rfl
  have t5 : (runO [⟨3, 4, 0, 0, 7⟩, ⟨6, 4, 3, 0, 0⟩, ⟨2, 0, 0, 0, 0⟩] ⟨0, 0, 0, 1, 0⟩ (begS 0 0 0 [0] 0) 9).tr.length = 3 := by kernel_rfl
  have a5 : (runO [⟨3, 4, 0, 0, 7⟩, ⟨6, 4, 3, 0, 0⟩, ⟨2, 0, 0, 0, 0⟩] ⟨0, 0, 0, 1, 0⟩ (begS 0 0 0 [0] 0) 9).at_ = 2 := by kernel_rfl
  have n5 : (runO [⟨3, 4, 0, 0, 7⟩, ⟨6, 4, 3, 0, 0⟩, ⟨2, 0, 0, 0, 0⟩] ⟨0, 0, 0, 1, 0⟩ (begS 0 0 0 [0] 0) 9).bad ≠ 0 := by rw [b5]; decide
  have p3 : PG [⟨3, 4, 0, 0, 7⟩, ⟨6, 4, 3, 0, 0⟩, ⟨2, 0, 0, 0, 0⟩] := by exact ⟨k3, by kernel_rfl⟩
  have v3 : VOk ⟨0, 0, 0, 1, 0⟩ := by exact ⟨by decide, by decide, by decide, by decide, by decide, by decide⟩
  have s3 : SG [⟨3, 4, 0, 0, 7⟩, ⟨6, 4, 3, 0, 0⟩, ⟨2, 0, 0, 0, 0⟩] (begS 0 0 0 [0] 0) := by exact ⟨by decide, by decide, by decide, by decide, by decide, by decide⟩
  have e3 : openE [⟨3, 4, 0, 0, 7⟩, ⟨6, 4, 3, 0, 0⟩, ⟨2, 0, 0, 0, 0⟩] ⟨0, 0, 0, 1, 0⟩ (begS 0 0 0 [0] 0) = 0 := by kernel_rfl
  have g1 : (runA [⟨3, 4, 0, 0, 7⟩, ⟨6, 4, 3, 0, 0⟩, ⟨2, 0, 0, 0, 0⟩] ⟨0, 0, 0, 1, 0⟩ 2 (begS 0 0 0 [0] 0) Ins0 [] 0).bad = 190 := by kernel_rfl
  have g2 : (runA [⟨3, 4, 0, 0, 7⟩, ⟨6, 4, 3, 0, 0⟩, ⟨2, 0, 0, 0, 0⟩] ⟨0, 0, 0, 1, 0⟩ 2 (begS 0 0 0 [0] 0) Ins0 [] 0).tr.length = 2 := by kernel_rfl
  have g3 : (runA [⟨3, 4, 0, 0, 7⟩, ⟨6, 4, 3, 0, 0⟩, ⟨2, 0, 0, 0, 0⟩] ⟨0, 0, 0, 1, 0⟩ 2 (begS 0 0 0 [0] 0) Ins0 [] 0).s.cells = [7] := by kernel_rfl
  refine litOkM (fn := Try.f12) 1 186 0 rfl rfl rfl rfl rfl trivial rfl fun w0 M E hro => ?_
  repeat' (first | with_reducible (first | apply J1 | apply J3 | apply J4 | apply J5 | apply J6 | apply J7 | apply J8 | apply J9 | apply J10 | apply J11 | apply J12 | apply J13 | apply J14 | apply J15 | apply J16 | apply J17 | apply J18 | apply J19 | apply J20 | refine J2 ?_) | ((with_reducible apply J21); (· rfl)) | ((with_reducible intro hif); first | (focus (cases hif; done)) | (simp only [JH] at hif; try (exfalso; omega)) | (try (exfalso; omega))) | ((first | ((with_reducible apply J22 cAw_ok tab_ok); (· rfl)) | ((with_reducible apply J23 fol cAw_ok tab_ok); (· rfl)) | with_reducible apply J24); (· (simp only [push_cast, ↓JP, Nat.reduceAdd, Nat.reduceEqDiff, Nat.reduceLT, Nat.reduceMul, Nat.reduceLeDiff, reduceCtorEq, reduceIte, ↓JK, JM, JE, JB, cAw, sRunA, sRunG, sRunB, ls_one, ls_two, ls_three, insOf_agg, nat_zero_int, toNat2, inR, inN, b1, t1, a1, b2, t2, a2, b3, t3, a3, b4, t4, a4, b5, t5, a5, g1, g2, g3]; rfl)); (try kernel_rfl); (try (focus (first | exact True.intro | ((try simp only [JS, implies_true, forall_const, shaped, shapedL, kndOf, iOf, insOf_agg, ls_one, ls_two, ls_three, ls_zero, nat_zero_int, Nat.zero_add, List.getD_cons_zero, List.getD_cons_succ, Int.cast_ofNat_Int, beg_fold]); (repeat' (first | exact True.intro | assumption | apply And.intro | decide | (intro q hq; first | rfl | exact hq.elim | exact k1 q hq | exact k2 q hq | exact k3 q hq | ((rcases q with _ | _ | _ | q) <;> first | rfl | (exfalso; revert hq; simp; done))))); done) | ((try simp only [JS, implies_true, forall_const, shaped, shapedL, kndOf, inR, inN]); (repeat' (first | assumption | exact True.intro | omega | apply And.intro)); done))))) | fail)
  apply At.endsRet tab_ok (fn := Try.f12) (rs := [.tmp 0]) Anc.refl hro (Nat.le_of_ble_eq_true rfl) rfl
  · simp only [push_cast, ↓JP, Nat.reduceAdd, Nat.reduceEqDiff, Nat.reduceLT, Nat.reduceMul, Nat.reduceLeDiff, reduceCtorEq, reduceIte, ↓JK, resV, resV1, ls_one, ls_two, ls_three]; rfl
  · (first | trivial | (simp only [and_self]; done))
  · (repeat' (first | exact trivial | exact .same _ | exact .dead _ | exact .gone rfl | exact .loose | assumption | exact .arr (by assumption) | apply And.intro))
  · rfl
  · (repeat' (first | exact trivial | exact rfl | assumption | apply Stable.ite | apply And.intro | intro _ | (simp only [Stable, StableL, i64S, prS, insS, sndsS, sndS, stS, evS, macS, cB, sB, HB.stable]; done)))
  · (repeat' (first | exact trivial | exact .inl rfl | exact .inr rfl | exact rfl | apply And.intro))
  · first | exact fun β => rfl | (intro β; kernel_rfl)
  · (repeat' (first | exact trivial | exact rfl | assumption | apply Stable.ite | apply And.intro | intro _ | (simp only [Stable, StableL, i64S, prS, insS, sndsS, sndS, stS, evS, macS, cB, sB, HB.stable]; done)))
def sAw19 : Spec := fun args h m => match args with
  | [] => some (True, .bool true, [], [])
  | _ => none
theorem sAw19_ok : CallOk Try.prog 12 sAw19 := by
  refine ⟨named_spec (by kernel_rfl), fun args h m c v rd wr hs hm hc w0 M β h' w R hrd hwr hst => ?_⟩
  unfold sAw19 at hs
  split at hs
  · skip
    simp only [Option.some.injEq, Prod.mk.injEq] at hs
    obtain ⟨rfl, rfl, rfl, rfl⟩ := hs
    refine callRo (views := []) (awake_lit) ?_ R hm hwr ?_ ?_ ?_
    · intro x hx; cases hx
    · intro β1 hv
      simp only [denL, aggDen, intDen, natDen, boolDen, ls_length]
    · (repeat' (first | exact trivial | exact rfl | assumption | apply Stable.ite | apply And.intro | intro _ | (simp only [Stable, StableL, i64S, prS, insS, sndsS, sndS, stS, evS, macS, cB, sB, HB.stable]; done)))
    · (repeat' (first | exact trivial | exact rfl | assumption | apply Stable.ite | apply And.intro | intro _ | (simp only [Stable, StableL, i64S, prS, insS, sndsS, sndS, stS, evS, macS, cB, sB, HB.stable]; done)))
  · cases hs
end Go.Proofs.Ytjliakjbdcplcaa.Vm
end
end
