/- mix and rng (layers 5, 6): contracts of fold, Mix, Join, at, Key, Value, upper, Below, Draw. -/
import Derived.Test.YtmljmabbopkpiaaProg
import Derived.Test.YtmljmabbopkpiaaBase
namespace Go.Proofs.Ytmljmabbopkpiaa
open Go.RowKit
set_option linter.unusedVariables false
set_option linter.unusedSimpArgs false

def foldI (x n : Int) : Int := bits .xor .u64 x (x / 2 ^ n.toNat)
theorem fold_c (x n : Int) (w : World) (h0 : 0 ≤ n) (h1 : n ≤ 64) : Calls Try.prog 150 #[.int .u64 x, .int .i64 n] w fun e w' => e = .returned (.int .u64 (foldI x n)) ∧ w = w' := by
  go_enter Try.func150, Try.ntmps150
  go_wp2
  go_ret
  exact ⟨rfl, rfl⟩

def mixI (x : Int) : Int := foldI (IntKind.u64.wrap (foldI (IntKind.u64.wrap (foldI x 30 * 13787848793156543929)) 27 * 10723151780598845931)) 31
theorem mix_c (x : Int) (w : World) : Calls Try.prog 128 #[.int .u64 x] w fun e w' => e = .returned (.int .u64 (mixI x)) ∧ w = w' := by
  go_enter Try.func128, Try.ntmps128
  go_wp2_with (go_at_call 150; refine (fold_c _ _ _ (by omega) (by omega)).mono ?_; rintro e w' ⟨rfl, rfl⟩)
  go_ret
  exact ⟨rfl, rfl⟩

def atI (key index : Int) : Int := mixI (IntKind.u64.wrap (key + IntKind.u64.wrap (IntKind.u64.wrap (IntKind.u64.wrap index + 1) * 11400714819323198485)))
theorem at_c (key index : Int) (w : World) : Calls Try.prog 105 #[.int .u64 key, .int .i64 index] w fun e w' => e = .returned (.int .u64 (atI key index)) ∧ w = w' := by
  go_enter Try.func105, Try.ntmps105
  go_wp2_with (go_at_call 128; refine (mix_c _ _).mono ?_; rintro e w' ⟨rfl, rfl⟩)
  go_ret
  exact ⟨rfl, rfl⟩

def lo32 (z : Int) : Int := bits .and .u64 z 4294967295
def upP (v n : Int) : Int := IntKind.u64.wrap (lo32 v * lo32 n)
def upQ (v n : Int) : Int := IntKind.u64.wrap (IntKind.u64.wrap (v / 4294967296 * lo32 n) + upP v n / 4294967296)
def upR (v n : Int) : Int := IntKind.u64.wrap (IntKind.u64.wrap (lo32 v * (n / 4294967296)) + lo32 (upQ v n))
def upperI (v n : Int) : Int := IntKind.u64.wrap (IntKind.u64.wrap (IntKind.u64.wrap (v / 4294967296 * (n / 4294967296)) + upQ v n / 4294967296) + upR v n / 4294967296)
theorem upper_c (v n : Int) (w : World) : Calls Try.prog 106 #[.int .u64 v, .int .u64 n] w fun e w' => e = .returned (.int .u64 (upperI v n)) ∧ w = w' := by
  go_enter Try.func106, Try.ntmps106
  go_wp2
  go_ret
  exact ⟨rfl, rfl⟩

theorem wrapU64 (z : Int) : IntKind.u64.wrap z = z % 18446744073709551616 := by simp [IntKind.wrap, IntKind.bits, IntKind.signed]
theorem lo32_eq (z : Int) (h0 : 0 ≤ z) (h1 : z < 18446744073709551616) : lo32 z = z % 4294967296 := and_low32 z h0 h1
theorem mul_bd (a b : Int) (a0 : 0 ≤ a) (a1 : a ≤ 4294967295) (b0 : 0 ≤ b) (b1 : b ≤ 4294967295) : 0 ≤ a * b ∧ a * b ≤ 18446744065119617025 :=
  ⟨Int.mul_nonneg a0 b0, Int.le_trans (Int.mul_le_mul a1 b1 b0 (by decide)) (by decide)⟩
theorem upper_eq (v n : Int) (v0 : 0 ≤ v) (v1 : v < 18446744073709551616) (n0 : 0 ≤ n) (n1 : n < 18446744073709551616) : upperI v n = v * n / 18446744073709551616 := by
  have ev := Int.emod_add_mul_ediv v 4294967296
  have en := Int.emod_add_mul_ediv n 4294967296
  have hlv := lo32_eq v v0 v1
  have hln := lo32_eq n n0 n1
  have a0 : 0 ≤ v / 4294967296 := by omega
  have a1 : v / 4294967296 ≤ 4294967295 := by omega
  have b0 : 0 ≤ v % 4294967296 := by omega
  have b1 : v % 4294967296 ≤ 4294967295 := by omega
  have c0 : 0 ≤ n / 4294967296 := by omega
  have c1 : n / 4294967296 ≤ 4294967295 := by omega
  have d0 : 0 ≤ n % 4294967296 := by omega
  have d1 : n % 4294967296 ≤ 4294967295 := by omega
  generalize ha : v / 4294967296 = a at *
  generalize hb : v % 4294967296 = b at *
  generalize hc : n / 4294967296 = c at *
  generalize hd : n % 4294967296 = d at *
  have hX := mul_bd a c a0 a1 c0 c1
  have hY := mul_bd a d a0 a1 d0 d1
  have hZ := mul_bd b c b0 b1 c0 c1
  have hW := mul_bd b d b0 b1 d0 d1
  have hvn : v * n = a * c * 18446744073709551616 + (a * d + b * c) * 4294967296 + b * d := by
    rw [← ev, ← en, Int.add_mul, Int.mul_add, Int.mul_add]
    rw [show b * (4294967296 * c) = b * c * 4294967296 by rw [Int.mul_comm 4294967296 c, Int.mul_assoc], show 4294967296 * a * d = a * d * 4294967296 by rw [Int.mul_comm 4294967296 a, Int.mul_assoc, Int.mul_comm 4294967296 d, Int.mul_assoc],
      show 4294967296 * a * (4294967296 * c) = a * c * 18446744073709551616 by rw [Int.mul_comm 4294967296 a, Int.mul_comm 4294967296 c, Int.mul_assoc, ← Int.mul_assoc 4294967296 c, Int.mul_comm 4294967296 c, Int.mul_assoc c, Int.mul_assoc]; rfl]
    omega
  have hp : upP v n = b * d := by
    rw [upP, hlv, hln, wrapU64]; omega
  have hq : upQ v n = a * d + b * d / 4294967296 := by
    rw [upQ, hp, hln, ha, wrapU64, wrapU64]; omega
  have hlq : lo32 (upQ v n) = (a * d + b * d / 4294967296) % 4294967296 := by
    rw [hq]; exact lo32_eq _ (by omega) (by omega)
  have hr : upR v n = b * c + (a * d + b * d / 4294967296) % 4294967296 := by
    rw [upR, hlq, hlv, hc, wrapU64, wrapU64]; omega
  rw [upperI, hq, hr, ha, hc, hvn, wrapU64, wrapU64, wrapU64]
  generalize a * c = X at *
  generalize a * d = Y at *
  generalize b * c = Z at *
  generalize b * d = U at *
  omega

def belowI (v n : Int) : Int := wrap64 (upperI v (IntKind.u64.wrap n))
theorem below_bad (v n : Int) (w : World) (h : n < 1) : Calls Try.prog 64 #[.int .u64 v, .int .i64 n] w fun e w' => e = .returned (.tuple #[.int .i64 0, .int .i64 60]) ∧ w = w' := by
  go_enter Try.func64, Try.ntmps64
  go_wp2
  go_ret2
  exact ⟨rfl, rfl⟩
theorem below_ok (v n : Int) (w : World) (h : 1 ≤ n) : Calls Try.prog 64 #[.int .u64 v, .int .i64 n] w fun e w' => e = .returned (.tuple #[.int .i64 (belowI v n), .int .i64 0]) ∧ w = w' := by
  go_enter Try.func64, Try.ntmps64
  go_wp2_with (go_at_call 106; refine (upper_c _ _ _).mono ?_; rintro e w' ⟨rfl, rfl⟩)
  go_ret2
  exact ⟨rfl, rfl⟩

def join2 (x y : Int) : Int := mixI (IntKind.u64.wrap (IntKind.u64.wrap (11400714819323198485 + y) + IntKind.u64.wrap (mixI (IntKind.u64.wrap (IntKind.u64.wrap (11400714819323198485 + x))) * 11400714819323198485)))
set_option maxRecDepth 100000 in
set_option maxHeartbeats 1000000 in
theorem join2_c (b : Nat) (x y : Int) (w : World) (h0 : w.cell? ⟨b, 0, none⟩ = some (.int .u64 x)) (h1 : w.cell? ⟨b, 1, none⟩ = some (.int .u64 y)) :
    Calls Try.prog 127 #[.slice (some ⟨b, 0, none⟩) 2 2] w fun e w' => e = .returned (.int .u64 (join2 x y)) ∧ w = w' := by
  go_enter Try.func127, Try.ntmps127
  go_wp2
  refine wp_loop_rounds 3 ?_
  rw [rounds_succ]
  go_wp2_with (go_at_call 128; refine (mix_c _ _).mono ?_; rintro e w' ⟨rfl, rfl⟩)
  rw [rounds_succ]
  go_wp2_with (go_at_call 128; refine (mix_c _ _).mono ?_; rintro e w' ⟨rfl, rfl⟩)
  rw [rounds_succ]
  go_wp2_with (go_at_call 128; refine (mix_c _ _).mono ?_; rintro e w' ⟨rfl, rfl⟩)
  go_ret
  exact ⟨rfl, rfl⟩

def keyI (seed process : Int) : Int := join2 seed process
theorem key_ok (seed process : Int) (w : World) (h0 : 0 ≤ process) (h1 : process ≤ 65536) : Calls Try.prog 104 #[.int .u64 seed, .int .i64 process] w fun e w' => e = .returned (.tuple #[.int .u64 (keyI seed process), .int .i64 0]) ∧ Below w.heap.size w w' := by
  go_enter Try.func104, Try.ntmps104
  go_wp2_with fail
  refine (join2_c w.heap.size seed process _ ?_ ?_).mono ?_
  · exact cell_of_row _ _ _ _ _ _ (heap_alloc_new w _)
  · exact cell_of_row _ _ _ _ _ _ (heap_alloc_new w _)
  rintro e w' ⟨rfl, rfl⟩
  go_wp2
  go_ret2
  exact ⟨rfl, (Below.refl _ _).alloc (Nat.le_refl _) _⟩
theorem key_bad (seed process : Int) (w : World) (h : process < 0 ∨ 65536 < process) : Calls Try.prog 104 #[.int .u64 seed, .int .i64 process] w fun e w' => e = .returned (.tuple #[.int .u64 0, .int .i64 2]) ∧ w = w' := by
  rcases h with h | h
  · go_enter Try.func104, Try.ntmps104
    go_wp2
    go_ret2
    exact ⟨rfl, rfl⟩
  · have h' : 0 ≤ process := by omega
    go_enter Try.func104, Try.ntmps104
    go_wp2
    go_ret2
    exact ⟨rfl, rfl⟩

def valueI (seed process index : Int) : Int := atI (keyI seed process) index
set_option maxHeartbeats 1000000 in
theorem value_ok (seed process index : Int) (w : World) (h0 : 0 ≤ process) (h1 : process ≤ 65536) (h2 : 0 ≤ index) (h3 : index ≤ 281474976710656) :
    Calls Try.prog 63 #[.int .u64 seed, .int .i64 process, .int .i64 index] w fun e w' => e = .returned (.tuple #[.int .u64 (valueI seed process index), .int .i64 0]) ∧ Below w.heap.size w w' := by
  go_enter Try.func63, Try.ntmps63
  go_wp2_with fail
  refine (key_ok _ _ _ h0 h1).mono ?_
  rintro e w' ⟨rfl, hb⟩
  go_wp2_with (go_at_call 105; refine (at_c _ _ _).mono ?_; rintro e w' ⟨rfl, rfl⟩)
  go_ret2
  exact ⟨rfl, hb⟩

/-- a draw of layer 6 below n, n at least 1 -/
def drawI (seed process index n : Int) : Int := belowI (valueI seed process index) n
set_option maxHeartbeats 1000000 in
theorem draw_ok (seed process index n : Int) (w : World) (h0 : 0 ≤ process) (h1 : process ≤ 65536) (h2 : 0 ≤ index) (h3 : index ≤ 281474976710656) (hn : 1 ≤ n) :
    Calls Try.prog 27 #[.int .u64 seed, .int .i64 process, .int .i64 index, .int .i64 n] w fun e w' => e = .returned (.tuple #[.int .i64 (drawI seed process index n), .int .i64 0]) ∧ Below w.heap.size w w' := by
  go_enter Try.func27, Try.ntmps27
  go_wp2_with fail
  refine (value_ok _ _ _ _ h0 h1 h2 h3).mono ?_
  rintro e w' ⟨rfl, hb⟩
  go_wp2_with (go_at_call 64; refine (below_ok _ _ _ hn).mono ?_; rintro e w' ⟨rfl, rfl⟩)
  go_ret2
  exact ⟨rfl, hb⟩

theorem u64_bd (z : Int) : 0 ≤ IntKind.u64.wrap z ∧ IntKind.u64.wrap z < 18446744073709551616 := by rw [wrapU64]; omega
theorem foldI_bd (x n : Int) (h : 0 ≤ x) (h1 : x < 18446744073709551616) (hn : 0 ≤ n) : 0 ≤ foldI x n ∧ foldI x n < 18446744073709551616 := by
  unfold foldI
  have : bits .xor .u64 x (x / 2 ^ n.toNat) = IntKind.u64.wrap (bits .xor .u64 x (x / 2 ^ n.toNat)) := by
    simp only [bits, wrapU64]
    omega
  rw [this]; exact u64_bd _
theorem mixI_bd (x : Int) : 0 ≤ mixI x ∧ mixI x < 18446744073709551616 := foldI_bd _ _ (u64_bd _).1 (u64_bd _).2 (by decide)
theorem valueI_bd (s p i : Int) : 0 ≤ valueI s p i ∧ valueI s p i < 18446744073709551616 := mixI_bd _
theorem drawI_bd (s p i n : Int) (hn : 1 ≤ n) (hn1 : n ≤ 9223372036854775807) : 0 ≤ drawI s p i n ∧ drawI s p i n < n := by
  unfold drawI belowI
  have hv := valueI_bd s p i
  have hw : IntKind.u64.wrap n = n := by rw [wrapU64]; omega
  rw [hw, upper_eq _ _ hv.1 hv.2 (by omega) (by omega)]
  have h0 : 0 ≤ valueI s p i * n / 18446744073709551616 := Int.ediv_nonneg (Int.mul_nonneg hv.1 (by omega)) (by decide)
  have h1 : valueI s p i * n / 18446744073709551616 < n := by
    apply Int.ediv_lt_of_lt_mul (by decide)
    rw [Int.mul_comm n]
    exact Int.mul_lt_mul_of_pos_right hv.2 (by omega)
  have hz : wrap64 (valueI s p i * n / 18446744073709551616) = valueI s p i * n / 18446744073709551616 := by
    unfold wrap64; omega
  rw [hz]; exact ⟨h0, h1⟩
end Go.Proofs.Ytmljmabbopkpiaa
