/- more on AW -/
import Derived.Test.YtmljmabbopkpiaaEnv
import Derived.Laws.OwnMore
namespace Go.Proofs.Ytmljmabbopkpiaa
set_option linter.unusedVariables false
set_option linter.unusedSimpArgs false
open Go.RowKit
section
variable {w W W' : World} {L : List Bk} {R : List Rd}
theorem AW.setRow1 {g : Nat} {t : TypeId} {cs : Array Value} (h : AW w [⟨g, t, cs⟩] [⟨1, none, 0, []⟩, ⟨3, none, 0, []⟩] W) (hg : w.heap.size ≤ g) (cs' : Array Value) : AW w [⟨g, t, cs'⟩] [⟨1, none, 0, []⟩, ⟨3, none, 0, []⟩] (W.setRow g cs') :=
  ⟨below_setRow h.b hg _, fun e he => by
    simp only [List.mem_cons, List.not_mem_nil, or_false] at he
    subst he
    exact (h.l _ (.head _)).row cs', fun e he => by
    simp only [List.mem_cons, List.not_mem_nil, or_false] at he
    rcases he with rfl | rfl <;> exact Reads.none_⟩
theorem AW.setCell1 {g : Nat} {t : TypeId} {cs : Array Value} (h : AW w [⟨g, t, cs⟩] [⟨1, none, 0, []⟩, ⟨3, none, 0, []⟩] W) (hg : w.heap.size ≤ g) (i : Nat) (u : Value) : AW w [⟨g, t, cs.setIfInBounds i u⟩] [⟨1, none, 0, []⟩, ⟨3, none, 0, []⟩] (W.setCell ⟨g, i, none⟩ u) :=
  ⟨h.b.setCell (p := ⟨g, i, none⟩) hg u, fun e he => by
    simp only [List.mem_cons, List.not_mem_nil, or_false] at he
    subst he
    exact (h.l _ (.head _)).set_ i u, fun e he => by
    simp only [List.mem_cons, List.not_mem_nil, or_false] at he
    rcases he with rfl | rfl <;> exact Reads.none_⟩
theorem u16_bd (x : Int) : 0 ≤ IntKind.u16.wrap x ∧ IntKind.u16.wrap x ≤ 65535 := by simp [IntKind.wrap, IntKind.bits, IntKind.signed]; omega
theorem now_bd (x : Int) : 0 ≤ wrap64 ((IntKind.u64.wrap x).tmod 281474976710657) ∧ wrap64 ((IntKind.u64.wrap x).tmod 281474976710657) ≤ 281474976710656 := by
  have h := u64_bd x
  rw [Int.tmod_eq_emod_of_nonneg h.1]
  unfold wrap64; omega
/-! ### a slice of n events of nothing -/
def zsnds (n : Nat) : Array Value := (List.replicate (n * 3) (Value.int .i64 0)).toArray
theorem zsnds_size (n : Nat) : (zsnds n).size = n * 3 := by simp [zsnds]
theorem zsnds_list (n : Nat) : (zsnds n).toList = sndsV (List.replicate n ⟨0, 0, 0⟩) := by
  unfold zsnds
  induction n with
  | zero => rfl
  | succ n ih =>
    rw [List.replicate_succ, sndsV, List.flatMap_cons]
    show _ = Snd.cells ⟨0, 0, 0⟩ ++ sndsV (List.replicate n ⟨0, 0, 0⟩)
    rw [← ih, show (n + 1) * 3 = n * 3 + 1 + 1 + 1 by omega]
    rfl
theorem made_zsnds (n : Nat) : madeCells #[.int .i64 0, .int .i64 0, .int .i64 0] (n * 3) = zsnds n := by
  apply Array.ext'
  unfold zsnds
  rw [List.toList_toArray, List.eq_replicate_iff]
  refine ⟨by simp [madeCells], fun b hb => ?_⟩
  simp only [madeCells, Array.toList_map, List.mem_map, Array.toList_range, List.mem_range] at hb
  obtain ⟨k, hk, rfl⟩ := hb
  have : k % 3 = 0 ∨ k % 3 = 1 ∨ k % 3 = 2 := by omega
  show (#[Value.int .i64 0, .int .i64 0, .int .i64 0] : Array Value)[k % 3]! = _
  rcases this with h | h | h <;> rw [h] <;> rfl
theorem make_sends (W : World) (n : Nat) (hn : n ≤ 1000000) : (Instr.makeSlice 51 (.int .i64 (n : Int)) (.int .i64 (n : Int))).run Try.prog W = .ok (.slice (some ⟨W.heap.size, 0, none⟩) n n) (W.alloc (.cells (zsnds n) 64)) := by
  obtain ⟨i0, hi, hz0, hz1, hz2⟩ := info_parts infoSend
  have := run_make (P := Try.prog) W 51 64 i0 _ Try.underlying51 hi hz0 .i64 .i64 n n (by omega) (Int.le_refl _) (by rw [hz2]; omega) (by omega)
  rw [this, hz1]
  simp only [Int.toNat_natCast]
  rw [show (Value.agg #[Value.int IntKind.i64 0, Value.int IntKind.i64 0, Value.int IntKind.i64 0]).cells = #[.int .i64 0, .int .i64 0, .int .i64 0] from rfl, made_zsnds]
theorem ins_ok8 {m : Int} (h : 0 ≤ m ∧ m < 16) : (⟨8, 0, 1, 0, m⟩ : Ins).ok :=
  { op0 := by show (0:Int) ≤ 8; decide, op1 := by show (8:Int) ≤ 255; decide, a0 := by show (0:Int) ≤ 0; decide, a1 := by show (0:Int) ≤ 255; decide, b0 := by show (0:Int) ≤ 1; decide, b1 := by show (1:Int) ≤ 255; decide, c0 := by show (0:Int) ≤ 0; decide, c1 := by show (0:Int) ≤ 255; decide, n0 := by show (-9223372036854775808:Int) ≤ m; omega, n1 := by show m ≤ (9223372036854775807:Int); omega }
theorem bad_send {m n : Int} (h : 0 ≤ m ∧ m < 16) : badAt n ⟨8, 0, 1, 0, m⟩ = 0 := by
  have h1 : oneE ⟨8, 0, 1, 0, m⟩ = 0 := by
    show (if formC 8 = 0 then 140 else oneK (formC 8) 0 1 0 m) = 0
    rw [if_neg (by decide)]
    exact oneK_pos (show fitsC 5 0 1 0 m from ⟨by decide, by decide, rfl, h.1, h.2⟩)
  unfold badAt
  rw [if_neg (by simp [h1])]
  have : targB ⟨8, 0, 1, 0, m⟩ = false := by simp [targB]
  rw [if_neg (by simp [this])]
end
end Go.Proofs.Ytmljmabbopkpiaa
