/- fermatalaw18.Env; what one instruction before a Halt answers, in plain words. -/
import Derived.Test.YtmljmabbopkpiaaAw
namespace Go.Proofs.Ytmljmabbopkpiaa
open Go.RowKit
set_option linter.unusedVariables false
set_option linter.unusedSimpArgs false

set_option maxRecDepth 100000 in
set_option maxHeartbeats 2000000 in
theorem env_c (sd pr po lo nw : Int) (w : World) (p0 : 0 ≤ pr) (p1 : pr ≤ 65535) (q0 : 0 ≤ po) (q1 : po ≤ 255) (l0 : 0 ≤ lo) (l1 : lo ≤ 255) (n0 : 0 ≤ nw) (n1 : nw ≤ 4294967295) :
    Calls Try.prog 26 #[.int .u64 sd, .int .u16 pr, .int .u8 po, .int .u8 lo, .int .u32 nw] w fun e w' => e = .returned (.agg #[.int .u64 sd, .int .i64 pr, .int .i64 (po % 17), .int .i64 (1 + lo), .int .i64 nw]) ∧ Below w.heap.size w w' := by
  have w1 : wrap64 pr = pr := by unfold wrap64; omega
  have w2 : wrap64 po = po := by unfold wrap64; omega
  have w3 : wrap64 lo = lo := by unfold wrap64; omega
  have w4 : wrap64 nw = nw := by unfold wrap64; omega
  have w5 : wrap64 (1 + lo) = 1 + lo := by unfold wrap64; omega
  have w6 : Int.tmod po 17 = po % 17 := Int.tmod_eq_emod_of_nonneg q0
  go_enter Try.func26, Try.ntmps26
  go_wp2_with fail
  (try simp only [Exit.inBlock, Exit.then])
  refine bodyPost_ret (v := .agg #[.int .u64 sd, .int .i64 pr, .int .i64 (po % 17), .int .i64 (1 + lo), .int .i64 nw]) (results_cell_row (P := Try.prog) (p := 10) (ty := 56) rfl _ _ w.heap.size 56 _ (0, 0) _ rfl (heap_alloc_new w _) Try.underlying56 rfl (by kernel_rfl)) rfl ?_
  exact ⟨rfl, (Below.refl _ w).alloc (Nat.le_refl _) _⟩

theorem checkI_one {i : Ins} (h : badAt 2 i = 0) : (checkI [i, haltI]).2 = 0 := by
  have hK := checkK_none (p := [i, haltI]) (by
    intro k hk y hy
    match k, hk with
    | 0, _ => cases hy; exact h
    | 1, _ => cases hy; exact (by decide : badAt 2 haltI = 0))
  unfold checkI
  rw [if_neg (by simp), if_neg (by simp), hK]
  show (if goesB haltI = true then _ else ((-1 : Int), (0 : Int))).2 = 0
  rw [if_neg (by decide)]
theorem one_top {i : Ins} {v : Envi} {s : St} (hb : badAt 2 i = 0) (hv : v.rightB = true) (hs : rightB s.at_ s.draws 2 s.cells.length = true) (he : s.ended = false) (h0 : s.at_ = 0) :
    topE [i, haltI] v s = doE s v i ∧ (doE s v i = 0 → topS [i, haltI] v s = doS s v i) ∧ (doE s v i ≠ 0 → topS [i, haltI] v s = zeroSt) := by
  have ho : openE [i, haltI] v s = 0 := by
    unfold openE
    rw [if_neg (by simp [checkI_one hb]), if_neg (by simp [hv]), if_neg (by simp [hs])]
  have hi : insAt [i, haltI] s.at_ = i := by rw [h0]; rfl
  have hT : topE [i, haltI] v s = doE s v i := by simp [topE, ho, stepE, he, hi]
  exact ⟨hT, fun h => by simp [topS, hT, h, hi], fun h => by simp [topS, hT, h]⟩
end Go.Proofs.Ytmljmabbopkpiaa
