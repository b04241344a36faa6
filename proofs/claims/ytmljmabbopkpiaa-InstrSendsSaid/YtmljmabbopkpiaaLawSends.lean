/- fermatalaw18.InstrSends: the walk. -/
import Derived.Test.YtmljmabbopkpiaaEnv
import Derived.Test.YtmljmabbopkpiaaAw2
import Derived.Test.YtmljmabbopkpiaaEq
import Derived.Test.YtmljmabbopkpiaaAwake
namespace Go.Proofs.Ytmljmabbopkpiaa
open Go.RowKit
set_option linter.unusedVariables false
set_option linter.unusedSimpArgs false
attribute [local go_sem ↓] wp_load53 wp_load56 wp_load28 wp_store53 wp_store56
attribute [local go_sem] blockOf aggOf Value.oneCell' isRow_alloc rowOf_alloc5 rowOf_alloc13 isRow_drew isRow_drewN rowOf_drew rowOf_drewN

set_option maxRecDepth 100000 in
set_option maxHeartbeats 4000000 in
theorem sends_walk (sd pr po lo nw now dl val pt sn : Int) (w : World) (hd : -9223372036854775808 ≤ dl ∧ dl ≤ 9223372036854775807) (hpt : 0 ≤ pt ∧ pt ≤ 255) (hsn : 0 ≤ sn ∧ sn ≤ 255) :
    Calls Try.prog 6 #[.agg #[.int .u64 sd, .int .i64 pr, .int .i64 po, .int .i64 lo, .int .i64 nw], .int .i64 now, .int .i64 dl, .int .i64 val, .int .u8 pt, .int .u8 sn] w fun e w' => e = .returned (.bool true) ∧ Below w.heap.size w w' := by
  have hA := AW.start w
  go_enter Try.func6, Try.ntmps6
  go_upto_region 1 with fail
  have hA1 := hA.put 56 #[.int .u64 sd, .int .i64 pr, .int .i64 po, .int .i64 lo, .int .i64 nw]
  obtain ⟨W, hW⟩ : ∃ W, W = (w.alloc (.cells #[.int .u64 sd, .int .i64 pr, .int .i64 po, .int .i64 lo, .int .i64 nw] 56)) := ⟨_, rfl⟩
  rw [← hW] at hA1 ⊢
  clear hW hA
  go_wp2_with fail
  go_at_call 23
  refine (awake18_c W).mono ?_
  rintro e W1 ⟨rfl, hb⟩
  have hA2 := hA1.call hb
  obtain ⟨⟨x0, x1, x2, x3, x4⟩, xf⟩ := blk5 (hA2.l _ (.head _))
  clear hA1 hb
  dsimp only at x0 x1 x2 x3 x4 xf
  obtain ⟨P, hP⟩ : ∃ P, P = IntKind.u16.wrap pr := ⟨_, rfl⟩
  obtain ⟨hP0, hP1⟩ := u16_bd pr
  rw [← hP] at hP0 hP1
  have hPs : IntKind.u16.wrap pr = P := hP.symm
  clear hP
  go_wp2_with fail
  go_at_call 26
  refine (env_c sd P (po % 256) (lo % 256) 0 W1 hP0 hP1 (by omega) (by omega) (by omega) (by omega) (by omega) (by omega)).mono ?_
  rintro e W2 ⟨rfl, hb⟩
  have hA3 := hA2.call hb
  have hr : IsRow W2 w.heap.size 5 := (hA3.l _ (.head _)).isRow rfl
  clear hA2 hb x0 x1 x2 x3 x4 xf hPs
  obtain ⟨q, hq⟩ : ∃ q, q = po % 256 % 17 := ⟨_, rfl⟩
  obtain ⟨l, hl⟩ : ∃ l, l = 1 + lo % 256 := ⟨_, rfl⟩
  have hq0 : 0 ≤ q ∧ q ≤ 16 := by omega
  have hl0 : 1 ≤ l ∧ l ≤ 256 := by omega
  rw [← hq, ← hl]
  clear hq hl
  go_upto_region 4 with fail
  have hA4 := hA3.setRow1 (Nat.le_refl _) #[.int .u64 sd, .int .i64 P, .int .i64 q, .int .i64 l, .int .i64 0]
  obtain ⟨W3, hW⟩ : ∃ W, W = (W2.setRow w.heap.size #[.int .u64 sd, .int .i64 P, .int .i64 q, .int .i64 l, .int .i64 0]) := ⟨_, rfl⟩
  rw [← hW] at hA4 ⊢
  clear hW hA3 hr
  obtain ⟨⟨x0, x1, x2, x3, x4⟩, xf⟩ := blk5 (hA4.l _ (.head _))
  dsimp only at x0 x1 x2 x3 x4 xf
  go_upto_region 5 with fail
  obtain ⟨N, hN⟩ : ∃ N, N = wrap64 ((IntKind.u64.wrap now).tmod 281474976710657) := ⟨_, rfl⟩
  have hN0 : 0 ≤ N ∧ N ≤ 281474976710656 := by
    rw [hN]; exact now_bd now
  rw [← hN]
  clear hN
  have hA5 := hA4.setCell1 (Nat.le_refl _) 4 (.int .i64 N)
  obtain ⟨W4, hW⟩ : ∃ W, W = (W3.setCell ⟨w.heap.size, 4, none⟩ (.int .i64 N)) := ⟨_, rfl⟩
  rw [← hW] at hA5 ⊢
  clear hW hA4 x0 x1 x2 x3 x4 xf
  have hA5 : AW w [⟨w.heap.size, 56, #[.int .u64 sd, .int .i64 P, .int .i64 q, .int .i64 l, .int .i64 N]⟩] [⟨1, none, 0, []⟩, ⟨3, none, 0, []⟩] W4 := hA5
  obtain ⟨k, hk⟩ : ∃ k : Nat, sn = k := ⟨sn.toNat, by omega⟩
  subst hk
  obtain ⟨M, hM⟩ : ∃ M, M = pt % 16 := ⟨_, rfl⟩
  have hM0 : 0 ≤ M ∧ M < 16 := by omega
  have m1 : Int.tmod pt 16 = M := by rw [hM]; exact Int.tmod_eq_emod_of_nonneg hpt.1
  have m2 : pt % 16 = M := hM.symm
  have m3 : wrap64 M = M := by unfold wrap64; omega
  clear hM
  by_cases h250 : 250 < (k : Int)
  · have hmk : (Instr.makeSlice 51 (.int .i64 256) (.int .i64 256)).run Try.prog W4 = .ok (.slice (some ⟨W4.heap.size, 0, none⟩) 256 256) (W4.alloc (.cells (zsnds 256) 64)) := make_sends W4 256 (by omega)
    have hA6 := hA5.array 64 (zsnds 256) 3 256 (zsnds_size _)
    rw [zsnds_list] at hA6
    have hA7 := hA6.put' (g := W4.heap.size + 1) 53 #[.int .i64 0, .bool false, .int .i64 dl, .int .i64 val, .int .i64 0, .int .i64 0, .int .i64 0, .int .i64 0, .int .i64 0, .int .i64 0, .slice none 0 0, .int .i64 0, .slice (some ⟨W4.heap.size, 0, none⟩) 256 256] (by simp)
    have hA8 := hA7.put' (g := W4.heap.size + 1 + 1) 28 #[.int .u8 8, .int .u8 0, .int .u8 1, .int .u8 0, .int .i64 M] (by simp)
    go_upto_region 10 with fail
    obtain ⟨W5, hW⟩ : ∃ W, W = (((W4.alloc (.cells (zsnds 256) 64)).alloc (.cells #[.int .i64 0, .bool false, .int .i64 dl, .int .i64 val, .int .i64 0, .int .i64 0, .int .i64 0, .int .i64 0, .int .i64 0, .int .i64 0, .slice none 0 0, .int .i64 0, .slice (some ⟨W4.heap.size, 0, none⟩) 256 256] 53)).alloc (.cells #[.int .u8 8, .int .u8 0, .int .u8 1, .int .u8 0, .int .i64 M] 28)) := ⟨_, rfl⟩
    rw [← hW] at hA8 ⊢
    clear hW hA5 hA6 hA7 hmk
    have p1 : IsRow W5 (W4.heap.size + 1 + 1) 5 := (hA8.l _ (.head _)).isRow rfl
    have q1 : rowOf W5 (W4.heap.size + 1 + 1) = #[.int .u8 8, .int .u8 0, .int .u8 1, .int .u8 0, .int .i64 M] := (hA8.l _ (.head _)).rowOf_eq
    have p2 : IsRow W5 (W4.heap.size + 1) 13 := (hA8.l _ (.tail _ (.head _))).isRow rfl
    have q2 : rowOf W5 (W4.heap.size + 1) = #[.int .i64 0, .bool false, .int .i64 dl, .int .i64 val, .int .i64 0, .int .i64 0, .int .i64 0, .int .i64 0, .int .i64 0, .int .i64 0, .slice none 0 0, .int .i64 0, .slice (some ⟨W4.heap.size, 0, none⟩) 256 256] := (hA8.l _ (.tail _ (.head _))).rowOf_eq
    have p3 : IsRow W5 w.heap.size 5 := (hA8.l _ (.tail _ (.tail _ (.head _)))).isRow rfl
    have q3 : rowOf W5 w.heap.size = #[.int .u64 sd, .int .i64 P, .int .i64 q, .int .i64 l, .int .i64 N] := (hA8.l _ (.tail _ (.tail _ (.head _)))).rowOf_eq
    go_wp2_with fail
    clear p1 q1 p2 q2 p3 q3
    have hP2 : P ≤ 65536 := by omega
    obtain ⟨hT, hT0, hT1⟩ := one_top (i := ⟨8, 0, 1, 0, M⟩) (v := ⟨sd, P, q, l, N⟩) (s := ⟨0, false, fun j => match j with | 0 => dl | 1 => val | _ => 0, [], 0, List.replicate 256 ⟨0, 0, 0⟩⟩) (bad_send hM0) (decide_eq_true ⟨hP0, hP2, hq0.1, hl0.1, hN0.1, hN0.2⟩) rfl rfl rfl
    have hD : doE ⟨0, false, fun j => match j with | 0 => dl | 1 => val | _ => 0, [], 0, List.replicate 256 ⟨0, 0, 0⟩⟩ ⟨sd, P, q, l, N⟩ ⟨8, 0, 1, 0, M⟩ = if q ≤ M then 188 else if dl < l then 189 else if 281474976710656 - N < dl then 1800 else if 256 ≤ 256 then 1801 else 0 := by
      show sendE _ _ _ = _
      simp [sendE]
    rw [hD] at hT hT0 hT1
    clear hD
    by_cases c1 : q ≤ M
    · have d1 := decide_eq_true c1
      have hX : (if q ≤ M then (188 : Int) else if dl < l then 189 else if 281474976710656 - N < dl then 1800 else if 256 ≤ 256 then 1801 else 0) = 188 := by simp [c1]
      rw [hX] at hT hT0 hT1
      have hS := hT1 (by decide)
      go_at_call 25
      refine (call25 ⟨8, 0, 1, 0, M⟩ (ins_ok8 hM0) ⟨sd, P, q, l, N⟩ ⟨0, false, fun j => match j with | 0 => dl | 1 => val | _ => 0, [], 0, List.replicate 256 ⟨0, 0, 0⟩⟩ (fun C S => .agg #[.int .i64 0, .bool false, .int .i64 0, .int .i64 0, .int .i64 0, .int .i64 0, .int .i64 0, .int .i64 0, .int .i64 0, .int .i64 0, C, .int .i64 0, S]) [] [] 188 (by rw [hS]; rfl) (by rw [hS]; rfl) (by rw [hS]; rfl) hT 0 0 rfl rfl none (some ⟨W4.heap.size, 0, none⟩) 0 256 0 256 (by omega) hA8 (.tail _ (.head _)) (.head _)).mono ?_
      rintro e W6 ⟨B1, x1, D1, y1, rfl, hB⟩
      obtain ⟨⟨x0, x1, x2, x3, x4⟩, xf⟩ := blk5 (hB.l _ (.tail _ (.tail _ (.head _))))
      dsimp only at x0 x1 x2 x3 x4 xf
      have hlt := (hB.l _ (.tail _ (.tail _ (.head _)))).lt
      dsimp only at hlt
      have hbB := hB.b
      clear hB hA8 hX hT hT0 hT1 hS
      go_wp2_with fail
      go_ret
      exact ⟨rfl, hbB.alloc hbB.size _⟩
    · have d1 := decide_eq_false c1
      by_cases c2 : dl < l
      · have d2 := decide_eq_true c2
        have hX : (if q ≤ M then (188 : Int) else if dl < l then 189 else if 281474976710656 - N < dl then 1800 else if 256 ≤ 256 then 1801 else 0) = 189 := by simp [c1, c2]
        rw [hX] at hT hT0 hT1
        have hS := hT1 (by decide)
        go_at_call 25
        refine (call25 ⟨8, 0, 1, 0, M⟩ (ins_ok8 hM0) ⟨sd, P, q, l, N⟩ ⟨0, false, fun j => match j with | 0 => dl | 1 => val | _ => 0, [], 0, List.replicate 256 ⟨0, 0, 0⟩⟩ (fun C S => .agg #[.int .i64 0, .bool false, .int .i64 0, .int .i64 0, .int .i64 0, .int .i64 0, .int .i64 0, .int .i64 0, .int .i64 0, .int .i64 0, C, .int .i64 0, S]) [] [] 189 (by rw [hS]; rfl) (by rw [hS]; rfl) (by rw [hS]; rfl) hT 0 0 rfl rfl none (some ⟨W4.heap.size, 0, none⟩) 0 256 0 256 (by omega) hA8 (.tail _ (.head _)) (.head _)).mono ?_
        rintro e W6 ⟨B1, x1, D1, y1, rfl, hB⟩
        obtain ⟨⟨x0, x1, x2, x3, x4⟩, xf⟩ := blk5 (hB.l _ (.tail _ (.tail _ (.head _))))
        dsimp only at x0 x1 x2 x3 x4 xf
        have hlt := (hB.l _ (.tail _ (.tail _ (.head _)))).lt
        dsimp only at hlt
        have hbB := hB.b
        clear hB hA8 hX hT hT0 hT1 hS
        go_wp2_with fail
        go_ret
        exact ⟨rfl, hbB.alloc hbB.size _⟩
      · have d2 := decide_eq_false c2
        by_cases c3 : 281474976710656 - N < dl
        · have d3 := decide_eq_true c3
          have hX : (if q ≤ M then (188 : Int) else if dl < l then 189 else if 281474976710656 - N < dl then 1800 else if 256 ≤ 256 then 1801 else 0) = 1800 := by simp [c1, c2, c3]
          rw [hX] at hT hT0 hT1
          have hS := hT1 (by decide)
          go_at_call 25
          refine (call25 ⟨8, 0, 1, 0, M⟩ (ins_ok8 hM0) ⟨sd, P, q, l, N⟩ ⟨0, false, fun j => match j with | 0 => dl | 1 => val | _ => 0, [], 0, List.replicate 256 ⟨0, 0, 0⟩⟩ (fun C S => .agg #[.int .i64 0, .bool false, .int .i64 0, .int .i64 0, .int .i64 0, .int .i64 0, .int .i64 0, .int .i64 0, .int .i64 0, .int .i64 0, C, .int .i64 0, S]) [] [] 1800 (by rw [hS]; rfl) (by rw [hS]; rfl) (by rw [hS]; rfl) hT 0 0 rfl rfl none (some ⟨W4.heap.size, 0, none⟩) 0 256 0 256 (by omega) hA8 (.tail _ (.head _)) (.head _)).mono ?_
          rintro e W6 ⟨B1, x1, D1, y1, rfl, hB⟩
          obtain ⟨⟨x0, x1, x2, x3, x4⟩, xf⟩ := blk5 (hB.l _ (.tail _ (.tail _ (.head _))))
          dsimp only at x0 x1 x2 x3 x4 xf
          have hlt := (hB.l _ (.tail _ (.tail _ (.head _)))).lt
          dsimp only at hlt
          have hbB := hB.b
          clear hB hA8 hX hT hT0 hT1 hS
          go_wp2_with fail
          go_ret
          exact ⟨rfl, hbB.alloc hbB.size _⟩
        · have d3 := decide_eq_false c3
          have hX : (if q ≤ M then (188 : Int) else if dl < l then 189 else if 281474976710656 - N < dl then 1800 else if 256 ≤ 256 then 1801 else 0) = 1801 := by simp [c1, c2, c3]
          rw [hX] at hT hT0 hT1
          have hS := hT1 (by decide)
          go_at_call 25
          refine (call25 ⟨8, 0, 1, 0, M⟩ (ins_ok8 hM0) ⟨sd, P, q, l, N⟩ ⟨0, false, fun j => match j with | 0 => dl | 1 => val | _ => 0, [], 0, List.replicate 256 ⟨0, 0, 0⟩⟩ (fun C S => .agg #[.int .i64 0, .bool false, .int .i64 0, .int .i64 0, .int .i64 0, .int .i64 0, .int .i64 0, .int .i64 0, .int .i64 0, .int .i64 0, C, .int .i64 0, S]) [] [] 1801 (by rw [hS]; rfl) (by rw [hS]; rfl) (by rw [hS]; rfl) hT 0 0 rfl rfl none (some ⟨W4.heap.size, 0, none⟩) 0 256 0 256 (by omega) hA8 (.tail _ (.head _)) (.head _)).mono ?_
          rintro e W6 ⟨B1, x1, D1, y1, rfl, hB⟩
          obtain ⟨⟨x0, x1, x2, x3, x4⟩, xf⟩ := blk5 (hB.l _ (.tail _ (.tail _ (.head _))))
          dsimp only at x0 x1 x2 x3 x4 xf
          have hlt := (hB.l _ (.tail _ (.tail _ (.head _)))).lt
          dsimp only at hlt
          have hbB := hB.b
          clear hB hA8 hX hT hT0 hT1 hS
          go_wp2_with fail
          go_ret
          exact ⟨rfl, hbB.alloc hbB.size _⟩
  · have hk250 : k ≤ 250 := by omega
    have hmk : (Instr.makeSlice 51 (.int .i64 (k : Int)) (.int .i64 (k : Int))).run Try.prog W4 = .ok (.slice (some ⟨W4.heap.size, 0, none⟩) k k) (W4.alloc (.cells (zsnds k) 64)) := make_sends W4 k (by omega)
    have hA6 := hA5.array 64 (zsnds k) 3 k (zsnds_size _)
    rw [zsnds_list] at hA6
    have hA7 := hA6.put' (g := W4.heap.size + 1) 53 #[.int .i64 0, .bool false, .int .i64 dl, .int .i64 val, .int .i64 0, .int .i64 0, .int .i64 0, .int .i64 0, .int .i64 0, .int .i64 0, .slice none 0 0, .int .i64 0, .slice (some ⟨W4.heap.size, 0, none⟩) k k] (by simp)
    have hA8 := hA7.put' (g := W4.heap.size + 1 + 1) 28 #[.int .u8 8, .int .u8 0, .int .u8 1, .int .u8 0, .int .i64 M] (by simp)
    go_upto_region 10 with fail
    obtain ⟨W5, hW⟩ : ∃ W, W = (((W4.alloc (.cells (zsnds k) 64)).alloc (.cells #[.int .i64 0, .bool false, .int .i64 dl, .int .i64 val, .int .i64 0, .int .i64 0, .int .i64 0, .int .i64 0, .int .i64 0, .int .i64 0, .slice none 0 0, .int .i64 0, .slice (some ⟨W4.heap.size, 0, none⟩) k k] 53)).alloc (.cells #[.int .u8 8, .int .u8 0, .int .u8 1, .int .u8 0, .int .i64 M] 28)) := ⟨_, rfl⟩
    rw [← hW] at hA8 ⊢
    clear hW hA5 hA6 hA7 hmk
    have p1 : IsRow W5 (W4.heap.size + 1 + 1) 5 := (hA8.l _ (.head _)).isRow rfl
    have q1 : rowOf W5 (W4.heap.size + 1 + 1) = #[.int .u8 8, .int .u8 0, .int .u8 1, .int .u8 0, .int .i64 M] := (hA8.l _ (.head _)).rowOf_eq
    have p2 : IsRow W5 (W4.heap.size + 1) 13 := (hA8.l _ (.tail _ (.head _))).isRow rfl
    have q2 : rowOf W5 (W4.heap.size + 1) = #[.int .i64 0, .bool false, .int .i64 dl, .int .i64 val, .int .i64 0, .int .i64 0, .int .i64 0, .int .i64 0, .int .i64 0, .int .i64 0, .slice none 0 0, .int .i64 0, .slice (some ⟨W4.heap.size, 0, none⟩) k k] := (hA8.l _ (.tail _ (.head _))).rowOf_eq
    have p3 : IsRow W5 w.heap.size 5 := (hA8.l _ (.tail _ (.tail _ (.head _)))).isRow rfl
    have q3 : rowOf W5 w.heap.size = #[.int .u64 sd, .int .i64 P, .int .i64 q, .int .i64 l, .int .i64 N] := (hA8.l _ (.tail _ (.tail _ (.head _)))).rowOf_eq
    go_wp2_with fail
    clear p1 q1 p2 q2 p3 q3
    have hP2 : P ≤ 65536 := by omega
    obtain ⟨hT, hT0, hT1⟩ := one_top (i := ⟨8, 0, 1, 0, M⟩) (v := ⟨sd, P, q, l, N⟩) (s := ⟨0, false, fun j => match j with | 0 => dl | 1 => val | _ => 0, [], 0, List.replicate k ⟨0, 0, 0⟩⟩) (bad_send hM0) (decide_eq_true ⟨hP0, hP2, hq0.1, hl0.1, hN0.1, hN0.2⟩) rfl rfl rfl
    have hD : doE ⟨0, false, fun j => match j with | 0 => dl | 1 => val | _ => 0, [], 0, List.replicate k ⟨0, 0, 0⟩⟩ ⟨sd, P, q, l, N⟩ ⟨8, 0, 1, 0, M⟩ = if q ≤ M then 188 else if dl < l then 189 else if 281474976710656 - N < dl then 1800 else if 256 ≤ k then 1801 else 0 := by
      show sendE _ _ _ = _
      simp [sendE]
    rw [hD] at hT hT0 hT1
    clear hD
    by_cases c1 : q ≤ M
    · have d1 := decide_eq_true c1
      have hX : (if q ≤ M then (188 : Int) else if dl < l then 189 else if 281474976710656 - N < dl then 1800 else if 256 ≤ k then 1801 else 0) = 188 := by simp [c1]
      rw [hX] at hT hT0 hT1
      have hS := hT1 (by decide)
      go_at_call 25
      refine (call25 ⟨8, 0, 1, 0, M⟩ (ins_ok8 hM0) ⟨sd, P, q, l, N⟩ ⟨0, false, fun j => match j with | 0 => dl | 1 => val | _ => 0, [], 0, List.replicate k ⟨0, 0, 0⟩⟩ (fun C S => .agg #[.int .i64 0, .bool false, .int .i64 0, .int .i64 0, .int .i64 0, .int .i64 0, .int .i64 0, .int .i64 0, .int .i64 0, .int .i64 0, C, .int .i64 0, S]) [] [] 188 (by rw [hS]; rfl) (by rw [hS]; rfl) (by rw [hS]; rfl) hT 0 0 rfl rfl none (some ⟨W4.heap.size, 0, none⟩) 0 k 0 k (by omega) hA8 (.tail _ (.head _)) (.head _)).mono ?_
      rintro e W6 ⟨B1, x1, D1, y1, rfl, hB⟩
      obtain ⟨⟨x0, x1, x2, x3, x4⟩, xf⟩ := blk5 (hB.l _ (.tail _ (.tail _ (.head _))))
      dsimp only at x0 x1 x2 x3 x4 xf
      have hlt := (hB.l _ (.tail _ (.tail _ (.head _)))).lt
      dsimp only at hlt
      have hbB := hB.b
      clear hB hA8 hX hT hT0 hT1 hS
      go_wp2_with fail
      go_ret
      exact ⟨rfl, hbB.alloc hbB.size _⟩
    · have d1 := decide_eq_false c1
      by_cases c2 : dl < l
      · have d2 := decide_eq_true c2
        have hX : (if q ≤ M then (188 : Int) else if dl < l then 189 else if 281474976710656 - N < dl then 1800 else if 256 ≤ k then 1801 else 0) = 189 := by simp [c1, c2]
        rw [hX] at hT hT0 hT1
        have hS := hT1 (by decide)
        go_at_call 25
        refine (call25 ⟨8, 0, 1, 0, M⟩ (ins_ok8 hM0) ⟨sd, P, q, l, N⟩ ⟨0, false, fun j => match j with | 0 => dl | 1 => val | _ => 0, [], 0, List.replicate k ⟨0, 0, 0⟩⟩ (fun C S => .agg #[.int .i64 0, .bool false, .int .i64 0, .int .i64 0, .int .i64 0, .int .i64 0, .int .i64 0, .int .i64 0, .int .i64 0, .int .i64 0, C, .int .i64 0, S]) [] [] 189 (by rw [hS]; rfl) (by rw [hS]; rfl) (by rw [hS]; rfl) hT 0 0 rfl rfl none (some ⟨W4.heap.size, 0, none⟩) 0 k 0 k (by omega) hA8 (.tail _ (.head _)) (.head _)).mono ?_
        rintro e W6 ⟨B1, x1, D1, y1, rfl, hB⟩
        obtain ⟨⟨x0, x1, x2, x3, x4⟩, xf⟩ := blk5 (hB.l _ (.tail _ (.tail _ (.head _))))
        dsimp only at x0 x1 x2 x3 x4 xf
        have hlt := (hB.l _ (.tail _ (.tail _ (.head _)))).lt
        dsimp only at hlt
        have hbB := hB.b
        clear hB hA8 hX hT hT0 hT1 hS
        go_wp2_with fail
        go_ret
        exact ⟨rfl, hbB.alloc hbB.size _⟩
      · have d2 := decide_eq_false c2
        by_cases c3 : 281474976710656 - N < dl
        · have d3 := decide_eq_true c3
          have hX : (if q ≤ M then (188 : Int) else if dl < l then 189 else if 281474976710656 - N < dl then 1800 else if 256 ≤ k then 1801 else 0) = 1800 := by simp [c1, c2, c3]
          rw [hX] at hT hT0 hT1
          have hS := hT1 (by decide)
          go_at_call 25
          refine (call25 ⟨8, 0, 1, 0, M⟩ (ins_ok8 hM0) ⟨sd, P, q, l, N⟩ ⟨0, false, fun j => match j with | 0 => dl | 1 => val | _ => 0, [], 0, List.replicate k ⟨0, 0, 0⟩⟩ (fun C S => .agg #[.int .i64 0, .bool false, .int .i64 0, .int .i64 0, .int .i64 0, .int .i64 0, .int .i64 0, .int .i64 0, .int .i64 0, .int .i64 0, C, .int .i64 0, S]) [] [] 1800 (by rw [hS]; rfl) (by rw [hS]; rfl) (by rw [hS]; rfl) hT 0 0 rfl rfl none (some ⟨W4.heap.size, 0, none⟩) 0 k 0 k (by omega) hA8 (.tail _ (.head _)) (.head _)).mono ?_
          rintro e W6 ⟨B1, x1, D1, y1, rfl, hB⟩
          obtain ⟨⟨x0, x1, x2, x3, x4⟩, xf⟩ := blk5 (hB.l _ (.tail _ (.tail _ (.head _))))
          dsimp only at x0 x1 x2 x3 x4 xf
          have hlt := (hB.l _ (.tail _ (.tail _ (.head _)))).lt
          dsimp only at hlt
          have hbB := hB.b
          clear hB hA8 hX hT hT0 hT1 hS
          go_wp2_with fail
          go_ret
          exact ⟨rfl, hbB.alloc hbB.size _⟩
        · have d3 := decide_eq_false c3
          have c4 : ¬ 256 ≤ k := by omega
          have hX : (if q ≤ M then (188 : Int) else if dl < l then 189 else if 281474976710656 - N < dl then 1800 else if 256 ≤ k then 1801 else 0) = 0 := by simp [c1, c2, c3, c4]
          rw [hX] at hT hT0 hT1
          have hS := hT0 rfl
          have hDS : doS ⟨0, false, fun j => match j with | 0 => dl | 1 => val | _ => 0, [], 0, List.replicate k ⟨0, 0, 0⟩⟩ ⟨sd, P, q, l, N⟩ ⟨8, 0, 1, 0, M⟩ = ⟨1, false, fun j => match j with | 0 => dl | 1 => val | _ => 0, [], 0, List.replicate k ⟨0, 0, 0⟩ ++ [⟨M, dl, val⟩]⟩ := by
            have hD : doE ⟨0, false, fun j => match j with | 0 => dl | 1 => val | _ => 0, [], 0, List.replicate k ⟨0, 0, 0⟩⟩ ⟨sd, P, q, l, N⟩ ⟨8, 0, 1, 0, M⟩ = 0 := by show sendE _ _ _ = 0; simp [sendE, c1, c2, c3, c4]
            simp [doS, hD]
          rw [hDS] at hS
          clear hDS
          go_at_call 25
          refine (call25 ⟨8, 0, 1, 0, M⟩ (ins_ok8 hM0) ⟨sd, P, q, l, N⟩ ⟨0, false, fun j => match j with | 0 => dl | 1 => val | _ => 0, [], 0, List.replicate k ⟨0, 0, 0⟩⟩ (fun C S => .agg #[.int .i64 1, .bool false, .int .i64 dl, .int .i64 val, .int .i64 0, .int .i64 0, .int .i64 0, .int .i64 0, .int .i64 0, .int .i64 0, C, .int .i64 0, S]) [] (List.replicate k ⟨0, 0, 0⟩ ++ [⟨M, dl, val⟩]) 0 (by rw [hS]; rfl) (by rw [hS]) (by rw [hS]) hT 0 (k + 1) rfl (by simp) none (some ⟨W4.heap.size, 0, none⟩) 0 k 0 k (by omega) hA8 (.tail _ (.head _)) (.head _)).mono ?_
          rintro e W6 ⟨B1, x1, D1, y1, rfl, hB⟩
          obtain ⟨⟨x0, x1, x2, x3, x4⟩, xf⟩ := blk5 (hB.l _ (.tail _ (.tail _ (.head _))))
          dsimp only at x0 x1 x2 x3 x4 xf
          have hlt := (hB.l _ (.tail _ (.tail _ (.head _)))).lt
          dsimp only at hlt
          obtain ⟨bb, oo, ss, rfl, hbl, hss, r0, r1, r2⟩ := (hB.r _ (.tail _ (.head _))).snds_at (k := k) (Nat.lt_succ_self _)
          have hse : ss = ⟨M, dl, val⟩ := by simpa using hss.symm
          subst hse
          dsimp only at r0 r1 r2 hbl
          have hbB := hB.b
          have eS := eqSend M dl val M dl val
          clear hB hA8 hX hT hT0 hT1 hS hss
          go_wp2_with fail
          go_ret
          exact ⟨rfl, hbB.alloc hbB.size _⟩
end Go.Proofs.Ytmljmabbopkpiaa
