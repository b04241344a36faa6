/- fermatalaw18.InstrDraws: the walk. (printed by gen_draws.py) -/
import Derived.Test.YtmljmabbopkpiaaAw3
import Derived.Test.YtmljmabbopkpiaaAwake
namespace Go.Proofs.Ytmljmabbopkpiaa
open Go.RowKit
set_option linter.unusedVariables false
set_option linter.unusedSimpArgs false
attribute [local go_sem ↓] wp_load53 wp_load56 wp_load28 wp_store53 wp_store56
attribute [local go_sem] blockOf aggOf Value.oneCell' isRow_alloc rowOf_alloc5 rowOf_alloc13 isRow_drew isRow_drewN rowOf_drew rowOf_drewN

theorem ins_draw_ok : (⟨7, 2, 0, 0, 0⟩ : Ins).ok := ⟨by decide, by decide, by decide, by decide, by decide, by decide, by decide, by decide, by decide, by decide⟩

set_option maxRecDepth 100000 in
set_option maxHeartbeats 4000000 in
theorem draws_walk (sd pr po lo nw d n val : Int) (w : World) (hd : 0 ≤ d ∧ d ≤ 4294967295) (hn : -9223372036854775808 ≤ n ∧ n ≤ 9223372036854775807) :
    Calls Try.prog 5 #[.agg #[.int .u64 sd, .int .i64 pr, .int .i64 po, .int .i64 lo, .int .i64 nw], .int .u32 d, .int .i64 n, .int .i64 val] w fun e w' => e = .returned (.bool true) ∧ Below w.heap.size w w' := by
  have hA := AW.start w
  go_enter Try.func5, Try.ntmps5
  go_upto_region 1 with fail
  have hA1 := hA.put 56 #[.int .u64 sd, .int .i64 pr, .int .i64 po, .int .i64 lo, .int .i64 nw]
  obtain ⟨W, hW⟩ : ∃ W, W = (w.alloc (.cells #[.int .u64 sd, .int .i64 pr, .int .i64 po, .int .i64 lo, .int .i64 nw] 56)) := ⟨_, rfl⟩
  rw [← hW] at hA1 ⊢
  clear hW hA
  go_wp2_with fail
  go_at_call 23
  refine (awake18_c W).mono ?_
  rintro e W1 ⟨rfl, hb⟩
  have hA2 := hA1.call hb
  obtain ⟨⟨x0, x1, x2, x3, x4⟩, xf⟩ := blk5 (hA2.l _ (.head _))
  clear hA1 hb
  dsimp only at x0 x1 x2 x3 x4 xf
  obtain ⟨P, hP⟩ : ∃ P, P = IntKind.u16.wrap pr := ⟨_, rfl⟩
  obtain ⟨hP0, hP1⟩ := u16_bd pr
  rw [← hP] at hP0 hP1
  have hPs : IntKind.u16.wrap pr = P := hP.symm
  obtain ⟨N, hN⟩ : ∃ N, N = IntKind.u32.wrap nw := ⟨_, rfl⟩
  obtain ⟨hN0, hN1⟩ := u32_bd nw
  rw [← hN] at hN0 hN1
  have hNs : IntKind.u32.wrap nw = N := hN.symm
  clear hP hN
  go_wp2_with fail
  go_at_call 26
  refine (env_c sd P (po % 256) (lo % 256) N W1 hP0 hP1 (by omega) (by omega) (by omega) (by omega) hN0 hN1).mono ?_
  rintro e W2 ⟨rfl, hb⟩
  have hA3 := hA2.call hb
  have hr : IsRow W2 w.heap.size 5 := (hA3.l _ (.head _)).isRow rfl
  clear hA2 hb x0 x1 x2 x3 x4 xf hPs hNs
  obtain ⟨q, hq⟩ : ∃ q, q = po % 256 % 17 := ⟨_, rfl⟩
  obtain ⟨l, hl⟩ : ∃ l, l = 1 + lo % 256 := ⟨_, rfl⟩
  have hq0 : 0 ≤ q ∧ q ≤ 16 := by omega
  have hl0 : 1 ≤ l ∧ l ≤ 256 := by omega
  rw [← hq, ← hl]
  clear hq hl
  go_upto_region 4 with fail
  have hA4 := hA3.setRow1 (Nat.le_refl _) #[.int .u64 sd, .int .i64 P, .int .i64 q, .int .i64 l, .int .i64 N]
  obtain ⟨W3, hW⟩ : ∃ W, W = (W2.setRow w.heap.size #[.int .u64 sd, .int .i64 P, .int .i64 q, .int .i64 l, .int .i64 N]) := ⟨_, rfl⟩
  rw [← hW] at hA4 ⊢
  have hw3 : w.heap.size < W3.heap.size := (hA4.l _ (.head _)).lt
  clear hW hA3 hr
  have wd : wrap64 d = d := by unfold wrap64; omega
  have hA5 := hA4.put 53 #[.int .i64 0, .bool false, .int .i64 n, .int .i64 val, .int .i64 0, .int .i64 0, .int .i64 0, .int .i64 0, .int .i64 0, .int .i64 0, .slice none 0 0, .int .i64 d, .slice none 0 0]
  have hA6 := hA5.put' (g := W3.heap.size + 1) 28 #[.int .u8 7, .int .u8 2, .int .u8 0, .int .u8 0, .int .i64 0] (by simp)
  go_upto_region 6 with fail
  obtain ⟨W4, hW⟩ : ∃ W, W = ((W3.alloc (.cells #[.int .i64 0, .bool false, .int .i64 n, .int .i64 val, .int .i64 0, .int .i64 0, .int .i64 0, .int .i64 0, .int .i64 0, .int .i64 0, .slice none 0 0, .int .i64 d, .slice none 0 0] 53)).alloc (.cells #[.int .u8 7, .int .u8 2, .int .u8 0, .int .u8 0, .int .i64 0] 28)) := ⟨_, rfl⟩
  rw [← hW] at hA6 ⊢
  clear hW hA4 hA5
  by_cases hn1 : n < 1
  · have dn := decide_eq_true hn1
    have hE : doE ⟨0, false, fun j => match j with | 0 => n | 1 => val | _ => 0, [], d, []⟩ ⟨sd, P, q, l, N⟩ ⟨7, 2, 0, 0, 0⟩ = 186 := by simp [doE, hn1]
    obtain ⟨hT, hT0, hT1⟩ := one_top (i := ⟨7, 2, 0, 0, 0⟩) (v := ⟨sd, P, q, l, N⟩) (s := ⟨0, false, fun j => match j with | 0 => n | 1 => val | _ => 0, [], d, []⟩) (by decide) (decide_eq_true ⟨hP0, by show P ≤ 65536; omega, hq0.1, hl0.1, hN0, by show N ≤ 281474976710656; omega⟩) (decide_eq_true ⟨by show (0 : Int) ≤ 0; decide, by show (0 : Int) < 2; decide, by show (0 : Int) ≤ 1024; decide, hd.1, by show d ≤ 1099511627776; omega⟩) rfl rfl
    rw [hE] at hT hT0 hT1
    have hS := hT1 (by decide)
    have pI : IsRow W4 (W3.heap.size + 1) 5 := (hA6.l _ (.head _)).isRow rfl
    have qI : rowOf W4 (W3.heap.size + 1) = #[.int .u8 7, .int .u8 2, .int .u8 0, .int .u8 0, .int .i64 0] := (hA6.l _ (.head _)).rowOf_eq
    have ps : IsRow W4 W3.heap.size 13 := (hA6.l _ (.tail _ (.head _))).isRow rfl
    have qs : rowOf W4 W3.heap.size = #[.int .i64 0, .bool false, .int .i64 n, .int .i64 val, .int .i64 0, .int .i64 0, .int .i64 0, .int .i64 0, .int .i64 0, .int .i64 0, .slice none 0 0, .int .i64 d, .slice none 0 0] := (hA6.l _ (.tail _ (.head _))).rowOf_eq
    have pV : IsRow W4 w.heap.size 5 := (hA6.l _ (.tail _ (.tail _ (.head _)))).isRow rfl
    have qV : rowOf W4 w.heap.size = #[.int .u64 sd, .int .i64 P, .int .i64 q, .int .i64 l, .int .i64 N] := (hA6.l _ (.tail _ (.tail _ (.head _)))).rowOf_eq
    go_wp2_with fail
    clear pI qI ps qs pV qV
    go_at_call 25
    refine (call25 ⟨7, 2, 0, 0, 0⟩ ins_draw_ok ⟨sd, P, q, l, N⟩ ⟨0, false, fun j => match j with | 0 => n | 1 => val | _ => 0, [], d, []⟩ (fun C S => .agg #[.int .i64 0, .bool false, .int .i64 0, .int .i64 0, .int .i64 0, .int .i64 0, .int .i64 0, .int .i64 0, .int .i64 0, .int .i64 0, C, .int .i64 0, S]) [] [] 186 (by rw [hS]; rfl) (by rw [hS]; rfl) (by rw [hS]; rfl) hT 0 0 rfl rfl none none 0 0 0 0 (by decide) hA6 (.head _) (.tail _ (.head _))).mono ?_
    rintro e U1 ⟨B1, x1, E1, y1, rfl, hU1⟩
    have t1I : (W3.heap.size + 1) < U1.heap.size := (hU1.l _ (.head _)).lt
    have t1s : W3.heap.size < U1.heap.size := (hU1.l _ (.tail _ (.head _))).lt
    have t1V : w.heap.size < U1.heap.size := (hU1.l _ (.tail _ (.tail _ (.head _)))).lt
    have hR1 := hU1.put 53 #[.int .i64 0, .bool false, .int .i64 0, .int .i64 0, .int .i64 0, .int .i64 0, .int .i64 0, .int .i64 0, .int .i64 0, .int .i64 0, .slice B1 0 x1, .int .i64 0, .slice E1 0 y1]
    clear hU1 hA6
    have hbB := hR1.b
    go_wp2_with fail
    go_ret
    exact ⟨rfl, hbB⟩
  · have dn := decide_eq_false hn1
    have hdd1 : ¬ (d = (1099511627776 : Int)) := by omega
    have hE1 : doE ⟨0, false, fun j => match j with | 0 => n | 1 => val | _ => 0, [], d, []⟩ ⟨sd, P, q, l, N⟩ ⟨7, 2, 0, 0, 0⟩ = 0 := by
      first
        | (simp [doE, hn1, hdd1]; done)
        | (show (if (n : Int) < 1 then (186 : Int) else if d = 1099511627776 then 187 else 0) = 0; rw [if_neg hn1, if_neg hdd1])
    have hDS1 : doS ⟨0, false, fun j => match j with | 0 => n | 1 => val | _ => 0, [], d, []⟩ ⟨sd, P, q, l, N⟩ ⟨7, 2, 0, 0, 0⟩ = { St.put ⟨0, false, fun j => match j with | 0 => n | 1 => val | _ => 0, [], d, []⟩ 2 (drawI sd P d n) with draws := d + 1 } := by
      unfold doS
      rw [if_neg (fun h => h hE1)]
      rfl
    obtain ⟨hT1, hTa1, _⟩ := one_top (i := ⟨7, 2, 0, 0, 0⟩) (v := ⟨sd, P, q, l, N⟩) (s := ⟨0, false, fun j => match j with | 0 => n | 1 => val | _ => 0, [], d, []⟩) (by decide) (decide_eq_true ⟨hP0, by show P ≤ 65536; omega, by dsimp only; omega, hl0.1, by dsimp only; omega, by dsimp only; omega⟩) (decide_eq_true ⟨by show (0 : Int) ≤ 0; decide, by show (0 : Int) < 2; decide, by show (0 : Int) ≤ 1024; decide, by show (0 : Int) ≤ d; omega, by show d ≤ (1099511627776 : Int); omega⟩) rfl rfl
    have hS1 := (hTa1 hE1).trans hDS1
    rw [hE1] at hT1
    have pI : IsRow W4 (W3.heap.size + 1) 5 := (hA6.l _ (.head _)).isRow rfl
    have qI : rowOf W4 (W3.heap.size + 1) = #[.int .u8 7, .int .u8 2, .int .u8 0, .int .u8 0, .int .i64 0] := (hA6.l _ (.head _)).rowOf_eq
    have ps : IsRow W4 W3.heap.size 13 := (hA6.l _ (.tail _ (.head _))).isRow rfl
    have qs : rowOf W4 W3.heap.size = #[.int .i64 0, .bool false, .int .i64 n, .int .i64 val, .int .i64 0, .int .i64 0, .int .i64 0, .int .i64 0, .int .i64 0, .int .i64 0, .slice none 0 0, .int .i64 d, .slice none 0 0] := (hA6.l _ (.tail _ (.head _))).rowOf_eq
    have pV : IsRow W4 w.heap.size 5 := (hA6.l _ (.tail _ (.tail _ (.head _)))).isRow rfl
    have qV : rowOf W4 w.heap.size = #[.int .u64 sd, .int .i64 P, .int .i64 q, .int .i64 l, .int .i64 N] := (hA6.l _ (.tail _ (.tail _ (.head _)))).rowOf_eq
    go_wp2_with fail
    clear pI qI ps qs pV qV
    go_at_call 25
    refine (call25 ⟨7, 2, 0, 0, 0⟩ ins_draw_ok ⟨sd, P, q, l, N⟩ ⟨0, false, fun j => match j with | 0 => n | 1 => val | _ => 0, [], d, []⟩ (fun C S => .agg #[.int .i64 1, .bool false, .int .i64 n, .int .i64 val, .int .i64 (drawI sd P d n), .int .i64 0, .int .i64 0, .int .i64 0, .int .i64 0, .int .i64 0, C, .int .i64 (d + 1), S]) [] [] 0 (by rw [hS1]; rfl) (by rw [hS1]; rfl) (by rw [hS1]; rfl) hT1 0 0 rfl rfl none none 0 0 0 0 (by decide) hA6 (.head _) (.tail _ (.head _))).mono ?_
    rintro e U1 ⟨B1, x1, E1, y1, rfl, hU1⟩
    have t1I : (W3.heap.size + 1) < U1.heap.size := (hU1.l _ (.head _)).lt
    have t1s : W3.heap.size < U1.heap.size := (hU1.l _ (.tail _ (.head _))).lt
    have t1V : w.heap.size < U1.heap.size := (hU1.l _ (.tail _ (.tail _ (.head _)))).lt
    have hR1 := hU1.put 53 #[.int .i64 1, .bool false, .int .i64 n, .int .i64 val, .int .i64 (drawI sd P d n), .int .i64 0, .int .i64 0, .int .i64 0, .int .i64 0, .int .i64 0, .slice B1 0 x1, .int .i64 (d + 1), .slice E1 0 y1]
    clear hU1 hA6
    go_upto_region 9 with fail
    obtain ⟨Y9, hW⟩ : ∃ W, W = (U1.alloc (.cells #[.int .i64 1, .bool false, .int .i64 n, .int .i64 val, .int .i64 (drawI sd P d n), .int .i64 0, .int .i64 0, .int .i64 0, .int .i64 0, .int .i64 0, .slice B1 0 x1, .int .i64 (d + 1), .slice E1 0 y1] 53)) := ⟨_, rfl⟩
    rw [← hW] at hR1 ⊢
    clear hW
    have zV0 : Y9.cell? ⟨w.heap.size, 0, none⟩ = some (.int .u64 sd) := (hR1.l _ (.tail _ (.tail _ (.tail _ (.head _))))).cell 0
    have zV1 : Y9.cell? ⟨w.heap.size, 1, none⟩ = some (.int .i64 P) := (hR1.l _ (.tail _ (.tail _ (.tail _ (.head _))))).cell 1
    go_wp2_with fail
    go_at_call 27
    refine (draw_ok sd P d n Y9 hP0 (by omega) (by omega) (by omega) (by omega)).mono ?_
    rintro e X9 ⟨rfl, hb⟩
    have hX9 := hR1.call hb
    clear zV0 zV1 hb hR1
    obtain ⟨hB0, hB1⟩ := drawI_bd sd P d n (by omega) (by omega)
    obtain ⟨hB2, hB3⟩ := drawI_bd sd P (d + 1) n (by omega) (by omega)
    obtain ⟨D1, hD1⟩ : ∃ D, D = drawI sd P d n := ⟨_, rfl⟩
    obtain ⟨D2, hD2⟩ : ∃ D, D = drawI sd P (d + 1) n := ⟨_, rfl⟩
    rw [← hD1] at hX9 hB0 hB1 ⊢
    rw [← hD2] at hB2 hB3
    have HD1 := Lib.hid hD1
    have HD2 := Lib.hid hD2
    clear hD1 hD2 hE1 hDS1 hT1 hTa1 hS1
    have b1 : decide (D1 < 0) = false := decide_eq_false (by omega)
    have b2 : decide (n ≤ D1) = false := decide_eq_false (by omega)
    have wd1 : wrap64 (d + 1) = d + 1 := by unfold wrap64; omega
    have zt4 : X9.cell? ⟨U1.heap.size, 4, none⟩ = some (.int .i64 D1) := (hX9.l _ (.head _)).cell 4
    have zt11 : X9.cell? ⟨U1.heap.size, 11, none⟩ = some (.int .i64 (d + 1)) := (hX9.l _ (.head _)).cell 11
    have zt0 : X9.cell? ⟨U1.heap.size, 0, none⟩ = some (.int .i64 1) := (hX9.l _ (.head _)).cell 0
    have ft : ∀ i, X9.frozen? ⟨U1.heap.size, i, none⟩ = false := fun i => (hX9.l _ (.head _)).frozen i
    have hs1 : AW w [⟨U1.heap.size, 53, #[.int .i64 0, .bool false, .int .i64 n, .int .i64 val, .int .i64 D1, .int .i64 0, .int .i64 0, .int .i64 0, .int .i64 0, .int .i64 0, .slice B1 0 x1, .int .i64 (d + 1), .slice E1 0 y1]⟩, ⟨(W3.heap.size + 1), 28, #[.int .u8 7, .int .u8 2, .int .u8 0, .int .u8 0, .int .i64 0]⟩, ⟨W3.heap.size, 53, #[.int .i64 0, .bool false, .int .i64 n, .int .i64 val, .int .i64 0, .int .i64 0, .int .i64 0, .int .i64 0, .int .i64 0, .int .i64 0, .slice none 0 0, .int .i64 d, .slice none 0 0]⟩, ⟨w.heap.size, 56, #[.int .u64 sd, .int .i64 P, .int .i64 q, .int .i64 l, .int .i64 N]⟩] [⟨1, B1, 0, int64s []⟩, ⟨3, E1, 0, sndsV []⟩, ⟨1, none, 0, []⟩, ⟨3, none, 0, []⟩] _ := AW.upd (L := [⟨(W3.heap.size + 1), 28, #[.int .u8 7, .int .u8 2, .int .u8 0, .int .u8 0, .int .i64 0]⟩, ⟨W3.heap.size, 53, #[.int .i64 0, .bool false, .int .i64 n, .int .i64 val, .int .i64 0, .int .i64 0, .int .i64 0, .int .i64 0, .int .i64 0, .int .i64 0, .slice none 0 0, .int .i64 d, .slice none 0 0]⟩, ⟨w.heap.size, 56, #[.int .u64 sd, .int .i64 P, .int .i64 q, .int .i64 l, .int .i64 N]⟩]) (R := [⟨1, B1, 0, int64s []⟩, ⟨3, E1, 0, sndsV []⟩, ⟨1, none, 0, []⟩, ⟨3, none, 0, []⟩]) (hX9.less (L' := [⟨U1.heap.size, 53, #[.int .i64 1, .bool false, .int .i64 n, .int .i64 val, .int .i64 D1, .int .i64 0, .int .i64 0, .int .i64 0, .int .i64 0, .int .i64 0, .slice B1 0 x1, .int .i64 (d + 1), .slice E1 0 y1]⟩, ⟨(W3.heap.size + 1), 28, #[.int .u8 7, .int .u8 2, .int .u8 0, .int .u8 0, .int .i64 0]⟩, ⟨W3.heap.size, 53, #[.int .i64 0, .bool false, .int .i64 n, .int .i64 val, .int .i64 0, .int .i64 0, .int .i64 0, .int .i64 0, .int .i64 0, .int .i64 0, .slice none 0 0, .int .i64 d, .slice none 0 0]⟩, ⟨w.heap.size, 56, #[.int .u64 sd, .int .i64 P, .int .i64 q, .int .i64 l, .int .i64 N]⟩]) (by intro e he; simp only [List.mem_cons, List.not_mem_nil, or_false] at he; rcases he with rfl | rfl | rfl | rfl <;> simp) (fun _ h => h)) (by omega) (by intro e he; simp only [List.mem_cons, List.not_mem_nil, or_false] at he; rcases he with rfl | rfl | rfl | rfl <;> exact ⟨rfl, rfl⟩) (by intro e he; simp only [List.mem_cons, List.not_mem_nil, or_false] at he; rcases he with rfl | rfl | rfl <;> (dsimp only; omega)) 0 (.int .i64 0)
    clear hX9
    go_upto_region 13 with fail
    obtain ⟨Y13, hW⟩ : ∃ W, W = (X9.setCell ⟨U1.heap.size, 0, none⟩ (.int .i64 0)) := ⟨_, rfl⟩
    rw [← hW] at hs1 ⊢
    clear hW
    clear zt4 zt11 zt0 ft
    have hdd2 : ¬ ((d + 1) = (1099511627776 : Int)) := by omega
    have hE2 : doE ⟨0, false, fun j => match j with | 0 => n | 1 => val | 2 => D1 | _ => 0, [], d + 1, []⟩ ⟨sd, P, q, l, N⟩ ⟨7, 2, 0, 0, 0⟩ = 0 := by
      first
        | (simp [doE, hn1, hdd2]; done)
        | (show (if (n : Int) < 1 then (186 : Int) else if (d + 1) = 1099511627776 then 187 else 0) = 0; rw [if_neg hn1, if_neg hdd2])
    have hDS2 : doS ⟨0, false, fun j => match j with | 0 => n | 1 => val | 2 => D1 | _ => 0, [], d + 1, []⟩ ⟨sd, P, q, l, N⟩ ⟨7, 2, 0, 0, 0⟩ = { St.put ⟨0, false, fun j => match j with | 0 => n | 1 => val | 2 => D1 | _ => 0, [], d + 1, []⟩ 2 D2 with draws := (d + 1) + 1 } := by
      rw [HD2.out]
      unfold doS
      rw [if_neg (fun h => h hE2)]
      rfl
    obtain ⟨hT2, hTa2, _⟩ := one_top (i := ⟨7, 2, 0, 0, 0⟩) (v := ⟨sd, P, q, l, N⟩) (s := ⟨0, false, fun j => match j with | 0 => n | 1 => val | 2 => D1 | _ => 0, [], d + 1, []⟩) (by decide) (decide_eq_true ⟨hP0, by show P ≤ 65536; omega, by dsimp only; omega, hl0.1, by dsimp only; omega, by dsimp only; omega⟩) (decide_eq_true ⟨by show (0 : Int) ≤ 0; decide, by show (0 : Int) < 2; decide, by show (0 : Int) ≤ 1024; decide, by show (0 : Int) ≤ (d + 1); omega, by show (d + 1) ≤ (1099511627776 : Int); omega⟩) rfl rfl
    have hS2 := (hTa2 hE2).trans hDS2
    rw [hE2] at hT2
    have pt : IsRow Y13 U1.heap.size 13 := (hs1.l _ (.head _)).isRow rfl
    have qt : rowOf Y13 U1.heap.size = #[.int .i64 0, .bool false, .int .i64 n, .int .i64 val, .int .i64 D1, .int .i64 0, .int .i64 0, .int .i64 0, .int .i64 0, .int .i64 0, .slice B1 0 x1, .int .i64 (d + 1), .slice E1 0 y1] := (hs1.l _ (.head _)).rowOf_eq
    have pI : IsRow Y13 (W3.heap.size + 1) 5 := (hs1.l _ (.tail _ (.head _))).isRow rfl
    have qI : rowOf Y13 (W3.heap.size + 1) = #[.int .u8 7, .int .u8 2, .int .u8 0, .int .u8 0, .int .i64 0] := (hs1.l _ (.tail _ (.head _))).rowOf_eq
    have pV : IsRow Y13 w.heap.size 5 := (hs1.l _ (.tail _ (.tail _ (.tail _ (.head _))))).isRow rfl
    have qV : rowOf Y13 w.heap.size = #[.int .u64 sd, .int .i64 P, .int .i64 q, .int .i64 l, .int .i64 N] := (hs1.l _ (.tail _ (.tail _ (.tail _ (.head _))))).rowOf_eq
    go_wp2_with fail
    clear pt qt pI qI pV qV
    go_at_call 25
    refine (call25 ⟨7, 2, 0, 0, 0⟩ ins_draw_ok ⟨sd, P, q, l, N⟩ ⟨0, false, fun j => match j with | 0 => n | 1 => val | 2 => D1 | _ => 0, [], d + 1, []⟩ (fun C S => .agg #[.int .i64 1, .bool false, .int .i64 n, .int .i64 val, .int .i64 D2, .int .i64 0, .int .i64 0, .int .i64 0, .int .i64 0, .int .i64 0, C, .int .i64 (d + 1 + 1), S]) [] [] 0 (by rw [hS2]; rfl) (by rw [hS2]; rfl) (by rw [hS2]; rfl) hT2 0 0 rfl rfl B1 E1 0 0 x1 y1 (by decide) hs1 (.head _) (.tail _ (.head _))).mono ?_
    rintro e U2 ⟨B2, x2, E2, y2, rfl, hU2⟩
    have t2t : U1.heap.size < U2.heap.size := (hU2.l _ (.head _)).lt
    have t2I : (W3.heap.size + 1) < U2.heap.size := (hU2.l _ (.tail _ (.head _))).lt
    have t2s : W3.heap.size < U2.heap.size := (hU2.l _ (.tail _ (.tail _ (.head _)))).lt
    have t2V : w.heap.size < U2.heap.size := (hU2.l _ (.tail _ (.tail _ (.tail _ (.head _))))).lt
    have hR2 := hU2.put 53 #[.int .i64 1, .bool false, .int .i64 n, .int .i64 val, .int .i64 D2, .int .i64 0, .int .i64 0, .int .i64 0, .int .i64 0, .int .i64 0, .slice B2 0 x2, .int .i64 (d + 1 + 1), .slice E2 0 y2]
    clear hU2 hs1
    go_upto_region 14 with fail
    obtain ⟨Y14, hW⟩ : ∃ W, W = (U2.alloc (.cells #[.int .i64 1, .bool false, .int .i64 n, .int .i64 val, .int .i64 D2, .int .i64 0, .int .i64 0, .int .i64 0, .int .i64 0, .int .i64 0, .slice B2 0 x2, .int .i64 (d + 1 + 1), .slice E2 0 y2] 53)) := ⟨_, rfl⟩
    rw [← hW] at hR2 ⊢
    clear hW
    have zV0 : Y14.cell? ⟨w.heap.size, 0, none⟩ = some (.int .u64 sd) := (hR2.l _ (.tail _ (.tail _ (.tail _ (.tail _ (.head _)))))).cell 0
    have zV1 : Y14.cell? ⟨w.heap.size, 1, none⟩ = some (.int .i64 P) := (hR2.l _ (.tail _ (.tail _ (.tail _ (.tail _ (.head _)))))).cell 1
    go_wp2_with fail
    go_at_call 27
    refine (draw_ok sd P (d + 1) n Y14 hP0 (by omega) (by omega) (by omega) (by omega)).mono ?_
    rintro e X14 ⟨rfl, hb⟩
    have hX14 := hR2.call hb
    clear zV0 zV1 hb hR2
    rw [← HD2.out]
    have l14u : U2.heap.size < X14.heap.size := (hX14.l _ (.head _)).lt
    have l14t : U1.heap.size < X14.heap.size := (hX14.l _ (.tail _ (.head _))).lt
    have l14I : (W3.heap.size + 1) < X14.heap.size := (hX14.l _ (.tail _ (.tail _ (.head _)))).lt
    have l14s : W3.heap.size < X14.heap.size := (hX14.l _ (.tail _ (.tail _ (.tail _ (.head _))))).lt
    have l14V : w.heap.size < X14.heap.size := (hX14.l _ (.tail _ (.tail _ (.tail _ (.tail _ (.head _)))))).lt
    obtain ⟨v1, hv1⟩ : ∃ v1, v1 = wrap64 (val + 1) := ⟨_, rfl⟩
    have hv1s : wrap64 (val + 1) = v1 := hv1.symm
    clear hv1
    have zs3 : X14.cell? ⟨W3.heap.size, 3, none⟩ = some (.int .i64 val) := (hX14.l _ (.tail _ (.tail _ (.tail _ (.head _))))).cell 3
    have fs : ∀ i, X14.frozen? ⟨W3.heap.size, i, none⟩ = false := fun i => (hX14.l _ (.tail _ (.tail _ (.tail _ (.head _))))).frozen i
    have hs2 : AW w [⟨W3.heap.size, 53, #[.int .i64 0, .bool false, .int .i64 n, .int .i64 v1, .int .i64 0, .int .i64 0, .int .i64 0, .int .i64 0, .int .i64 0, .int .i64 0, .slice none 0 0, .int .i64 d, .slice none 0 0]⟩, ⟨U2.heap.size, 53, #[.int .i64 1, .bool false, .int .i64 n, .int .i64 val, .int .i64 D2, .int .i64 0, .int .i64 0, .int .i64 0, .int .i64 0, .int .i64 0, .slice B2 0 x2, .int .i64 (d + 1 + 1), .slice E2 0 y2]⟩, ⟨U1.heap.size, 53, #[.int .i64 0, .bool false, .int .i64 n, .int .i64 val, .int .i64 D1, .int .i64 0, .int .i64 0, .int .i64 0, .int .i64 0, .int .i64 0, .slice B1 0 x1, .int .i64 (d + 1), .slice E1 0 y1]⟩, ⟨(W3.heap.size + 1), 28, #[.int .u8 7, .int .u8 2, .int .u8 0, .int .u8 0, .int .i64 0]⟩, ⟨w.heap.size, 56, #[.int .u64 sd, .int .i64 P, .int .i64 q, .int .i64 l, .int .i64 N]⟩] [⟨1, B2, 0, int64s []⟩, ⟨3, E2, 0, sndsV []⟩, ⟨1, B1, 0, int64s []⟩, ⟨3, E1, 0, sndsV []⟩, ⟨1, none, 0, []⟩, ⟨3, none, 0, []⟩] _ := AW.upd (L := [⟨U2.heap.size, 53, #[.int .i64 1, .bool false, .int .i64 n, .int .i64 val, .int .i64 D2, .int .i64 0, .int .i64 0, .int .i64 0, .int .i64 0, .int .i64 0, .slice B2 0 x2, .int .i64 (d + 1 + 1), .slice E2 0 y2]⟩, ⟨U1.heap.size, 53, #[.int .i64 0, .bool false, .int .i64 n, .int .i64 val, .int .i64 D1, .int .i64 0, .int .i64 0, .int .i64 0, .int .i64 0, .int .i64 0, .slice B1 0 x1, .int .i64 (d + 1), .slice E1 0 y1]⟩, ⟨(W3.heap.size + 1), 28, #[.int .u8 7, .int .u8 2, .int .u8 0, .int .u8 0, .int .i64 0]⟩, ⟨w.heap.size, 56, #[.int .u64 sd, .int .i64 P, .int .i64 q, .int .i64 l, .int .i64 N]⟩]) (R := [⟨1, B2, 0, int64s []⟩, ⟨3, E2, 0, sndsV []⟩, ⟨1, B1, 0, int64s []⟩, ⟨3, E1, 0, sndsV []⟩, ⟨1, none, 0, []⟩, ⟨3, none, 0, []⟩]) (hX14.less (L' := [⟨W3.heap.size, 53, #[.int .i64 0, .bool false, .int .i64 n, .int .i64 val, .int .i64 0, .int .i64 0, .int .i64 0, .int .i64 0, .int .i64 0, .int .i64 0, .slice none 0 0, .int .i64 d, .slice none 0 0]⟩, ⟨U2.heap.size, 53, #[.int .i64 1, .bool false, .int .i64 n, .int .i64 val, .int .i64 D2, .int .i64 0, .int .i64 0, .int .i64 0, .int .i64 0, .int .i64 0, .slice B2 0 x2, .int .i64 (d + 1 + 1), .slice E2 0 y2]⟩, ⟨U1.heap.size, 53, #[.int .i64 0, .bool false, .int .i64 n, .int .i64 val, .int .i64 D1, .int .i64 0, .int .i64 0, .int .i64 0, .int .i64 0, .int .i64 0, .slice B1 0 x1, .int .i64 (d + 1), .slice E1 0 y1]⟩, ⟨(W3.heap.size + 1), 28, #[.int .u8 7, .int .u8 2, .int .u8 0, .int .u8 0, .int .i64 0]⟩, ⟨w.heap.size, 56, #[.int .u64 sd, .int .i64 P, .int .i64 q, .int .i64 l, .int .i64 N]⟩]) (by intro e he; simp only [List.mem_cons, List.not_mem_nil, or_false] at he; rcases he with rfl | rfl | rfl | rfl | rfl <;> simp) (fun _ h => h)) (by omega) (by intro e he; simp only [List.mem_cons, List.not_mem_nil, or_false] at he; rcases he with rfl | rfl | rfl | rfl | rfl | rfl <;> exact ⟨rfl, rfl⟩) (by intro e he; simp only [List.mem_cons, List.not_mem_nil, or_false] at he; rcases he with rfl | rfl | rfl | rfl <;> (dsimp only; omega)) 3 (.int .i64 v1)
    clear hX14
    go_upto_region 16 with fail
    obtain ⟨Y16, hW⟩ : ∃ W, W = (X14.setCell ⟨W3.heap.size, 3, none⟩ (.int .i64 v1)) := ⟨_, rfl⟩
    rw [← hW] at hs2 ⊢
    clear hW
    clear zs3 fs hv1s
    have l16s : W3.heap.size < Y16.heap.size := (hs2.l _ (.head _)).lt
    have l16u : U2.heap.size < Y16.heap.size := (hs2.l _ (.tail _ (.head _))).lt
    have l16t : U1.heap.size < Y16.heap.size := (hs2.l _ (.tail _ (.tail _ (.head _)))).lt
    have l16I : (W3.heap.size + 1) < Y16.heap.size := (hs2.l _ (.tail _ (.tail _ (.tail _ (.head _))))).lt
    have l16V : w.heap.size < Y16.heap.size := (hs2.l _ (.tail _ (.tail _ (.tail _ (.tail _ (.head _)))))).lt
    have zs10 : Y16.cell? ⟨W3.heap.size, 10, none⟩ = some (.slice none 0 0) := (hs2.l _ (.head _)).cell 10
    have zs12 : Y16.cell? ⟨W3.heap.size, 12, none⟩ = some (.slice none 0 0) := (hs2.l _ (.head _)).cell 12
    have fs : ∀ i, Y16.frozen? ⟨W3.heap.size, i, none⟩ = false := fun i => (hs2.l _ (.head _)).frozen i
    have hs3 : AW w [⟨W3.heap.size, 53, #[.int .i64 0, .bool false, .int .i64 n, .int .i64 v1, .int .i64 0, .int .i64 0, .int .i64 0, .int .i64 0, .int .i64 0, .int .i64 0, .slice (some ⟨Y16.heap.size, 0, none⟩) 1 1, .int .i64 d, .slice none 0 0]⟩, ⟨U2.heap.size, 53, #[.int .i64 1, .bool false, .int .i64 n, .int .i64 val, .int .i64 D2, .int .i64 0, .int .i64 0, .int .i64 0, .int .i64 0, .int .i64 0, .slice B2 0 x2, .int .i64 (d + 1 + 1), .slice E2 0 y2]⟩, ⟨U1.heap.size, 53, #[.int .i64 0, .bool false, .int .i64 n, .int .i64 val, .int .i64 D1, .int .i64 0, .int .i64 0, .int .i64 0, .int .i64 0, .int .i64 0, .slice B1 0 x1, .int .i64 (d + 1), .slice E1 0 y1]⟩, ⟨(W3.heap.size + 1), 28, #[.int .u8 7, .int .u8 2, .int .u8 0, .int .u8 0, .int .i64 0]⟩, ⟨w.heap.size, 56, #[.int .u64 sd, .int .i64 P, .int .i64 q, .int .i64 l, .int .i64 N]⟩] [⟨1, B2, 0, int64s []⟩, ⟨3, E2, 0, sndsV []⟩, ⟨1, B1, 0, int64s []⟩, ⟨3, E1, 0, sndsV []⟩, ⟨1, none, 0, []⟩, ⟨3, none, 0, []⟩] _ := AW.upd (L := [⟨U2.heap.size, 53, #[.int .i64 1, .bool false, .int .i64 n, .int .i64 val, .int .i64 D2, .int .i64 0, .int .i64 0, .int .i64 0, .int .i64 0, .int .i64 0, .slice B2 0 x2, .int .i64 (d + 1 + 1), .slice E2 0 y2]⟩, ⟨U1.heap.size, 53, #[.int .i64 0, .bool false, .int .i64 n, .int .i64 val, .int .i64 D1, .int .i64 0, .int .i64 0, .int .i64 0, .int .i64 0, .int .i64 0, .slice B1 0 x1, .int .i64 (d + 1), .slice E1 0 y1]⟩, ⟨(W3.heap.size + 1), 28, #[.int .u8 7, .int .u8 2, .int .u8 0, .int .u8 0, .int .i64 0]⟩, ⟨w.heap.size, 56, #[.int .u64 sd, .int .i64 P, .int .i64 q, .int .i64 l, .int .i64 N]⟩]) (R := [⟨1, B2, 0, int64s []⟩, ⟨3, E2, 0, sndsV []⟩, ⟨1, B1, 0, int64s []⟩, ⟨3, E1, 0, sndsV []⟩, ⟨1, none, 0, []⟩, ⟨3, none, 0, []⟩]) (hs2.less (L' := [⟨W3.heap.size, 53, #[.int .i64 0, .bool false, .int .i64 n, .int .i64 v1, .int .i64 0, .int .i64 0, .int .i64 0, .int .i64 0, .int .i64 0, .int .i64 0, .slice none 0 0, .int .i64 d, .slice none 0 0]⟩, ⟨U2.heap.size, 53, #[.int .i64 1, .bool false, .int .i64 n, .int .i64 val, .int .i64 D2, .int .i64 0, .int .i64 0, .int .i64 0, .int .i64 0, .int .i64 0, .slice B2 0 x2, .int .i64 (d + 1 + 1), .slice E2 0 y2]⟩, ⟨U1.heap.size, 53, #[.int .i64 0, .bool false, .int .i64 n, .int .i64 val, .int .i64 D1, .int .i64 0, .int .i64 0, .int .i64 0, .int .i64 0, .int .i64 0, .slice B1 0 x1, .int .i64 (d + 1), .slice E1 0 y1]⟩, ⟨(W3.heap.size + 1), 28, #[.int .u8 7, .int .u8 2, .int .u8 0, .int .u8 0, .int .i64 0]⟩, ⟨w.heap.size, 56, #[.int .u64 sd, .int .i64 P, .int .i64 q, .int .i64 l, .int .i64 N]⟩]) (by intro e he; simp only [List.mem_cons, List.not_mem_nil, or_false] at he; rcases he with rfl | rfl | rfl | rfl | rfl <;> simp) (fun _ h => h)) (by omega) (by intro e he; simp only [List.mem_cons, List.not_mem_nil, or_false] at he; rcases he with rfl | rfl | rfl | rfl | rfl | rfl <;> exact ⟨rfl, rfl⟩) (by intro e he; simp only [List.mem_cons, List.not_mem_nil, or_false] at he; rcases he with rfl | rfl | rfl | rfl <;> (dsimp only; omega)) 10 (.slice (some ⟨Y16.heap.size, 0, none⟩) 1 1)
    clear hs2
    have hs4 : AW w [⟨W3.heap.size, 53, #[.int .i64 0, .bool false, .int .i64 n, .int .i64 v1, .int .i64 0, .int .i64 0, .int .i64 0, .int .i64 0, .int .i64 0, .int .i64 0, .slice (some ⟨Y16.heap.size, 0, none⟩) 1 1, .int .i64 d, .slice (some ⟨Y16.heap.size + 1, 0, none⟩) 1 1]⟩, ⟨U2.heap.size, 53, #[.int .i64 1, .bool false, .int .i64 n, .int .i64 val, .int .i64 D2, .int .i64 0, .int .i64 0, .int .i64 0, .int .i64 0, .int .i64 0, .slice B2 0 x2, .int .i64 (d + 1 + 1), .slice E2 0 y2]⟩, ⟨U1.heap.size, 53, #[.int .i64 0, .bool false, .int .i64 n, .int .i64 val, .int .i64 D1, .int .i64 0, .int .i64 0, .int .i64 0, .int .i64 0, .int .i64 0, .slice B1 0 x1, .int .i64 (d + 1), .slice E1 0 y1]⟩, ⟨(W3.heap.size + 1), 28, #[.int .u8 7, .int .u8 2, .int .u8 0, .int .u8 0, .int .i64 0]⟩, ⟨w.heap.size, 56, #[.int .u64 sd, .int .i64 P, .int .i64 q, .int .i64 l, .int .i64 N]⟩] [⟨1, B2, 0, int64s []⟩, ⟨3, E2, 0, sndsV []⟩, ⟨1, B1, 0, int64s []⟩, ⟨3, E1, 0, sndsV []⟩, ⟨1, none, 0, []⟩, ⟨3, none, 0, []⟩] _ := AW.upd (L := [⟨U2.heap.size, 53, #[.int .i64 1, .bool false, .int .i64 n, .int .i64 val, .int .i64 D2, .int .i64 0, .int .i64 0, .int .i64 0, .int .i64 0, .int .i64 0, .slice B2 0 x2, .int .i64 (d + 1 + 1), .slice E2 0 y2]⟩, ⟨U1.heap.size, 53, #[.int .i64 0, .bool false, .int .i64 n, .int .i64 val, .int .i64 D1, .int .i64 0, .int .i64 0, .int .i64 0, .int .i64 0, .int .i64 0, .slice B1 0 x1, .int .i64 (d + 1), .slice E1 0 y1]⟩, ⟨(W3.heap.size + 1), 28, #[.int .u8 7, .int .u8 2, .int .u8 0, .int .u8 0, .int .i64 0]⟩, ⟨w.heap.size, 56, #[.int .u64 sd, .int .i64 P, .int .i64 q, .int .i64 l, .int .i64 N]⟩]) (R := [⟨1, B2, 0, int64s []⟩, ⟨3, E2, 0, sndsV []⟩, ⟨1, B1, 0, int64s []⟩, ⟨3, E1, 0, sndsV []⟩, ⟨1, none, 0, []⟩, ⟨3, none, 0, []⟩]) (hs3.less (L' := [⟨W3.heap.size, 53, #[.int .i64 0, .bool false, .int .i64 n, .int .i64 v1, .int .i64 0, .int .i64 0, .int .i64 0, .int .i64 0, .int .i64 0, .int .i64 0, .slice (some ⟨Y16.heap.size, 0, none⟩) 1 1, .int .i64 d, .slice none 0 0]⟩, ⟨U2.heap.size, 53, #[.int .i64 1, .bool false, .int .i64 n, .int .i64 val, .int .i64 D2, .int .i64 0, .int .i64 0, .int .i64 0, .int .i64 0, .int .i64 0, .slice B2 0 x2, .int .i64 (d + 1 + 1), .slice E2 0 y2]⟩, ⟨U1.heap.size, 53, #[.int .i64 0, .bool false, .int .i64 n, .int .i64 val, .int .i64 D1, .int .i64 0, .int .i64 0, .int .i64 0, .int .i64 0, .int .i64 0, .slice B1 0 x1, .int .i64 (d + 1), .slice E1 0 y1]⟩, ⟨(W3.heap.size + 1), 28, #[.int .u8 7, .int .u8 2, .int .u8 0, .int .u8 0, .int .i64 0]⟩, ⟨w.heap.size, 56, #[.int .u64 sd, .int .i64 P, .int .i64 q, .int .i64 l, .int .i64 N]⟩]) (by intro e he; simp only [List.mem_cons, List.not_mem_nil, or_false] at he; rcases he with rfl | rfl | rfl | rfl | rfl <;> simp) (fun _ h => h)) (by omega) (by intro e he; simp only [List.mem_cons, List.not_mem_nil, or_false] at he; rcases he with rfl | rfl | rfl | rfl | rfl | rfl <;> exact ⟨rfl, rfl⟩) (by intro e he; simp only [List.mem_cons, List.not_mem_nil, or_false] at he; rcases he with rfl | rfl | rfl | rfl <;> (dsimp only; omega)) 12 (.slice (some ⟨Y16.heap.size + 1, 0, none⟩) 1 1)
    clear hs3
    have hZ1 := hs4.put' (g := Y16.heap.size) 2 #[.int .i64 val] (by simp)
    have hZ2 := hZ1.put' (g := Y16.heap.size + 1) 64 #[.int .i64 0, .int .i64 0, .int .i64 0] (by simp)
    clear hZ1 hs4
    have nq1 : ¬ W3.heap.size = Y16.heap.size := by omega
    have nq2 : ¬ W3.heap.size = Y16.heap.size + 1 := by omega
    go_upto_region 17 with fail
    obtain ⟨Y17, hW⟩ : ∃ W, W = ((((Y16.setCell ⟨W3.heap.size, 10, none⟩ (.slice (some ⟨Y16.heap.size, 0, none⟩) 1 1)).setCell ⟨W3.heap.size, 12, none⟩ (.slice (some ⟨Y16.heap.size + 1, 0, none⟩) 1 1)).alloc (.cells #[.int .i64 val] 2)).alloc (.cells #[.int .i64 0, .int .i64 0, .int .i64 0] 64)) := ⟨_, rfl⟩
    rw [← hW] at hZ2 ⊢
    clear hW
    clear zs10 zs12 fs
    have l17A3 : (Y16.heap.size + 1) < Y17.heap.size := (hZ2.l _ (.head _)).lt
    have l17A1 : Y16.heap.size < Y17.heap.size := (hZ2.l _ (.tail _ (.head _))).lt
    have l17s : W3.heap.size < Y17.heap.size := (hZ2.l _ (.tail _ (.tail _ (.head _)))).lt
    have l17u : U2.heap.size < Y17.heap.size := (hZ2.l _ (.tail _ (.tail _ (.tail _ (.head _))))).lt
    have l17t : U1.heap.size < Y17.heap.size := (hZ2.l _ (.tail _ (.tail _ (.tail _ (.tail _ (.head _)))))).lt
    have l17I : (W3.heap.size + 1) < Y17.heap.size := (hZ2.l _ (.tail _ (.tail _ (.tail _ (.tail _ (.tail _ (.head _))))))).lt
    have l17V : w.heap.size < Y17.heap.size := (hZ2.l _ (.tail _ (.tail _ (.tail _ (.tail _ (.tail _ (.tail _ (.head _)))))))).lt
    have pV : IsRow Y17 w.heap.size 5 := (hZ2.l _ (.tail _ (.tail _ (.tail _ (.tail _ (.tail _ (.tail _ (.head _)))))))).isRow rfl
    have qV : rowOf Y17 w.heap.size = #[.int .u64 sd, .int .i64 P, .int .i64 q, .int .i64 l, .int .i64 N] := (hZ2.l _ (.tail _ (.tail _ (.tail _ (.tail _ (.tail _ (.tail _ (.head _)))))))).rowOf_eq
    have hw17 := hZ2.put' (g := Y17.heap.size) 56 #[.int .u64 sd, .int .i64 P, .int .i64 q, .int .i64 l, .int .i64 N] rfl
    clear hZ2
    go_upto_region 18 with fail
    obtain ⟨Y18, hW⟩ : ∃ W, W = (Y17.alloc (.cells #[.int .u64 sd, .int .i64 P, .int .i64 q, .int .i64 l, .int .i64 N] 56)) := ⟨_, rfl⟩
    rw [← hW] at hw17 ⊢
    clear hW
    clear pV qV
    have zw4 : Y18.cell? ⟨Y17.heap.size, 4, none⟩ = some (.int .i64 N) := (hw17.l _ (.head _)).cell 4
    have zw2 : Y18.cell? ⟨Y17.heap.size, 2, none⟩ = some (.int .i64 q) := (hw17.l _ (.head _)).cell 2
    have fw : ∀ i, Y18.frozen? ⟨Y17.heap.size, i, none⟩ = false := fun i => (hw17.l _ (.head _)).frozen i
    have hs5 : AW w [⟨Y17.heap.size, 56, #[.int .u64 sd, .int .i64 P, .int .i64 q, .int .i64 l, .int .i64 0]⟩, ⟨(Y16.heap.size + 1), 64, #[.int .i64 0, .int .i64 0, .int .i64 0]⟩, ⟨Y16.heap.size, 2, #[.int .i64 val]⟩, ⟨W3.heap.size, 53, #[.int .i64 0, .bool false, .int .i64 n, .int .i64 v1, .int .i64 0, .int .i64 0, .int .i64 0, .int .i64 0, .int .i64 0, .int .i64 0, .slice (some ⟨Y16.heap.size, 0, none⟩) 1 1, .int .i64 d, .slice (some ⟨Y16.heap.size + 1, 0, none⟩) 1 1]⟩, ⟨U2.heap.size, 53, #[.int .i64 1, .bool false, .int .i64 n, .int .i64 val, .int .i64 D2, .int .i64 0, .int .i64 0, .int .i64 0, .int .i64 0, .int .i64 0, .slice B2 0 x2, .int .i64 (d + 1 + 1), .slice E2 0 y2]⟩, ⟨U1.heap.size, 53, #[.int .i64 0, .bool false, .int .i64 n, .int .i64 val, .int .i64 D1, .int .i64 0, .int .i64 0, .int .i64 0, .int .i64 0, .int .i64 0, .slice B1 0 x1, .int .i64 (d + 1), .slice E1 0 y1]⟩, ⟨(W3.heap.size + 1), 28, #[.int .u8 7, .int .u8 2, .int .u8 0, .int .u8 0, .int .i64 0]⟩, ⟨w.heap.size, 56, #[.int .u64 sd, .int .i64 P, .int .i64 q, .int .i64 l, .int .i64 N]⟩] [⟨1, B2, 0, int64s []⟩, ⟨3, E2, 0, sndsV []⟩, ⟨1, B1, 0, int64s []⟩, ⟨3, E1, 0, sndsV []⟩, ⟨1, none, 0, []⟩, ⟨3, none, 0, []⟩] _ := AW.upd (L := [⟨(Y16.heap.size + 1), 64, #[.int .i64 0, .int .i64 0, .int .i64 0]⟩, ⟨Y16.heap.size, 2, #[.int .i64 val]⟩, ⟨W3.heap.size, 53, #[.int .i64 0, .bool false, .int .i64 n, .int .i64 v1, .int .i64 0, .int .i64 0, .int .i64 0, .int .i64 0, .int .i64 0, .int .i64 0, .slice (some ⟨Y16.heap.size, 0, none⟩) 1 1, .int .i64 d, .slice (some ⟨Y16.heap.size + 1, 0, none⟩) 1 1]⟩, ⟨U2.heap.size, 53, #[.int .i64 1, .bool false, .int .i64 n, .int .i64 val, .int .i64 D2, .int .i64 0, .int .i64 0, .int .i64 0, .int .i64 0, .int .i64 0, .slice B2 0 x2, .int .i64 (d + 1 + 1), .slice E2 0 y2]⟩, ⟨U1.heap.size, 53, #[.int .i64 0, .bool false, .int .i64 n, .int .i64 val, .int .i64 D1, .int .i64 0, .int .i64 0, .int .i64 0, .int .i64 0, .int .i64 0, .slice B1 0 x1, .int .i64 (d + 1), .slice E1 0 y1]⟩, ⟨(W3.heap.size + 1), 28, #[.int .u8 7, .int .u8 2, .int .u8 0, .int .u8 0, .int .i64 0]⟩, ⟨w.heap.size, 56, #[.int .u64 sd, .int .i64 P, .int .i64 q, .int .i64 l, .int .i64 N]⟩]) (R := [⟨1, B2, 0, int64s []⟩, ⟨3, E2, 0, sndsV []⟩, ⟨1, B1, 0, int64s []⟩, ⟨3, E1, 0, sndsV []⟩, ⟨1, none, 0, []⟩, ⟨3, none, 0, []⟩]) (hw17.less (L' := [⟨Y17.heap.size, 56, #[.int .u64 sd, .int .i64 P, .int .i64 q, .int .i64 l, .int .i64 N]⟩, ⟨(Y16.heap.size + 1), 64, #[.int .i64 0, .int .i64 0, .int .i64 0]⟩, ⟨Y16.heap.size, 2, #[.int .i64 val]⟩, ⟨W3.heap.size, 53, #[.int .i64 0, .bool false, .int .i64 n, .int .i64 v1, .int .i64 0, .int .i64 0, .int .i64 0, .int .i64 0, .int .i64 0, .int .i64 0, .slice (some ⟨Y16.heap.size, 0, none⟩) 1 1, .int .i64 d, .slice (some ⟨Y16.heap.size + 1, 0, none⟩) 1 1]⟩, ⟨U2.heap.size, 53, #[.int .i64 1, .bool false, .int .i64 n, .int .i64 val, .int .i64 D2, .int .i64 0, .int .i64 0, .int .i64 0, .int .i64 0, .int .i64 0, .slice B2 0 x2, .int .i64 (d + 1 + 1), .slice E2 0 y2]⟩, ⟨U1.heap.size, 53, #[.int .i64 0, .bool false, .int .i64 n, .int .i64 val, .int .i64 D1, .int .i64 0, .int .i64 0, .int .i64 0, .int .i64 0, .int .i64 0, .slice B1 0 x1, .int .i64 (d + 1), .slice E1 0 y1]⟩, ⟨(W3.heap.size + 1), 28, #[.int .u8 7, .int .u8 2, .int .u8 0, .int .u8 0, .int .i64 0]⟩, ⟨w.heap.size, 56, #[.int .u64 sd, .int .i64 P, .int .i64 q, .int .i64 l, .int .i64 N]⟩]) (by intro e he; simp only [List.mem_cons, List.not_mem_nil, or_false] at he; rcases he with rfl | rfl | rfl | rfl | rfl | rfl | rfl | rfl <;> simp) (fun _ h => h)) (by omega) (by intro e he; simp only [List.mem_cons, List.not_mem_nil, or_false] at he; rcases he with rfl | rfl | rfl | rfl | rfl | rfl <;> exact ⟨rfl, rfl⟩) (by intro e he; simp only [List.mem_cons, List.not_mem_nil, or_false] at he; rcases he with rfl | rfl | rfl | rfl | rfl | rfl | rfl <;> (dsimp only; omega)) 4 (.int .i64 0)
    clear hw17
    have hs6 : AW w [⟨Y17.heap.size, 56, #[.int .u64 sd, .int .i64 P, .int .i64 9, .int .i64 l, .int .i64 0]⟩, ⟨(Y16.heap.size + 1), 64, #[.int .i64 0, .int .i64 0, .int .i64 0]⟩, ⟨Y16.heap.size, 2, #[.int .i64 val]⟩, ⟨W3.heap.size, 53, #[.int .i64 0, .bool false, .int .i64 n, .int .i64 v1, .int .i64 0, .int .i64 0, .int .i64 0, .int .i64 0, .int .i64 0, .int .i64 0, .slice (some ⟨Y16.heap.size, 0, none⟩) 1 1, .int .i64 d, .slice (some ⟨Y16.heap.size + 1, 0, none⟩) 1 1]⟩, ⟨U2.heap.size, 53, #[.int .i64 1, .bool false, .int .i64 n, .int .i64 val, .int .i64 D2, .int .i64 0, .int .i64 0, .int .i64 0, .int .i64 0, .int .i64 0, .slice B2 0 x2, .int .i64 (d + 1 + 1), .slice E2 0 y2]⟩, ⟨U1.heap.size, 53, #[.int .i64 0, .bool false, .int .i64 n, .int .i64 val, .int .i64 D1, .int .i64 0, .int .i64 0, .int .i64 0, .int .i64 0, .int .i64 0, .slice B1 0 x1, .int .i64 (d + 1), .slice E1 0 y1]⟩, ⟨(W3.heap.size + 1), 28, #[.int .u8 7, .int .u8 2, .int .u8 0, .int .u8 0, .int .i64 0]⟩, ⟨w.heap.size, 56, #[.int .u64 sd, .int .i64 P, .int .i64 q, .int .i64 l, .int .i64 N]⟩] [⟨1, B2, 0, int64s []⟩, ⟨3, E2, 0, sndsV []⟩, ⟨1, B1, 0, int64s []⟩, ⟨3, E1, 0, sndsV []⟩, ⟨1, none, 0, []⟩, ⟨3, none, 0, []⟩] _ := AW.upd (L := [⟨(Y16.heap.size + 1), 64, #[.int .i64 0, .int .i64 0, .int .i64 0]⟩, ⟨Y16.heap.size, 2, #[.int .i64 val]⟩, ⟨W3.heap.size, 53, #[.int .i64 0, .bool false, .int .i64 n, .int .i64 v1, .int .i64 0, .int .i64 0, .int .i64 0, .int .i64 0, .int .i64 0, .int .i64 0, .slice (some ⟨Y16.heap.size, 0, none⟩) 1 1, .int .i64 d, .slice (some ⟨Y16.heap.size + 1, 0, none⟩) 1 1]⟩, ⟨U2.heap.size, 53, #[.int .i64 1, .bool false, .int .i64 n, .int .i64 val, .int .i64 D2, .int .i64 0, .int .i64 0, .int .i64 0, .int .i64 0, .int .i64 0, .slice B2 0 x2, .int .i64 (d + 1 + 1), .slice E2 0 y2]⟩, ⟨U1.heap.size, 53, #[.int .i64 0, .bool false, .int .i64 n, .int .i64 val, .int .i64 D1, .int .i64 0, .int .i64 0, .int .i64 0, .int .i64 0, .int .i64 0, .slice B1 0 x1, .int .i64 (d + 1), .slice E1 0 y1]⟩, ⟨(W3.heap.size + 1), 28, #[.int .u8 7, .int .u8 2, .int .u8 0, .int .u8 0, .int .i64 0]⟩, ⟨w.heap.size, 56, #[.int .u64 sd, .int .i64 P, .int .i64 q, .int .i64 l, .int .i64 N]⟩]) (R := [⟨1, B2, 0, int64s []⟩, ⟨3, E2, 0, sndsV []⟩, ⟨1, B1, 0, int64s []⟩, ⟨3, E1, 0, sndsV []⟩, ⟨1, none, 0, []⟩, ⟨3, none, 0, []⟩]) (hs5.less (L' := [⟨Y17.heap.size, 56, #[.int .u64 sd, .int .i64 P, .int .i64 q, .int .i64 l, .int .i64 0]⟩, ⟨(Y16.heap.size + 1), 64, #[.int .i64 0, .int .i64 0, .int .i64 0]⟩, ⟨Y16.heap.size, 2, #[.int .i64 val]⟩, ⟨W3.heap.size, 53, #[.int .i64 0, .bool false, .int .i64 n, .int .i64 v1, .int .i64 0, .int .i64 0, .int .i64 0, .int .i64 0, .int .i64 0, .int .i64 0, .slice (some ⟨Y16.heap.size, 0, none⟩) 1 1, .int .i64 d, .slice (some ⟨Y16.heap.size + 1, 0, none⟩) 1 1]⟩, ⟨U2.heap.size, 53, #[.int .i64 1, .bool false, .int .i64 n, .int .i64 val, .int .i64 D2, .int .i64 0, .int .i64 0, .int .i64 0, .int .i64 0, .int .i64 0, .slice B2 0 x2, .int .i64 (d + 1 + 1), .slice E2 0 y2]⟩, ⟨U1.heap.size, 53, #[.int .i64 0, .bool false, .int .i64 n, .int .i64 val, .int .i64 D1, .int .i64 0, .int .i64 0, .int .i64 0, .int .i64 0, .int .i64 0, .slice B1 0 x1, .int .i64 (d + 1), .slice E1 0 y1]⟩, ⟨(W3.heap.size + 1), 28, #[.int .u8 7, .int .u8 2, .int .u8 0, .int .u8 0, .int .i64 0]⟩, ⟨w.heap.size, 56, #[.int .u64 sd, .int .i64 P, .int .i64 q, .int .i64 l, .int .i64 N]⟩]) (by intro e he; simp only [List.mem_cons, List.not_mem_nil, or_false] at he; rcases he with rfl | rfl | rfl | rfl | rfl | rfl | rfl | rfl <;> simp) (fun _ h => h)) (by omega) (by intro e he; simp only [List.mem_cons, List.not_mem_nil, or_false] at he; rcases he with rfl | rfl | rfl | rfl | rfl | rfl <;> exact ⟨rfl, rfl⟩) (by intro e he; simp only [List.mem_cons, List.not_mem_nil, or_false] at he; rcases he with rfl | rfl | rfl | rfl | rfl | rfl | rfl <;> (dsimp only; omega)) 2 (.int .i64 9)
    clear hs5
    go_upto_region 19 with fail
    obtain ⟨Y19, hW⟩ : ∃ W, W = ((Y18.setCell ⟨Y17.heap.size, 4, none⟩ (.int .i64 0)).setCell ⟨Y17.heap.size, 2, none⟩ (.int .i64 9)) := ⟨_, rfl⟩
    rw [← hW] at hs6 ⊢
    clear hW
    clear zw4 zw2 fw
    have hdd3 : ¬ (d = (1099511627776 : Int)) := by omega
    have hE3 : doE ⟨0, false, fun j => match j with | 0 => n | 1 => v1 | _ => 0, [val], d, [⟨0, 0, 0⟩]⟩ ⟨sd, P, 9, l, 0⟩ ⟨7, 2, 0, 0, 0⟩ = 0 := by
      first
        | (simp [doE, hn1, hdd3]; done)
        | (show (if (n : Int) < 1 then (186 : Int) else if d = 1099511627776 then 187 else 0) = 0; rw [if_neg hn1, if_neg hdd3])
    have hDS3 : doS ⟨0, false, fun j => match j with | 0 => n | 1 => v1 | _ => 0, [val], d, [⟨0, 0, 0⟩]⟩ ⟨sd, P, 9, l, 0⟩ ⟨7, 2, 0, 0, 0⟩ = { St.put ⟨0, false, fun j => match j with | 0 => n | 1 => v1 | _ => 0, [val], d, [⟨0, 0, 0⟩]⟩ 2 D1 with draws := d + 1 } := by
      rw [HD1.out]
      unfold doS
      rw [if_neg (fun h => h hE3)]
      rfl
    obtain ⟨hT3, hTa3, _⟩ := one_top (i := ⟨7, 2, 0, 0, 0⟩) (v := ⟨sd, P, 9, l, 0⟩) (s := ⟨0, false, fun j => match j with | 0 => n | 1 => v1 | _ => 0, [val], d, [⟨0, 0, 0⟩]⟩) (by decide) (decide_eq_true ⟨hP0, by show P ≤ 65536; omega, by dsimp only; omega, hl0.1, by dsimp only; omega, by dsimp only; omega⟩) (decide_eq_true ⟨by show (0 : Int) ≤ 0; decide, by show (0 : Int) < 2; decide, by show (1 : Int) ≤ 1024; decide, by show (0 : Int) ≤ d; omega, by show d ≤ (1099511627776 : Int); omega⟩) rfl rfl
    have hS3 := (hTa3 hE3).trans hDS3
    rw [hE3] at hT3
    have hR19 := (hs6.readBlk (.tail _ (.head _)) 3 1 rfl).readBlk (.tail _ (.tail _ (.head _))) 1 1 rfl
    clear hs6
    have pw : IsRow Y19 Y17.heap.size 5 := (hR19.l _ (.head _)).isRow rfl
    have qw : rowOf Y19 Y17.heap.size = #[.int .u64 sd, .int .i64 P, .int .i64 9, .int .i64 l, .int .i64 0] := (hR19.l _ (.head _)).rowOf_eq
    have ps : IsRow Y19 W3.heap.size 13 := (hR19.l _ (.tail _ (.tail _ (.tail _ (.head _))))).isRow rfl
    have qs : rowOf Y19 W3.heap.size = #[.int .i64 0, .bool false, .int .i64 n, .int .i64 v1, .int .i64 0, .int .i64 0, .int .i64 0, .int .i64 0, .int .i64 0, .int .i64 0, .slice (some ⟨Y16.heap.size, 0, none⟩) 1 1, .int .i64 d, .slice (some ⟨Y16.heap.size + 1, 0, none⟩) 1 1] := (hR19.l _ (.tail _ (.tail _ (.tail _ (.head _))))).rowOf_eq
    have pI : IsRow Y19 (W3.heap.size + 1) 5 := (hR19.l _ (.tail _ (.tail _ (.tail _ (.tail _ (.tail _ (.tail _ (.head _)))))))).isRow rfl
    have qI : rowOf Y19 (W3.heap.size + 1) = #[.int .u8 7, .int .u8 2, .int .u8 0, .int .u8 0, .int .i64 0] := (hR19.l _ (.tail _ (.tail _ (.tail _ (.tail _ (.tail _ (.tail _ (.head _)))))))).rowOf_eq
    go_wp2_with fail
    clear pw qw ps qs pI qI
    go_at_call 25
    refine (call25 ⟨7, 2, 0, 0, 0⟩ ins_draw_ok ⟨sd, P, 9, l, 0⟩ ⟨0, false, fun j => match j with | 0 => n | 1 => v1 | _ => 0, [val], d, [⟨0, 0, 0⟩]⟩ (fun C S => .agg #[.int .i64 1, .bool false, .int .i64 n, .int .i64 v1, .int .i64 D1, .int .i64 0, .int .i64 0, .int .i64 0, .int .i64 0, .int .i64 0, C, .int .i64 (d + 1), S]) [val] [⟨0, 0, 0⟩] 0 (by rw [hS3]; rfl) (by rw [hS3]; rfl) (by rw [hS3]; rfl) hT3 1 1 rfl rfl (some ⟨Y16.heap.size, 0, none⟩) (some ⟨Y16.heap.size + 1, 0, none⟩) 1 1 1 1 (by decide) hR19 (.head _) (.tail _ (.head _))).mono ?_
    rintro e U3 ⟨B3, x3, E3, y3, rfl, hU3⟩
    have t3w : Y17.heap.size < U3.heap.size := (hU3.l _ (.head _)).lt
    have t3A3 : (Y16.heap.size + 1) < U3.heap.size := (hU3.l _ (.tail _ (.head _))).lt
    have t3A1 : Y16.heap.size < U3.heap.size := (hU3.l _ (.tail _ (.tail _ (.head _)))).lt
    have t3s : W3.heap.size < U3.heap.size := (hU3.l _ (.tail _ (.tail _ (.tail _ (.head _))))).lt
    have t3u : U2.heap.size < U3.heap.size := (hU3.l _ (.tail _ (.tail _ (.tail _ (.tail _ (.head _)))))).lt
    have t3t : U1.heap.size < U3.heap.size := (hU3.l _ (.tail _ (.tail _ (.tail _ (.tail _ (.tail _ (.head _))))))).lt
    have t3I : (W3.heap.size + 1) < U3.heap.size := (hU3.l _ (.tail _ (.tail _ (.tail _ (.tail _ (.tail _ (.tail _ (.head _)))))))).lt
    have t3V : w.heap.size < U3.heap.size := (hU3.l _ (.tail _ (.tail _ (.tail _ (.tail _ (.tail _ (.tail _ (.tail _ (.head _))))))))).lt
    have hR3 := hU3.put 53 #[.int .i64 1, .bool false, .int .i64 n, .int .i64 v1, .int .i64 D1, .int .i64 0, .int .i64 0, .int .i64 0, .int .i64 0, .int .i64 0, .slice B3 1 x3, .int .i64 (d + 1), .slice E3 1 y3]
    clear hU3 hR19
    go_upto_region 20 with fail
    obtain ⟨Y20, hW⟩ : ∃ W, W = (U3.alloc (.cells #[.int .i64 1, .bool false, .int .i64 n, .int .i64 v1, .int .i64 D1, .int .i64 0, .int .i64 0, .int .i64 0, .int .i64 0, .int .i64 0, .slice B3 1 x3, .int .i64 (d + 1), .slice E3 1 y3] 53)) := ⟨_, rfl⟩
    rw [← hW] at hR3 ⊢
    clear hW
    have wd2 : wrap64 (d + 2) = d + 1 + 1 := by unfold wrap64; omega
    have zu4 : Y20.cell? ⟨U2.heap.size, 4, none⟩ = some (.int .i64 D2) := (hR3.l _ (.tail _ (.tail _ (.tail _ (.tail _ (.tail _ (.head _))))))).cell 4
    have zu11 : Y20.cell? ⟨U2.heap.size, 11, none⟩ = some (.int .i64 (d + 1 + 1)) := (hR3.l _ (.tail _ (.tail _ (.tail _ (.tail _ (.tail _ (.head _))))))).cell 11
    have zv4 : Y20.cell? ⟨U3.heap.size, 4, none⟩ = some (.int .i64 D1) := (hR3.l _ (.head _)).cell 4
    have hbB := hR3.b
    go_wp2_with fail
    go_ret
    exact ⟨rfl, hbB⟩
end Go.Proofs.Ytmljmabbopkpiaa