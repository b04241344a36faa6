/- instr.Same. (printed by gen_same.py) -/
import Derived.Test.YtmljmabbopkpiaaAw3
import Derived.Test.YtmljmabbopkpiaaEq
import Derived.Test.YtmljmabbopkpiaaEqual
import Derived.BigQuiet
namespace Go.Proofs.Ytmljmabbopkpiaa
open Go.RowKit
set_option linter.unusedVariables false
set_option linter.unusedSimpArgs false

def regsB (r q : Nat → Int) : Bool := r 0 == q 0 && (r 1 == q 1 && (r 2 == q 2 && (r 3 == q 3 && (r 4 == q 4 && (r 5 == q 5 && (r 6 == q 6 && r 7 == q 7))))))
def sameB (a b : St) : Bool := a.at_ == b.at_ && (a.ended == b.ended && (regsB a.regs b.regs && (a.cells == b.cells && (a.draws == b.draws && decide (a.sends = b.sends)))))

set_option maxRecDepth 100000 in
set_option maxHeartbeats 2000000 in
theorem same_c (s t : St) (A B C D : Option Addr) (m n k j c1 c2 c3 c4 : Nat) (w : World) (hA : Reads w w.heap.size 1 A m (int64s s.cells)) (hB : Reads w w.heap.size 3 B n (sndsV s.sends)) (hC : Reads w w.heap.size 1 C k (int64s t.cells)) (hD : Reads w w.heap.size 3 D j (sndsV t.sends)) (hm : m ≤ 1000000) (hn : n ≤ 1000000) :
    Calls Try.prog 30 #[s.v (.slice A m c1) (.slice B n c2), t.v (.slice C k c3) (.slice D j c4)] w fun e w' => e = .returned (.bool (sameB s t)) ∧ Below w.heap.size w w' := by
  have HC := Lib.hid (fun (X : World) (hX : Below w.heap.size w X) => equal64_c A C m k c1 c3 s.cells t.cells X ((hA.below hX).more hX.size) ((hC.below hX).more hX.size) (by omega))
  have HS := Lib.hid (fun (X : World) (hX : Below w.heap.size w X) => equalS_c B D n j c2 c4 s.sends t.sends X ((hB.below hX).more hX.size) ((hD.below hX).more hX.size) (by omega))
  clear hA hB hC hD
  obtain ⟨a0, e0, r, xs, d0, ss⟩ := s
  obtain ⟨a1, e1, q, ys, d1, ts⟩ := t
  have e8 := fun (w : World) => eq8 (r 0) (r 1) (r 2) (r 3) (r 4) (r 5) (r 6) (r 7) (q 0) (q 1) (q 2) (q 3) (q 4) (q 5) (q 6) (q 7) w
  have hR : (r 0 == q 0 && (r 1 == q 1 && (r 2 == q 2 && (r 3 == q 3 && (r 4 == q 4 && (r 5 == q 5 && (r 6 == q 6 && r 7 == q 7))))))) = regsB r q := rfl
  rw [hR] at e8
  obtain ⟨RB, hRB⟩ : ∃ RB, RB = regsB r q := ⟨_, rfl⟩
  rw [← hRB] at e8
  obtain ⟨CB, hCB⟩ : ∃ CB, CB = (xs == ys) := ⟨_, rfl⟩
  obtain ⟨SB, hSB⟩ : ∃ SB, SB = decide (ss = ts) := ⟨_, rfl⟩
  obtain ⟨Q, hQ⟩ : ∃ Q, Q = sameB ⟨a0, e0, r, xs, d0, ss⟩ ⟨a1, e1, q, ys, d1, ts⟩ := ⟨_, rfl⟩
  have hQ' : Q = (a0 == a1 && (e0 == e1 && (RB && (CB && (d0 == d1 && SB))))) := by rw [hQ, hRB, hCB, hSB]; rfl
  unfold St.v
  dsimp only at HC HS ⊢
  rw [← hCB] at HC
  rw [← hSB] at HS
  rw [← hQ]
  clear hR hRB hCB hSB hQ
  by_cases h0 : a0 = a1
  · have g0 := decide_eq_true h0
    have f0 : (a0 == a1) = true := by simp [h0]
    clear h0
    by_cases h1 : e0 = e1
    · have g1 := decide_eq_true h1
      have f1 : (e0 == e1) = true := by simp [h1]
      clear h1
      by_cases h2 : RB = true
      · have g2 := decide_eq_true h2
        by_cases h3 : CB = true
        · have g3 := decide_eq_true h3
          by_cases h4 : d0 = d1
          · have g4 := decide_eq_true h4
            have f4 : (d0 == d1) = true := by simp [h4]
            clear h4
            have hx : Q = SB := by rw [hQ']; simp [f0, f1, h2, h3, f4]
            subst hx
            clear hQ'
            have hst := (((Below.refl _ w).alloc (Nat.le_refl _) (.cells (#[.int .i64 a0, .bool e0, .int .i64 (r 0), .int .i64 (r 1), .int .i64 (r 2), .int .i64 (r 3), .int .i64 (r 4), .int .i64 (r 5), .int .i64 (r 6), .int .i64 (r 7), (.slice A m c1), .int .i64 d0, (.slice B n c2)]) 53)).alloc (by simp) (.cells (#[.int .i64 a1, .bool e1, .int .i64 (q 0), .int .i64 (q 1), .int .i64 (q 2), .int .i64 (q 3), .int .i64 (q 4), .int .i64 (q 5), .int .i64 (q 6), .int .i64 (q 7), (.slice C k c3), .int .i64 d1, (.slice D j c4)]) 53))
            go_enter Try.func30, Try.ntmps30
            go_upto_region 1 with fail
            obtain ⟨W0, hW⟩ : ∃ W0, W0 = ((w.alloc (.cells (#[.int .i64 a0, .bool e0, .int .i64 (r 0), .int .i64 (r 1), .int .i64 (r 2), .int .i64 (r 3), .int .i64 (r 4), .int .i64 (r 5), .int .i64 (r 6), .int .i64 (r 7), (.slice A m c1), .int .i64 d0, (.slice B n c2)]) 53)).alloc (.cells (#[.int .i64 a1, .bool e1, .int .i64 (q 0), .int .i64 (q 1), .int .i64 (q 2), .int .i64 (q 3), .int .i64 (q 4), .int .i64 (q 5), .int .i64 (q 6), .int .i64 (q 7), (.slice C k c3), .int .i64 d1, (.slice D j c4)]) 53)) := ⟨_, rfl⟩
            have hx1 := blk13 (hW ▸ (Blk.new_ rfl).alloc _ : Blk W0 w.heap.size 53 (#[.int .i64 a0, .bool e0, .int .i64 (r 0), .int .i64 (r 1), .int .i64 (r 2), .int .i64 (r 3), .int .i64 (r 4), .int .i64 (r 5), .int .i64 (r 6), .int .i64 (r 7), (.slice A m c1), .int .i64 d0, (.slice B n c2)]))
            have hx2 := blk13 (hW ▸ Blk.new_ (by simp) : Blk W0 (w.heap.size + 1) 53 (#[.int .i64 a1, .bool e1, .int .i64 (q 0), .int .i64 (q 1), .int .i64 (q 2), .int .i64 (q 3), .int .i64 (q 4), .int .i64 (q 5), .int .i64 (q 6), .int .i64 (q 7), (.slice C k c3), .int .i64 d1, (.slice D j c4)]))
            have hl0 : w.heap.size + 1 < W0.heap.size := by rw [hW]; simp
            rw [← hW] at hst ⊢
            clear hW
            obtain ⟨⟨x0, x1, x2, x3, x4, x5, x6, x7, x8, x9, x10, x11, x12⟩, xf⟩ := hx1
            obtain ⟨⟨y0, y1, y2, y3, y4, y5, y6, y7, y8, y9, y10, y11, y12⟩, yf⟩ := hx2
            clear xf yf
            go_wp2_with fail
            go_at_call 61
            refine (HC.out _ hst).mono ?_
            rintro e W1 ⟨rfl, hb⟩
            have hs1 := hst.trans (hb.mono hst.size)
            have x11 : W1.cell? ⟨w.heap.size, 11, none⟩ = _ := (hb.cell (p := ⟨w.heap.size, 11, none⟩) (show w.heap.size < W0.heap.size by omega)).trans x11
            have x12 : W1.cell? ⟨w.heap.size, 12, none⟩ = _ := (hb.cell (p := ⟨w.heap.size, 12, none⟩) (show w.heap.size < W0.heap.size by omega)).trans x12
            have y11 : W1.cell? ⟨w.heap.size + 1, 11, none⟩ = _ := (hb.cell (p := ⟨w.heap.size + 1, 11, none⟩) (show w.heap.size + 1 < W0.heap.size by omega)).trans y11
            have y12 : W1.cell? ⟨w.heap.size + 1, 12, none⟩ = _ := (hb.cell (p := ⟨w.heap.size + 1, 12, none⟩) (show w.heap.size + 1 < W0.heap.size by omega)).trans y12
            clear hb
            go_wp2_with fail
            go_at_call 52
            refine (HS.out _ hs1).mono ?_
            rintro e W2 ⟨rfl, hb⟩
            have hs2 := hs1.trans (hb.mono hs1.size)
            go_wp2_with fail
            go_ret
            exact ⟨rfl, hs2⟩
          · have g4 := decide_eq_false h4
            have f4 : (d0 == d1) = false := by simp [h4]
            have hx : Q = false := by rw [hQ']; simp [f0, f1, h2, h3, f4]
            subst hx
            clear hQ'
            have hst := (((Below.refl _ w).alloc (Nat.le_refl _) (.cells (#[.int .i64 a0, .bool e0, .int .i64 (r 0), .int .i64 (r 1), .int .i64 (r 2), .int .i64 (r 3), .int .i64 (r 4), .int .i64 (r 5), .int .i64 (r 6), .int .i64 (r 7), (.slice A m c1), .int .i64 d0, (.slice B n c2)]) 53)).alloc (by simp) (.cells (#[.int .i64 a1, .bool e1, .int .i64 (q 0), .int .i64 (q 1), .int .i64 (q 2), .int .i64 (q 3), .int .i64 (q 4), .int .i64 (q 5), .int .i64 (q 6), .int .i64 (q 7), (.slice C k c3), .int .i64 d1, (.slice D j c4)]) 53))
            go_enter Try.func30, Try.ntmps30
            go_upto_region 1 with fail
            obtain ⟨W0, hW⟩ : ∃ W0, W0 = ((w.alloc (.cells (#[.int .i64 a0, .bool e0, .int .i64 (r 0), .int .i64 (r 1), .int .i64 (r 2), .int .i64 (r 3), .int .i64 (r 4), .int .i64 (r 5), .int .i64 (r 6), .int .i64 (r 7), (.slice A m c1), .int .i64 d0, (.slice B n c2)]) 53)).alloc (.cells (#[.int .i64 a1, .bool e1, .int .i64 (q 0), .int .i64 (q 1), .int .i64 (q 2), .int .i64 (q 3), .int .i64 (q 4), .int .i64 (q 5), .int .i64 (q 6), .int .i64 (q 7), (.slice C k c3), .int .i64 d1, (.slice D j c4)]) 53)) := ⟨_, rfl⟩
            have hx1 := blk13 (hW ▸ (Blk.new_ rfl).alloc _ : Blk W0 w.heap.size 53 (#[.int .i64 a0, .bool e0, .int .i64 (r 0), .int .i64 (r 1), .int .i64 (r 2), .int .i64 (r 3), .int .i64 (r 4), .int .i64 (r 5), .int .i64 (r 6), .int .i64 (r 7), (.slice A m c1), .int .i64 d0, (.slice B n c2)]))
            have hx2 := blk13 (hW ▸ Blk.new_ (by simp) : Blk W0 (w.heap.size + 1) 53 (#[.int .i64 a1, .bool e1, .int .i64 (q 0), .int .i64 (q 1), .int .i64 (q 2), .int .i64 (q 3), .int .i64 (q 4), .int .i64 (q 5), .int .i64 (q 6), .int .i64 (q 7), (.slice C k c3), .int .i64 d1, (.slice D j c4)]))
            have hl0 : w.heap.size + 1 < W0.heap.size := by rw [hW]; simp
            rw [← hW] at hst ⊢
            clear hW
            obtain ⟨⟨x0, x1, x2, x3, x4, x5, x6, x7, x8, x9, x10, x11, x12⟩, xf⟩ := hx1
            obtain ⟨⟨y0, y1, y2, y3, y4, y5, y6, y7, y8, y9, y10, y11, y12⟩, yf⟩ := hx2
            clear xf yf
            go_wp2_with fail
            go_at_call 61
            refine (HC.out _ hst).mono ?_
            rintro e W1 ⟨rfl, hb⟩
            have hs1 := hst.trans (hb.mono hst.size)
            have x11 : W1.cell? ⟨w.heap.size, 11, none⟩ = _ := (hb.cell (p := ⟨w.heap.size, 11, none⟩) (show w.heap.size < W0.heap.size by omega)).trans x11
            have x12 : W1.cell? ⟨w.heap.size, 12, none⟩ = _ := (hb.cell (p := ⟨w.heap.size, 12, none⟩) (show w.heap.size < W0.heap.size by omega)).trans x12
            have y11 : W1.cell? ⟨w.heap.size + 1, 11, none⟩ = _ := (hb.cell (p := ⟨w.heap.size + 1, 11, none⟩) (show w.heap.size + 1 < W0.heap.size by omega)).trans y11
            have y12 : W1.cell? ⟨w.heap.size + 1, 12, none⟩ = _ := (hb.cell (p := ⟨w.heap.size + 1, 12, none⟩) (show w.heap.size + 1 < W0.heap.size by omega)).trans y12
            clear hb
            go_wp2_with fail
            go_ret
            exact ⟨rfl, hs1⟩
        · have g3 := decide_eq_false h3
          have f3 : CB = false := by simpa using h3
          have hx : Q = false := by rw [hQ']; simp [f0, f1, h2, f3]
          subst hx
          clear hQ'
          have hst := (((Below.refl _ w).alloc (Nat.le_refl _) (.cells (#[.int .i64 a0, .bool e0, .int .i64 (r 0), .int .i64 (r 1), .int .i64 (r 2), .int .i64 (r 3), .int .i64 (r 4), .int .i64 (r 5), .int .i64 (r 6), .int .i64 (r 7), (.slice A m c1), .int .i64 d0, (.slice B n c2)]) 53)).alloc (by simp) (.cells (#[.int .i64 a1, .bool e1, .int .i64 (q 0), .int .i64 (q 1), .int .i64 (q 2), .int .i64 (q 3), .int .i64 (q 4), .int .i64 (q 5), .int .i64 (q 6), .int .i64 (q 7), (.slice C k c3), .int .i64 d1, (.slice D j c4)]) 53))
          go_enter Try.func30, Try.ntmps30
          go_upto_region 1 with fail
          obtain ⟨W0, hW⟩ : ∃ W0, W0 = ((w.alloc (.cells (#[.int .i64 a0, .bool e0, .int .i64 (r 0), .int .i64 (r 1), .int .i64 (r 2), .int .i64 (r 3), .int .i64 (r 4), .int .i64 (r 5), .int .i64 (r 6), .int .i64 (r 7), (.slice A m c1), .int .i64 d0, (.slice B n c2)]) 53)).alloc (.cells (#[.int .i64 a1, .bool e1, .int .i64 (q 0), .int .i64 (q 1), .int .i64 (q 2), .int .i64 (q 3), .int .i64 (q 4), .int .i64 (q 5), .int .i64 (q 6), .int .i64 (q 7), (.slice C k c3), .int .i64 d1, (.slice D j c4)]) 53)) := ⟨_, rfl⟩
          have hx1 := blk13 (hW ▸ (Blk.new_ rfl).alloc _ : Blk W0 w.heap.size 53 (#[.int .i64 a0, .bool e0, .int .i64 (r 0), .int .i64 (r 1), .int .i64 (r 2), .int .i64 (r 3), .int .i64 (r 4), .int .i64 (r 5), .int .i64 (r 6), .int .i64 (r 7), (.slice A m c1), .int .i64 d0, (.slice B n c2)]))
          have hx2 := blk13 (hW ▸ Blk.new_ (by simp) : Blk W0 (w.heap.size + 1) 53 (#[.int .i64 a1, .bool e1, .int .i64 (q 0), .int .i64 (q 1), .int .i64 (q 2), .int .i64 (q 3), .int .i64 (q 4), .int .i64 (q 5), .int .i64 (q 6), .int .i64 (q 7), (.slice C k c3), .int .i64 d1, (.slice D j c4)]))
          have hl0 : w.heap.size + 1 < W0.heap.size := by rw [hW]; simp
          rw [← hW] at hst ⊢
          clear hW
          obtain ⟨⟨x0, x1, x2, x3, x4, x5, x6, x7, x8, x9, x10, x11, x12⟩, xf⟩ := hx1
          obtain ⟨⟨y0, y1, y2, y3, y4, y5, y6, y7, y8, y9, y10, y11, y12⟩, yf⟩ := hx2
          clear xf yf
          go_wp2_with fail
          go_at_call 61
          refine (HC.out _ hst).mono ?_
          rintro e W1 ⟨rfl, hb⟩
          have hs1 := hst.trans (hb.mono hst.size)
          have x11 : W1.cell? ⟨w.heap.size, 11, none⟩ = _ := (hb.cell (p := ⟨w.heap.size, 11, none⟩) (show w.heap.size < W0.heap.size by omega)).trans x11
          have x12 : W1.cell? ⟨w.heap.size, 12, none⟩ = _ := (hb.cell (p := ⟨w.heap.size, 12, none⟩) (show w.heap.size < W0.heap.size by omega)).trans x12
          have y11 : W1.cell? ⟨w.heap.size + 1, 11, none⟩ = _ := (hb.cell (p := ⟨w.heap.size + 1, 11, none⟩) (show w.heap.size + 1 < W0.heap.size by omega)).trans y11
          have y12 : W1.cell? ⟨w.heap.size + 1, 12, none⟩ = _ := (hb.cell (p := ⟨w.heap.size + 1, 12, none⟩) (show w.heap.size + 1 < W0.heap.size by omega)).trans y12
          clear hb
          go_wp2_with fail
          go_ret
          exact ⟨rfl, hs1⟩
      · have g2 := decide_eq_false h2
        have f2 : RB = false := by simpa using h2
        have hx : Q = false := by rw [hQ']; simp [f0, f1, f2]
        subst hx
        clear hQ'
        have hst := (((Below.refl _ w).alloc (Nat.le_refl _) (.cells (#[.int .i64 a0, .bool e0, .int .i64 (r 0), .int .i64 (r 1), .int .i64 (r 2), .int .i64 (r 3), .int .i64 (r 4), .int .i64 (r 5), .int .i64 (r 6), .int .i64 (r 7), (.slice A m c1), .int .i64 d0, (.slice B n c2)]) 53)).alloc (by simp) (.cells (#[.int .i64 a1, .bool e1, .int .i64 (q 0), .int .i64 (q 1), .int .i64 (q 2), .int .i64 (q 3), .int .i64 (q 4), .int .i64 (q 5), .int .i64 (q 6), .int .i64 (q 7), (.slice C k c3), .int .i64 d1, (.slice D j c4)]) 53))
        go_enter Try.func30, Try.ntmps30
        go_upto_region 1 with fail
        obtain ⟨W0, hW⟩ : ∃ W0, W0 = ((w.alloc (.cells (#[.int .i64 a0, .bool e0, .int .i64 (r 0), .int .i64 (r 1), .int .i64 (r 2), .int .i64 (r 3), .int .i64 (r 4), .int .i64 (r 5), .int .i64 (r 6), .int .i64 (r 7), (.slice A m c1), .int .i64 d0, (.slice B n c2)]) 53)).alloc (.cells (#[.int .i64 a1, .bool e1, .int .i64 (q 0), .int .i64 (q 1), .int .i64 (q 2), .int .i64 (q 3), .int .i64 (q 4), .int .i64 (q 5), .int .i64 (q 6), .int .i64 (q 7), (.slice C k c3), .int .i64 d1, (.slice D j c4)]) 53)) := ⟨_, rfl⟩
        have hx1 := blk13 (hW ▸ (Blk.new_ rfl).alloc _ : Blk W0 w.heap.size 53 (#[.int .i64 a0, .bool e0, .int .i64 (r 0), .int .i64 (r 1), .int .i64 (r 2), .int .i64 (r 3), .int .i64 (r 4), .int .i64 (r 5), .int .i64 (r 6), .int .i64 (r 7), (.slice A m c1), .int .i64 d0, (.slice B n c2)]))
        have hx2 := blk13 (hW ▸ Blk.new_ (by simp) : Blk W0 (w.heap.size + 1) 53 (#[.int .i64 a1, .bool e1, .int .i64 (q 0), .int .i64 (q 1), .int .i64 (q 2), .int .i64 (q 3), .int .i64 (q 4), .int .i64 (q 5), .int .i64 (q 6), .int .i64 (q 7), (.slice C k c3), .int .i64 d1, (.slice D j c4)]))
        have hl0 : w.heap.size + 1 < W0.heap.size := by rw [hW]; simp
        rw [← hW] at hst ⊢
        clear hW
        obtain ⟨⟨x0, x1, x2, x3, x4, x5, x6, x7, x8, x9, x10, x11, x12⟩, xf⟩ := hx1
        obtain ⟨⟨y0, y1, y2, y3, y4, y5, y6, y7, y8, y9, y10, y11, y12⟩, yf⟩ := hx2
        clear xf yf
        go_wp2_with fail
        go_ret
        exact ⟨rfl, hst⟩
    · have g1 := decide_eq_false h1
      have f1 : (e0 == e1) = false := by simp [h1]
      have hx : Q = false := by rw [hQ']; simp [f0, f1]
      subst hx
      clear hQ'
      have hst := (((Below.refl _ w).alloc (Nat.le_refl _) (.cells (#[.int .i64 a0, .bool e0, .int .i64 (r 0), .int .i64 (r 1), .int .i64 (r 2), .int .i64 (r 3), .int .i64 (r 4), .int .i64 (r 5), .int .i64 (r 6), .int .i64 (r 7), (.slice A m c1), .int .i64 d0, (.slice B n c2)]) 53)).alloc (by simp) (.cells (#[.int .i64 a1, .bool e1, .int .i64 (q 0), .int .i64 (q 1), .int .i64 (q 2), .int .i64 (q 3), .int .i64 (q 4), .int .i64 (q 5), .int .i64 (q 6), .int .i64 (q 7), (.slice C k c3), .int .i64 d1, (.slice D j c4)]) 53))
      go_enter Try.func30, Try.ntmps30
      go_upto_region 1 with fail
      obtain ⟨W0, hW⟩ : ∃ W0, W0 = ((w.alloc (.cells (#[.int .i64 a0, .bool e0, .int .i64 (r 0), .int .i64 (r 1), .int .i64 (r 2), .int .i64 (r 3), .int .i64 (r 4), .int .i64 (r 5), .int .i64 (r 6), .int .i64 (r 7), (.slice A m c1), .int .i64 d0, (.slice B n c2)]) 53)).alloc (.cells (#[.int .i64 a1, .bool e1, .int .i64 (q 0), .int .i64 (q 1), .int .i64 (q 2), .int .i64 (q 3), .int .i64 (q 4), .int .i64 (q 5), .int .i64 (q 6), .int .i64 (q 7), (.slice C k c3), .int .i64 d1, (.slice D j c4)]) 53)) := ⟨_, rfl⟩
      have hx1 := blk13 (hW ▸ (Blk.new_ rfl).alloc _ : Blk W0 w.heap.size 53 (#[.int .i64 a0, .bool e0, .int .i64 (r 0), .int .i64 (r 1), .int .i64 (r 2), .int .i64 (r 3), .int .i64 (r 4), .int .i64 (r 5), .int .i64 (r 6), .int .i64 (r 7), (.slice A m c1), .int .i64 d0, (.slice B n c2)]))
      have hx2 := blk13 (hW ▸ Blk.new_ (by simp) : Blk W0 (w.heap.size + 1) 53 (#[.int .i64 a1, .bool e1, .int .i64 (q 0), .int .i64 (q 1), .int .i64 (q 2), .int .i64 (q 3), .int .i64 (q 4), .int .i64 (q 5), .int .i64 (q 6), .int .i64 (q 7), (.slice C k c3), .int .i64 d1, (.slice D j c4)]))
      have hl0 : w.heap.size + 1 < W0.heap.size := by rw [hW]; simp
      rw [← hW] at hst ⊢
      clear hW
      obtain ⟨⟨x0, x1, x2, x3, x4, x5, x6, x7, x8, x9, x10, x11, x12⟩, xf⟩ := hx1
      obtain ⟨⟨y0, y1, y2, y3, y4, y5, y6, y7, y8, y9, y10, y11, y12⟩, yf⟩ := hx2
      clear xf yf
      go_wp2_with fail
      go_ret
      exact ⟨rfl, hst⟩
  · have g0 := decide_eq_false h0
    have f0 : (a0 == a1) = false := by simp [h0]
    have hx : Q = false := by rw [hQ']; simp [f0]
    subst hx
    clear hQ'
    have hst := (((Below.refl _ w).alloc (Nat.le_refl _) (.cells (#[.int .i64 a0, .bool e0, .int .i64 (r 0), .int .i64 (r 1), .int .i64 (r 2), .int .i64 (r 3), .int .i64 (r 4), .int .i64 (r 5), .int .i64 (r 6), .int .i64 (r 7), (.slice A m c1), .int .i64 d0, (.slice B n c2)]) 53)).alloc (by simp) (.cells (#[.int .i64 a1, .bool e1, .int .i64 (q 0), .int .i64 (q 1), .int .i64 (q 2), .int .i64 (q 3), .int .i64 (q 4), .int .i64 (q 5), .int .i64 (q 6), .int .i64 (q 7), (.slice C k c3), .int .i64 d1, (.slice D j c4)]) 53))
    go_enter Try.func30, Try.ntmps30
    go_upto_region 1 with fail
    obtain ⟨W0, hW⟩ : ∃ W0, W0 = ((w.alloc (.cells (#[.int .i64 a0, .bool e0, .int .i64 (r 0), .int .i64 (r 1), .int .i64 (r 2), .int .i64 (r 3), .int .i64 (r 4), .int .i64 (r 5), .int .i64 (r 6), .int .i64 (r 7), (.slice A m c1), .int .i64 d0, (.slice B n c2)]) 53)).alloc (.cells (#[.int .i64 a1, .bool e1, .int .i64 (q 0), .int .i64 (q 1), .int .i64 (q 2), .int .i64 (q 3), .int .i64 (q 4), .int .i64 (q 5), .int .i64 (q 6), .int .i64 (q 7), (.slice C k c3), .int .i64 d1, (.slice D j c4)]) 53)) := ⟨_, rfl⟩
    have hx1 := blk13 (hW ▸ (Blk.new_ rfl).alloc _ : Blk W0 w.heap.size 53 (#[.int .i64 a0, .bool e0, .int .i64 (r 0), .int .i64 (r 1), .int .i64 (r 2), .int .i64 (r 3), .int .i64 (r 4), .int .i64 (r 5), .int .i64 (r 6), .int .i64 (r 7), (.slice A m c1), .int .i64 d0, (.slice B n c2)]))
    have hx2 := blk13 (hW ▸ Blk.new_ (by simp) : Blk W0 (w.heap.size + 1) 53 (#[.int .i64 a1, .bool e1, .int .i64 (q 0), .int .i64 (q 1), .int .i64 (q 2), .int .i64 (q 3), .int .i64 (q 4), .int .i64 (q 5), .int .i64 (q 6), .int .i64 (q 7), (.slice C k c3), .int .i64 d1, (.slice D j c4)]))
    have hl0 : w.heap.size + 1 < W0.heap.size := by rw [hW]; simp
    rw [← hW] at hst ⊢
    clear hW
    obtain ⟨⟨x0, x1, x2, x3, x4, x5, x6, x7, x8, x9, x10, x11, x12⟩, xf⟩ := hx1
    obtain ⟨⟨y0, y1, y2, y3, y4, y5, y6, y7, y8, y9, y10, y11, y12⟩, yf⟩ := hx2
    clear xf yf
    go_wp2_with fail
    go_ret
    exact ⟨rfl, hst⟩
end Go.Proofs.Ytmljmabbopkpiaa