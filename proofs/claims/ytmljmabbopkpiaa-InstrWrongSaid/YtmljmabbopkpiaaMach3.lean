/- the machine of instr: draws. -/
import Derived.Test.YtmljmabbopkpiaaMach2
import Derived.StillTailTactics
import Derived.Handy
import Derived.Deep.RegionHeld3
import Derived.Deep.DeepCutAuto
namespace Go.Proofs.Ytmljmabbopkpiaa
open Go.RowKit
set_option linter.unusedVariables false
set_option linter.unusedSimpArgs false
set_option maxRecDepth 100000 in
theorem draw_bound (w : World) (base g : Nat) (s : St) (v : Envi) (i : Ins) (C S : Value) (h : Mac w base g s v i C S) (b0 : 0 ≤ i.b) (b8 : i.b < 8) (hn : s.regs i.b.toNat < 1) :
    Calls Try.prog 138 #[.pointer (some ⟨g, 0, none⟩)] w fun e w' => e = .returned (.int .i64 186) ∧ Mac w' base g s v i C S ∧ Below base w w' := by
  have H := Lib.hid h
  clear h
  go_enter Try.func138, Try.ntmps138
  go_wp2_with fail
  refine (rb_b w base g s v i C S H.out b0 b8).mono ?_
  rintro e w2 ⟨rfl, hb⟩
  go_wp2
  go_ret
  exact ⟨rfl, H.out.below hb, hb.mono H.out.lt⟩

set_option maxRecDepth 100000 in
theorem draw_max (w : World) (base g : Nat) (s : St) (v : Envi) (i : Ins) (C S : Value) (h : Mac w base g s v i C S) (b0 : 0 ≤ i.b) (b8 : i.b < 8) (hn : 1 ≤ s.regs i.b.toNat) (hd : s.draws = 1099511627776) :
    Calls Try.prog 138 #[.pointer (some ⟨g, 0, none⟩)] w fun e w' => e = .returned (.int .i64 187) ∧ Mac w' base g s v i C S ∧ Below base w w' := by
  have H := Lib.hid h
  have hr : w.cell? ⟨g, 11, none⟩ = some (.int .i64 1099511627776) := by rw [h.blk.cell, ← hd]; rfl
  have hl := h.blk.lt
  clear h
  go_enter Try.func138, Try.ntmps138
  go_wp2_with fail
  refine (rb_c w base g s v i C S H.out b0 b8).mono ?_
  rintro e w2 ⟨rfl, n, rfl⟩
  go_wp2
  go_ret
  exact ⟨rfl, H.out.drewN n, below_drewNm (Below.refl _ w) n⟩

set_option maxRecDepth 100000 in
set_option maxHeartbeats 1000000 in
theorem draw_c (w : World) (base g : Nat) (s : St) (v : Envi) (i : Ins) (C S : Value) (h : Mac w base g s v i C S) (h0 : 0 ≤ i.a) (h8 : i.a < 8) (b0 : 0 ≤ i.b) (b8 : i.b < 8) (a0 : 0 ≤ s.at_) (a1 : s.at_ ≤ 256)
    (p0 : 0 ≤ v.process) (p1 : v.process ≤ 65536) (d0 : 0 ≤ s.draws) (d1 : s.draws < 1099511627776) (hn : 1 ≤ s.regs i.b.toNat) :
    Calls Try.prog 138 #[.pointer (some ⟨g, 0, none⟩)] w fun e w' => e = .returned (.int .i64 0) ∧
      Mac w' base g { s.put i.a.toNat (drawI v.seed v.process s.draws (s.regs i.b.toNat)) with draws := s.draws + 1 } v i C S ∧ Below base w w' := by
  have H := Lib.hid h
  have hlt := h.blk.lt
  have hbl := h.lt
  have RC := Lib.hid fun w h => rb_b w base g s v i C S h b0 b8
  obtain ⟨x, hx⟩ : ∃ x, x = s.regs i.b.toNat := ⟨_, rfl⟩
  have DC := Lib.hid fun (W : World) => draw_ok v.seed v.process s.draws x W p0 p1 d0 (by omega) (by rw [hx]; exact hn)
  rw [← hx] at hn RC ⊢
  obtain ⟨D, hD⟩ : ∃ D, D = drawI v.seed v.process s.draws x := ⟨_, rfl⟩
  rw [← hD] at DC ⊢
  clear h hx hD
  go_enter Try.func138, Try.ntmps138
  go_wp2_with fail
  refine (RC.out w H.out).mono ?_
  rintro e w1 ⟨rfl, hb1⟩
  have h1 := H.out.below hb1
  have hlt1 := h1.blk.lt
  have hr11 : w1.cell? ⟨g, 11, none⟩ = some (.int .i64 s.draws) := h1.blk.cell 11
  have hr13 : w1.cell? ⟨g, 13, none⟩ = some (.int .u64 v.seed) := h1.blk.cell 13
  have hr14 : w1.cell? ⟨g, 14, none⟩ = some (.int .i64 v.process) := h1.blk.cell 14
  have HB := Lib.hid hb1
  have H1 := Lib.hid h1
  have RB := Lib.hid fun (W : World) (hW : Below w1.heap.size w1 W ∧ ∀ b o, b < w1.heap.size → W.cell? ⟨b, o, none⟩ = w1.cell? ⟨b, o, none⟩) => RC.out W (h1.below hW.1)
  clear h1 hb1
  go_upto_region 5 with fail
  go_cut [3, 5, 8, 9, 15] (fun p _ _ _ _ W => p = .int .i64 D ∧ Below w1.heap.size w1 W)
  case first =>
    go_region_held3 (fun W => Below w1.heap.size w1 W ∧ ∀ b o, b < w1.heap.size → W.cell? ⟨b, o, none⟩ = w1.cell? ⟨b, o, none⟩)
      (repeat' (first | exact preD | assumption | exact preR | refine preB ?_ hb2 | refine preE ?_ | refine preA ?_ _ | refine preS ?_ ?_ _ | omega | (simp; done) | (simp; omega)))
      ((first
       | (go_at_call 167; refine (RB.out _ ?_).mono ?_; (focus (repeat' (first | exact preD | assumption | exact preR | refine preB ?_ hb2 | refine preE ?_ | refine preA ?_ _ | refine preS ?_ ?_ _ | omega | (simp; done) | (simp; omega)))); rintro e w2 ⟨rfl, hb2⟩; obtain ⟨hc2, hf2⟩ := bcell hb2; have hz2 := hb2.size; try simp at hz2)
       | (go_at_call 27; refine (DC.out _).mono ?_; rintro e w2 ⟨rfl, hb2⟩; obtain ⟨hc2, hf2⟩ := bcell hb2; have hz2 := hb2.size; try simp at hz2)))
    all_goals (go_wp2_with fail; go_meet)
    all_goals (refine ⟨rfl, ?_⟩; first | exact And.left (by assumption) | skip)
  case rest => 
    obtain ⟨rfl, hB⟩ := hcut
    have h2 := H1.out.below hB
    have hr : wc.cell? ⟨g, 11, none⟩ = some (.int .i64 s.draws) := h2.blk.cell 11
    have hf : wc.frozen? ⟨g, 11, none⟩ = false := h2.blk.frozen 11
    have hg := h2.hg
    have hx := h2.set_ 11 (.int .i64 (s.draws + 1)) { s with draws := s.draws + 1 } i rfl rfl rfl
    have P := Lib.hid (put_c _ base g _ v i C S D hx h0 h8 a0 a1)
    have B := Lib.hid (((HB.out.mono hbl).trans (hB.mono H1.out.lt)).setCell (p := ⟨g, 11, none⟩) hg (.int .i64 (s.draws + 1)))
    clear h2 hx hB hr11 hr13 hr14
    go_wp2_with fail
    refine P.out.mono ?_
    rintro e w2 ⟨rfl, hm, hb⟩
    go_wp2
    go_ret
    exact ⟨rfl, hm, B.out.trans hb⟩
end Go.Proofs.Ytmljmabbopkpiaa
