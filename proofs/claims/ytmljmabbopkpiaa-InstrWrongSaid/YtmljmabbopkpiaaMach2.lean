/- the machine of instr: cells, draws, what is sent, words. -/
import Derived.Test.YtmljmabbopkpiaaMach
import Derived.Test.YtmljmabbopkpiaaApply
import Derived.Test.YtmljmabbopkpiaaRng
import Derived.Deep.QuietTactic
import Derived.BigQuiet
namespace Go.Proofs.Ytmljmabbopkpiaa
open Go.RowKit
set_option linter.unusedVariables false
set_option linter.unusedSimpArgs false

theorem qadd {P : Program} {f : FuncId} {args : Array Value} {w : World} {a n : Nat} {v : Value}
    (h : Calls P f args (w.drewN (a + n)) fun e w' => e = .returned v ∧ ∃ m, w' = (w.drewN (a + n)).drewN m) :
    Calls P f args (w.drewN (a + n)) fun e w'' => e = .returned v ∧ ∃ m, w'' = w.drewN (a + m) :=
  h.mono fun _ _ ⟨he, m, hm⟩ => ⟨he, n + m, by rw [hm, World.drewN_drewN, Nat.add_assoc]⟩
theorem own_slice {w : World} {base : Nat} {e : TypeId} {size : Nat} {v : Value} {n : Nat} {xs : List Value} (h : w.ownsRow base e size v n xs) : ∃ A c, v = .slice A n c := by
  rcases h.2 with ⟨rfl, rfl⟩ | ⟨g, cap, cur, rfl, _⟩
  · exact ⟨_, _, rfl⟩
  · exact ⟨_, _, rfl⟩

set_option maxRecDepth 100000 in
set_option maxHeartbeats 1000000 in
theorem cell_neg (w : World) (base g : Nat) (s : St) (v : Envi) (i : Ins) (C S : Value) (h : Mac w base g s v i C S) (b0 : 0 ≤ i.b) (b8 : i.b < 8) (hn : s.regs i.b.toNat < 0) :
    Calls Try.prog 168 #[.pointer (some ⟨g, 0, none⟩)] w fun e w' => e = .returned (.tuple #[.pointer none, .int .i64 185]) ∧ ∃ n, w' = w.drewN n := by
  have HB := Lib.hid fun w h => rb_c w base g s v i C S h b0 b8
  obtain ⟨x, hx⟩ : ∃ x, x = s.regs i.b.toNat := ⟨_, rfl⟩
  rw [← hx] at HB hn
  have hd : decide (x < 0) = true := by simpa using hn
  have H := Lib.hid h
  clear h hx
  go_enter Try.func168, Try.ntmps168
  go_wp2_with go_quiet ((go_at_call 167; first | exact Calls.quiet_of (HB.out _ H.out) | exact Calls.quiet_of (HB.out _ (H.out.drewN _))))
  go_ret2
  exact ⟨rfl, _, rfl⟩

set_option maxRecDepth 100000 in
set_option maxHeartbeats 1000000 in
theorem cell_far (w : World) (base g : Nat) (s : St) (v : Envi) (i : Ins) (C S : Value) (h : Mac w base g s v i C S) (b0 : 0 ≤ i.b) (b8 : i.b < 8) (hn : 0 ≤ s.regs i.b.toNat) (hl : (s.cells.length : Int) ≤ s.regs i.b.toNat) :
    Calls Try.prog 168 #[.pointer (some ⟨g, 0, none⟩)] w fun e w' => e = .returned (.tuple #[.pointer none, .int .i64 185]) ∧ ∃ n, w' = w.drewN n := by
  have HB := Lib.hid fun w h => rb_c w base g s v i C S h b0 b8
  obtain ⟨x, hx⟩ : ∃ x, x = s.regs i.b.toNat := ⟨_, rfl⟩
  rw [← hx] at HB hn hl
  have hd : decide (x < 0) = false := by simpa using hn
  have hc : w.cell? ⟨g, 10, none⟩ = some C := h.blk.cell 10
  obtain ⟨A, c, rfl⟩ := own_slice h.oc
  have H := Lib.hid h
  clear h hx
  go_enter Try.func168, Try.ntmps168
  go_wp2_with go_quiet ((go_at_call 167; first | exact Calls.quiet_of (HB.out _ H.out) | exact Calls.quiet_of (HB.out _ (H.out.drewN _))))
  go_ret2
  exact ⟨rfl, _, rfl⟩

set_option maxRecDepth 100000 in
set_option maxHeartbeats 1000000 in
theorem cell_ok (w : World) (base g : Nat) (s : St) (v : Envi) (i : Ins) (gc c : Nat) (S : Value) (h : Mac w base g s v i (.slice (some ⟨gc, 0, none⟩) s.cells.length c) S) (b0 : 0 ≤ i.b) (b8 : i.b < 8) (k : Nat) (hk : s.regs i.b.toNat = k) (hl : k < s.cells.length) :
    Calls Try.prog 168 #[.pointer (some ⟨g, 0, none⟩)] w fun e w' => e = .returned (.tuple #[.pointer (some ⟨gc, k, none⟩), .int .i64 0]) ∧ ∃ n, w' = w.drewN n := by
  have HB := Lib.hid fun w h => rb_c w base g s v i (.slice (some ⟨gc, 0, none⟩) s.cells.length c) S h b0 b8
  rw [hk] at HB
  have hd : decide ((k : Int) < 0) = false := by simp
  have hd2 : decide ((s.cells.length : Int) ≤ (k : Int)) = false := by simp; omega
  have h1 : (0 : Int) ≤ (k : Int) := by omega
  have h2 : (k : Int) < (s.cells.length : Int) := by omega
  have hc : w.cell? ⟨g, 10, none⟩ = some (.slice (some ⟨gc, 0, none⟩) s.cells.length c) := h.blk.cell 10
  have H := Lib.hid h
  clear h
  go_enter Try.func168, Try.ntmps168
  go_wp2_with go_quiet ((go_at_call 167; first | exact Calls.quiet_of (HB.out _ H.out) | exact Calls.quiet_of (HB.out _ (H.out.drewN _))))
  go_quiet ((go_at_call 167; exact qadd (HB.out _ (H.out.drewN _))))
  go_wp2
  go_ret2
  exact ⟨rfl, _, World.drewN_drewN _ _ _⟩

theorem cell_bad (w : World) (base g : Nat) (s : St) (v : Envi) (i : Ins) (C S : Value) (h : Mac w base g s v i C S) (b0 : 0 ≤ i.b) (b8 : i.b < 8) (hn : s.regs i.b.toNat < 0 ∨ (s.cells.length : Int) ≤ s.regs i.b.toNat) :
    Calls Try.prog 168 #[.pointer (some ⟨g, 0, none⟩)] w fun e w' => e = .returned (.tuple #[.pointer none, .int .i64 185]) ∧ ∃ n, w' = w.drewN n := by
  by_cases h0 : s.regs i.b.toNat < 0
  · exact cell_neg w base g s v i C S h b0 b8 h0
  · exact cell_far w base g s v i C S h b0 b8 (by omega) (by omega)

set_option maxRecDepth 100000 in
theorem load_bad (w : World) (base g : Nat) (s : St) (v : Envi) (i : Ins) (C S : Value) (h : Mac w base g s v i C S) (b0 : 0 ≤ i.b) (b8 : i.b < 8) (hn : s.regs i.b.toNat < 0 ∨ (s.cells.length : Int) ≤ s.regs i.b.toNat) :
    Calls Try.prog 136 #[.pointer (some ⟨g, 0, none⟩)] w fun e w' => e = .returned (.int .i64 185) ∧ Mac w' base g s v i C S ∧ Below base w w' := by
  have H := Lib.hid h
  have HN := Lib.hid hn
  clear h hn
  go_enter Try.func136, Try.ntmps136
  go_wp2_with fail
  refine (cell_bad w base g s v i C S H.out b0 b8 HN.out).mono ?_
  rintro e w2 ⟨rfl, n, rfl⟩
  go_wp2
  go_ret
  exact ⟨rfl, H.out.drewN n, below_drewNm (Below.refl _ w) n⟩

set_option maxRecDepth 100000 in
theorem load_ok (w : World) (base g : Nat) (s : St) (v : Envi) (i : Ins) (C S : Value) (h : Mac w base g s v i C S) (h0 : 0 ≤ i.a) (h8 : i.a < 8) (b0 : 0 ≤ i.b) (b8 : i.b < 8) (a0 : 0 ≤ s.at_) (a1 : s.at_ ≤ 256) (k : Nat) (hk : s.regs i.b.toNat = k) (hl : k < s.cells.length) :
    Calls Try.prog 136 #[.pointer (some ⟨g, 0, none⟩)] w fun e w' => e = .returned (.int .i64 0) ∧ Mac w' base g (s.put i.a.toNat (s.cells[k]'hl)) v i C S ∧ Below base w w' := by
  obtain ⟨gc, cap, rfl, _⟩ := h.oc.form (by omega)
  have hcell : w.cell? ⟨gc, k, none⟩ = some (.int .i64 (s.cells[k]'hl)) := by
    rw [h.oc.cellAt k (by omega)]; simp [int64s, hl]
  obtain ⟨x, hx⟩ : ∃ x, x = s.cells[k]'hl := ⟨_, rfl⟩
  rw [← hx] at hcell ⊢
  have H := Lib.hid h
  clear h hx
  go_enter Try.func136, Try.ntmps136
  go_wp2_with fail
  refine (cell_ok w base g s v i gc cap S H.out b0 b8 k hk hl).mono ?_
  rintro e w2 ⟨rfl, n, rfl⟩
  go_wp2_with fail
  refine (put_c _ base g s v i _ S x (H.out.drewN n) h0 h8 a0 a1).mono ?_
  rintro e w2 ⟨rfl, hm, hb⟩
  go_wp2
  go_ret
  exact ⟨rfl, hm, (below_drewNm (Below.refl _ w) n).trans hb⟩

theorem Mac.stored {w : World} {base g gc cap : Nat} {s : St} {v : Envi} {i : Ins} {S : Value} (h : Mac w base g s v i (.slice (some ⟨gc, 0, none⟩) s.cells.length cap) S) (k : Nat) (x : Int) (hl : k < s.cells.length) :
    Mac (w.setCell ⟨gc, k, none⟩ (.int .i64 x)) base g { s with cells := s.cells.set k x } v i (.slice (some ⟨gc, 0, none⟩) s.cells.length cap) S ∧ base ≤ gc := by
  have hb : base ≤ gc := by
    obtain ⟨g', cap', hv, hb, _⟩ := h.oc.form (by omega)
    cases hv
    exact hb
  have hne : g ≠ gc := fun e => own_blk_ne h.oc h.blk (by decide) (by simp [Value.ownBlock, e])
  refine ⟨⟨h.hg, h.blk.far hne _, ?_, ?_⟩, hb⟩
  · have := (h.oc.stored k (.int .i64 x)).1
    simpa [int64s] using this
  · refine ownsRow_keep h.os fun j hj _ => Below.heap_setCell _ _ _ _ (fun e => ?_)
    rcases h.os.2 with ⟨r, _⟩ | ⟨g2, cap2, cur, r, _, hh, _⟩
    · rw [r] at hj; simp [Value.ownBlock] at hj
    · rw [r] at hj
      have e2 : g2 = j := by simpa [Value.ownBlock] using hj
      exact own_blk_ne (t := 64) h.oc hh (by decide) (by rw [e2, e]; rfl)

set_option maxRecDepth 100000 in
theorem store_bad (w : World) (base g : Nat) (s : St) (v : Envi) (i : Ins) (C S : Value) (h : Mac w base g s v i C S) (b0 : 0 ≤ i.b) (b8 : i.b < 8) (hn : s.regs i.b.toNat < 0 ∨ (s.cells.length : Int) ≤ s.regs i.b.toNat) :
    Calls Try.prog 137 #[.pointer (some ⟨g, 0, none⟩)] w fun e w' => e = .returned (.int .i64 185) ∧ Mac w' base g s v i C S ∧ Below base w w' := by
  have H := Lib.hid h
  have HN := Lib.hid hn
  clear h hn
  go_enter Try.func137, Try.ntmps137
  go_wp2_with fail
  refine (cell_bad w base g s v i C S H.out b0 b8 HN.out).mono ?_
  rintro e w2 ⟨rfl, n, rfl⟩
  go_wp2
  go_ret
  exact ⟨rfl, H.out.drewN n, below_drewNm (Below.refl _ w) n⟩

set_option maxRecDepth 100000 in
theorem store_ok (w : World) (base g : Nat) (s : St) (v : Envi) (i : Ins) (C S : Value) (h : Mac w base g s v i C S) (h0 : 0 ≤ i.a) (h8 : i.a < 8) (b0 : 0 ≤ i.b) (b8 : i.b < 8) (a0 : 0 ≤ s.at_) (a1 : s.at_ ≤ 256) (k : Nat) (hk : s.regs i.b.toNat = k) (hl : k < s.cells.length) :
    Calls Try.prog 137 #[.pointer (some ⟨g, 0, none⟩)] w fun e w' => e = .returned (.int .i64 0) ∧ Mac w' base g { s with cells := s.cells.set k (s.regs i.a.toNat), at_ := s.at_ + 1 } v i C S ∧ Below base w w' := by
  obtain ⟨gc, cap, rfl, _⟩ := h.oc.form (by omega)
  have hfr : w.frozen? ⟨gc, k, none⟩ = false := h.oc.frozenAt k
  have hbg := (h.stored k (s.regs i.a.toNat) hl).2
  have hcell : w.cell? ⟨gc, k, none⟩ = some (.int .i64 (s.cells[k]'hl)) := by
    rw [h.oc.cellAt k (by omega)]; simp [int64s, hl]
  have hat : w.cell? ⟨g, 0, none⟩ = some (.int .i64 s.at_) := h.blk.cell 0
  have hfr2 : w.frozen? ⟨g, 0, none⟩ = false := h.blk.frozen 0
  have hne : ¬ g = gc := fun e => own_blk_ne h.oc h.blk (by decide) (by simp [Value.ownBlock, e])
  have hne2 : ¬ gc = g := fun e => hne e.symm
  have hfin := fun n => ((h.drewN n).stored k (s.regs i.a.toNat) hl).1.set_ 0 (.int .i64 (s.at_ + 1)) { s with cells := s.cells.set k (s.regs i.a.toNat), at_ := s.at_ + 1 } i rfl rfl rfl
  have hg := h.hg
  have HF := Lib.hid hfin
  have H := Lib.hid h
  clear h hfin
  go_enter Try.func137, Try.ntmps137
  go_wp2_with fail
  refine (cell_ok w base g s v i gc cap S H.out b0 b8 k hk hl).mono ?_
  rintro e w2 ⟨rfl, n, rfl⟩
  go_wp2_with fail
  refine (ra_c _ base g s v i _ S (H.out.drewN n) h0 h8).mono ?_
  rintro e w2 ⟨rfl, m, rfl⟩
  go_wp2
  go_ret
  exact ⟨rfl, HF.out _, (((below_drewNm (Below.refl _ w) _).setCell hbg _).setCell hg _)⟩
end Go.Proofs.Ytmljmabbopkpiaa
