/- instr.machine.do, step . -/
import Derived.Test.YtmljmabbopkpiaaMach4
import Derived.Test.YtmljmabbopkpiaaSend
import Derived.Handy
import Derived.Laws.EntriesVeiled
namespace Go.Proofs.Ytmljmabbopkpiaa
open Go.RowKit
open BigFrame
set_option linter.unusedVariables false
set_option linter.unusedSimpArgs false

/-- what one instruction does: the state, and the error -/
def sendE (s : St) (v : Envi) (i : Ins) : Int :=
  if v.ports ≤ i.n then 188 else if s.regs i.a.toNat < v.look then 189 else if 281474976710656 - v.now < s.regs i.a.toNat then 1800 else if 256 ≤ s.sends.length then 1801 else 0
def doE (s : St) (v : Envi) (i : Ins) : Int :=
  if i.op = 2 then 184
  else if i.op = 5 ∨ i.op = 6 then (if s.regs i.b.toNat < 0 ∨ (s.cells.length : Int) ≤ s.regs i.b.toNat then 185 else 0)
  else if i.op = 7 then (if s.regs i.b.toNat < 1 then 186 else if s.draws = 1099511627776 then 187 else 0)
  else if i.op = 8 then sendE s v i
  else if i.op < 32 then 0
  else wrongE (i.op - 32) (s.regs i.c.toNat)
def doS (s : St) (v : Envi) (i : Ins) : St :=
  if doE s v i ≠ 0 then s
  else if i.op = 1 then { s with ended := true }
  else if i.op = 3 then s.put i.a.toNat i.n
  else if i.op = 4 then s.put i.a.toNat (s.regs i.b.toNat)
  else if i.op = 5 then s.put i.a.toNat (s.cells.getD (s.regs i.b.toNat).toNat 0)
  else if i.op = 6 then { s with cells := s.cells.set (s.regs i.b.toNat).toNat (s.regs i.a.toNat), at_ := s.at_ + 1 }
  else if i.op = 7 then { s.put i.a.toNat (drawI v.seed v.process s.draws (s.regs i.b.toNat)) with draws := s.draws + 1 }
  else if i.op = 8 then { s with at_ := s.at_ + 1, sends := s.sends ++ [⟨i.n, s.regs i.a.toNat, s.regs i.b.toNat⟩] }
  else if i.op = 9 then { s with at_ := i.n }
  else if i.op = 10 then { s with at_ := if s.regs i.a.toNat = 0 then i.n else s.at_ + 1 }
  else if i.op = 11 then { s with at_ := if s.regs i.a.toNat < 0 then i.n else s.at_ + 1 }
  else s.put i.a.toNat (applyV (i.op - 32) (s.regs i.b.toNat) (s.regs i.c.toNat))

theorem kind_0 (w : World) : (Instr.index 236 (Value.agg #[Value.int IntKind.u8 1, Value.func (Fn.func 132) #[] #[], Value.int IntKind.u8 2, Value.func (Fn.func 133) #[] #[], Value.int IntKind.u8 3, Value.func (Fn.func 134) #[] #[], Value.int IntKind.u8 4, Value.func (Fn.func 135) #[] #[], Value.int IntKind.u8 5, Value.func (Fn.func 136) #[] #[], Value.int IntKind.u8 6, Value.func (Fn.func 137) #[] #[], Value.int IntKind.u8 7, Value.func (Fn.func 138) #[] #[], Value.int IntKind.u8 8, Value.func (Fn.func 139) #[] #[], Value.int IntKind.u8 9, Value.func (Fn.func 140) #[] #[], Value.int IntKind.u8 10, Value.func (Fn.func 141) #[] #[], Value.int IntKind.u8 11, Value.func (Fn.func 142) #[] #[]]) (.int .i64 0)).run Try.prog w = .ok (.agg #[Value.int IntKind.u8 1, Value.func (Fn.func 132) #[] #[]]) w := by kernel_rfl
theorem kind_1 (w : World) : (Instr.index 236 (Value.agg #[Value.int IntKind.u8 1, Value.func (Fn.func 132) #[] #[], Value.int IntKind.u8 2, Value.func (Fn.func 133) #[] #[], Value.int IntKind.u8 3, Value.func (Fn.func 134) #[] #[], Value.int IntKind.u8 4, Value.func (Fn.func 135) #[] #[], Value.int IntKind.u8 5, Value.func (Fn.func 136) #[] #[], Value.int IntKind.u8 6, Value.func (Fn.func 137) #[] #[], Value.int IntKind.u8 7, Value.func (Fn.func 138) #[] #[], Value.int IntKind.u8 8, Value.func (Fn.func 139) #[] #[], Value.int IntKind.u8 9, Value.func (Fn.func 140) #[] #[], Value.int IntKind.u8 10, Value.func (Fn.func 141) #[] #[], Value.int IntKind.u8 11, Value.func (Fn.func 142) #[] #[]]) (.int .i64 1)).run Try.prog w = .ok (.agg #[Value.int IntKind.u8 2, Value.func (Fn.func 133) #[] #[]]) w := by kernel_rfl
theorem kind_2 (w : World) : (Instr.index 236 (Value.agg #[Value.int IntKind.u8 1, Value.func (Fn.func 132) #[] #[], Value.int IntKind.u8 2, Value.func (Fn.func 133) #[] #[], Value.int IntKind.u8 3, Value.func (Fn.func 134) #[] #[], Value.int IntKind.u8 4, Value.func (Fn.func 135) #[] #[], Value.int IntKind.u8 5, Value.func (Fn.func 136) #[] #[], Value.int IntKind.u8 6, Value.func (Fn.func 137) #[] #[], Value.int IntKind.u8 7, Value.func (Fn.func 138) #[] #[], Value.int IntKind.u8 8, Value.func (Fn.func 139) #[] #[], Value.int IntKind.u8 9, Value.func (Fn.func 140) #[] #[], Value.int IntKind.u8 10, Value.func (Fn.func 141) #[] #[], Value.int IntKind.u8 11, Value.func (Fn.func 142) #[] #[]]) (.int .i64 2)).run Try.prog w = .ok (.agg #[Value.int IntKind.u8 3, Value.func (Fn.func 134) #[] #[]]) w := by kernel_rfl
theorem kind_3 (w : World) : (Instr.index 236 (Value.agg #[Value.int IntKind.u8 1, Value.func (Fn.func 132) #[] #[], Value.int IntKind.u8 2, Value.func (Fn.func 133) #[] #[], Value.int IntKind.u8 3, Value.func (Fn.func 134) #[] #[], Value.int IntKind.u8 4, Value.func (Fn.func 135) #[] #[], Value.int IntKind.u8 5, Value.func (Fn.func 136) #[] #[], Value.int IntKind.u8 6, Value.func (Fn.func 137) #[] #[], Value.int IntKind.u8 7, Value.func (Fn.func 138) #[] #[], Value.int IntKind.u8 8, Value.func (Fn.func 139) #[] #[], Value.int IntKind.u8 9, Value.func (Fn.func 140) #[] #[], Value.int IntKind.u8 10, Value.func (Fn.func 141) #[] #[], Value.int IntKind.u8 11, Value.func (Fn.func 142) #[] #[]]) (.int .i64 3)).run Try.prog w = .ok (.agg #[Value.int IntKind.u8 4, Value.func (Fn.func 135) #[] #[]]) w := by kernel_rfl
theorem kind_4 (w : World) : (Instr.index 236 (Value.agg #[Value.int IntKind.u8 1, Value.func (Fn.func 132) #[] #[], Value.int IntKind.u8 2, Value.func (Fn.func 133) #[] #[], Value.int IntKind.u8 3, Value.func (Fn.func 134) #[] #[], Value.int IntKind.u8 4, Value.func (Fn.func 135) #[] #[], Value.int IntKind.u8 5, Value.func (Fn.func 136) #[] #[], Value.int IntKind.u8 6, Value.func (Fn.func 137) #[] #[], Value.int IntKind.u8 7, Value.func (Fn.func 138) #[] #[], Value.int IntKind.u8 8, Value.func (Fn.func 139) #[] #[], Value.int IntKind.u8 9, Value.func (Fn.func 140) #[] #[], Value.int IntKind.u8 10, Value.func (Fn.func 141) #[] #[], Value.int IntKind.u8 11, Value.func (Fn.func 142) #[] #[]]) (.int .i64 4)).run Try.prog w = .ok (.agg #[Value.int IntKind.u8 5, Value.func (Fn.func 136) #[] #[]]) w := by kernel_rfl
theorem kind_5 (w : World) : (Instr.index 236 (Value.agg #[Value.int IntKind.u8 1, Value.func (Fn.func 132) #[] #[], Value.int IntKind.u8 2, Value.func (Fn.func 133) #[] #[], Value.int IntKind.u8 3, Value.func (Fn.func 134) #[] #[], Value.int IntKind.u8 4, Value.func (Fn.func 135) #[] #[], Value.int IntKind.u8 5, Value.func (Fn.func 136) #[] #[], Value.int IntKind.u8 6, Value.func (Fn.func 137) #[] #[], Value.int IntKind.u8 7, Value.func (Fn.func 138) #[] #[], Value.int IntKind.u8 8, Value.func (Fn.func 139) #[] #[], Value.int IntKind.u8 9, Value.func (Fn.func 140) #[] #[], Value.int IntKind.u8 10, Value.func (Fn.func 141) #[] #[], Value.int IntKind.u8 11, Value.func (Fn.func 142) #[] #[]]) (.int .i64 5)).run Try.prog w = .ok (.agg #[Value.int IntKind.u8 6, Value.func (Fn.func 137) #[] #[]]) w := by kernel_rfl
theorem kind_6 (w : World) : (Instr.index 236 (Value.agg #[Value.int IntKind.u8 1, Value.func (Fn.func 132) #[] #[], Value.int IntKind.u8 2, Value.func (Fn.func 133) #[] #[], Value.int IntKind.u8 3, Value.func (Fn.func 134) #[] #[], Value.int IntKind.u8 4, Value.func (Fn.func 135) #[] #[], Value.int IntKind.u8 5, Value.func (Fn.func 136) #[] #[], Value.int IntKind.u8 6, Value.func (Fn.func 137) #[] #[], Value.int IntKind.u8 7, Value.func (Fn.func 138) #[] #[], Value.int IntKind.u8 8, Value.func (Fn.func 139) #[] #[], Value.int IntKind.u8 9, Value.func (Fn.func 140) #[] #[], Value.int IntKind.u8 10, Value.func (Fn.func 141) #[] #[], Value.int IntKind.u8 11, Value.func (Fn.func 142) #[] #[]]) (.int .i64 6)).run Try.prog w = .ok (.agg #[Value.int IntKind.u8 7, Value.func (Fn.func 138) #[] #[]]) w := by kernel_rfl
theorem kind_7 (w : World) : (Instr.index 236 (Value.agg #[Value.int IntKind.u8 1, Value.func (Fn.func 132) #[] #[], Value.int IntKind.u8 2, Value.func (Fn.func 133) #[] #[], Value.int IntKind.u8 3, Value.func (Fn.func 134) #[] #[], Value.int IntKind.u8 4, Value.func (Fn.func 135) #[] #[], Value.int IntKind.u8 5, Value.func (Fn.func 136) #[] #[], Value.int IntKind.u8 6, Value.func (Fn.func 137) #[] #[], Value.int IntKind.u8 7, Value.func (Fn.func 138) #[] #[], Value.int IntKind.u8 8, Value.func (Fn.func 139) #[] #[], Value.int IntKind.u8 9, Value.func (Fn.func 140) #[] #[], Value.int IntKind.u8 10, Value.func (Fn.func 141) #[] #[], Value.int IntKind.u8 11, Value.func (Fn.func 142) #[] #[]]) (.int .i64 7)).run Try.prog w = .ok (.agg #[Value.int IntKind.u8 8, Value.func (Fn.func 139) #[] #[]]) w := by kernel_rfl
theorem kind_8 (w : World) : (Instr.index 236 (Value.agg #[Value.int IntKind.u8 1, Value.func (Fn.func 132) #[] #[], Value.int IntKind.u8 2, Value.func (Fn.func 133) #[] #[], Value.int IntKind.u8 3, Value.func (Fn.func 134) #[] #[], Value.int IntKind.u8 4, Value.func (Fn.func 135) #[] #[], Value.int IntKind.u8 5, Value.func (Fn.func 136) #[] #[], Value.int IntKind.u8 6, Value.func (Fn.func 137) #[] #[], Value.int IntKind.u8 7, Value.func (Fn.func 138) #[] #[], Value.int IntKind.u8 8, Value.func (Fn.func 139) #[] #[], Value.int IntKind.u8 9, Value.func (Fn.func 140) #[] #[], Value.int IntKind.u8 10, Value.func (Fn.func 141) #[] #[], Value.int IntKind.u8 11, Value.func (Fn.func 142) #[] #[]]) (.int .i64 8)).run Try.prog w = .ok (.agg #[Value.int IntKind.u8 9, Value.func (Fn.func 140) #[] #[]]) w := by kernel_rfl
theorem kind_9 (w : World) : (Instr.index 236 (Value.agg #[Value.int IntKind.u8 1, Value.func (Fn.func 132) #[] #[], Value.int IntKind.u8 2, Value.func (Fn.func 133) #[] #[], Value.int IntKind.u8 3, Value.func (Fn.func 134) #[] #[], Value.int IntKind.u8 4, Value.func (Fn.func 135) #[] #[], Value.int IntKind.u8 5, Value.func (Fn.func 136) #[] #[], Value.int IntKind.u8 6, Value.func (Fn.func 137) #[] #[], Value.int IntKind.u8 7, Value.func (Fn.func 138) #[] #[], Value.int IntKind.u8 8, Value.func (Fn.func 139) #[] #[], Value.int IntKind.u8 9, Value.func (Fn.func 140) #[] #[], Value.int IntKind.u8 10, Value.func (Fn.func 141) #[] #[], Value.int IntKind.u8 11, Value.func (Fn.func 142) #[] #[]]) (.int .i64 9)).run Try.prog w = .ok (.agg #[Value.int IntKind.u8 10, Value.func (Fn.func 141) #[] #[]]) w := by kernel_rfl
theorem kind_10 (w : World) : (Instr.index 236 (Value.agg #[Value.int IntKind.u8 1, Value.func (Fn.func 132) #[] #[], Value.int IntKind.u8 2, Value.func (Fn.func 133) #[] #[], Value.int IntKind.u8 3, Value.func (Fn.func 134) #[] #[], Value.int IntKind.u8 4, Value.func (Fn.func 135) #[] #[], Value.int IntKind.u8 5, Value.func (Fn.func 136) #[] #[], Value.int IntKind.u8 6, Value.func (Fn.func 137) #[] #[], Value.int IntKind.u8 7, Value.func (Fn.func 138) #[] #[], Value.int IntKind.u8 8, Value.func (Fn.func 139) #[] #[], Value.int IntKind.u8 9, Value.func (Fn.func 140) #[] #[], Value.int IntKind.u8 10, Value.func (Fn.func 141) #[] #[], Value.int IntKind.u8 11, Value.func (Fn.func 142) #[] #[]]) (.int .i64 10)).run Try.prog w = .ok (.agg #[Value.int IntKind.u8 11, Value.func (Fn.func 142) #[] #[]]) w := by kernel_rfl

set_option maxRecDepth 100000 in
set_option maxHeartbeats 4000000 in
theorem do_walk (w : World) (g : Nat) (op E : Int) (R : World → Prop) (hlt : g < w.heap.size) (r18 : w.cell? ⟨g, 18, none⟩ = some (.int .u8 op))
    (h0 : op = 1 → ∀ W, Below w.heap.size w W → Calls Try.prog 132 #[.pointer (some ⟨g, 0, none⟩)] W fun e w' => e = .returned (.int .i64 E) ∧ R w')
    (h1 : op = 2 → ∀ W, Below w.heap.size w W → Calls Try.prog 133 #[.pointer (some ⟨g, 0, none⟩)] W fun e w' => e = .returned (.int .i64 E) ∧ R w')
    (h2 : op = 3 → ∀ W, Below w.heap.size w W → Calls Try.prog 134 #[.pointer (some ⟨g, 0, none⟩)] W fun e w' => e = .returned (.int .i64 E) ∧ R w')
    (h3 : op = 4 → ∀ W, Below w.heap.size w W → Calls Try.prog 135 #[.pointer (some ⟨g, 0, none⟩)] W fun e w' => e = .returned (.int .i64 E) ∧ R w')
    (h4 : op = 5 → ∀ W, Below w.heap.size w W → Calls Try.prog 136 #[.pointer (some ⟨g, 0, none⟩)] W fun e w' => e = .returned (.int .i64 E) ∧ R w')
    (h5 : op = 6 → ∀ W, Below w.heap.size w W → Calls Try.prog 137 #[.pointer (some ⟨g, 0, none⟩)] W fun e w' => e = .returned (.int .i64 E) ∧ R w')
    (h6 : op = 7 → ∀ W, Below w.heap.size w W → Calls Try.prog 138 #[.pointer (some ⟨g, 0, none⟩)] W fun e w' => e = .returned (.int .i64 E) ∧ R w')
    (h7 : op = 8 → ∀ W, Below w.heap.size w W → Calls Try.prog 139 #[.pointer (some ⟨g, 0, none⟩)] W fun e w' => e = .returned (.int .i64 E) ∧ R w')
    (h8 : op = 9 → ∀ W, Below w.heap.size w W → Calls Try.prog 140 #[.pointer (some ⟨g, 0, none⟩)] W fun e w' => e = .returned (.int .i64 E) ∧ R w')
    (h9 : op = 10 → ∀ W, Below w.heap.size w W → Calls Try.prog 141 #[.pointer (some ⟨g, 0, none⟩)] W fun e w' => e = .returned (.int .i64 E) ∧ R w')
    (h10 : op = 11 → ∀ W, Below w.heap.size w W → Calls Try.prog 142 #[.pointer (some ⟨g, 0, none⟩)] W fun e w' => e = .returned (.int .i64 E) ∧ R w')
    (hw : (∀ k : Nat, k < 11 → op ≠ k + 1) → ∀ W, Below w.heap.size w W → Calls Try.prog 143 #[.pointer (some ⟨g, 0, none⟩)] W fun e w' => e = .returned (.int .i64 E) ∧ R w') :
    Calls Try.prog 111 #[.pointer (some ⟨g, 0, none⟩)] w fun e w' => e = .returned (.int .i64 E) ∧ R w' := by
  have H0 := Lib.hid h0
  have H1 := Lib.hid h1
  have H2 := Lib.hid h2
  have H3 := Lib.hid h3
  have H4 := Lib.hid h4
  have H5 := Lib.hid h5
  have H6 := Lib.hid h6
  have H7 := Lib.hid h7
  have H8 := Lib.hid h8
  have H9 := Lib.hid h9
  have H10 := Lib.hid h10
  have HW := Lib.hid hw
  clear h0 h1 h2 h3 h4 h5 h6 h7 h8 h9 h10 hw
  have x0 := kind_0
  have x1 := kind_1
  have x2 := kind_2
  have x3 := kind_3
  have x4 := kind_4
  have x5 := kind_5
  have x6 := kind_6
  have x7 := kind_7
  have x8 := kind_8
  have x9 := kind_9
  have x10 := kind_10
  go_enter Try.func111, Try.ntmps111
  go_wp2_with fail
  go_loopw [4, 17] (fun _ k wr => ∃ j : Nat, k = .int .i64 j ∧ j ≤ 11 ∧ (∀ m : Nat, m < j → op ≠ m + 1) ∧ Below w.heap.size w wr) (fun _ k _ => 11 - (intOf k).toNat)
  case atStart => exact ⟨0, rfl, by omega, fun m hm => by omega, Below.refl _ _⟩
  case round =>
    obtain ⟨j, rfl, hj, hno, hb⟩ := hrel
    have HN := Lib.hid hno
    have HB := Lib.hid hb
    have hz := hb.size
    have r18' : wr.cell? ⟨g, 18, none⟩ = some (.int .u8 op) := (hb.cell (p := ⟨g, 18, none⟩) hlt).trans r18
    have r18a : ∀ o, (wr.alloc o).cell? ⟨g, 18, none⟩ = some (.int .u8 op) := fun o => (World.cell?_alloc_lt wr o _ (by show g < _; omega)).trans r18'
    have hne1 : ¬ g = wr.heap.size := by omega
    have hne2 : ¬ wr.heap.size = g := by omega
    clear hno hb
    have hcase : j = 0 ∨ j = 1 ∨ j = 2 ∨ j = 3 ∨ j = 4 ∨ j = 5 ∨ j = 6 ∨ j = 7 ∨ j = 8 ∨ j = 9 ∨ j = 10 ∨ j = 11 := by omega
    rcases hcase with rfl | rfl | rfl | rfl | rfl | rfl | rfl | rfl | rfl | rfl | rfl | rfl
    · by_cases ho : op = 1
      · have hd : ((1 : Int) == op) = true := by rw [ho]; rfl
        have HC := Lib.hid (H0.out ho)
        clear ho
        go_wp2_with go_quiet (fail)
        refine (HC.out _ (below_drewNm (HB.out.alloc hz _) _)).mono ?_
        rintro e w2 ⟨rfl, hR⟩
        go_wp2
        go_ret
        exact ⟨rfl, hR⟩
      · have hd : ((1 : Int) == op) = false := by rw [beq_eq_false_iff_ne]; exact fun e => ho e.symm
        have HO := Lib.hid ho
        clear ho
        go_wp2_with go_quiet (fail)
        go_roundw
        case rel =>
          refine ⟨1, rfl, by omega, fun m hm => ?_, below_drewNm (HB.out.alloc hz _) _⟩
          by_cases hm2 : m = 0
          · subst hm2; exact HO.out
          · exact HN.out m (by omega)
        case measure => simp [intOf]
    · by_cases ho : op = 2
      · have hd : ((2 : Int) == op) = true := by rw [ho]; rfl
        have HC := Lib.hid (H1.out ho)
        clear ho
        go_wp2_with go_quiet (fail)
        refine (HC.out _ (below_drewNm (HB.out.alloc hz _) _)).mono ?_
        rintro e w2 ⟨rfl, hR⟩
        go_wp2
        go_ret
        exact ⟨rfl, hR⟩
      · have hd : ((2 : Int) == op) = false := by rw [beq_eq_false_iff_ne]; exact fun e => ho e.symm
        have HO := Lib.hid ho
        clear ho
        go_wp2_with go_quiet (fail)
        go_roundw
        case rel =>
          refine ⟨2, rfl, by omega, fun m hm => ?_, below_drewNm (HB.out.alloc hz _) _⟩
          by_cases hm2 : m = 1
          · subst hm2; exact HO.out
          · exact HN.out m (by omega)
        case measure => simp [intOf]
    · by_cases ho : op = 3
      · have hd : ((3 : Int) == op) = true := by rw [ho]; rfl
        have HC := Lib.hid (H2.out ho)
        clear ho
        go_wp2_with go_quiet (fail)
        refine (HC.out _ (below_drewNm (HB.out.alloc hz _) _)).mono ?_
        rintro e w2 ⟨rfl, hR⟩
        go_wp2
        go_ret
        exact ⟨rfl, hR⟩
      · have hd : ((3 : Int) == op) = false := by rw [beq_eq_false_iff_ne]; exact fun e => ho e.symm
        have HO := Lib.hid ho
        clear ho
        go_wp2_with go_quiet (fail)
        go_roundw
        case rel =>
          refine ⟨3, rfl, by omega, fun m hm => ?_, below_drewNm (HB.out.alloc hz _) _⟩
          by_cases hm2 : m = 2
          · subst hm2; exact HO.out
          · exact HN.out m (by omega)
        case measure => simp [intOf]
    · by_cases ho : op = 4
      · have hd : ((4 : Int) == op) = true := by rw [ho]; rfl
        have HC := Lib.hid (H3.out ho)
        clear ho
        go_wp2_with go_quiet (fail)
        refine (HC.out _ (below_drewNm (HB.out.alloc hz _) _)).mono ?_
        rintro e w2 ⟨rfl, hR⟩
        go_wp2
        go_ret
        exact ⟨rfl, hR⟩
      · have hd : ((4 : Int) == op) = false := by rw [beq_eq_false_iff_ne]; exact fun e => ho e.symm
        have HO := Lib.hid ho
        clear ho
        go_wp2_with go_quiet (fail)
        go_roundw
        case rel =>
          refine ⟨4, rfl, by omega, fun m hm => ?_, below_drewNm (HB.out.alloc hz _) _⟩
          by_cases hm2 : m = 3
          · subst hm2; exact HO.out
          · exact HN.out m (by omega)
        case measure => simp [intOf]
    · by_cases ho : op = 5
      · have hd : ((5 : Int) == op) = true := by rw [ho]; rfl
        have HC := Lib.hid (H4.out ho)
        clear ho
        go_wp2_with go_quiet (fail)
        refine (HC.out _ (below_drewNm (HB.out.alloc hz _) _)).mono ?_
        rintro e w2 ⟨rfl, hR⟩
        go_wp2
        go_ret
        exact ⟨rfl, hR⟩
      · have hd : ((5 : Int) == op) = false := by rw [beq_eq_false_iff_ne]; exact fun e => ho e.symm
        have HO := Lib.hid ho
        clear ho
        go_wp2_with go_quiet (fail)
        go_roundw
        case rel =>
          refine ⟨5, rfl, by omega, fun m hm => ?_, below_drewNm (HB.out.alloc hz _) _⟩
          by_cases hm2 : m = 4
          · subst hm2; exact HO.out
          · exact HN.out m (by omega)
        case measure => simp [intOf]
    · by_cases ho : op = 6
      · have hd : ((6 : Int) == op) = true := by rw [ho]; rfl
        have HC := Lib.hid (H5.out ho)
        clear ho
        go_wp2_with go_quiet (fail)
        refine (HC.out _ (below_drewNm (HB.out.alloc hz _) _)).mono ?_
        rintro e w2 ⟨rfl, hR⟩
        go_wp2
        go_ret
        exact ⟨rfl, hR⟩
      · have hd : ((6 : Int) == op) = false := by rw [beq_eq_false_iff_ne]; exact fun e => ho e.symm
        have HO := Lib.hid ho
        clear ho
        go_wp2_with go_quiet (fail)
        go_roundw
        case rel =>
          refine ⟨6, rfl, by omega, fun m hm => ?_, below_drewNm (HB.out.alloc hz _) _⟩
          by_cases hm2 : m = 5
          · subst hm2; exact HO.out
          · exact HN.out m (by omega)
        case measure => simp [intOf]
    · by_cases ho : op = 7
      · have hd : ((7 : Int) == op) = true := by rw [ho]; rfl
        have HC := Lib.hid (H6.out ho)
        clear ho
        go_wp2_with go_quiet (fail)
        refine (HC.out _ (below_drewNm (HB.out.alloc hz _) _)).mono ?_
        rintro e w2 ⟨rfl, hR⟩
        go_wp2
        go_ret
        exact ⟨rfl, hR⟩
      · have hd : ((7 : Int) == op) = false := by rw [beq_eq_false_iff_ne]; exact fun e => ho e.symm
        have HO := Lib.hid ho
        clear ho
        go_wp2_with go_quiet (fail)
        go_roundw
        case rel =>
          refine ⟨7, rfl, by omega, fun m hm => ?_, below_drewNm (HB.out.alloc hz _) _⟩
          by_cases hm2 : m = 6
          · subst hm2; exact HO.out
          · exact HN.out m (by omega)
        case measure => simp [intOf]
    · by_cases ho : op = 8
      · have hd : ((8 : Int) == op) = true := by rw [ho]; rfl
        have HC := Lib.hid (H7.out ho)
        clear ho
        go_wp2_with go_quiet (fail)
        refine (HC.out _ (below_drewNm (HB.out.alloc hz _) _)).mono ?_
        rintro e w2 ⟨rfl, hR⟩
        go_wp2
        go_ret
        exact ⟨rfl, hR⟩
      · have hd : ((8 : Int) == op) = false := by rw [beq_eq_false_iff_ne]; exact fun e => ho e.symm
        have HO := Lib.hid ho
        clear ho
        go_wp2_with go_quiet (fail)
        go_roundw
        case rel =>
          refine ⟨8, rfl, by omega, fun m hm => ?_, below_drewNm (HB.out.alloc hz _) _⟩
          by_cases hm2 : m = 7
          · subst hm2; exact HO.out
          · exact HN.out m (by omega)
        case measure => simp [intOf]
    · by_cases ho : op = 9
      · have hd : ((9 : Int) == op) = true := by rw [ho]; rfl
        have HC := Lib.hid (H8.out ho)
        clear ho
        go_wp2_with go_quiet (fail)
        refine (HC.out _ (below_drewNm (HB.out.alloc hz _) _)).mono ?_
        rintro e w2 ⟨rfl, hR⟩
        go_wp2
        go_ret
        exact ⟨rfl, hR⟩
      · have hd : ((9 : Int) == op) = false := by rw [beq_eq_false_iff_ne]; exact fun e => ho e.symm
        have HO := Lib.hid ho
        clear ho
        go_wp2_with go_quiet (fail)
        go_roundw
        case rel =>
          refine ⟨9, rfl, by omega, fun m hm => ?_, below_drewNm (HB.out.alloc hz _) _⟩
          by_cases hm2 : m = 8
          · subst hm2; exact HO.out
          · exact HN.out m (by omega)
        case measure => simp [intOf]
    · by_cases ho : op = 10
      · have hd : ((10 : Int) == op) = true := by rw [ho]; rfl
        have HC := Lib.hid (H9.out ho)
        clear ho
        go_wp2_with go_quiet (fail)
        refine (HC.out _ (below_drewNm (HB.out.alloc hz _) _)).mono ?_
        rintro e w2 ⟨rfl, hR⟩
        go_wp2
        go_ret
        exact ⟨rfl, hR⟩
      · have hd : ((10 : Int) == op) = false := by rw [beq_eq_false_iff_ne]; exact fun e => ho e.symm
        have HO := Lib.hid ho
        clear ho
        go_wp2_with go_quiet (fail)
        go_roundw
        case rel =>
          refine ⟨10, rfl, by omega, fun m hm => ?_, below_drewNm (HB.out.alloc hz _) _⟩
          by_cases hm2 : m = 9
          · subst hm2; exact HO.out
          · exact HN.out m (by omega)
        case measure => simp [intOf]
    · by_cases ho : op = 11
      · have hd : ((11 : Int) == op) = true := by rw [ho]; rfl
        have HC := Lib.hid (H10.out ho)
        clear ho
        go_wp2_with go_quiet (fail)
        refine (HC.out _ (below_drewNm (HB.out.alloc hz _) _)).mono ?_
        rintro e w2 ⟨rfl, hR⟩
        go_wp2
        go_ret
        exact ⟨rfl, hR⟩
      · have hd : ((11 : Int) == op) = false := by rw [beq_eq_false_iff_ne]; exact fun e => ho e.symm
        have HO := Lib.hid ho
        clear ho
        go_wp2_with go_quiet (fail)
        go_roundw
        case rel =>
          refine ⟨11, rfl, by omega, fun m hm => ?_, below_drewNm (HB.out.alloc hz _) _⟩
          by_cases hm2 : m = 10
          · subst hm2; exact HO.out
          · exact HN.out m (by omega)
        case measure => simp [intOf]
    · go_wp2_with fail
      refine (HW.out HN.out _ HB.out).mono ?_
      rintro e w2 ⟨rfl, hR⟩
      go_wp2
      go_ret
      exact ⟨rfl, hR⟩
end Go.Proofs.Ytmljmabbopkpiaa
