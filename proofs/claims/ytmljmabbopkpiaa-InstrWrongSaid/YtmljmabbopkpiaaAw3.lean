/- more on AW: a cell of a block of one's own is set. -/
import Derived.Test.YtmljmabbopkpiaaAw2
namespace Go.Proofs.Ytmljmabbopkpiaa
set_option linter.unusedVariables false
set_option linter.unusedSimpArgs false
open Go.RowKit
section
variable {w W W' : World} {L : List Bk} {R : List Rd}
theorem Reads.none_' {B k : Nat} {A : Option Addr} : Reads W B k A 0 [] := ⟨by simp, fun h => absurd h (by omega)⟩
theorem AW.upd {g : Nat} {t : TypeId} {cs : Array Value} (h : AW w (⟨g, t, cs⟩ :: L) R W) (hg : w.heap.size ≤ g) (hR : ∀ e ∈ R, e.n = 0 ∧ e.xs = []) (hn : ∀ e ∈ L, e.g ≠ g) (i : Nat) (u : Value) : AW w (⟨g, t, cs.setIfInBounds i u⟩ :: L) R (W.setCell ⟨g, i, none⟩ u) :=
  ⟨h.b.setCell (p := ⟨g, i, none⟩) hg u, fun e he => by
    rcases List.mem_cons.1 he with rfl | he
    · exact (h.l _ (.head _)).set_ i u
    · exact (h.l _ (.tail _ he)).far (p := ⟨g, i, none⟩) (hn e he) u, fun e he => by
    obtain ⟨z1, z2⟩ := hR e he
    rw [z1, z2]
    exact Reads.none_'⟩
theorem u32_bd (x : Int) : 0 ≤ IntKind.u32.wrap x ∧ IntKind.u32.wrap x ≤ 4294967295 := by simp [IntKind.wrap, IntKind.bits, IntKind.signed]; omega
theorem AW.readBlk {g : Nat} {t : TypeId} {cs : Array Value} (h : AW w L R W) (hm : (⟨g, t, cs⟩ : Bk) ∈ L) (k n : Nat) (hl : cs.size = n * k) : AW w L (⟨k, some ⟨g, 0, none⟩, n, cs.toList⟩ :: R) W := by
  have hb := h.l _ hm
  refine h.read ⟨by simpa using hl, fun _ => ⟨_, rfl, hb.lt, fun j u hu => ?_⟩⟩
  rw [Addr.add_lit, Nat.zero_add, hb.cell]
  simpa using hu
end
end Go.Proofs.Ytmljmabbopkpiaa
