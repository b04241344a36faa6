import Derived.Test.YtmljmabbopkpiaaG1
import Derived.Test.YtmljmabbopkpiaaG5
import Derived.Test.YtmljmabbopkpiaaProg
import Derived.IntWalk
import Derived.Test.YtmljmabbopkpiaaChecked
import Derived.ProofKit
import Derived.Deep.Slices
import Derived.Scope
section
/- what a straight walk knows of memory: blocks, and lists that read (the general part). -/
namespace Go.Proofs.Ytmljmabbopkpiaa
open Go.RowKit
set_option linter.unusedVariables false
set_option linter.unusedSimpArgs false

theorem below_drewNa {B : Nat} {a w : World} (h : Below B a w) (q : Nat) : Below B a (w.drewN q) := ⟨h.os, h.tape, h.output, h.size, h.block⟩
theorem reads_new (X : World) (t : TypeId) (cs : Array Value) (k n B gg : Nat) (h : gg = X.heap.size) (hB : gg < B) (hl : cs.size = n * k) : Reads (X.alloc (.cells cs t)) B k (some ⟨gg, 0, none⟩) n cs.toList := by
  subst h
  refine ⟨by simpa using hl, fun _ => ⟨_, rfl, hB, fun j u hu => ?_⟩⟩
  rw [Addr.add_lit, cell_of_row _ _ _ _ _ _ (heap_alloc_new X _), Nat.zero_add]
  simpa using hu
theorem Blk.row_far {W : World} {g k : Nat} {t : TypeId} {cs : Array Value} (h : Blk W g t cs) (hn : g ≠ k) (cs' : Array Value) : Blk (W.setRow k cs') g t cs := (setRow_other _ _ _ _ hn).trans h
theorem blk5 {W : World} {g : Nat} {t : TypeId} {a0 a1 a2 a3 a4 : Value} (h : Blk W g t #[a0, a1, a2, a3, a4]) :
    (W.cell? ⟨g, 0, none⟩ = some a0 ∧ W.cell? ⟨g, 1, none⟩ = some a1 ∧ W.cell? ⟨g, 2, none⟩ = some a2 ∧ W.cell? ⟨g, 3, none⟩ = some a3 ∧ W.cell? ⟨g, 4, none⟩ = some a4) ∧ ∀ i, W.frozen? ⟨g, i, none⟩ = false :=
  ⟨⟨h.cell 0, h.cell 1, h.cell 2, h.cell 3, h.cell 4⟩, fun i => h.frozen i⟩
theorem max_i64 (a b M : Int) (t u : TypeId) (v : Array TypeId) (h : (if a < b then b else a) = M) (w : World) : (Builtin.max_ v t #[.int .i64 a, .int .i64 b]).run Try.prog w = .ok (.int .i64 M) w := by
  subst h
  unfold Builtin.max_
  simp [Builtin.max2]
theorem Blk.row {W : World} {g : Nat} {t : TypeId} {cs : Array Value} (h : Blk W g t cs) (cs' : Array Value) : Blk (W.setRow g cs') g t cs' := setRow_heap _ _ _ _ _ _ h
def haltI : Ins := ⟨1, 0, 0, 0, 0⟩
theorem haltI_ok : haltI.ok := ⟨by decide, by decide, by decide, by decide, by decide, by decide, by decide, by decide, by decide, by decide⟩
theorem min_i64 (a b M : Int) (t u : TypeId) (v : Array TypeId) (h : (if b < a then b else a) = M) (w : World) : (Builtin.min_ v t #[.int .i64 a, .int .i64 b]).run Try.prog w = .ok (.int .i64 M) w := by
  subst h
  unfold Builtin.min_
  simp [Builtin.min2]
theorem infoIns : (Try.prog.info? 28).map (fun i => (i.zero, i.size, i.bytes)) = some (some (.agg #[.int .u8 0, .int .u8 0, .int .u8 0, .int .u8 0, .int .i64 0]), 5, 16) := by kernel_rfl
theorem ownsRow_keep {w w' : World} {base : Nat} {e : TypeId} {size : Nat} {v : Value} {n : Nat} {xs : List Value} (h : w.ownsRow base e size v n xs) (hk : ∀ g, v.ownBlock = some g → g < w.heap.size → w'.heap[g]? = w.heap[g]?) : w'.ownsRow base e size v n xs := by
  refine ⟨h.1, ?_⟩
  rcases h.2 with h2 | ⟨g, cap, cur, rfl, hb, hh, r⟩
  · exact .inl h2
  · have hlt : g < w.heap.size := by
      rcases Nat.lt_or_ge g w.heap.size with hlt | hge
      · exact hlt
      · rw [Array.getElem?_eq_none hge] at hh; cases hh
    exact .inr ⟨g, cap, cur, rfl, hb, by rw [hk g rfl hlt]; exact hh, r⟩
theorem own_slice {w : World} {base : Nat} {e : TypeId} {size : Nat} {v : Value} {n : Nat} {xs : List Value} (h : w.ownsRow base e size v n xs) : ∃ A c, v = .slice A n c := by
  rcases h.2 with ⟨rfl, rfl⟩ | ⟨g, cap, cur, rfl, _⟩
  · exact ⟨_, _, rfl⟩
  · exact ⟨_, _, rfl⟩
theorem own_alloc {W : World} {base size n : Nat} {e : TypeId} {v : Value} {xs : List Value} (h : W.ownsRow base e size v n xs) (o : Obj) : (W.alloc o).ownsRow base e size v n xs := ownsRow_keep h fun j _ hj => Below.heap_alloc W o j hj
theorem own_base {w : World} {base : Nat} {e : TypeId} {size : Nat} {v : Value} {n : Nat} {xs : List Value} (h : w.ownsRow base e size v n xs) : ∀ k, v.ownBlock = some k → base ≤ k := by
  intro k hk
  rcases h.2 with ⟨rfl, _⟩ | ⟨g, cap, cur, rfl, hb, _⟩
  · simp [Value.ownBlock] at hk
  · simp [Value.ownBlock] at hk; omega
/-! ### whole rows: how a walk loads and stores a struct at once -/
def blockOf : Value → Nat
  | .pointer (some a) => a.block
  | _ => 0
def aggOf : Value → Array Value
  | .agg c => c
  | _ => #[]
def rowOf (w : World) (g : Nat) : Array Value := match w.heap[g]? with | some (.cells cs _ _) => cs | _ => #[]
def IsRow (w : World) (g k : Nat) : Prop := ∃ t cs, Blk w g t cs ∧ cs.size = k
theorem Blk.isRow {w : World} {g k : Nat} {t : TypeId} {cs : Array Value} (h : Blk w g t cs) (hk : cs.size = k) : IsRow w g k := ⟨t, cs, h, hk⟩
theorem Blk.rowOf_eq {w : World} {g : Nat} {t : TypeId} {cs : Array Value} (h : Blk w g t cs) : rowOf w g = cs := by
  unfold rowOf; rw [show w.heap[g]? = some (.cells cs t (0, 0)) from h]
section
variable {d : Option Tmp} {x y : Operand} {ty : TypeId} {pos : String} {after : Array Edge} {guard : Option (Nat × Bool)} {a : Act} {w : World} {K : Act → World → Prop} {Q : Exit → Act → World → Prop}
set_option maxRecDepth 100000 in
theorem wp_load_any (t k : Nat) (hrun : ∀ g t' cs, Blk w g t' cs → cs.size = k → (loadVar t ⟨g, 0, none⟩).run Try.prog w = .ok (.agg cs) w)
    (hx : a.eval x = .pointer (some ⟨blockOf (a.eval x), 0, none⟩)) (hb : IsRow w (blockOf (a.eval x)) k) :
    Oper.wp Try.prog ⟨d, .load t x, ty, pos, after, guard⟩ a w K Q = K (a.put d (.agg (rowOf w (blockOf (a.eval x))))) w := by
  obtain ⟨g, hg⟩ : ∃ g, g = blockOf (a.eval x) := ⟨_, rfl⟩
  rw [← hg] at hx hb ⊢
  obtain ⟨t', cs, hB, hk⟩ := hb
  rw [hB.rowOf_eq]
  have hr := hrun g t' cs hB hk
  unfold Oper.wp execOp
  simp only [hx, Instr.loadAt, Instr.sureAddr, Sem.run_bind, Sem.run_pure, Result.andThen_ok, hr]
  rfl
set_option maxRecDepth 100000 in
theorem wp_store_at (t k : Nat) (hi : (Try.prog.info? t).map (·.size) = some k)
    (hx : a.eval x = .pointer (some ⟨blockOf (a.eval x), 0, none⟩)) (hb : IsRow w (blockOf (a.eval x)) k) (hy : a.eval y = .agg (aggOf (a.eval y))) (hs : (aggOf (a.eval y)).size = k) (h1 : (aggOf (a.eval y)).all (·.oneCell') = true) :
    Oper.wp Try.prog ⟨d, .store t x y, ty, pos, after, guard⟩ a w K Q = K (a.put d undef) (w.setRow (blockOf (a.eval x)) (aggOf (a.eval y))) := by
  obtain ⟨g, hg⟩ : ∃ g, g = blockOf (a.eval x) := ⟨_, rfl⟩
  obtain ⟨c, hc⟩ : ∃ c, c = aggOf (a.eval y) := ⟨_, rfl⟩
  rw [← hg] at hx hb ⊢
  rw [← hc] at hy hs h1 ⊢
  obtain ⟨t', cs, hB, hk⟩ := hb
  unfold Oper.wp execOp
  simp only [hx, hy, Instr.storeAt, Instr.sureAddr, Sem.run_bind, Sem.run_pure, Result.andThen_ok, run_storeVar_row w g t' t cs c hB (by rw [hs]; exact hi) (by rw [hs, hk]) h1]
  rfl
end

structure Rd where
  size : Nat
  A : Option Addr
  n : Nat
  xs : List Value
structure Bk where
  g : Nat
  t : TypeId
  cs : Array Value
structure AW (w : World) (L : List Bk) (R : List Rd) (W : World) : Prop where
  b : Below w.heap.size w W
  l : ∀ e ∈ L, Blk W e.g e.t e.cs
  r : ∀ e ∈ R, Reads W W.heap.size e.size e.A e.n e.xs
section
variable {w W W' : World} {L : List Bk} {R : List Rd}
theorem AW.start (w : World) : AW w [] [⟨1, none, 0, []⟩, ⟨3, none, 0, []⟩] w :=
  ⟨Below.refl _ _, by simp, fun e he => by
    simp only [List.mem_cons, List.not_mem_nil, or_false] at he
    rcases he with rfl | rfl <;> exact Reads.none_⟩
theorem AW.drew (h : AW w L R W) : AW w L R W.drew := ⟨h.b.drew, h.l, h.r⟩
theorem AW.drewN (h : AW w L R W) (n : Nat) : AW w L R (W.drewN n) := ⟨below_drewNa h.b n, h.l, h.r⟩
theorem AW.call (h : AW w L R W) (hb : Below W.heap.size W W') : AW w L R W' :=
  ⟨h.b.trans (hb.mono h.b.size), fun e he => (h.l e he).below hb (h.l e he).lt, fun e he => ((h.r e he).below hb).more hb.size⟩
theorem AW.alloc (h : AW w L R W) (o : Obj) : AW w L R (W.alloc o) :=
  ⟨h.b.alloc h.b.size _, fun e he => (h.l e he).alloc _, fun e he => ((h.r e he).alloc (Nat.le_refl _) o).more (by simp)⟩
theorem AW.put (h : AW w L R W) (t : TypeId) (cs : Array Value) : AW w (⟨W.heap.size, t, cs⟩ :: L) R (W.alloc (.cells cs t)) :=
  ⟨(h.alloc _).b, fun e he => by
    rcases List.mem_cons.1 he with rfl | he
    · exact Blk.new _ _ _
    · exact (h.alloc _).l e he, (h.alloc _).r⟩
theorem AW.put' (h : AW w L R W) (t : TypeId) (cs : Array Value) {g : Nat} (hg : g = W.heap.size) : AW w (⟨g, t, cs⟩ :: L) R (W.alloc (.cells cs t)) := hg ▸ h.put t cs
theorem AW.read (h : AW w L R W) {e : Rd} (he : Reads W W.heap.size e.size e.A e.n e.xs) : AW w L (e :: R) W :=
  ⟨h.b, h.l, fun x hx => by
    rcases List.mem_cons.1 hx with rfl | hx
    · exact he
    · exact h.r x hx⟩
theorem AW.array (h : AW w L R W) (t : TypeId) (cs : Array Value) (k n : Nat) (hl : cs.size = n * k) : AW w L (⟨k, some ⟨W.heap.size, 0, none⟩, n, cs.toList⟩ :: R) (W.alloc (.cells cs t)) :=
  (h.alloc _).read (reads_new W t cs k n _ _ rfl (by simp) hl)
theorem AW.array' (h : AW w L R W) (t : TypeId) (cs : Array Value) (k n : Nat) (hl : cs.size = n * k) {g : Nat} (hg : g = W.heap.size) : AW w L (⟨k, some ⟨g, 0, none⟩, n, cs.toList⟩ :: R) (W.alloc (.cells cs t)) := hg ▸ h.array t cs k n hl
theorem AW.row_head {e : Bk} (h : AW w (e :: L) R W) : IsRow W e.g e.cs.size := (h.l e (.head _)).isRow rfl
theorem AW.none3 (h : AW w L R W) : AW w L (⟨3, none, 0, []⟩ :: R) W := h.read Reads.none_
theorem AW.less (h : AW w L R W) {L' : List Bk} {R' : List Rd} (hl : L' ⊆ L) (hr : R' ⊆ R) : AW w L' R' W := ⟨h.b, fun e he => h.l e (hl he), fun e he => h.r e (hr he)⟩
theorem AW.of_own (h : AW w L R W) {base e size n c : Nat} {A : Option Addr} {xs : List Value} (ho : W.ownsRow base e size (.slice A n c) n xs) : AW w L (⟨size, A, n, xs⟩ :: R) W := h.read (Reads.of_own ho)

theorem AW.row5 (h : AW w L R W) (g : Nat) (t : TypeId) (a0 a1 a2 a3 a4 : Value) (hm : (⟨g, t, #[a0, a1, a2, a3, a4]⟩ : Bk) ∈ L) : IsRow W g 5 ∧ rowOf W g = #[a0, a1, a2, a3, a4] := ⟨(h.l _ hm).isRow rfl, (h.l _ hm).rowOf_eq⟩
theorem isRow_alloc {g k : Nat} {o : Obj} (h : IsRow W g k) : IsRow (W.alloc o) g k := by
  obtain ⟨t, cs, hb, hk⟩ := h
  exact ⟨t, cs, hb.alloc o, hk⟩
theorem rowOf_alloc5 {g : Nat} {o : Obj} (h : IsRow W g 5) : rowOf (W.alloc o) g = rowOf W g := by
  obtain ⟨t, cs, hb, hk⟩ := h
  rw [hb.rowOf_eq, (hb.alloc o).rowOf_eq]
theorem rowOf_alloc13 {g : Nat} {o : Obj} (h : IsRow W g 13) : rowOf (W.alloc o) g = rowOf W g := by
  obtain ⟨t, cs, hb, hk⟩ := h
  rw [hb.rowOf_eq, (hb.alloc o).rowOf_eq]
theorem isRow_new {g k : Nat} {t : TypeId} {cs : Array Value} (hg : g = W.heap.size) (hk : cs.size = k) : IsRow (W.alloc (.cells cs t)) g k := ⟨t, cs, hg ▸ Blk.new W t cs, hk⟩
theorem below_al {a : World} (h : Below a.heap.size a W) (o : Obj) : Below a.heap.size a (W.alloc o) := h.alloc h.size o
theorem Reads.al {k n : Nat} {A : Option Addr} {xs : List Value} (h : Reads W W.heap.size k A n xs) (o : Obj) : Reads (W.alloc o) (W.alloc o).heap.size k A n xs := (h.alloc (Nat.le_refl _) o).more (by simp)
theorem reads_00 {g : Nat} (hg : g = W.heap.size) : Reads (W.alloc (.cells #[.int .i64 0, .int .i64 0] 2)) (W.alloc (.cells #[.int .i64 0, .int .i64 0] 2)).heap.size 1 (some ⟨g, 0, none⟩) 2 (int64s [0, 0]) := reads_new W _ #[.int .i64 0, .int .i64 0] 1 2 _ _ hg (by simp [hg]) rfl
theorem IsRow.below {g k : Nat} (h : IsRow W g k) (hb : Below W.heap.size W W') : IsRow W' g k := by
  obtain ⟨t, cs, hB, hk⟩ := h
  exact ⟨t, cs, hB.below hb hB.lt, hk⟩
theorem Reads.call {k n : Nat} {A : Option Addr} {xs : List Value} (h : Reads W W.heap.size k A n xs) (hb : Below W.heap.size W W') : Reads W' W'.heap.size k A n xs := (h.below hb).more hb.size
theorem keepA {g : Nat} {c : Array Value} (h : IsRow W g 5 ∧ rowOf W g = c) (o : Obj) : IsRow (W.alloc o) g 5 ∧ rowOf (W.alloc o) g = c := ⟨isRow_alloc h.1, (rowOf_alloc5 h.1).trans h.2⟩
theorem keepD {g : Nat} {c : Array Value} (h : IsRow W g 5 ∧ rowOf W g = c) : IsRow W.drew g 5 ∧ rowOf W.drew g = c := h
theorem keepRow {g k : Nat} {c : Array Value} (h : IsRow W g 5 ∧ rowOf W g = c) (hn : g ≠ k) (cs : Array Value) : IsRow (W.setRow k cs) g 5 ∧ rowOf (W.setRow k cs) g = c := by
  obtain ⟨⟨t, ds, hb, hk⟩, h2⟩ := h
  have hb' := hb.row_far hn cs
  exact ⟨⟨t, ds, hb', hk⟩, hb'.rowOf_eq.trans (hb.rowOf_eq.symm.trans h2)⟩
theorem k5D {g : Nat} {a0 a1 a2 a3 a4 : Value} (h : (W.cell? ⟨g, 0, none⟩ = some a0 ∧ W.cell? ⟨g, 1, none⟩ = some a1 ∧ W.cell? ⟨g, 2, none⟩ = some a2 ∧ W.cell? ⟨g, 3, none⟩ = some a3 ∧ W.cell? ⟨g, 4, none⟩ = some a4) ∧ g < W.heap.size) : ((W.drew).cell? ⟨g, 0, none⟩ = some a0 ∧ (W.drew).cell? ⟨g, 1, none⟩ = some a1 ∧ (W.drew).cell? ⟨g, 2, none⟩ = some a2 ∧ (W.drew).cell? ⟨g, 3, none⟩ = some a3 ∧ (W.drew).cell? ⟨g, 4, none⟩ = some a4) ∧ g < (W.drew).heap.size := h
theorem k5A {g : Nat} {a0 a1 a2 a3 a4 : Value} (h : (W.cell? ⟨g, 0, none⟩ = some a0 ∧ W.cell? ⟨g, 1, none⟩ = some a1 ∧ W.cell? ⟨g, 2, none⟩ = some a2 ∧ W.cell? ⟨g, 3, none⟩ = some a3 ∧ W.cell? ⟨g, 4, none⟩ = some a4) ∧ g < W.heap.size) (o : Obj) : ((W.alloc o).cell? ⟨g, 0, none⟩ = some a0 ∧ (W.alloc o).cell? ⟨g, 1, none⟩ = some a1 ∧ (W.alloc o).cell? ⟨g, 2, none⟩ = some a2 ∧ (W.alloc o).cell? ⟨g, 3, none⟩ = some a3 ∧ (W.alloc o).cell? ⟨g, 4, none⟩ = some a4) ∧ g < (W.alloc o).heap.size := by
  obtain ⟨⟨h0, h1, h2, h3, h4⟩, hl⟩ := h
  refine ⟨⟨?_, ?_, ?_, ?_, ?_⟩, by simp; omega⟩
  · rw [World.cell?_alloc_lt W o _ hl]; exact h0
  · rw [World.cell?_alloc_lt W o _ hl]; exact h1
  · rw [World.cell?_alloc_lt W o _ hl]; exact h2
  · rw [World.cell?_alloc_lt W o _ hl]; exact h3
  · rw [World.cell?_alloc_lt W o _ hl]; exact h4
theorem k5R {g k : Nat} {a0 a1 a2 a3 a4 : Value} (h : (W.cell? ⟨g, 0, none⟩ = some a0 ∧ W.cell? ⟨g, 1, none⟩ = some a1 ∧ W.cell? ⟨g, 2, none⟩ = some a2 ∧ W.cell? ⟨g, 3, none⟩ = some a3 ∧ W.cell? ⟨g, 4, none⟩ = some a4) ∧ g < W.heap.size) (hn : g ≠ k) (cs : Array Value) : ((W.setRow k cs).cell? ⟨g, 0, none⟩ = some a0 ∧ (W.setRow k cs).cell? ⟨g, 1, none⟩ = some a1 ∧ (W.setRow k cs).cell? ⟨g, 2, none⟩ = some a2 ∧ (W.setRow k cs).cell? ⟨g, 3, none⟩ = some a3 ∧ (W.setRow k cs).cell? ⟨g, 4, none⟩ = some a4) ∧ g < (W.setRow k cs).heap.size := by
  obtain ⟨⟨h0, h1, h2, h3, h4⟩, hl⟩ := h
  have hk : ∀ i, (W.setRow k cs).cell? ⟨g, i, none⟩ = W.cell? ⟨g, i, none⟩ := fun i => by
    unfold World.cell?
    rw [setRow_other W k g cs hn]
  exact ⟨⟨(hk 0).trans h0, (hk 1).trans h1, (hk 2).trans h2, (hk 3).trans h3, (hk 4).trans h4⟩, by simpa using hl⟩
theorem isRow_drew {g k : Nat} : IsRow W.drew g k = IsRow W g k := rfl
theorem isRow_drewN {g k n : Nat} : IsRow (W.drewN n) g k = IsRow W g k := rfl
theorem rowOf_drew {g : Nat} : rowOf W.drew g = rowOf W g := rfl
theorem rowOf_drewN {g n : Nat} : rowOf (W.drewN n) g = rowOf W g := rfl
end
end Go.Proofs.Ytmljmabbopkpiaa
end

section
/- What a law of layer 17 is handed, opened for a walk over symbolic values; and from a walk to a law. -/
namespace Go.Proofs.Ytmljmabbopkpiaa
open Go.ChangeShapes Go.WideShapes Go.ChangeAt Go.RowKit Go.Deep
set_option linter.unusedVariables false
set_option linter.unusedSimpArgs false

theorem cell_lt17 {w : World} {p : Addr} {v : Value} (h : w.cell? p = some v) : p.block < w.heap.size := by
  rcases Nat.lt_or_ge p.block w.heap.size with hl | hg
  · exact hl
  · unfold World.cell? at h
    rw [Array.getElem?_eq_none hg] at h
    cases h
theorem trod_int_at17 {H : Type} {enc : TypeId × Value → H} {w : World} {base : Nat} {spare : Nat → Bool} {held : Bool} {n : Nat} {v : Value} {x : DataW H × List MemPlace} {t : TypeId} {k : IntKind} (ht : Try.prog.underlying t = some (.int k)) (h : DataW.trod enc Try.prog w base spare held n t [v] = some x) : ∃ a, v = .int k a ∧ (Lit.int k a).wf = true := by
  obtain ⟨a, e0, _, b⟩ := DataW.trod_int ht h
  exact ⟨a, (List.cons.inj e0).1, b⟩
set_option maxRecDepth 100000 in
theorem open_small17s {H : Type} {enc : TypeId × Value → H} {w : World} {n : Nat} {v : Value} {x : DataW H × List MemPlace} (h : DataW.trod enc Try.prog w 0 (fun _ => true) true n 22 [v] = some x) :
    ∃ A l c xs, v = .slice A l c ∧ l ≤ c ∧ c ≤ 9223372036854775807 ∧ (∀ i ∈ xs, Ins.ok i) ∧ Reads w w.heap.size 5 A l (insV xs) := by
  have h5 : Try.prog.cellsOf 121 = 5 := by kernel_rfl
  have hc1 : Try.prog.cellsOf 5 = 1 := by kernel_rfl
  have hc2 : Try.prog.cellsOf 2 = 1 := by kernel_rfl
  rcases open_slice Try.underlying22 h with ⟨h0, _⟩ | ⟨a, len, cap, m, k, D, Pl, h0, _, hl, hm, hmm, _, hx⟩
  · exact ⟨none, 0, 0, [], (List.cons.inj h0).1, by omega, by omega, (fun _ h => by cases h), Reads.none_⟩
  · have hmc : m = cap := hmm.trans (if_pos rfl)
    have each : ∀ i, i < len → ∃ y : Ins, y.ok ∧ ∀ j u, y.cells[j]? = some u → w.cell? (a.add (i * 5 + j)) = some u := by
      intro i hi
      obtain ⟨cs', h1, h2⟩ := hx i (by omega)
      rw [h5] at h1
      obtain ⟨_, hlen, hcell⟩ := World.cells?_some h1
      obtain ⟨ys, q, _, _, _, hyl, hf⟩ := DataW.trod_struct Try.underlying121 h2
      match ys, hyl, cs', hlen with
      | [y0, y1, y2, y3, y4], _, [c0, c1, c2, c3, c4], _ =>
        have g0 : DataW.trod enc Try.prog w 0 (fun _ => true) true q 5 [c0] = some y0 := by simpa [hc1, hc2] using hf 0 _ rfl
        have g1 : DataW.trod enc Try.prog w 0 (fun _ => true) true q 5 [c1] = some y1 := by simpa [hc1, hc2] using hf 1 _ rfl
        have g2 : DataW.trod enc Try.prog w 0 (fun _ => true) true q 5 [c2] = some y2 := by simpa [hc1, hc2] using hf 2 _ rfl
        have g3 : DataW.trod enc Try.prog w 0 (fun _ => true) true q 5 [c3] = some y3 := by simpa [hc1, hc2] using hf 3 _ rfl
        have g4 : DataW.trod enc Try.prog w 0 (fun _ => true) true q 2 [c4] = some y4 := by simpa [hc1, hc2] using hf 4 _ rfl
        obtain ⟨a0, rfl, b0⟩ := trod_int_at17 Try.underlying5 g0
        obtain ⟨a1, rfl, b1⟩ := trod_int_at17 Try.underlying5 g1
        obtain ⟨a2, rfl, b2⟩ := trod_int_at17 Try.underlying5 g2
        obtain ⟨a3, rfl, b3⟩ := trod_int_at17 Try.underlying5 g3
        obtain ⟨a4, rfl, b4⟩ := trod_int_at17 Try.underlying2 g4
        simp [Lit.wf, IntKind.min, IntKind.max, IntKind.signed, IntKind.bits] at b0 b1 b2 b3 b4
        refine ⟨⟨a0, a1, a2, a3, a4⟩, ⟨b0.1, b0.2, b1.1, b1.2, b2.1, b2.2, b3.1, b3.2, b4.1, b4.2⟩, fun j u hj => ?_⟩
        have hj5 : j < 5 := (List.getElem?_eq_some_iff.1 hj).1
        have := hcell j hj5
        rw [Vm.add_add] at this
        rw [this]
        exact hj
    have : Inhabited Ins := ⟨⟨0, 0, 0, 0, 0⟩⟩
    obtain ⟨f, hf⟩ := choose_lt (n := len) (p := fun i (y : Ins) => y.ok ∧ ∀ j u, y.cells[j]? = some u → w.cell? (a.add (i * 5 + j)) = some u) each
    refine ⟨some a, len, cap, (List.range len).map f, (List.cons.inj h0).1, hl, by unfold maxLen at hm; omega, fun i hi => ?_, by rw [insV_len]; simp, fun hn => ⟨a, rfl, ?_, fun j u hu => ?_⟩⟩
    · obtain ⟨q, hq, rfl⟩ := List.mem_map.1 hi
      exact (hf q (List.mem_range.1 hq)).1
    · have := cell_lt17 ((hf 0 hn).2 0 _ rfl)
      rwa [block_of_add] at this
    · have hj := (List.getElem?_eq_some_iff.1 hu).1
      rw [insV_len] at hj
      simp at hj
      obtain ⟨q, r, hr5, rfl⟩ : ∃ q r, r < 5 ∧ j = q * 5 + r := ⟨j / 5, j % 5, by omega, by omega⟩
      have hq : q < len := by omega
      refine (hf q hq).2 r u ?_
      have hfl := flat_at Ins.cells 5 (fun _ => rfl) ((List.range len).map f) q r (f q) (by simp [hq]) hr5
      rw [← hfl]
      exact hu
namespace Vm
/-- a law that a walk has shown -/
theorem law_of_lit17 {f : FuncId} {args : List SV} {L0 L1 : List HB} {W : World} {β : Env} (H : LitOk Try.prog f args L0 (.bool true) L1) (R : Rep W (fun _ => False) β (hp L0) W) :
    Calls Try.prog f (denL β args).toArray W fun e W' => e = .returned (.bool true) ∧ Below W.heap.size W W' :=
  (H W _ β W R).mono fun e W' ⟨β', _, R', _, he⟩ => ⟨he, R'.os, R'.tape, R'.output, R'.size, fun k hk => R'.frame k hk id⟩
end Vm
end Go.Proofs.Ytmljmabbopkpiaa
end

section
/- Control: what a walk's end is, by the code around it; loops without a change of the base; joins; scopes. -/
namespace Go.Proofs.Ytmljmabbopkpiaa.Vm
open Go.RowKit
set_option linter.unusedVariables false
set_option linter.unusedSimpArgs false
set_option maxRecDepth 100000

section
variable {P : Program} {T : Tab} {C : FuncId → Option Spec} {w0 : World} {M : Nat → Prop} {E : Env} {n0 N n : Nat} {D : List Deferred} {φ φ2 φ' : Fr} {L L2 L' : List HB} {Q : Exit → Act → World → Prop} {ro : Option Nat} {K : Act → World → Prop}

theorem At.runEnd (hC : ∀ f S, C f = some S → CallOk P f S) (hT : TabOk P T) {ops : Array Oper} {k len : Nat} {l : List Oper} {c : Prop} {rs : List Rc} (hd : noDefer ops.toList = true) (hl : (ops.toList.drop k).take len = l) (hlen : l.length = len) (hr : runR T C N ops.toList φ L l = some (c, rs, φ', L')) (hc : c)
    (h : At w0 M E n0 N D φ' L' (Q .normal)) : At w0 M E n0 N D φ L (wpOpsIn (FR ro) n P ops Q (List.range' k len)) := by
  have := At.run (ro := ro) (n := n) (rest := []) hC hT hd hl hlen hr hc h
  rwa [List.append_nil] at this
theorem At.code {c : Code} (h : WF ro n P c w0 M E n0 N D φ L Q) : At w0 M E n0 N D φ L (c.wpIn (FR ro) n P Q) := h
theorem At.thenNormal (h : At w0 M E n0 N D φ L K) : At w0 M E n0 N D φ L (Exit.then K Q .normal) := h
theorem At.thenRet (h : At w0 M E n0 N D φ L (Q .ret)) : At w0 M E n0 N D φ L (Exit.then K Q .ret) := h
theorem At.thenExit {j : Nat} (h : At w0 M E n0 N D φ L (Q (.exit j))) : At w0 M E n0 N D φ L (Exit.then K Q (.exit j)) := h
theorem At.thenGoto {j : Nat} (h : At w0 M E n0 N D φ L (Q (.goto j))) : At w0 M E n0 N D φ L (Exit.then K Q (.goto j)) := h
theorem At.inNormal {id : Nat} (h : At w0 M E n0 N D φ L (Q .normal)) : At w0 M E n0 N D φ L (Exit.inBlock id Q .normal) := h
theorem At.inRet {id : Nat} (h : At w0 M E n0 N D φ L (Q .ret)) : At w0 M E n0 N D φ L (Exit.inBlock id Q .ret) := h
theorem At.inGoto {id j : Nat} (h : At w0 M E n0 N D φ L (Q (.goto j))) : At w0 M E n0 N D φ L (Exit.inBlock id Q (.goto j)) := h
theorem At.inHit {id : Nat} (h : At w0 M E n0 N D φ L (Q .normal)) : At w0 M E n0 N D φ L (Exit.inBlock id Q (.exit id)) := fun a w hS => by
  show (if id = id then Q .normal a w else Q (.exit id) a w)
  rw [if_pos rfl]
  exact h a w hS
theorem At.inMiss {id j : Nat} (hn : Nat.beq j id = false) (h : At w0 M E n0 N D φ L (Q (.exit j))) : At w0 M E n0 N D φ L (Exit.inBlock id Q (.exit j)) := fun a w hS => by
  show (if j = id then Q .normal a w else Q (.exit j) a w)
  rw [if_neg (fun e => by rw [e] at hn; simp at hn)]
  exact h a w hS
/-- no goto -/
theorem At.noGotoNormal (h : At w0 M E n0 N D φ L (Q .normal)) : At w0 M E n0 N D φ L (Exit.noGoto Q .normal) := h
theorem At.noGotoRet (h : At w0 M E n0 N D φ L (Q .ret)) : At w0 M E n0 N D φ L (Exit.noGoto Q .ret) := h
theorem At.noGotoExit {j : Nat} (h : At w0 M E n0 N D φ L (Q (.exit j))) : At w0 M E n0 N D φ L (Exit.noGoto Q (.exit j)) := h
theorem WF.scope {c : Code} (h : WF none n P c w0 M E n0 N D φ L (Exit.noGoto Q)) : WF none n P (.scope c) w0 M E n0 N D φ L Q := fun a w hS => by
  have h1 : c.wp P (Exit.noGoto Q) a w := wpIn_wide.1 (h a w hS)
  exact wpIn_wide.2 (wp_scope_straight h1)
/-- behind the first part it is thus, or thus .. -/
theorem WF.seqJoin {α : Type} (p : α → Prop) (φi : α → Fr) (Li : α → List HB) {x y : Code} (hx : WF ro n P x w0 M E n0 N D φ L (Exit.then (fun a w => ∃ z, p z ∧ St w0 M E n0 N D (φi z) (Li z) a w) Q)) (hy : ∀ z, p z → WF ro n P y w0 M E n0 N D (φi z) (Li z) Q) : WF ro n P (.seq x y) w0 M E n0 N D φ L Q := fun a w hS => by
  refine wpIn_seq (wpIn_mono (hx a w hS) fun e a' w' hq => ?_)
  cases e <;> try exact hq
  obtain ⟨z, hz, hS'⟩ := hq
  exact hy z hz a' w' hS'
theorem At.join {α : Type} {p : α → Prop} {φi : α → Fr} {Li : α → List HB} (z : α) (hz : p z) (hφ : SubF φ (φi z)) (hL : LessL L (Li z)) (h0 : hp (Li z) 0 = .gone) (hs : StableH (hp (Li z)) (Li z)) (hf : StableF (hp (Li z)) (φi z)) (hb : bornTo n0 (Li z) = true) : At w0 M E n0 N D φ L (fun a w => ∃ z, p z ∧ St w0 M E n0 N D (φi z) (Li z) a w) :=
  fun a w hS => ⟨z, hz, hS.sub hφ hL h0 hs hf hb⟩
open Classical in
/-- a loop in which the base stays -/
theorem WF.loop0 {α : Type} (p : α → Prop) (φi : α → Fr) (Li : α → List HB) (μ : α → Nat) {c : Code} (x0 : α) (h0 : p x0)
    (step : ∀ x, p x → WF ro n P c w0 M E n0 N D (φi x) (Li x) (Exit.then (fun a w => ∃ y, (p y ∧ μ y < μ x) ∧ St w0 M E n0 N D (φi y) (Li y) a w) Q)) : WF ro n P (.loop c) w0 M E n0 N D (φi x0) (Li x0) Q := by
  intro a w hS
  let I : Act → World → Prop := fun a w => ∃ x, p x ∧ St w0 M E n0 N D (φi x) (Li x) a w
  let pm : Act → World → Nat → Prop := fun a w k => ∃ x, p x ∧ St w0 M E n0 N D (φi x) (Li x) a w ∧ μ x = k
  have hex : ∀ a w, I a w → ∃ k, pm a w k := fun a w ⟨x, h1, h2⟩ => ⟨μ x, x, h1, h2, rfl⟩
  let m : Act → World → Nat := fun a w => if h : I a w then Classical.choose (least (hex a w h)) else 0
  have hm : ∀ a w (h : I a w), pm a w (m a w) ∧ ∀ k, pm a w k → m a w ≤ k := fun a w h => by
    have := Classical.choose_spec (least (hex a w h))
    simp only [m, h, dif_pos]
    exact this
  refine wpIn_loop I m ⟨x0, h0, hS⟩ fun a w hI => ?_
  obtain ⟨⟨x, hx, hSx, hμ⟩, hmin⟩ := hm a w hI
  refine wpIn_mono (step x hx a w hSx) fun e a' w' hq => ?_
  cases e <;> try exact hq
  obtain ⟨y, ⟨hy, hlt⟩, hSy⟩ := hq
  refine ⟨⟨y, hy, hSy⟩, ?_⟩
  have := (hm a' w' ⟨y, hy, hSy⟩).2 (μ y) ⟨y, hy, hSy, rfl⟩
  omega
/-- a loop from a state of which more is known -/
theorem WF.loopAt {α : Type} (p : α → Prop) (φi : α → Fr) (Li : α → List HB) (μ : α → Nat) {c : Code} (x0 : α) (h0 : p x0)
    (hφ : SubF φ (φi x0)) (hL : LessL L (Li x0)) (hz : hp (Li x0) 0 = .gone) (hs : StableH (hp (Li x0)) (Li x0)) (hf : StableF (hp (Li x0)) (φi x0)) (hb : bornTo n0 (Li x0) = true)
    (step : ∀ x, p x → WF ro n P c w0 M E n0 N D (φi x) (Li x) (Exit.then (fun a w => ∃ y, (p y ∧ μ y < μ x) ∧ St w0 M E n0 N D (φi y) (Li y) a w) Q)) : WF ro n P (.loop c) w0 M E n0 N D φ L Q :=
  WF.sub hφ hL hz hs hf hb (WF.loop0 p φi Li μ x0 h0 step)
theorem At.next {α : Type} {p : α → Prop} {φi : α → Fr} {Li : α → List HB} (y : α) (hy : p y) (hφ : SubF φ (φi y)) (hL : LessL L (Li y)) (h0 : hp (Li y) 0 = .gone) (hs : StableH (hp (Li y)) (Li y)) (hf : StableF (hp (Li y)) (φi y)) (hb : bornTo n0 (Li y) = true) : At w0 M E n0 N D φ L (fun a w => ∃ y, p y ∧ St w0 M E n0 N D (φi y) (Li y) a w) :=
  fun a w hS => ⟨y, hy, hS.sub hφ hL h0 hs hf hb⟩
/-- a whole function's end -/
theorem At.endsRet (hT : TabOk P T) {fn : Func} {c : Prop} {vs : List SV} {v : SV} {rs : List ResultVar} {L0 : List HB} {w1 : World} {M1 : Nat → Prop} {D1 : List Deferred} (A : Anc w0 M [] w1 M1 D1) (hro : RoOk w0 M E L0) (hL0 : L0.length ≤ n0) (hrs : fn.results.toList = rs) (hr : resV T φ (hp L) rs = some (c, vs)) (hc : c) (hL : LessL L L2) (h0 : hp L2 0 = .gone) (hs : StableH (hp L2) L2) (hsub : RoSub L L0) (hv : ∀ β, (resS vs).den β = v.den β) (hst : Stable (hp L2) v) :
    At w1 M1 E n0 N D1 φ L (EndsM n P fn w0 M E n0 v L2 .ret) := At.endsM hT A hro hL0 hrs hr hc hL h0 hs hsub hv hst
theorem At.endsNormal (hT : TabOk P T) {fn : Func} {c : Prop} {vs : List SV} {v : SV} {rs : List ResultVar} {L0 : List HB} {w1 : World} {M1 : Nat → Prop} {D1 : List Deferred} (A : Anc w0 M [] w1 M1 D1) (hro : RoOk w0 M E L0) (hL0 : L0.length ≤ n0) (hrs : fn.results.toList = rs) (hr : resV T φ (hp L) rs = some (c, vs)) (hc : c) (hL : LessL L L2) (h0 : hp L2 0 = .gone) (hs : StableH (hp L2) L2) (hsub : RoSub L L0) (hv : ∀ β, (resS vs).den β = v.den β) (hst : Stable (hp L2) v) :
    At w1 M1 E n0 N D1 φ L (EndsM n P fn w0 M E n0 v L2 .normal) := At.endsM hT A hro hL0 hrs hr hc hL h0 hs hsub hv hst
end
end Go.Proofs.Ytmljmabbopkpiaa.Vm
end

section
/- Short names for what every walk uses. -/
namespace Go.Proofs.Ytmljmabbopkpiaa.Vm
open Go.RowKit
set_option linter.defProp false
def J1 := @WF.seq
def J2 := @At.code
def J3 := @At.thenNormal
def J4 := @At.thenRet
def J5 := @At.thenExit
def J6 := @At.thenGoto
def J7 := @At.inNormal
def J8 := @At.inRet
def J9 := @At.inGoto
def J10 := @At.inHit
def J11 := @At.noGotoNormal
def J12 := @At.noGotoRet
def J13 := @At.noGotoExit
def J14 := @WF.skip
def J15 := @WF.ret
def J16 := @WF.exit
def J17 := @WF.goto
def J18 := @WF.label
def J19 := @WF.block
def J20 := @WF.scope
def J21 := @At.inMiss
def J22 := @WF.region
def J23 := @WF.drawn
def J24 := @WF.cond
def JH := And.intro @Bool.not_eq_true' (And.intro @Bool.not_eq_false' (And.intro @decide_eq_true_eq (And.intro @decide_eq_false_iff_not (And.intro @Bool.and_eq_true @Bool.or_eq_true))))
def JP := And.intro @Int.cast_ofNat_Int (And.intro @ofV_m1 @ofV_min)
def JS := And.intro @and_self (And.intro @true_and (And.intro @and_true (And.intro @false_implies (And.intro @true_implies (And.intro @Bool.not_eq_true' @imp_self)))))
end Go.Proofs.Ytmljmabbopkpiaa.Vm
end

section
/- Calls of functions that only read what the caller has: closures, pointers, slices of it; what they make may lead to it. -/
namespace Go.Proofs.Ytmljmabbopkpiaa.Vm
open Go.RowKit
set_option linter.unusedVariables false
set_option linter.unusedSimpArgs false
set_option maxRecDepth 100000

def rhoL (l : List Nat) (m : Nat) : Nat → Nat := fun i => if i < l.length then l.getD i 0 else m + (i - l.length)
def noMine : List HB → Bool
  | [] => true
  | b :: l => !b.mine && noMine l
theorem noMine_spec : ∀ {L : List HB}, noMine L = true → ∀ i, (hp L i).mine = false
  | [], _, i => by unfold hp; simp [HB.mine]
  | b :: l, h, 0 => by
    simp only [noMine, Bool.and_eq_true, Bool.not_eq_true'] at h
    exact h.1
  | b :: l, h, i + 1 => by
    simp only [noMine, Bool.and_eq_true] at h
    have := noMine_spec h.2 i
    unfold hp at this ⊢
    simpa using this
def FitL (ρ : Nat → Nat) (h : HM) : List HB → List Nat → Prop
  | [], _ => True
  | b :: l, n => match n with
    | j :: n => Fit ρ b (h j) ∧ FitL ρ h l n
    | [] => False
theorem fitL_get {ρ : Nat → Nat} {h : HM} : ∀ {L : List HB} {l : List Nat}, FitL ρ h L l → ∀ i, i < L.length → Fit ρ (hp L i) (h (l.getD i 0))
  | [], l, _, i, hi => by simp at hi
  | b :: L, [], hf, _, _ => by exact hf.elim
  | b :: L, j :: l, hf, 0, _ => hf.1
  | b :: L, j :: l, hf, i + 1, hi => by
    have := fitL_get hf.2 i (by simpa using hi)
    unfold hp at this ⊢
    simpa using this
/-- what a call has, and what it makes -/
def hG (n0 : Nat) (L0 L1 : List HB) : HM := fun i => if i < n0 then hp L0 i else hp L1 i
theorem laid_ro {L0 L1 : List HB} {h : HM} {l : List Nat} {m : Nat} {v : SV} (hlen : l.length = L0.length) (hpos : 0 < L0.length) (h00 : l.getD 0 0 = 0) (hz : hp L0 0 = .gone) (hno : noMine L0 = true) (hfit : FitL (rhoL l m) h L0 l) (hm : ∀ i, m ≤ i → i < m + (L1.length - L0.length) → h i = .dead) (hle : L0.length ≤ L1.length)
    (hst0 : StableH (hp L0) L0) (hstb : ∀ j, (h j).stable h) (hnew : NewL (hG L0.length L0 L1) (L1.drop L0.length)) (hv : Stable (hG L0.length L0 L1) v) :
    Laid L0 L1 h (wrs h (newB (rhoL l m) m (L1.drop L0.length))) (rhoL l m) m v := by
  obtain ⟨k, hk⟩ : ∃ k, k = L1.length - L0.length := ⟨_, rfl⟩
  have hdl : (L1.drop L0.length).length = k := by rw [List.length_drop, hk]
  have hrl : ∀ i, i < L0.length → rhoL l m i = l.getD i 0 := fun i hi => if_pos (by omega)
  have hrn : ∀ i, L0.length ≤ i → rhoL l m i = m + (i - L0.length) := fun i hi => by
    unfold rhoL; rw [if_neg (by omega), hlen]
  have hmin := noMine_spec hno
  have hget : ∀ j, m ≤ j → (L1.drop L0.length).getD (j - m) .dead = hp L1 (L0.length + (j - m)) := fun j hj => by
    unfold hp
    rw [List.getD_eq_getElem?_getD, List.getD_eq_getElem?_getD, List.getElem?_drop]
  have hnewj : ∀ j, m ≤ j → j < m + k → wrs h (newB (rhoL l m) m (L1.drop L0.length)) j = (hp L1 (L0.length + (j - m))).ren (rhoL l m) := fun j h1 h3 => by
    rw [wrs_newB, if_pos ⟨h1, by omega⟩, hget j h1]
  have holdj : ∀ j, ¬ (m ≤ j ∧ j < m + k) → wrs h (newB (rhoL l m) m (L1.drop L0.length)) j = h j := fun j hj => by
    rw [wrs_newB, if_neg (by rw [hdl]; exact hj)]
  have bornold : ∀ j, (h j).born = true → ¬ (m ≤ j ∧ j < m + k) := fun j hj hc => by
    rw [hm j hc.1 (by omega)] at hj; cases hj
  have more : ∀ i, (h i).born = true → (wrs h (newB (rhoL l m) m (L1.drop L0.length)) i).born = true := fun i hi => by rw [holdj i (bornold i hi)]; exact hi
  have hfit' : ∀ i, i < L0.length → Fit (rhoL l m) (hp L0 i) (h (rhoL l m i)) := fun i hi => by rw [hrl i hi]; exact fitL_get hfit i hi
  have moreG : ∀ i, (hG L0.length L0 L1 i).born = true → (wrs h (newB (rhoL l m) m (L1.drop L0.length)) (rhoL l m i)).born = true := fun i hi => by
    unfold hG at hi
    split at hi
    · rename_i hlt
      exact more _ (hfit' i hlt).born
    · rename_i hge
      have hlt : i < L1.length := by
        rcases Nat.lt_or_ge i L1.length with h' | h'
        · exact h'
        · rw [hp_dead h'] at hi; cases hi
      rw [hrn i (by omega), hnewj _ (by omega) (by omega), show L0.length + (m + (i - L0.length) - m) = i by omega]
      cases hh : hp L1 i <;> rw [hh] at hi <;> first | rfl | (cases hi; done)
  have hnewS := newL_spec hnew
  refine { z := by rw [hrl 0 hpos, h00], z0 := hz, new := fun i hi => hrn i hi, pre := hfit', inj := fun i j hi hj hne hmi => absurd hmi (by rw [hmin i]; exact Bool.false_ne_true), img := fun i hi hmi => absurd hmi (by rw [hmin i]; exact Bool.false_ne_true), old := fun j hj _ => holdj j (bornold j hj), fresh := fun j hj => ?_, un := fun i hi hb => ?_, st0 := stableH_spec hst0, st2 := fun j => ?_, stv := hv.ren moreG }
  · by_cases hc : m ≤ j ∧ j < m + k
    · exact .inr ⟨hc.1, hnewj j hc.1 hc.2, (hnewS _ (by omega)).2⟩
    · left
      rw [holdj j hc]
      cases hh : h j <;> rw [hh] at hj <;> first | rfl | (cases hj; done)
  · have hlt : i < L1.length := by
      rcases Nat.lt_or_ge i L1.length with h' | h'
      · exact h'
      · rw [hp_dead h'] at hb; cases hb
    rw [hrn i hi, hm _ (by omega) (by omega)]
    rfl
  · by_cases hc : m ≤ j ∧ j < m + k
    · rw [hnewj j hc.1 hc.2]
      have hs := (hnewS (L0.length + (j - m)) (by omega)).1
      cases hh : hp L1 (L0.length + (j - m)) with
      | own t u ex => rw [hh] at hs; exact Stable.ren moreG hs
      | ro u => rw [hh] at hs; exact Stable.ren moreG hs
      | raw o => trivial
      | gone => trivial
      | dead => trivial
    · rw [holdj j hc]
      have : (h j).stable h := hstb j
      exact HB.stable_more this more
theorem callG {P : Program} {f : FuncId} {args : List SV} {L0 L1 : List HB} {v : SV} {w0 w : World} {M : Nat → Prop} {β : Env} {h h' : HM} {m : Nat} (l : List Nat) (H : LitOk P f args L0 v L1) (R : Rep w0 M β h' w) (hlen : l.length = L0.length) (hpos : 0 < L0.length) (h00 : l.getD 0 0 = 0) (hz : hp L0 0 = .gone) (hno : noMine L0 = true) (hfit : FitL (rhoL l m) h' L0 l)
    (hm : ∀ i, m ≤ i → h i = .dead) (hwr : ∀ p ∈ newB (rhoL l m) m (L1.drop L0.length), h' p.1 = h p.1) (hle : L0.length ≤ L1.length)
    (hst0 : StableH (hp L0) L0) (hsta : StableL (hp L0) args) (hnew : NewL (hG L0.length L0 L1) (L1.drop L0.length)) (hv : Stable (hG L0.length L0 L1) v) :
    Calls P f (denL β (renL (rhoL l m) args)).toArray w fun e w' => ∃ β', (∀ i, (h' i).born = true → β i = β' i) ∧ Rep w0 M β' (wrs h' (newB (rhoL l m) m (L1.drop L0.length))) w' ∧ Stable (wrs h' (newB (rhoL l m) m (L1.drop L0.length))) (v.ren (rhoL l m)) ∧ e = .returned ((v.ren (rhoL l m)).den β') :=
  call_lit H R (laid_ro hlen hpos h00 hz hno hfit (fun i hi hlt => by
    obtain ⟨b, hb⟩ := newB_mem (ρ := rhoL l m) (l := L1.drop L0.length) hi (by rw [List.length_drop]; exact hlt)
    exact (hwr _ hb).trans (hm i hi)) hle hst0 R.st hnew hv) hsta

/-! ### other numbers at the end -/
def sg (l : List Nat) : Nat → Nat := fun i => l.getD i 0
def PickL (σ : Nat → Nat) (h : HM) : List HB → List Nat → Prop
  | [], _ => True
  | b :: l, n => match n with
    | j :: n => (b = .gone ∨ Less (h j) (b.ren σ)) ∧ PickL σ h l n
    | [] => False
theorem pickL_get {σ : Nat → Nat} {h : HM} : ∀ {L : List HB} {l : List Nat}, PickL σ h L l → ∀ i, i < L.length → hp L i = .gone ∨ Less (h (l.getD i 0)) ((hp L i).ren σ)
  | [], l, _, i, hi => by simp at hi
  | b :: L, [], hf, _, _ => by exact hf.elim
  | b :: L, j :: l, hf, 0, _ => hf.1
  | b :: L, j :: l, hf, i + 1, hi => by
    have := pickL_get hf.2 i (by simpa using hi)
    unfold hp at this ⊢
    simpa using this
/-- the numbers of those that are the walk's own are all different -/
def injL : List HB → List Nat → List Nat → Bool
  | [], _, _ => true
  | b :: L, l, seen => match l with
    | j :: l => bif b.mine then !memN j seen && injL L l (j :: seen) else injL L l seen
    | [] => false
theorem injL_seen : ∀ {L : List HB} {l seen : List Nat}, injL L l seen = true → ∀ i, i < L.length → (hp L i).mine = true → l.getD i 0 ∉ seen
  | [], l, seen, _, i, hi, _ => by simp at hi
  | b :: L, [], seen, h, _, _, _ => by cases h
  | b :: L, j :: l, seen, h, i, hi, hm => by
    simp only [injL] at h
    cases i with
    | zero =>
      have hb : b.mine = true := hm
      rw [hb] at h
      simp only [cond_true, Bool.and_eq_true, Bool.not_eq_true'] at h
      intro hc
      have := memN_iff.2 hc
      simp only [List.getD_cons_zero] at this
      rw [h.1] at this
      cases this
    | succ i =>
      have hm' : (hp L i).mine = true := by unfold hp at hm ⊢; simpa using hm
      rw [List.getD_cons_succ]
      cases hb : b.mine with
      | false => rw [hb] at h; exact injL_seen h i (by simpa using hi) hm'
      | true =>
        rw [hb] at h
        simp only [cond_true, Bool.and_eq_true] at h
        exact fun hc => injL_seen h.2 i (by simpa using hi) hm' (.tail _ hc)
theorem injL_spec : ∀ {L : List HB} {l seen : List Nat}, injL L l seen = true → ∀ i j, i < j → j < L.length → (hp L i).mine = true → (hp L j).mine = true → l.getD i 0 ≠ l.getD j 0
  | [], l, seen, _, i, j, _, hj, _, _ => by simp at hj
  | b :: L, [], seen, h, _, _, _, _, _, _ => by cases h
  | b :: L, k :: l, seen, h, i, j, hij, hj, hi, hjm => by
    simp only [injL] at h
    obtain ⟨j, rfl⟩ : ∃ j', j = j' + 1 := ⟨j - 1, by omega⟩
    have hj' : j < L.length := by simpa using hj
    have hjm' : (hp L j).mine = true := by unfold hp at hjm ⊢; simpa using hjm
    rw [List.getD_cons_succ]
    cases i with
    | zero =>
      have hb : b.mine = true := hi
      rw [hb] at h
      simp only [cond_true, Bool.and_eq_true] at h
      rw [List.getD_cons_zero]
      exact fun e => injL_seen h.2 j hj' hjm' (by rw [← e]; exact .head _)
    | succ i =>
      have hi' : (hp L i).mine = true := by unfold hp at hi ⊢; simpa using hi
      rw [List.getD_cons_succ]
      cases hb : b.mine with
      | false => rw [hb] at h; exact injL_spec h i j (by omega) hj' hi' hjm'
      | true =>
        rw [hb] at h
        simp only [cond_true, Bool.and_eq_true] at h
        exact injL_spec h.2 i j (by omega) hj' hi' hjm'
theorem Rep.pick {w0 w : World} {M : Nat → Prop} {β : Env} {h : HM} {L : List HB} {l : List Nat} (R : Rep w0 M β h w) (h0 : l.getD 0 0 = 0) (hz : hp L 0 = .gone) (hp_ : PickL (sg l) h L l) (hi : injL L l [] = true) (hs : StableH (hp L) L) : Rep w0 M (fun i => β (sg l i)) (hp L) w := by
  have get : ∀ i, (hp L i) = .dead ∨ hp L i = .gone ∨ (i < L.length ∧ Less (h (sg l i)) ((hp L i).ren (sg l))) := fun i => by
    rcases Nat.lt_or_ge i L.length with hlt | hge
    · rcases pickL_get hp_ i hlt with e | e
      · exact .inr (.inl e)
      · exact .inr (.inr ⟨hlt, e⟩)
    · exact .inl (hp_dead hge)
  have mine : ∀ i, (hp L i).mine = true → i < L.length ∧ (h (sg l i)).mine = true := fun i hm => by
    rcases get i with e | e | ⟨hlt, e⟩
    · rw [e] at hm; cases hm
    · rw [e] at hm; cases hm
    · refine ⟨hlt, less_mine e ?_⟩
      cases hh : hp L i <;> rw [hh] at hm <;> first | rfl | (cases hm; done)
  refine { os := R.os, tape := R.tape, output := R.output, size := R.size, frame := R.frame, nil := ?_, nil0 := hz, st := stableH_spec hs, blk := fun i => ?_, own := fun i a hm ha => R.own _ a (mine i hm).2 ha, ro := fun i v a hv ha hzz => ?_, dist := fun i j ai aj hne hmi hmj hai haj => ?_, lt := fun i a hm ha => R.lt _ a (mine i hm).2 ha }
  · show β (l.getD 0 0) = _
    rw [h0]; exact R.nil
  · rcases get i with e | e | ⟨hlt, e⟩
    · rw [e]; trivial
    · rw [e]; trivial
    · have hB := R.blk (sg l i)
      exact holds_unren (β := fun i => β (sg l i)) (β' := β) (h := hp L) (ρ := sg l) (fun _ _ => rfl) (stableH_spec hs i) rfl (holds_less e hB)
  · rcases get i with e | e | ⟨hlt, e⟩
    · rw [e] at hv; cases hv
    · rw [e] at hv; cases hv
    · rw [hv] at e
      exact R.ro _ (v.ren (sg l)) a (less_ro e) ha (by rw [size_ren]; exact hzz)
  · have h1 := mine i hmi
    have h2 := mine j hmj
    refine R.dist _ _ ai aj ?_ h1.2 h2.2 hai haj
    rcases Nat.lt_or_ge i j with hlt | hge
    · exact injL_spec hi i j hlt h2.1 hmi hmj
    · exact fun e => injL_spec hi j i (by omega) h1.1 hmj hmi e.symm
def idTo (n : Nat) (l : List Nat) : Bool := (List.range n).all fun i => Nat.beq (l.getD i 0) i
section
variable {P : Program} {T : Tab} {w0 w1 : World} {M M1 : Nat → Prop} {E : Env} {n0 N n : Nat} {D1 : List Deferred} {φ : Fr} {L L2 : List HB}
/-- the end of a function, with other numbers -/
theorem At.endsPick (l : List Nat) (hT : TabOk P T) {fn : Func} {c : Prop} {vs : List SV} {v : SV} {rs : List ResultVar} {L0 : List HB} (A : Anc w0 M [] w1 M1 D1) (hro : RoOk w0 M E L0) (hL0 : L0.length ≤ n0) (hrs : fn.results.toList = rs) (hr : resV T φ (hp L) rs = some (c, vs)) (hc : c) (h00 : l.getD 0 0 = 0) (hz : hp L2 0 = .gone) (hid : idTo n0 l = true) (hpk : PickL (sg l) (hp L) L2 l) (hinj : injL L2 l [] = true) (hs : StableH (hp L2) L2) (hsub : RoSub L L0) (hv : ∀ β, (resS vs).den β = (v.ren (sg l)).den β) (hst : Stable (hp L2) v) :
    At w1 M1 E n0 N D1 φ L (EndsM n P fn w0 M E n0 v L2 .ret) := fun a w hS => by
  obtain ⟨⟨β, hE, R, F⟩, hbn, _, hd⟩ := hS
  subst hrs
  have R0 : Rep w0 M β (hp L) w := R.back A fun i u a hi ha hz => by
    obtain ⟨h1, h2⟩ := roSub_spec hsub i u hi
    exact hro i u a h1 (by rw [← hE i (Nat.lt_of_lt_of_le h2 hL0)]; exact ha) hz
  obtain ⟨rs, d1, n1, k1⟩ := A.marks
  simp only [EndsM, bodyPostM, hd, d1, List.append_nil]
  refine leaves_marks (β := β) (h := hp L) rs w R0 n1 (fun r hr => ?_) (fun w' R' => ?_)
  · obtain ⟨k1, k2, k3, k4⟩ := k1 r hr
    refine ⟨k1, fun ⟨i, a', hm, ha, e⟩ => ?_, (R.frame r k2 k3).trans k4⟩
    rcases R.own i a' hm ha with h' | h'
    · omega
    · exact k3 (by rw [← e]; exact h')
  · obtain ⟨q1, q2⟩ := resV_ok ⟨hT, R', F⟩ hr hc
    refine ⟨_, q2, fun i => β (sg l i), fun i hi => ?_, R'.pick h00 hz hpk hinj hs, hst, ?_⟩
    · simp only [idTo, List.all_eq_true] at hid
      have e := Nat.eq_of_beq_eq_true (hid i (List.mem_range.2 hi))
      show β (l.getD i 0) = E i
      rw [e]; exact hE i hi
    · rw [hv]
      congr 1
      exact den_ren (h := hp L2) (fun _ _ => rfl) hst
end
theorem hp_append1 (L : List HB) (x : HB) : hp (L ++ [x]) = upd (hp L) L.length x := by
  funext i
  unfold hp upd
  by_cases h2 : i = L.length
  · subst h2; simp
  · rw [if_neg h2]
    rcases Nat.lt_or_ge i L.length with h | h
    · simp [List.getElem?_append_left h]
    · simp [List.getElem?_eq_none (show (L ++ [x]).length ≤ i by simp; omega), List.getElem?_eq_none h]
/-- a nil slice, known as one that has a block of no elements -/
theorem At.nil {w0 : World} {M : Nat → Prop} {E : Env} {n0 N : Nat} {D : List Deferred} {φ : Fr} {L : List HB} {K : Act → World → Prop} (t : Tmp) (ty k : Nat) (f : Nat → SV) (hl : look φ t = some (.sl 0 0 [] 0 0 0 (some 0))) (hf : ∀ (h : HM) (q : Nat), Stable h (f q))
    (h : At w0 M E n0 N D ((t, .sl L.length L.length [] k 0 0 none) :: φ) (L ++ [.own ty (.arr 0 k f) false]) K) : At w0 M E n0 N D φ L K := fun a w hS => by
  obtain ⟨⟨β, hE, R, F⟩, hbn, hsz, hd⟩ := hS
  have hm : hp L L.length = .dead := hp_dead (Nat.le_refl _)
  have R1 := nothing R (e := ty) (k := k) (g := f) hm (fun q => hf _ q)
  have hag : ∀ i, (hp L i).born = true → β i = setE β L.length (none, 0) i := agree_setE hm
  have hborn : ∀ i, (hp L i).born = true → (upd (hp L) L.length (.own ty (.arr 0 k f) false) i).born = true := fun i hi => by
    unfold Vm.upd; split
    · rfl
    · exact hi
  refine h a w ⟨⟨setE β L.length (none, 0), fun i hi => (hag i (hbn i hi)).symm.trans (hE i hi), by rw [hp_append1]; exact R1, fun u v hu => ?_⟩, fun i hi => by rw [hp_append1]; exact hborn i (hbn i hi), hsz, hd⟩
  rw [hp_append1]
  simp only [look] at hu
  cases hq : Nat.beq t u with
  | true =>
    rw [hq] at hu
    have := Nat.eq_of_beq_eq_true hq
    subst this
    injection hu with hu
    subst hu
    refine ⟨?_, ?_⟩
    · simp only [Stable, upd_same]; exact ⟨rfl, rfl⟩
    · rw [(F t _ hl).2]
      simp [SV.den, setE_same, R.nil]
  | false =>
    rw [hq] at hu
    obtain ⟨k1, k2⟩ := F u v hu
    exact ⟨k1.more hborn, by rw [k2]; exact k1.den hag⟩
end Go.Proofs.Ytmljmabbopkpiaa.Vm
end

section
/- Instructions and events as values that are not opened: what stands in them. -/
namespace Go.Proofs.Ytmljmabbopkpiaa.Vm
open Go.RowKit
theorem insS_agg (i : Ins) : (insS i).isAgg = true := rfl
theorem insS_plain (i : Ins) : (insS i).plain = true := rfl
theorem nav_ins (i : Ins) : nav (insS i) [] = some (True, insS i) := rfl
theorem nav_ins0 (i : Ins) (pa : List Stp) : nav (insS i) (.f 0 0 :: pa) = nav (.int .u8 i.op) pa := rfl
theorem nav_ins1 (i : Ins) (pa : List Stp) : nav (insS i) (.f 1 1 :: pa) = nav (.int .u8 i.a) pa := rfl
theorem nav_ins2 (i : Ins) (pa : List Stp) : nav (insS i) (.f 2 2 :: pa) = nav (.int .u8 i.b) pa := rfl
theorem nav_ins3 (i : Ins) (pa : List Stp) : nav (insS i) (.f 3 3 :: pa) = nav (.int .u8 i.c) pa := rfl
theorem nav_ins4 (i : Ins) (pa : List Stp) : nav (insS i) (.f 4 4 :: pa) = nav (.int .i64 i.n) pa := rfl
theorem sndS_size (i : Snd) : (sndS i).size = 3 := rfl
theorem sndS_agg (i : Snd) : (sndS i).isAgg = true := rfl
theorem sndS_plain (i : Snd) : (sndS i).plain = true := rfl
theorem nav_snd (i : Snd) : nav (sndS i) [] = some (True, sndS i) := rfl
theorem nav_snd0 (i : Snd) (pa : List Stp) : nav (sndS i) (.f 0 0 :: pa) = nav (.int .i64 i.port) pa := rfl
theorem nav_snd1 (i : Snd) (pa : List Stp) : nav (sndS i) (.f 1 1 :: pa) = nav (.int .i64 i.delay) pa := rfl
theorem nav_snd2 (i : Snd) (pa : List Stp) : nav (sndS i) (.f 2 2 :: pa) = nav (.int .i64 i.value) pa := rfl
theorem insS_stable {h : HM} (i : Ins) : Stable h (insS i) := by simp [insS, Stable, StableL]
theorem sndS_stable {h : HM} (i : Snd) : Stable h (sndS i) := by simp [sndS, Stable, StableL]
set_option linter.defProp false
def JK := And.intro @insS_size (And.intro @insS_agg (And.intro @insS_plain (And.intro @sndS_size (And.intro @sndS_agg @sndS_plain))))
end Go.Proofs.Ytmljmabbopkpiaa.Vm
end

section
/- word (layer 13): contracts of wrong, truth, mod, Apply. -/
namespace Go.Proofs.Ytmljmabbopkpiaa
open Go.RowKit
set_option linter.unusedVariables false
set_option linter.unusedSimpArgs false

/-- the error of an operation -/
def wrongE (op b : Int) : Int := if op < 1 ∨ 17 < op then 130 else if b = 0 ∧ 4 ≤ op ∧ op ≤ 6 then 131 else 0

def allL : List Value := [.string ⟨#[]⟩, .bool false, .string ⟨#[97, 100, 100]⟩, .bool false, .string ⟨#[115, 117, 98]⟩, .bool false, .string ⟨#[109, 117, 108]⟩, .bool false,
  .string ⟨#[100, 105, 118]⟩, .bool true, .string ⟨#[114, 101, 109]⟩, .bool true, .string ⟨#[109, 111, 100]⟩, .bool true, .string ⟨#[97, 110, 100]⟩, .bool false, .string ⟨#[111, 114]⟩, .bool false,
  .string ⟨#[120, 111, 114]⟩, .bool false, .string ⟨#[115, 104, 108]⟩, .bool false, .string ⟨#[115, 104, 114]⟩, .bool false, .string ⟨#[115, 97, 114]⟩, .bool false, .string ⟨#[108, 101, 115, 115]⟩, .bool false,
  .string ⟨#[98, 101, 108, 111, 119]⟩, .bool false, .string ⟨#[101, 113, 117, 97, 108]⟩, .bool false, .string ⟨#[109, 105, 110]⟩, .bool false, .string ⟨#[109, 97, 120]⟩, .bool false]

theorem truth_t (w : World) : Calls Try.prog 74 #[.bool true] w fun e w' => e = .returned (.int .i64 1) ∧ w = w' := by
  go_enter Try.func74, Try.ntmps74
  go_wp2
  go_ret
  exact ⟨rfl, rfl⟩
theorem truth_f (w : World) : Calls Try.prog 74 #[.bool false] w fun e w' => e = .returned (.int .i64 0) ∧ w = w' := by
  go_enter Try.func74, Try.ntmps74
  go_wp2
  go_ret
  exact ⟨rfl, rfl⟩
def truthI (b : Bool) : Int := if b then 1 else 0
theorem truth_c (b : Bool) (w : World) : Calls Try.prog 74 #[.bool b] w fun e w' => e = .returned (.int .i64 (truthI b)) ∧ w = w' := by
  cases b
  · exact truth_f w
  · exact truth_t w

/-- the rest that is not less than 0, as the code makes it -/
def modI (a b : Int) : Int := if 0 ≤ a.tmod b then a.tmod b else if b < 0 then wrap64 (a.tmod b - b) else wrap64 (a.tmod b + b)
theorem mod_c (a b : Int) (w : World) (hb : b ≠ 0) : Calls Try.prog 73 #[.int .i64 a, .int .i64 b] w fun e w' => e = .returned (.int .i64 (modI a b)) ∧ w = w' := by
  go_enter Try.func73, Try.ntmps73
  go_wp2
  all_goals go_ret
  all_goals refine ⟨ret_i64 ?_, rfl⟩
  · rw [modI, if_pos (by assumption)]
  · rw [modI, if_neg (by omega), if_pos (by assumption)]
  · rw [modI, if_neg (by omega), if_neg (by omega)]

set_option maxRecDepth 100000 in
set_option maxHeartbeats 4000000 in
theorem all_c (w : World) : Calls Try.prog 108 #[] w fun e w' => e = .returned (.agg allL.toArray) ∧ Below w.heap.size w w' := by
  go_enter Try.func108, Try.ntmps108
  go_wp2_with (refine wpList_store_row rfl 205 (.tmp 0) (.tmp 19) rfl w.heap.size allL.toArray rfl rfl 205 _ (heap_alloc_new w _) (by kernel_rfl) rfl (by kernel_rfl) ?_)
  exact bodyPost_ret (v := .agg allL.toArray) (results_cell_row (P := Try.prog) (p := 0) (ty := 205) rfl _ _ w.heap.size 205 allL.toArray (0, 0) _ rfl (setRow_heap _ _ _ _ _ _ (heap_alloc_new w _)) Try.underlying205 rfl (by kernel_rfl)) rfl
    ⟨rfl, below_setRow ((Below.refl _ _).alloc (Nat.le_refl _) _) (Nat.le_refl _) _⟩

def nmB : Value → ByteArray
  | .string s => s
  | _ => ⟨#[]⟩
def nm (op : Int) : ByteArray := nmB (allL.getD (2 * op).toNat undef)
theorem allIx1 (w : World) : (Instr.index 205 (.agg allL.toArray) (.int .u8 1)).run Try.prog w = .ok (.agg #[.string (nm 1), .bool (decide ((4:Int) ≤ 1 ∧ (1:Int) ≤ 6))]) w := by kernel_rfl
theorem allIx2 (w : World) : (Instr.index 205 (.agg allL.toArray) (.int .u8 2)).run Try.prog w = .ok (.agg #[.string (nm 2), .bool (decide ((4:Int) ≤ 2 ∧ (2:Int) ≤ 6))]) w := by kernel_rfl
theorem allIx3 (w : World) : (Instr.index 205 (.agg allL.toArray) (.int .u8 3)).run Try.prog w = .ok (.agg #[.string (nm 3), .bool (decide ((4:Int) ≤ 3 ∧ (3:Int) ≤ 6))]) w := by kernel_rfl
theorem allIx4 (w : World) : (Instr.index 205 (.agg allL.toArray) (.int .u8 4)).run Try.prog w = .ok (.agg #[.string (nm 4), .bool (decide ((4:Int) ≤ 4 ∧ (4:Int) ≤ 6))]) w := by kernel_rfl
theorem allIx5 (w : World) : (Instr.index 205 (.agg allL.toArray) (.int .u8 5)).run Try.prog w = .ok (.agg #[.string (nm 5), .bool (decide ((4:Int) ≤ 5 ∧ (5:Int) ≤ 6))]) w := by kernel_rfl
theorem allIx6 (w : World) : (Instr.index 205 (.agg allL.toArray) (.int .u8 6)).run Try.prog w = .ok (.agg #[.string (nm 6), .bool (decide ((4:Int) ≤ 6 ∧ (6:Int) ≤ 6))]) w := by kernel_rfl
theorem allIx7 (w : World) : (Instr.index 205 (.agg allL.toArray) (.int .u8 7)).run Try.prog w = .ok (.agg #[.string (nm 7), .bool (decide ((4:Int) ≤ 7 ∧ (7:Int) ≤ 6))]) w := by kernel_rfl
theorem allIx8 (w : World) : (Instr.index 205 (.agg allL.toArray) (.int .u8 8)).run Try.prog w = .ok (.agg #[.string (nm 8), .bool (decide ((4:Int) ≤ 8 ∧ (8:Int) ≤ 6))]) w := by kernel_rfl
theorem allIx9 (w : World) : (Instr.index 205 (.agg allL.toArray) (.int .u8 9)).run Try.prog w = .ok (.agg #[.string (nm 9), .bool (decide ((4:Int) ≤ 9 ∧ (9:Int) ≤ 6))]) w := by kernel_rfl
theorem allIx10 (w : World) : (Instr.index 205 (.agg allL.toArray) (.int .u8 10)).run Try.prog w = .ok (.agg #[.string (nm 10), .bool (decide ((4:Int) ≤ 10 ∧ (10:Int) ≤ 6))]) w := by kernel_rfl
theorem allIx11 (w : World) : (Instr.index 205 (.agg allL.toArray) (.int .u8 11)).run Try.prog w = .ok (.agg #[.string (nm 11), .bool (decide ((4:Int) ≤ 11 ∧ (11:Int) ≤ 6))]) w := by kernel_rfl
theorem allIx12 (w : World) : (Instr.index 205 (.agg allL.toArray) (.int .u8 12)).run Try.prog w = .ok (.agg #[.string (nm 12), .bool (decide ((4:Int) ≤ 12 ∧ (12:Int) ≤ 6))]) w := by kernel_rfl
theorem allIx13 (w : World) : (Instr.index 205 (.agg allL.toArray) (.int .u8 13)).run Try.prog w = .ok (.agg #[.string (nm 13), .bool (decide ((4:Int) ≤ 13 ∧ (13:Int) ≤ 6))]) w := by kernel_rfl
theorem allIx14 (w : World) : (Instr.index 205 (.agg allL.toArray) (.int .u8 14)).run Try.prog w = .ok (.agg #[.string (nm 14), .bool (decide ((4:Int) ≤ 14 ∧ (14:Int) ≤ 6))]) w := by kernel_rfl
theorem allIx15 (w : World) : (Instr.index 205 (.agg allL.toArray) (.int .u8 15)).run Try.prog w = .ok (.agg #[.string (nm 15), .bool (decide ((4:Int) ≤ 15 ∧ (15:Int) ≤ 6))]) w := by kernel_rfl
theorem allIx16 (w : World) : (Instr.index 205 (.agg allL.toArray) (.int .u8 16)).run Try.prog w = .ok (.agg #[.string (nm 16), .bool (decide ((4:Int) ≤ 16 ∧ (16:Int) ≤ 6))]) w := by kernel_rfl
theorem allIx17 (w : World) : (Instr.index 205 (.agg allL.toArray) (.int .u8 17)).run Try.prog w = .ok (.agg #[.string (nm 17), .bool (decide ((4:Int) ≤ 17 ∧ (17:Int) ≤ 6))]) w := by kernel_rfl
theorem allIxAt (op : Int) (h1 : 1 ≤ op) (h2 : op ≤ 17) (w : World) : (Instr.index 205 (.agg allL.toArray) (.int .u8 op)).run Try.prog w = .ok (.agg #[.string (nm op), .bool (decide (4 ≤ op ∧ op ≤ 6))]) w := by
  have h : op = 1 ∨ op = 2 ∨ op = 3 ∨ op = 4 ∨ op = 5 ∨ op = 6 ∨ op = 7 ∨ op = 8 ∨ op = 9 ∨ op = 10 ∨ op = 11 ∨ op = 12 ∨ op = 13 ∨ op = 14 ∨ op = 15 ∨ op = 16 ∨ op = 17 := by omega
  rcases h with h | h | h | h | h | h | h | h | h | h | h | h | h | h | h | h | h <;> subst h
  · exact allIx1 w
  · exact allIx2 w
  · exact allIx3 w
  · exact allIx4 w
  · exact allIx5 w
  · exact allIx6 w
  · exact allIx7 w
  · exact allIx8 w
  · exact allIx9 w
  · exact allIx10 w
  · exact allIx11 w
  · exact allIx12 w
  · exact allIx13 w
  · exact allIx14 w
  · exact allIx15 w
  · exact allIx16 w
  · exact allIx17 w

set_option maxHeartbeats 1000000 in
theorem wrong_bad (op b : Int) (w : World) (h : op < 1 ∨ 17 < op) : Calls Try.prog 72 #[.int .u8 op, .int .i64 b] w fun e w' => e = .returned (.int .i64 130) ∧ w = w' := by
  rcases h with h | h
  · go_enter Try.func72, Try.ntmps72
    go_wp2
    go_ret
    exact ⟨rfl, rfl⟩
  · have h' : ¬ op < 1 := by omega
    go_enter Try.func72, Try.ntmps72
    go_wp2
    go_ret
    exact ⟨rfl, rfl⟩
set_option maxHeartbeats 1000000 in
theorem wrong_ok (op b : Int) (w : World) (h1 : 1 ≤ op) (h2 : op ≤ 17) (hb : (b == 0) = false) : Calls Try.prog 72 #[.int .u8 op, .int .i64 b] w fun e w' => e = .returned (.int .i64 0) ∧ w = w' := by
  go_enter Try.func72, Try.ntmps72
  go_wp2
  go_ret
  exact ⟨rfl, rfl⟩
set_option maxRecDepth 100000 in
set_option maxHeartbeats 1000000 in
theorem wrong_z (op : Int) (w : World) (h1 : 1 ≤ op) (h2 : op ≤ 17) : Calls Try.prog 72 #[.int .u8 op, .int .i64 0] w fun e w' => e = .returned (.int .i64 (if 4 ≤ op ∧ op ≤ 6 then 131 else 0)) ∧ Below w.heap.size w w' := by
  have hs := allIxAt op h1 h2
  obtain ⟨V, hV⟩ : ∃ V, V = allL.toArray := ⟨_, rfl⟩
  have ha : ∀ w, Calls Try.prog 108 #[] w fun e w' => e = .returned (.agg V) ∧ Below w.heap.size w w' := hV ▸ all_c
  rw [← hV] at hs
  have HA := Lib.hid ha
  clear ha hV
  have hfl : ∀ (w : World) (s : ByteArray) (b : Bool), (Instr.field 204 (.agg #[.string s, .bool b]) 1).run Try.prog w = .ok (.bool b) w := fun w s b => by kernel_rfl
  go_enter Try.func72, Try.ntmps72
  go_wp2_with fail
  refine (HA.out _).mono ?_
  rintro e w' ⟨rfl, hb⟩
  go_wp2
  all_goals go_ret
  all_goals exact ⟨rfl, hb⟩

/-- what is wrong with an operation -/
theorem wrong_c (op b : Int) (w : World) : Calls Try.prog 72 #[.int .u8 op, .int .i64 b] w fun e w' => e = .returned (.int .i64 (wrongE op b)) ∧ Below w.heap.size w w' := by
  by_cases h : op < 1 ∨ 17 < op
  · refine (wrong_bad op b w h).mono ?_
    rintro e w' ⟨rfl, rfl⟩
    exact ⟨ret_i64 (by rw [wrongE, if_pos h]), Below.refl _ _⟩
  · by_cases hb : b = 0
    · subst hb
      refine (wrong_z op w (by omega) (by omega)).mono ?_
      rintro e w' ⟨rfl, hB⟩
      refine ⟨ret_i64 ?_, hB⟩
      rw [wrongE, if_neg h]
      simp
    · refine (wrong_ok op b w (by omega) (by omega) (by simpa using hb)).mono ?_
      rintro e w' ⟨rfl, rfl⟩
      exact ⟨ret_i64 (by rw [wrongE, if_neg h, if_neg (fun x => hb x.1)]), Below.refl _ _⟩

set_option maxRecDepth 100000 in
set_option maxHeartbeats 1000000 in
theorem apply_bad (op a b : Int) (w : World) (h : (wrongE op b != 0) = true) : Calls Try.prog 29 #[.int .u8 op, .int .i64 a, .int .i64 b] w fun e w' => e = .returned (.tuple #[.int .i64 0, .int .i64 (wrongE op b)]) ∧ Below w.heap.size w w' := by
  have HW := Lib.hid (fun w => wrong_c op b w)
  obtain ⟨E, hE⟩ : ∃ E, E = wrongE op b := ⟨_, rfl⟩
  rw [← hE] at HW h ⊢
  clear hE
  go_enter Try.func29, Try.ntmps29
  go_wp2_with fail
  refine (HW.out _).mono ?_
  rintro e w' ⟨rfl, hb⟩
  go_wp2
  go_ret2
  exact ⟨rfl, hb⟩


def shB (b : Int) : Int := bits BinOp.and IntKind.u64 (IntKind.u64.wrap b) 63
theorem u64_wrap_bd (b : Int) : 0 ≤ IntKind.u64.wrap b ∧ IntKind.u64.wrap b < 18446744073709551616 := by
  simp only [IntKind.wrap, IntKind.bits, IntKind.signed]
  simp
  omega
theorem shB_eq (b : Int) : shB b = IntKind.u64.wrap b % 64 := by
  have hb := u64_wrap_bd b
  unfold shB
  rw [u64_and _ _ hb.1 hb.2 (by decide) (by decide)]
  have h63 : (63 : Int).toNat = 2 ^ 6 - 1 := by decide
  rw [h63, Nat.and_two_pow_sub_one_eq_mod]
  omega
theorem shB_bd (b : Int) : 0 ≤ shB b ∧ shB b ≤ 63 := by rw [shB_eq]; omega

/-- an operation of layer 13, as the code makes it -/
def applyI (op a b : Int) : Int :=
  if op = 1 then wrap64 (a + b) else if op = 2 then wrap64 (a - b) else if op = 3 then wrap64 (a * b)
  else if op = 4 then wrap64 (a.tdiv b) else if op = 5 then a.tmod b else if op = 6 then modI a b
  else if op = 7 then bits .and .i64 a b else if op = 8 then bits .or .i64 a b else if op = 9 then bits .xor .i64 a b
  else if op = 10 then wrap64 (a * 2 ^ (shB b).toNat) else if op = 11 then wrap64 (IntKind.u64.wrap a / 2 ^ (shB b).toNat) else if op = 12 then a / 2 ^ (shB b).toNat
  else if op = 13 then truthI (decide (a < b)) else if op = 14 then truthI (decide (IntKind.u64.wrap a < IntKind.u64.wrap b)) else if op = 15 then truthI (a == b)
  else if op = 16 then (if b < a then b else a) else (if a < b then b else a)

end Go.Proofs.Ytmljmabbopkpiaa
end

section
/- word.Apply (layer 13), operation by operation. PRINTED BY gen_apply.py. -/
namespace Go.Proofs.Ytmljmabbopkpiaa
open Go.RowKit
set_option linter.unusedVariables false
set_option linter.unusedSimpArgs false

set_option maxRecDepth 100000 in
set_option maxHeartbeats 4000000 in
theorem apply_1 (a b : Int) (w : World)
  (hw : ∀ w, Calls Try.prog 72 #[.int .u8 1, .int .i64 b] w fun e w' => e = .returned (.int .i64 0) ∧ Below w.heap.size w w') : Calls Try.prog 29 #[.int .u8 1, .int .i64 a, .int .i64 b] w fun e w' => e = .returned (.tuple #[.int .i64 (applyI 1 a b), .int .i64 0]) ∧ Below w.heap.size w w' := by
  have HW := Lib.hid hw
  clear hw
  go_enter Try.func29, Try.ntmps29
  go_wp2_with fail
  refine (HW.out _).mono ?_
  rintro e w' ⟨rfl, hb⟩
  go_wp2_with (first
    | (go_at_call 74; refine (truth_c _ _).mono ?_; rintro e w' ⟨rfl, rfl⟩)
    | (go_at_call 73; refine (mod_c _ _ _ (by assumption)).mono ?_; rintro e w' ⟨rfl, rfl⟩))
  all_goals (go_ret2; refine ⟨?_, hb⟩)
  all_goals first | rfl | (show Ending.returned (.tuple #[.int .i64 _, _]) = .returned (.tuple #[.int .i64 _, _]); congr 4; simp [applyI]; done) | (show Ending.returned (.tuple #[.int .i64 _, _]) = .returned (.tuple #[.int .i64 _, _]); congr 4; simp [applyI]; omega)

set_option maxRecDepth 100000 in
set_option maxHeartbeats 4000000 in
theorem apply_2 (a b : Int) (w : World)
  (hw : ∀ w, Calls Try.prog 72 #[.int .u8 2, .int .i64 b] w fun e w' => e = .returned (.int .i64 0) ∧ Below w.heap.size w w') : Calls Try.prog 29 #[.int .u8 2, .int .i64 a, .int .i64 b] w fun e w' => e = .returned (.tuple #[.int .i64 (applyI 2 a b), .int .i64 0]) ∧ Below w.heap.size w w' := by
  have HW := Lib.hid hw
  clear hw
  go_enter Try.func29, Try.ntmps29
  go_wp2_with fail
  refine (HW.out _).mono ?_
  rintro e w' ⟨rfl, hb⟩
  go_wp2_with (first
    | (go_at_call 74; refine (truth_c _ _).mono ?_; rintro e w' ⟨rfl, rfl⟩)
    | (go_at_call 73; refine (mod_c _ _ _ (by assumption)).mono ?_; rintro e w' ⟨rfl, rfl⟩))
  all_goals (go_ret2; refine ⟨?_, hb⟩)
  all_goals first | rfl | (show Ending.returned (.tuple #[.int .i64 _, _]) = .returned (.tuple #[.int .i64 _, _]); congr 4; simp [applyI]; done) | (show Ending.returned (.tuple #[.int .i64 _, _]) = .returned (.tuple #[.int .i64 _, _]); congr 4; simp [applyI]; omega)

set_option maxRecDepth 100000 in
set_option maxHeartbeats 4000000 in
theorem apply_3 (a b : Int) (w : World)
  (hw : ∀ w, Calls Try.prog 72 #[.int .u8 3, .int .i64 b] w fun e w' => e = .returned (.int .i64 0) ∧ Below w.heap.size w w') : Calls Try.prog 29 #[.int .u8 3, .int .i64 a, .int .i64 b] w fun e w' => e = .returned (.tuple #[.int .i64 (applyI 3 a b), .int .i64 0]) ∧ Below w.heap.size w w' := by
  have HW := Lib.hid hw
  clear hw
  go_enter Try.func29, Try.ntmps29
  go_wp2_with fail
  refine (HW.out _).mono ?_
  rintro e w' ⟨rfl, hb⟩
  go_wp2_with (first
    | (go_at_call 74; refine (truth_c _ _).mono ?_; rintro e w' ⟨rfl, rfl⟩)
    | (go_at_call 73; refine (mod_c _ _ _ (by assumption)).mono ?_; rintro e w' ⟨rfl, rfl⟩))
  all_goals (go_ret2; refine ⟨?_, hb⟩)
  all_goals first | rfl | (show Ending.returned (.tuple #[.int .i64 _, _]) = .returned (.tuple #[.int .i64 _, _]); congr 4; simp [applyI]; done) | (show Ending.returned (.tuple #[.int .i64 _, _]) = .returned (.tuple #[.int .i64 _, _]); congr 4; simp [applyI]; omega)

set_option maxRecDepth 100000 in
set_option maxHeartbeats 4000000 in
theorem apply_4 (a b : Int) (w : World) (hb0 : b ≠ 0)
  (hw : ∀ w, Calls Try.prog 72 #[.int .u8 4, .int .i64 b] w fun e w' => e = .returned (.int .i64 0) ∧ Below w.heap.size w w') : Calls Try.prog 29 #[.int .u8 4, .int .i64 a, .int .i64 b] w fun e w' => e = .returned (.tuple #[.int .i64 (applyI 4 a b), .int .i64 0]) ∧ Below w.heap.size w w' := by
  have HW := Lib.hid hw
  clear hw
  go_enter Try.func29, Try.ntmps29
  go_wp2_with fail
  refine (HW.out _).mono ?_
  rintro e w' ⟨rfl, hb⟩
  go_wp2_with (first
    | (go_at_call 74; refine (truth_c _ _).mono ?_; rintro e w' ⟨rfl, rfl⟩)
    | (go_at_call 73; refine (mod_c _ _ _ (by assumption)).mono ?_; rintro e w' ⟨rfl, rfl⟩))
  all_goals (go_ret2; refine ⟨?_, hb⟩)
  all_goals first | rfl | (show Ending.returned (.tuple #[.int .i64 _, _]) = .returned (.tuple #[.int .i64 _, _]); congr 4; simp [applyI]; done) | (show Ending.returned (.tuple #[.int .i64 _, _]) = .returned (.tuple #[.int .i64 _, _]); congr 4; simp [applyI]; omega)

set_option maxRecDepth 100000 in
set_option maxHeartbeats 4000000 in
theorem apply_5 (a b : Int) (w : World) (hb0 : b ≠ 0)
  (hw : ∀ w, Calls Try.prog 72 #[.int .u8 5, .int .i64 b] w fun e w' => e = .returned (.int .i64 0) ∧ Below w.heap.size w w') : Calls Try.prog 29 #[.int .u8 5, .int .i64 a, .int .i64 b] w fun e w' => e = .returned (.tuple #[.int .i64 (applyI 5 a b), .int .i64 0]) ∧ Below w.heap.size w w' := by
  have HW := Lib.hid hw
  clear hw
  go_enter Try.func29, Try.ntmps29
  go_wp2_with fail
  refine (HW.out _).mono ?_
  rintro e w' ⟨rfl, hb⟩
  go_wp2_with (first
    | (go_at_call 74; refine (truth_c _ _).mono ?_; rintro e w' ⟨rfl, rfl⟩)
    | (go_at_call 73; refine (mod_c _ _ _ (by assumption)).mono ?_; rintro e w' ⟨rfl, rfl⟩))
  all_goals (go_ret2; refine ⟨?_, hb⟩)
  all_goals first | rfl | (show Ending.returned (.tuple #[.int .i64 _, _]) = .returned (.tuple #[.int .i64 _, _]); congr 4; simp [applyI]; done) | (show Ending.returned (.tuple #[.int .i64 _, _]) = .returned (.tuple #[.int .i64 _, _]); congr 4; simp [applyI]; omega)

set_option maxRecDepth 100000 in
set_option maxHeartbeats 4000000 in
theorem apply_6 (a b : Int) (w : World) (hb0 : b ≠ 0)
  (hw : ∀ w, Calls Try.prog 72 #[.int .u8 6, .int .i64 b] w fun e w' => e = .returned (.int .i64 0) ∧ Below w.heap.size w w') : Calls Try.prog 29 #[.int .u8 6, .int .i64 a, .int .i64 b] w fun e w' => e = .returned (.tuple #[.int .i64 (applyI 6 a b), .int .i64 0]) ∧ Below w.heap.size w w' := by
  have HW := Lib.hid hw
  clear hw
  go_enter Try.func29, Try.ntmps29
  go_wp2_with fail
  refine (HW.out _).mono ?_
  rintro e w' ⟨rfl, hb⟩
  go_wp2_with (first
    | (go_at_call 74; refine (truth_c _ _).mono ?_; rintro e w' ⟨rfl, rfl⟩)
    | (go_at_call 73; refine (mod_c _ _ _ (by assumption)).mono ?_; rintro e w' ⟨rfl, rfl⟩))
  all_goals (go_ret2; refine ⟨?_, hb⟩)
  all_goals first | rfl | (show Ending.returned (.tuple #[.int .i64 _, _]) = .returned (.tuple #[.int .i64 _, _]); congr 4; simp [applyI]; done) | (show Ending.returned (.tuple #[.int .i64 _, _]) = .returned (.tuple #[.int .i64 _, _]); congr 4; simp [applyI]; omega)

set_option maxRecDepth 100000 in
set_option maxHeartbeats 4000000 in
theorem apply_7 (a b : Int) (w : World)
  (hw : ∀ w, Calls Try.prog 72 #[.int .u8 7, .int .i64 b] w fun e w' => e = .returned (.int .i64 0) ∧ Below w.heap.size w w') : Calls Try.prog 29 #[.int .u8 7, .int .i64 a, .int .i64 b] w fun e w' => e = .returned (.tuple #[.int .i64 (applyI 7 a b), .int .i64 0]) ∧ Below w.heap.size w w' := by
  have HW := Lib.hid hw
  clear hw
  go_enter Try.func29, Try.ntmps29
  go_wp2_with fail
  refine (HW.out _).mono ?_
  rintro e w' ⟨rfl, hb⟩
  go_wp2_with (first
    | (go_at_call 74; refine (truth_c _ _).mono ?_; rintro e w' ⟨rfl, rfl⟩)
    | (go_at_call 73; refine (mod_c _ _ _ (by assumption)).mono ?_; rintro e w' ⟨rfl, rfl⟩))
  all_goals (go_ret2; refine ⟨?_, hb⟩)
  all_goals first | rfl | (show Ending.returned (.tuple #[.int .i64 _, _]) = .returned (.tuple #[.int .i64 _, _]); congr 4; simp [applyI]; done) | (show Ending.returned (.tuple #[.int .i64 _, _]) = .returned (.tuple #[.int .i64 _, _]); congr 4; simp [applyI]; omega)

set_option maxRecDepth 100000 in
set_option maxHeartbeats 4000000 in
theorem apply_8 (a b : Int) (w : World)
  (hw : ∀ w, Calls Try.prog 72 #[.int .u8 8, .int .i64 b] w fun e w' => e = .returned (.int .i64 0) ∧ Below w.heap.size w w') : Calls Try.prog 29 #[.int .u8 8, .int .i64 a, .int .i64 b] w fun e w' => e = .returned (.tuple #[.int .i64 (applyI 8 a b), .int .i64 0]) ∧ Below w.heap.size w w' := by
  have HW := Lib.hid hw
  clear hw
  go_enter Try.func29, Try.ntmps29
  go_wp2_with fail
  refine (HW.out _).mono ?_
  rintro e w' ⟨rfl, hb⟩
  go_wp2_with (first
    | (go_at_call 74; refine (truth_c _ _).mono ?_; rintro e w' ⟨rfl, rfl⟩)
    | (go_at_call 73; refine (mod_c _ _ _ (by assumption)).mono ?_; rintro e w' ⟨rfl, rfl⟩))
  all_goals (go_ret2; refine ⟨?_, hb⟩)
  all_goals first | rfl | (show Ending.returned (.tuple #[.int .i64 _, _]) = .returned (.tuple #[.int .i64 _, _]); congr 4; simp [applyI]; done) | (show Ending.returned (.tuple #[.int .i64 _, _]) = .returned (.tuple #[.int .i64 _, _]); congr 4; simp [applyI]; omega)

set_option maxRecDepth 100000 in
set_option maxHeartbeats 4000000 in
theorem apply_9 (a b : Int) (w : World)
  (hw : ∀ w, Calls Try.prog 72 #[.int .u8 9, .int .i64 b] w fun e w' => e = .returned (.int .i64 0) ∧ Below w.heap.size w w') : Calls Try.prog 29 #[.int .u8 9, .int .i64 a, .int .i64 b] w fun e w' => e = .returned (.tuple #[.int .i64 (applyI 9 a b), .int .i64 0]) ∧ Below w.heap.size w w' := by
  have HW := Lib.hid hw
  clear hw
  go_enter Try.func29, Try.ntmps29
  go_wp2_with fail
  refine (HW.out _).mono ?_
  rintro e w' ⟨rfl, hb⟩
  go_wp2_with (first
    | (go_at_call 74; refine (truth_c _ _).mono ?_; rintro e w' ⟨rfl, rfl⟩)
    | (go_at_call 73; refine (mod_c _ _ _ (by assumption)).mono ?_; rintro e w' ⟨rfl, rfl⟩))
  all_goals (go_ret2; refine ⟨?_, hb⟩)
  all_goals first | rfl | (show Ending.returned (.tuple #[.int .i64 _, _]) = .returned (.tuple #[.int .i64 _, _]); congr 4; simp [applyI]; done) | (show Ending.returned (.tuple #[.int .i64 _, _]) = .returned (.tuple #[.int .i64 _, _]); congr 4; simp [applyI]; omega)

set_option maxRecDepth 100000 in
set_option maxHeartbeats 4000000 in
theorem apply_10 (a b : Int) (w : World)
  (hw : ∀ w, Calls Try.prog 72 #[.int .u8 10, .int .i64 b] w fun e w' => e = .returned (.int .i64 0) ∧ Below w.heap.size w w') : Calls Try.prog 29 #[.int .u8 10, .int .i64 a, .int .i64 b] w fun e w' => e = .returned (.tuple #[.int .i64 (applyI 10 a b), .int .i64 0]) ∧ Below w.heap.size w w' := by
  have HW := Lib.hid hw
  clear hw
  have hs := shB_bd b
  have hs0 : 0 ≤ bits BinOp.and IntKind.u64 (IntKind.u64.wrap b) 63 := hs.1
  have hs1 : bits BinOp.and IntKind.u64 (IntKind.u64.wrap b) 63 ≤ 64 := Int.le_trans hs.2 (by decide)
  clear hs
  go_enter Try.func29, Try.ntmps29
  go_wp2_with fail
  refine (HW.out _).mono ?_
  rintro e w' ⟨rfl, hb⟩
  go_wp2_with (first
    | (go_at_call 74; refine (truth_c _ _).mono ?_; rintro e w' ⟨rfl, rfl⟩)
    | (go_at_call 73; refine (mod_c _ _ _ (by assumption)).mono ?_; rintro e w' ⟨rfl, rfl⟩))
  all_goals (go_ret2; refine ⟨?_, hb⟩)
  all_goals first | rfl | (show Ending.returned (.tuple #[.int .i64 _, _]) = .returned (.tuple #[.int .i64 _, _]); congr 4; simp [applyI]; done) | (show Ending.returned (.tuple #[.int .i64 _, _]) = .returned (.tuple #[.int .i64 _, _]); congr 4; simp [applyI]; omega)

set_option maxRecDepth 100000 in
set_option maxHeartbeats 4000000 in
theorem apply_11 (a b : Int) (w : World)
  (hw : ∀ w, Calls Try.prog 72 #[.int .u8 11, .int .i64 b] w fun e w' => e = .returned (.int .i64 0) ∧ Below w.heap.size w w') : Calls Try.prog 29 #[.int .u8 11, .int .i64 a, .int .i64 b] w fun e w' => e = .returned (.tuple #[.int .i64 (applyI 11 a b), .int .i64 0]) ∧ Below w.heap.size w w' := by
  have HW := Lib.hid hw
  clear hw
  have hs := shB_bd b
  have hs0 : 0 ≤ bits BinOp.and IntKind.u64 (IntKind.u64.wrap b) 63 := hs.1
  have hs1 : bits BinOp.and IntKind.u64 (IntKind.u64.wrap b) 63 ≤ 64 := Int.le_trans hs.2 (by decide)
  clear hs
  go_enter Try.func29, Try.ntmps29
  go_wp2_with fail
  refine (HW.out _).mono ?_
  rintro e w' ⟨rfl, hb⟩
  go_wp2_with (first
    | (go_at_call 74; refine (truth_c _ _).mono ?_; rintro e w' ⟨rfl, rfl⟩)
    | (go_at_call 73; refine (mod_c _ _ _ (by assumption)).mono ?_; rintro e w' ⟨rfl, rfl⟩))
  all_goals (go_ret2; refine ⟨?_, hb⟩)
  all_goals first | rfl | (show Ending.returned (.tuple #[.int .i64 _, _]) = .returned (.tuple #[.int .i64 _, _]); congr 4; simp [applyI]; done) | (show Ending.returned (.tuple #[.int .i64 _, _]) = .returned (.tuple #[.int .i64 _, _]); congr 4; simp [applyI]; omega)

set_option maxRecDepth 100000 in
set_option maxHeartbeats 4000000 in
theorem apply_12 (a b : Int) (w : World)
  (hw : ∀ w, Calls Try.prog 72 #[.int .u8 12, .int .i64 b] w fun e w' => e = .returned (.int .i64 0) ∧ Below w.heap.size w w') : Calls Try.prog 29 #[.int .u8 12, .int .i64 a, .int .i64 b] w fun e w' => e = .returned (.tuple #[.int .i64 (applyI 12 a b), .int .i64 0]) ∧ Below w.heap.size w w' := by
  have HW := Lib.hid hw
  clear hw
  have hs := shB_bd b
  have hs0 : 0 ≤ bits BinOp.and IntKind.u64 (IntKind.u64.wrap b) 63 := hs.1
  have hs1 : bits BinOp.and IntKind.u64 (IntKind.u64.wrap b) 63 ≤ 64 := Int.le_trans hs.2 (by decide)
  clear hs
  go_enter Try.func29, Try.ntmps29
  go_wp2_with fail
  refine (HW.out _).mono ?_
  rintro e w' ⟨rfl, hb⟩
  go_wp2_with (first
    | (go_at_call 74; refine (truth_c _ _).mono ?_; rintro e w' ⟨rfl, rfl⟩)
    | (go_at_call 73; refine (mod_c _ _ _ (by assumption)).mono ?_; rintro e w' ⟨rfl, rfl⟩))
  all_goals (go_ret2; refine ⟨?_, hb⟩)
  all_goals first | rfl | (show Ending.returned (.tuple #[.int .i64 _, _]) = .returned (.tuple #[.int .i64 _, _]); congr 4; simp [applyI]; done) | (show Ending.returned (.tuple #[.int .i64 _, _]) = .returned (.tuple #[.int .i64 _, _]); congr 4; simp [applyI]; omega)

set_option maxRecDepth 100000 in
set_option maxHeartbeats 4000000 in
theorem apply_13 (a b : Int) (w : World)
  (hw : ∀ w, Calls Try.prog 72 #[.int .u8 13, .int .i64 b] w fun e w' => e = .returned (.int .i64 0) ∧ Below w.heap.size w w') : Calls Try.prog 29 #[.int .u8 13, .int .i64 a, .int .i64 b] w fun e w' => e = .returned (.tuple #[.int .i64 (applyI 13 a b), .int .i64 0]) ∧ Below w.heap.size w w' := by
  have HW := Lib.hid hw
  clear hw
  go_enter Try.func29, Try.ntmps29
  go_wp2_with fail
  refine (HW.out _).mono ?_
  rintro e w' ⟨rfl, hb⟩
  go_wp2_with (first
    | (go_at_call 74; refine (truth_c _ _).mono ?_; rintro e w' ⟨rfl, rfl⟩)
    | (go_at_call 73; refine (mod_c _ _ _ (by assumption)).mono ?_; rintro e w' ⟨rfl, rfl⟩))
  all_goals (go_ret2; refine ⟨?_, hb⟩)
  all_goals first | rfl | (show Ending.returned (.tuple #[.int .i64 _, _]) = .returned (.tuple #[.int .i64 _, _]); congr 4; simp [applyI]; done) | (show Ending.returned (.tuple #[.int .i64 _, _]) = .returned (.tuple #[.int .i64 _, _]); congr 4; simp [applyI]; omega)

set_option maxRecDepth 100000 in
set_option maxHeartbeats 4000000 in
theorem apply_14 (a b : Int) (w : World)
  (hw : ∀ w, Calls Try.prog 72 #[.int .u8 14, .int .i64 b] w fun e w' => e = .returned (.int .i64 0) ∧ Below w.heap.size w w') : Calls Try.prog 29 #[.int .u8 14, .int .i64 a, .int .i64 b] w fun e w' => e = .returned (.tuple #[.int .i64 (applyI 14 a b), .int .i64 0]) ∧ Below w.heap.size w w' := by
  have HW := Lib.hid hw
  clear hw
  go_enter Try.func29, Try.ntmps29
  go_wp2_with fail
  refine (HW.out _).mono ?_
  rintro e w' ⟨rfl, hb⟩
  go_wp2_with (first
    | (go_at_call 74; refine (truth_c _ _).mono ?_; rintro e w' ⟨rfl, rfl⟩)
    | (go_at_call 73; refine (mod_c _ _ _ (by assumption)).mono ?_; rintro e w' ⟨rfl, rfl⟩))
  all_goals (go_ret2; refine ⟨?_, hb⟩)
  all_goals first | rfl | (show Ending.returned (.tuple #[.int .i64 _, _]) = .returned (.tuple #[.int .i64 _, _]); congr 4; simp [applyI]; done) | (show Ending.returned (.tuple #[.int .i64 _, _]) = .returned (.tuple #[.int .i64 _, _]); congr 4; simp [applyI]; omega)

set_option maxRecDepth 100000 in
set_option maxHeartbeats 4000000 in
theorem apply_15 (a b : Int) (w : World)
  (hw : ∀ w, Calls Try.prog 72 #[.int .u8 15, .int .i64 b] w fun e w' => e = .returned (.int .i64 0) ∧ Below w.heap.size w w') : Calls Try.prog 29 #[.int .u8 15, .int .i64 a, .int .i64 b] w fun e w' => e = .returned (.tuple #[.int .i64 (applyI 15 a b), .int .i64 0]) ∧ Below w.heap.size w w' := by
  have HW := Lib.hid hw
  clear hw
  go_enter Try.func29, Try.ntmps29
  go_wp2_with fail
  refine (HW.out _).mono ?_
  rintro e w' ⟨rfl, hb⟩
  go_wp2_with (first
    | (go_at_call 74; refine (truth_c _ _).mono ?_; rintro e w' ⟨rfl, rfl⟩)
    | (go_at_call 73; refine (mod_c _ _ _ (by assumption)).mono ?_; rintro e w' ⟨rfl, rfl⟩))
  all_goals (go_ret2; refine ⟨?_, hb⟩)
  all_goals first | rfl | (show Ending.returned (.tuple #[.int .i64 _, _]) = .returned (.tuple #[.int .i64 _, _]); congr 4; simp [applyI]; done) | (show Ending.returned (.tuple #[.int .i64 _, _]) = .returned (.tuple #[.int .i64 _, _]); congr 4; simp [applyI]; omega)

set_option maxRecDepth 100000 in
set_option maxHeartbeats 4000000 in
theorem apply_16 (a b : Int) (w : World)
  (hw : ∀ w, Calls Try.prog 72 #[.int .u8 16, .int .i64 b] w fun e w' => e = .returned (.int .i64 0) ∧ Below w.heap.size w w') : Calls Try.prog 29 #[.int .u8 16, .int .i64 a, .int .i64 b] w fun e w' => e = .returned (.tuple #[.int .i64 (applyI 16 a b), .int .i64 0]) ∧ Below w.heap.size w w' := by
  have HW := Lib.hid hw
  clear hw
  go_enter Try.func29, Try.ntmps29
  go_wp2_with fail
  refine (HW.out _).mono ?_
  rintro e w' ⟨rfl, hb⟩
  go_wp2_with (first
    | (go_at_call 74; refine (truth_c _ _).mono ?_; rintro e w' ⟨rfl, rfl⟩)
    | (go_at_call 73; refine (mod_c _ _ _ (by assumption)).mono ?_; rintro e w' ⟨rfl, rfl⟩))
  all_goals (go_ret2; refine ⟨?_, hb⟩)
  all_goals first | rfl | (show Ending.returned (.tuple #[.int .i64 _, _]) = .returned (.tuple #[.int .i64 _, _]); congr 4; simp [applyI]; done) | (show Ending.returned (.tuple #[.int .i64 _, _]) = .returned (.tuple #[.int .i64 _, _]); congr 4; simp [applyI]; omega)

set_option maxRecDepth 100000 in
set_option maxHeartbeats 4000000 in
theorem apply_17 (a b : Int) (w : World)
  (hw : ∀ w, Calls Try.prog 72 #[.int .u8 17, .int .i64 b] w fun e w' => e = .returned (.int .i64 0) ∧ Below w.heap.size w w') : Calls Try.prog 29 #[.int .u8 17, .int .i64 a, .int .i64 b] w fun e w' => e = .returned (.tuple #[.int .i64 (applyI 17 a b), .int .i64 0]) ∧ Below w.heap.size w w' := by
  have HW := Lib.hid hw
  clear hw
  go_enter Try.func29, Try.ntmps29
  go_wp2_with fail
  refine (HW.out _).mono ?_
  rintro e w' ⟨rfl, hb⟩
  go_wp2_with (first
    | (go_at_call 74; refine (truth_c _ _).mono ?_; rintro e w' ⟨rfl, rfl⟩)
    | (go_at_call 73; refine (mod_c _ _ _ (by assumption)).mono ?_; rintro e w' ⟨rfl, rfl⟩))
  all_goals (go_ret2; refine ⟨?_, hb⟩)
  all_goals first | rfl | (show Ending.returned (.tuple #[.int .i64 _, _]) = .returned (.tuple #[.int .i64 _, _]); congr 4; simp [applyI]; done) | (show Ending.returned (.tuple #[.int .i64 _, _]) = .returned (.tuple #[.int .i64 _, _]); congr 4; simp [applyI]; omega)

/-- what Apply returns first -/
def applyV (op a b : Int) : Int := if wrongE op b = 0 then applyI op a b else 0

theorem apply_c (op a b : Int) (w : World) : Calls Try.prog 29 #[.int .u8 op, .int .i64 a, .int .i64 b] w fun e w' => e = .returned (.tuple #[.int .i64 (applyV op a b), .int .i64 (wrongE op b)]) ∧ Below w.heap.size w w' := by
  by_cases h : wrongE op b = 0
  · have hw : ∀ w, Calls Try.prog 72 #[.int .u8 op, .int .i64 b] w fun e w' => e = .returned (.int .i64 0) ∧ Below w.heap.size w w' := by rw [← h]; exact wrong_c op b
    have hz : 4 ≤ op → op ≤ 6 → b ≠ 0 := by
      intro x y z
      rw [wrongE, if_neg (by omega), if_pos ⟨z, x, y⟩] at h
      exact absurd h (by decide)
    have hop : 1 ≤ op ∧ op ≤ 17 := by
      refine ⟨?_, ?_⟩
      · by_cases q : op < 1
        · rw [wrongE, if_pos (.inl q)] at h; exact absurd h (by decide)
        · omega
      · by_cases q : 17 < op
        · rw [wrongE, if_pos (.inr q)] at h; exact absurd h (by decide)
        · omega
    rw [applyV, if_pos h, h]
    have h : op = 1 ∨ op = 2 ∨ op = 3 ∨ op = 4 ∨ op = 5 ∨ op = 6 ∨ op = 7 ∨ op = 8 ∨ op = 9 ∨ op = 10 ∨ op = 11 ∨ op = 12 ∨ op = 13 ∨ op = 14 ∨ op = 15 ∨ op = 16 ∨ op = 17 := by omega
    rcases h with h | h | h | h | h | h | h | h | h | h | h | h | h | h | h | h | h <;> subst h
    · exact apply_1 a b w hw
    · exact apply_2 a b w hw
    · exact apply_3 a b w hw
    · exact apply_4 a b w (hz (by decide) (by decide)) hw
    · exact apply_5 a b w (hz (by decide) (by decide)) hw
    · exact apply_6 a b w (hz (by decide) (by decide)) hw
    · exact apply_7 a b w hw
    · exact apply_8 a b w hw
    · exact apply_9 a b w hw
    · exact apply_10 a b w hw
    · exact apply_11 a b w hw
    · exact apply_12 a b w hw
    · exact apply_13 a b w hw
    · exact apply_14 a b w hw
    · exact apply_15 a b w hw
    · exact apply_16 a b w hw
    · exact apply_17 a b w hw
  · rw [applyV, if_neg h]
    exact apply_bad op a b w (by rw [bne_iff_ne]; exact h)
end Go.Proofs.Ytmljmabbopkpiaa
end

section
/- code.Form (layer 14): the form of an Op. PRINTED BY gen_form.py. -/
namespace Go.Proofs.Ytmljmabbopkpiaa
set_option linter.unusedVariables false
set_option linter.unusedSimpArgs false
open Go.RowKit

theorem formC_none (op : Int) (h : op < 1 ∨ 11 < op ∧ op ≤ 32 ∨ 49 < op) : formC op = 0 := by
  unfold formC
  rw [if_neg (by omega), if_neg (by omega), if_neg (by omega), if_neg (by omega), if_neg (by omega), if_neg (by omega), if_neg (by omega)]
theorem formIx0 (w : World) : (Instr.index 171 (.agg #[.int .u8 1, .string ⟨#[]⟩, .int .u8 2, .string ⟨#[]⟩, .int .u8 3, .string ⟨#[114, 110]⟩, .int .u8 4, .string ⟨#[114, 114]⟩, .int .u8 5, .string ⟨#[114, 114]⟩, .int .u8 6, .string ⟨#[114, 114]⟩, .int .u8 7, .string ⟨#[114, 114]⟩, .int .u8 8, .string ⟨#[114, 114, 112]⟩, .int .u8 9, .string ⟨#[116]⟩, .int .u8 10, .string ⟨#[114, 116]⟩, .int .u8 11, .string ⟨#[114, 116]⟩]) (.int .i64 0)).run Try.prog w = .ok (.agg #[.int .u8 1, .string ⟨#[]⟩]) w := by kernel_rfl
theorem formIx1 (w : World) : (Instr.index 171 (.agg #[.int .u8 1, .string ⟨#[]⟩, .int .u8 2, .string ⟨#[]⟩, .int .u8 3, .string ⟨#[114, 110]⟩, .int .u8 4, .string ⟨#[114, 114]⟩, .int .u8 5, .string ⟨#[114, 114]⟩, .int .u8 6, .string ⟨#[114, 114]⟩, .int .u8 7, .string ⟨#[114, 114]⟩, .int .u8 8, .string ⟨#[114, 114, 112]⟩, .int .u8 9, .string ⟨#[116]⟩, .int .u8 10, .string ⟨#[114, 116]⟩, .int .u8 11, .string ⟨#[114, 116]⟩]) (.int .i64 1)).run Try.prog w = .ok (.agg #[.int .u8 2, .string ⟨#[]⟩]) w := by kernel_rfl
theorem formIx2 (w : World) : (Instr.index 171 (.agg #[.int .u8 1, .string ⟨#[]⟩, .int .u8 2, .string ⟨#[]⟩, .int .u8 3, .string ⟨#[114, 110]⟩, .int .u8 4, .string ⟨#[114, 114]⟩, .int .u8 5, .string ⟨#[114, 114]⟩, .int .u8 6, .string ⟨#[114, 114]⟩, .int .u8 7, .string ⟨#[114, 114]⟩, .int .u8 8, .string ⟨#[114, 114, 112]⟩, .int .u8 9, .string ⟨#[116]⟩, .int .u8 10, .string ⟨#[114, 116]⟩, .int .u8 11, .string ⟨#[114, 116]⟩]) (.int .i64 2)).run Try.prog w = .ok (.agg #[.int .u8 3, .string ⟨#[114, 110]⟩]) w := by kernel_rfl
theorem formIx3 (w : World) : (Instr.index 171 (.agg #[.int .u8 1, .string ⟨#[]⟩, .int .u8 2, .string ⟨#[]⟩, .int .u8 3, .string ⟨#[114, 110]⟩, .int .u8 4, .string ⟨#[114, 114]⟩, .int .u8 5, .string ⟨#[114, 114]⟩, .int .u8 6, .string ⟨#[114, 114]⟩, .int .u8 7, .string ⟨#[114, 114]⟩, .int .u8 8, .string ⟨#[114, 114, 112]⟩, .int .u8 9, .string ⟨#[116]⟩, .int .u8 10, .string ⟨#[114, 116]⟩, .int .u8 11, .string ⟨#[114, 116]⟩]) (.int .i64 3)).run Try.prog w = .ok (.agg #[.int .u8 4, .string ⟨#[114, 114]⟩]) w := by kernel_rfl
theorem formIx4 (w : World) : (Instr.index 171 (.agg #[.int .u8 1, .string ⟨#[]⟩, .int .u8 2, .string ⟨#[]⟩, .int .u8 3, .string ⟨#[114, 110]⟩, .int .u8 4, .string ⟨#[114, 114]⟩, .int .u8 5, .string ⟨#[114, 114]⟩, .int .u8 6, .string ⟨#[114, 114]⟩, .int .u8 7, .string ⟨#[114, 114]⟩, .int .u8 8, .string ⟨#[114, 114, 112]⟩, .int .u8 9, .string ⟨#[116]⟩, .int .u8 10, .string ⟨#[114, 116]⟩, .int .u8 11, .string ⟨#[114, 116]⟩]) (.int .i64 4)).run Try.prog w = .ok (.agg #[.int .u8 5, .string ⟨#[114, 114]⟩]) w := by kernel_rfl
theorem formIx5 (w : World) : (Instr.index 171 (.agg #[.int .u8 1, .string ⟨#[]⟩, .int .u8 2, .string ⟨#[]⟩, .int .u8 3, .string ⟨#[114, 110]⟩, .int .u8 4, .string ⟨#[114, 114]⟩, .int .u8 5, .string ⟨#[114, 114]⟩, .int .u8 6, .string ⟨#[114, 114]⟩, .int .u8 7, .string ⟨#[114, 114]⟩, .int .u8 8, .string ⟨#[114, 114, 112]⟩, .int .u8 9, .string ⟨#[116]⟩, .int .u8 10, .string ⟨#[114, 116]⟩, .int .u8 11, .string ⟨#[114, 116]⟩]) (.int .i64 5)).run Try.prog w = .ok (.agg #[.int .u8 6, .string ⟨#[114, 114]⟩]) w := by kernel_rfl
theorem formIx6 (w : World) : (Instr.index 171 (.agg #[.int .u8 1, .string ⟨#[]⟩, .int .u8 2, .string ⟨#[]⟩, .int .u8 3, .string ⟨#[114, 110]⟩, .int .u8 4, .string ⟨#[114, 114]⟩, .int .u8 5, .string ⟨#[114, 114]⟩, .int .u8 6, .string ⟨#[114, 114]⟩, .int .u8 7, .string ⟨#[114, 114]⟩, .int .u8 8, .string ⟨#[114, 114, 112]⟩, .int .u8 9, .string ⟨#[116]⟩, .int .u8 10, .string ⟨#[114, 116]⟩, .int .u8 11, .string ⟨#[114, 116]⟩]) (.int .i64 6)).run Try.prog w = .ok (.agg #[.int .u8 7, .string ⟨#[114, 114]⟩]) w := by kernel_rfl
theorem formIx7 (w : World) : (Instr.index 171 (.agg #[.int .u8 1, .string ⟨#[]⟩, .int .u8 2, .string ⟨#[]⟩, .int .u8 3, .string ⟨#[114, 110]⟩, .int .u8 4, .string ⟨#[114, 114]⟩, .int .u8 5, .string ⟨#[114, 114]⟩, .int .u8 6, .string ⟨#[114, 114]⟩, .int .u8 7, .string ⟨#[114, 114]⟩, .int .u8 8, .string ⟨#[114, 114, 112]⟩, .int .u8 9, .string ⟨#[116]⟩, .int .u8 10, .string ⟨#[114, 116]⟩, .int .u8 11, .string ⟨#[114, 116]⟩]) (.int .i64 7)).run Try.prog w = .ok (.agg #[.int .u8 8, .string ⟨#[114, 114, 112]⟩]) w := by kernel_rfl
theorem formIx8 (w : World) : (Instr.index 171 (.agg #[.int .u8 1, .string ⟨#[]⟩, .int .u8 2, .string ⟨#[]⟩, .int .u8 3, .string ⟨#[114, 110]⟩, .int .u8 4, .string ⟨#[114, 114]⟩, .int .u8 5, .string ⟨#[114, 114]⟩, .int .u8 6, .string ⟨#[114, 114]⟩, .int .u8 7, .string ⟨#[114, 114]⟩, .int .u8 8, .string ⟨#[114, 114, 112]⟩, .int .u8 9, .string ⟨#[116]⟩, .int .u8 10, .string ⟨#[114, 116]⟩, .int .u8 11, .string ⟨#[114, 116]⟩]) (.int .i64 8)).run Try.prog w = .ok (.agg #[.int .u8 9, .string ⟨#[116]⟩]) w := by kernel_rfl
theorem formIx9 (w : World) : (Instr.index 171 (.agg #[.int .u8 1, .string ⟨#[]⟩, .int .u8 2, .string ⟨#[]⟩, .int .u8 3, .string ⟨#[114, 110]⟩, .int .u8 4, .string ⟨#[114, 114]⟩, .int .u8 5, .string ⟨#[114, 114]⟩, .int .u8 6, .string ⟨#[114, 114]⟩, .int .u8 7, .string ⟨#[114, 114]⟩, .int .u8 8, .string ⟨#[114, 114, 112]⟩, .int .u8 9, .string ⟨#[116]⟩, .int .u8 10, .string ⟨#[114, 116]⟩, .int .u8 11, .string ⟨#[114, 116]⟩]) (.int .i64 9)).run Try.prog w = .ok (.agg #[.int .u8 10, .string ⟨#[114, 116]⟩]) w := by kernel_rfl
theorem formIx10 (w : World) : (Instr.index 171 (.agg #[.int .u8 1, .string ⟨#[]⟩, .int .u8 2, .string ⟨#[]⟩, .int .u8 3, .string ⟨#[114, 110]⟩, .int .u8 4, .string ⟨#[114, 114]⟩, .int .u8 5, .string ⟨#[114, 114]⟩, .int .u8 6, .string ⟨#[114, 114]⟩, .int .u8 7, .string ⟨#[114, 114]⟩, .int .u8 8, .string ⟨#[114, 114, 112]⟩, .int .u8 9, .string ⟨#[116]⟩, .int .u8 10, .string ⟨#[114, 116]⟩, .int .u8 11, .string ⟨#[114, 116]⟩]) (.int .i64 10)).run Try.prog w = .ok (.agg #[.int .u8 11, .string ⟨#[114, 116]⟩]) w := by kernel_rfl

theorem form_rrr (op : Int) (w : World) (h0 : 32 < op) (h1 : op ≤ 49)  :
    Calls Try.prog 39 #[.int .u8 op] w fun e w' => e = .returned (.tuple #[.string ⟨#[114, 114, 114]⟩, .bool true]) ∧ Below w.heap.size w w' := by
  go_enter Try.func39, Try.ntmps39
  go_wp2
  go_ret2
  exact ⟨rfl, Below.refl _ _⟩

set_option maxRecDepth 100000 in
set_option maxHeartbeats 4000000 in
theorem form_lo (op : Int) (w : World) (h0 : 0 ≤ op) (h1 : op ≤ 32) :
    Calls Try.prog 39 #[.int .u8 op] w fun e w' => e = .returned (.tuple #[.string (formS (formC op)), .bool (formC op != 0)]) ∧ Below w.heap.size w w' := by
  go_enter Try.func39, Try.ntmps39
  go_wp2
  go_loopw [24] (fun k wr => ∃ n : Nat, k = .int .i64 n ∧ n ≤ 11 ∧ (op < 1 ∨ (n : Int) < op) ∧ Below w.heap.size w wr) (fun k _ => 11 - (intOf k).toNat)
  case atStart => exact ⟨0, rfl, by omega, by omega, Below.refl _ _⟩
  case round =>
    obtain ⟨n, rfl, hn, hop, hb⟩ := hrel
    have hz := hb.size
    have HB := Lib.hid hb
    clear hb
    have hN : n = 0 ∨ n = 1 ∨ n = 2 ∨ n = 3 ∨ n = 4 ∨ n = 5 ∨ n = 6 ∨ n = 7 ∨ n = 8 ∨ n = 9 ∨ n = 10 ∨ n = 11 := by omega
    rcases hN with rfl | rfl | rfl | rfl | rfl | rfl | rfl | rfl | rfl | rfl | rfl | rfl
    · have i0 := formIx0
      go_wp2
      · have he : (1 : Int) = op := beq_iff_eq.1 (by assumption)
        subst he
        go_ret2
        exact ⟨rfl, HB.out.alloc hz _⟩
      · have he : (1 : Int) ≠ op := beq_eq_false_iff_ne.1 (by assumption)
        go_roundw
        case rel => exact ⟨1, by go_num, by omega, by omega, HB.out.alloc hz _⟩
        case measure => simp [intOf]
    · have i0 := formIx1
      go_wp2
      · have he : (2 : Int) = op := beq_iff_eq.1 (by assumption)
        subst he
        go_ret2
        exact ⟨rfl, HB.out.alloc hz _⟩
      · have he : (2 : Int) ≠ op := beq_eq_false_iff_ne.1 (by assumption)
        go_roundw
        case rel => exact ⟨2, by go_num, by omega, by omega, HB.out.alloc hz _⟩
        case measure => simp [intOf]
    · have i0 := formIx2
      go_wp2
      · have he : (3 : Int) = op := beq_iff_eq.1 (by assumption)
        subst he
        go_ret2
        exact ⟨rfl, HB.out.alloc hz _⟩
      · have he : (3 : Int) ≠ op := beq_eq_false_iff_ne.1 (by assumption)
        go_roundw
        case rel => exact ⟨3, by go_num, by omega, by omega, HB.out.alloc hz _⟩
        case measure => simp [intOf]
    · have i0 := formIx3
      go_wp2
      · have he : (4 : Int) = op := beq_iff_eq.1 (by assumption)
        subst he
        go_ret2
        exact ⟨rfl, HB.out.alloc hz _⟩
      · have he : (4 : Int) ≠ op := beq_eq_false_iff_ne.1 (by assumption)
        go_roundw
        case rel => exact ⟨4, by go_num, by omega, by omega, HB.out.alloc hz _⟩
        case measure => simp [intOf]
    · have i0 := formIx4
      go_wp2
      · have he : (5 : Int) = op := beq_iff_eq.1 (by assumption)
        subst he
        go_ret2
        exact ⟨rfl, HB.out.alloc hz _⟩
      · have he : (5 : Int) ≠ op := beq_eq_false_iff_ne.1 (by assumption)
        go_roundw
        case rel => exact ⟨5, by go_num, by omega, by omega, HB.out.alloc hz _⟩
        case measure => simp [intOf]
    · have i0 := formIx5
      go_wp2
      · have he : (6 : Int) = op := beq_iff_eq.1 (by assumption)
        subst he
        go_ret2
        exact ⟨rfl, HB.out.alloc hz _⟩
      · have he : (6 : Int) ≠ op := beq_eq_false_iff_ne.1 (by assumption)
        go_roundw
        case rel => exact ⟨6, by go_num, by omega, by omega, HB.out.alloc hz _⟩
        case measure => simp [intOf]
    · have i0 := formIx6
      go_wp2
      · have he : (7 : Int) = op := beq_iff_eq.1 (by assumption)
        subst he
        go_ret2
        exact ⟨rfl, HB.out.alloc hz _⟩
      · have he : (7 : Int) ≠ op := beq_eq_false_iff_ne.1 (by assumption)
        go_roundw
        case rel => exact ⟨7, by go_num, by omega, by omega, HB.out.alloc hz _⟩
        case measure => simp [intOf]
    · have i0 := formIx7
      go_wp2
      · have he : (8 : Int) = op := beq_iff_eq.1 (by assumption)
        subst he
        go_ret2
        exact ⟨rfl, HB.out.alloc hz _⟩
      · have he : (8 : Int) ≠ op := beq_eq_false_iff_ne.1 (by assumption)
        go_roundw
        case rel => exact ⟨8, by go_num, by omega, by omega, HB.out.alloc hz _⟩
        case measure => simp [intOf]
    · have i0 := formIx8
      go_wp2
      · have he : (9 : Int) = op := beq_iff_eq.1 (by assumption)
        subst he
        go_ret2
        exact ⟨rfl, HB.out.alloc hz _⟩
      · have he : (9 : Int) ≠ op := beq_eq_false_iff_ne.1 (by assumption)
        go_roundw
        case rel => exact ⟨9, by go_num, by omega, by omega, HB.out.alloc hz _⟩
        case measure => simp [intOf]
    · have i0 := formIx9
      go_wp2
      · have he : (10 : Int) = op := beq_iff_eq.1 (by assumption)
        subst he
        go_ret2
        exact ⟨rfl, HB.out.alloc hz _⟩
      · have he : (10 : Int) ≠ op := beq_eq_false_iff_ne.1 (by assumption)
        go_roundw
        case rel => exact ⟨10, by go_num, by omega, by omega, HB.out.alloc hz _⟩
        case measure => simp [intOf]
    · have i0 := formIx10
      go_wp2
      · have he : (11 : Int) = op := beq_iff_eq.1 (by assumption)
        subst he
        go_ret2
        exact ⟨rfl, HB.out.alloc hz _⟩
      · have he : (11 : Int) ≠ op := beq_eq_false_iff_ne.1 (by assumption)
        go_roundw
        case rel => exact ⟨11, by go_num, by omega, by omega, HB.out.alloc hz _⟩
        case measure => simp [intOf]
    · go_wp2
      go_ret2
      refine ⟨?_, HB.out⟩
      rw [formC_none op (by omega)]
      rfl

set_option maxRecDepth 100000 in
set_option maxHeartbeats 4000000 in
theorem form_hi (op : Int) (w : World) (h1 : 49 < op) :
    Calls Try.prog 39 #[.int .u8 op] w fun e w' => e = .returned (.tuple #[.string (formS (formC op)), .bool (formC op != 0)]) ∧ Below w.heap.size w w' := by
  have h32 : 32 < op := by omega
  go_enter Try.func39, Try.ntmps39
  go_wp2
  go_loopw [24] (fun k wr => ∃ n : Nat, k = .int .i64 n ∧ n ≤ 11 ∧ (op < 1 ∨ (n : Int) < op) ∧ Below w.heap.size w wr) (fun k _ => 11 - (intOf k).toNat)
  case atStart => exact ⟨0, rfl, by omega, by omega, Below.refl _ _⟩
  case round =>
    obtain ⟨n, rfl, hn, hop, hb⟩ := hrel
    have hz := hb.size
    have HB := Lib.hid hb
    clear hb
    have hN : n = 0 ∨ n = 1 ∨ n = 2 ∨ n = 3 ∨ n = 4 ∨ n = 5 ∨ n = 6 ∨ n = 7 ∨ n = 8 ∨ n = 9 ∨ n = 10 ∨ n = 11 := by omega
    rcases hN with rfl | rfl | rfl | rfl | rfl | rfl | rfl | rfl | rfl | rfl | rfl | rfl
    · have i0 := formIx0
      have he : ((1 : Int) == op) = false := beq_eq_false_iff_ne.2 (by omega)
      go_wp2
      go_roundw
      case rel => exact ⟨1, by go_num, by omega, by omega, HB.out.alloc hz _⟩
      case measure => simp [intOf]
    · have i0 := formIx1
      have he : ((2 : Int) == op) = false := beq_eq_false_iff_ne.2 (by omega)
      go_wp2
      go_roundw
      case rel => exact ⟨2, by go_num, by omega, by omega, HB.out.alloc hz _⟩
      case measure => simp [intOf]
    · have i0 := formIx2
      have he : ((3 : Int) == op) = false := beq_eq_false_iff_ne.2 (by omega)
      go_wp2
      go_roundw
      case rel => exact ⟨3, by go_num, by omega, by omega, HB.out.alloc hz _⟩
      case measure => simp [intOf]
    · have i0 := formIx3
      have he : ((4 : Int) == op) = false := beq_eq_false_iff_ne.2 (by omega)
      go_wp2
      go_roundw
      case rel => exact ⟨4, by go_num, by omega, by omega, HB.out.alloc hz _⟩
      case measure => simp [intOf]
    · have i0 := formIx4
      have he : ((5 : Int) == op) = false := beq_eq_false_iff_ne.2 (by omega)
      go_wp2
      go_roundw
      case rel => exact ⟨5, by go_num, by omega, by omega, HB.out.alloc hz _⟩
      case measure => simp [intOf]
    · have i0 := formIx5
      have he : ((6 : Int) == op) = false := beq_eq_false_iff_ne.2 (by omega)
      go_wp2
      go_roundw
      case rel => exact ⟨6, by go_num, by omega, by omega, HB.out.alloc hz _⟩
      case measure => simp [intOf]
    · have i0 := formIx6
      have he : ((7 : Int) == op) = false := beq_eq_false_iff_ne.2 (by omega)
      go_wp2
      go_roundw
      case rel => exact ⟨7, by go_num, by omega, by omega, HB.out.alloc hz _⟩
      case measure => simp [intOf]
    · have i0 := formIx7
      have he : ((8 : Int) == op) = false := beq_eq_false_iff_ne.2 (by omega)
      go_wp2
      go_roundw
      case rel => exact ⟨8, by go_num, by omega, by omega, HB.out.alloc hz _⟩
      case measure => simp [intOf]
    · have i0 := formIx8
      have he : ((9 : Int) == op) = false := beq_eq_false_iff_ne.2 (by omega)
      go_wp2
      go_roundw
      case rel => exact ⟨9, by go_num, by omega, by omega, HB.out.alloc hz _⟩
      case measure => simp [intOf]
    · have i0 := formIx9
      have he : ((10 : Int) == op) = false := beq_eq_false_iff_ne.2 (by omega)
      go_wp2
      go_roundw
      case rel => exact ⟨10, by go_num, by omega, by omega, HB.out.alloc hz _⟩
      case measure => simp [intOf]
    · have i0 := formIx10
      have he : ((11 : Int) == op) = false := beq_eq_false_iff_ne.2 (by omega)
      go_wp2
      go_roundw
      case rel => exact ⟨11, by go_num, by omega, by omega, HB.out.alloc hz _⟩
      case measure => simp [intOf]
    · go_wp2
      go_ret2
      refine ⟨?_, HB.out⟩
      rw [formC_none op (by omega)]
      rfl
end Go.Proofs.Ytmljmabbopkpiaa
end

section
/- equality of small arrays of numbers, and other closed facts on types. -/
namespace Go.Proofs.Ytmljmabbopkpiaa
set_option linter.unusedVariables false
set_option linter.unusedSimpArgs false
open Go.RowKit

theorem eq3 (x y z a b c : Int) (w : World) : (Op.equalIn 10000 107 (.agg #[.int .u8 x, .int .u8 y, .int .u8 z]) (.agg #[.int .u8 a, .int .u8 b, .int .u8 c])).run Try.prog w = .ok (x == a && (y == b && z == c)) w := by
  have h1 : ∀ (x a : Int) (w : World), (Op.equalIn 9999 5 (.int .u8 x) (.int .u8 a)).run Try.prog w = .ok (x == a) w := fun x a w => run_equalIn_int w 9998 5 .u8 .u8 x a (by kernel_rfl)
  have hs : ∀ w, (sizeOf 5).run Try.prog w = .ok 1 w := fun w => by kernel_rfl
  have hu : ∀ w, (underlying 107).run Try.prog w = .ok (.array 3 5) w := fun w => by kernel_rfl
  have p0 : ∀ (x y z : Int) w, (part 5 #[.int .u8 x, .int .u8 y, .int .u8 z] 0).run Try.prog w = .ok (.int .u8 x) w := fun x y z w => by kernel_rfl
  have p1 : ∀ (x y z : Int) w, (part 5 #[.int .u8 x, .int .u8 y, .int .u8 z] 1).run Try.prog w = .ok (.int .u8 y) w := fun x y z w => by kernel_rfl
  have p2 : ∀ (x y z : Int) w, (part 5 #[.int .u8 x, .int .u8 y, .int .u8 z] 2).run Try.prog w = .ok (.int .u8 z) w := fun x y z w => by kernel_rfl
  rw [Op.equalIn]
  simp only [Sem.run_bind, hu, Result.andThen_ok, hs]
  simp only [Std.Legacy.Range.forIn_eq_forIn_range', Std.Legacy.Range.size]
  simp [List.range'_succ, p0, p1, p2, h1, ite_okB]

theorem eq8 (x0 x1 x2 x3 x4 x5 x6 x7 a0 a1 a2 a3 a4 a5 a6 a7 : Int) (w : World) : (Op.equalIn 10000 46 (.agg #[.int .i64 x0, .int .i64 x1, .int .i64 x2, .int .i64 x3, .int .i64 x4, .int .i64 x5, .int .i64 x6, .int .i64 x7]) (.agg #[.int .i64 a0, .int .i64 a1, .int .i64 a2, .int .i64 a3, .int .i64 a4, .int .i64 a5, .int .i64 a6, .int .i64 a7])).run Try.prog w = .ok (x0 == a0 && (x1 == a1 && (x2 == a2 && (x3 == a3 && (x4 == a4 && (x5 == a5 && (x6 == a6 && (x7 == a7)))))))) w := by
  have h1 : ∀ (x a : Int) (w : World), (Op.equalIn 9999 2 (.int .i64 x) (.int .i64 a)).run Try.prog w = .ok (x == a) w := fun x a w => run_equalIn_int w 9998 2 .i64 .i64 x a (by kernel_rfl)
  have hs : ∀ w, (sizeOf 2).run Try.prog w = .ok 1 w := fun w => by kernel_rfl
  have hu : ∀ w, (underlying 46).run Try.prog w = .ok (.array 8 2) w := fun w => by kernel_rfl
  have p0 : ∀ (x0 x1 x2 x3 x4 x5 x6 x7 : Int) w, (part 2 #[.int .i64 x0, .int .i64 x1, .int .i64 x2, .int .i64 x3, .int .i64 x4, .int .i64 x5, .int .i64 x6, .int .i64 x7] 0).run Try.prog w = .ok (.int .i64 x0) w := fun x0 x1 x2 x3 x4 x5 x6 x7 w => by kernel_rfl
  have p1 : ∀ (x0 x1 x2 x3 x4 x5 x6 x7 : Int) w, (part 2 #[.int .i64 x0, .int .i64 x1, .int .i64 x2, .int .i64 x3, .int .i64 x4, .int .i64 x5, .int .i64 x6, .int .i64 x7] 1).run Try.prog w = .ok (.int .i64 x1) w := fun x0 x1 x2 x3 x4 x5 x6 x7 w => by kernel_rfl
  have p2 : ∀ (x0 x1 x2 x3 x4 x5 x6 x7 : Int) w, (part 2 #[.int .i64 x0, .int .i64 x1, .int .i64 x2, .int .i64 x3, .int .i64 x4, .int .i64 x5, .int .i64 x6, .int .i64 x7] 2).run Try.prog w = .ok (.int .i64 x2) w := fun x0 x1 x2 x3 x4 x5 x6 x7 w => by kernel_rfl
  have p3 : ∀ (x0 x1 x2 x3 x4 x5 x6 x7 : Int) w, (part 2 #[.int .i64 x0, .int .i64 x1, .int .i64 x2, .int .i64 x3, .int .i64 x4, .int .i64 x5, .int .i64 x6, .int .i64 x7] 3).run Try.prog w = .ok (.int .i64 x3) w := fun x0 x1 x2 x3 x4 x5 x6 x7 w => by kernel_rfl
  have p4 : ∀ (x0 x1 x2 x3 x4 x5 x6 x7 : Int) w, (part 2 #[.int .i64 x0, .int .i64 x1, .int .i64 x2, .int .i64 x3, .int .i64 x4, .int .i64 x5, .int .i64 x6, .int .i64 x7] 4).run Try.prog w = .ok (.int .i64 x4) w := fun x0 x1 x2 x3 x4 x5 x6 x7 w => by kernel_rfl
  have p5 : ∀ (x0 x1 x2 x3 x4 x5 x6 x7 : Int) w, (part 2 #[.int .i64 x0, .int .i64 x1, .int .i64 x2, .int .i64 x3, .int .i64 x4, .int .i64 x5, .int .i64 x6, .int .i64 x7] 5).run Try.prog w = .ok (.int .i64 x5) w := fun x0 x1 x2 x3 x4 x5 x6 x7 w => by kernel_rfl
  have p6 : ∀ (x0 x1 x2 x3 x4 x5 x6 x7 : Int) w, (part 2 #[.int .i64 x0, .int .i64 x1, .int .i64 x2, .int .i64 x3, .int .i64 x4, .int .i64 x5, .int .i64 x6, .int .i64 x7] 6).run Try.prog w = .ok (.int .i64 x6) w := fun x0 x1 x2 x3 x4 x5 x6 x7 w => by kernel_rfl
  have p7 : ∀ (x0 x1 x2 x3 x4 x5 x6 x7 : Int) w, (part 2 #[.int .i64 x0, .int .i64 x1, .int .i64 x2, .int .i64 x3, .int .i64 x4, .int .i64 x5, .int .i64 x6, .int .i64 x7] 7).run Try.prog w = .ok (.int .i64 x7) w := fun x0 x1 x2 x3 x4 x5 x6 x7 w => by kernel_rfl
  rw [Op.equalIn]
  simp only [Sem.run_bind, hu, Result.andThen_ok, hs]
  simp only [Std.Legacy.Range.forIn_eq_forIn_range', Std.Legacy.Range.size]
  simp [List.range'_succ, p0, p1, p2, p3, p4, p5, p6, p7, h1, ite_okB]

theorem fieldsSend : (Try.prog.fieldsOf 64).toList = [{ name := "Port", type := 3, offset := 0, embedded := false, tag := "", pkgPath := "", byteOffset := 0 }, { name := "Delay", type := 2, offset := 1, embedded := false, tag := "", pkgPath := "", byteOffset := 8 }, { name := "Value", type := 2, offset := 2, embedded := false, tag := "", pkgPath := "", byteOffset := 16 }] := by kernel_rfl
theorem eqSend (x y z a b c : Int) (w : World) : (Op.equalIn 10000 64 (.agg #[.int .i64 x, .int .i64 y, .int .i64 z]) (.agg #[.int .i64 a, .int .i64 b, .int .i64 c])).run Try.prog w = .ok (x == a && (y == b && z == c)) w := by
  have h1 : ∀ (x a : Int) (w : World), (Op.equalIn 9999 2 (.int .i64 x) (.int .i64 a)).run Try.prog w = .ok (x == a) w := fun x a w => run_equalIn_int w 9998 2 .i64 .i64 x a (by kernel_rfl)
  have h2 : ∀ (x a : Int) (w : World), (Op.equalIn 9999 3 (.int .i64 x) (.int .i64 a)).run Try.prog w = .ok (x == a) w := fun x a w => run_equalIn_int w 9998 3 .i64 .i64 x a (by kernel_rfl)
  have p0 : ∀ (x y z : Int) w, (part 3 #[.int .i64 x, .int .i64 y, .int .i64 z] 0).run Try.prog w = .ok (.int .i64 x) w := fun x y z w => by kernel_rfl
  have p1 : ∀ (x y z : Int) w, (part 2 #[.int .i64 x, .int .i64 y, .int .i64 z] 1).run Try.prog w = .ok (.int .i64 y) w := fun x y z w => by kernel_rfl
  have p2 : ∀ (x y z : Int) w, (part 2 #[.int .i64 x, .int .i64 y, .int .i64 z] 2).run Try.prog w = .ok (.int .i64 z) w := fun x y z w => by kernel_rfl
  rw [run_equalIn_struct w 9999 64 _ _ (by kernel_rfl) (by kernel_rfl), fieldsSend]
  simp [Op.eqFields, p0, p1, p2, h1, h2, ite_okB]
end Go.Proofs.Ytmljmabbopkpiaa
end
