import Derived.Test.YtmljmabbopkpiaaG1
import Derived.Test.YtmljmabbopkpiaaG5
import Derived.Test.YtmljmabbopkpiaaG6
import Derived.Test.YtmljmabbopkpiaaG7
import Derived.Laws.OwnMore
import Derived.IntWalk
import Derived.Test.YtmljmabbopkpiaaChecked
import Derived.ProofKit
import Derived.Deep.Slices
import Derived.Scope
section
/- what a straight walk knows of memory: blocks, and lists that read. -/
namespace Go.Proofs.Ytmljmabbopkpiaa
open Go.RowKit
set_option linter.unusedVariables false
set_option linter.unusedSimpArgs false

/-! ### whole rows: how a walk loads and stores a struct at once -/
def blockOf : Value → Nat
  | .pointer (some a) => a.block
  | _ => 0
def aggOf : Value → Array Value
  | .agg c => c
  | _ => #[]
def rowOf (w : World) (g : Nat) : Array Value := match w.heap[g]? with | some (.cells cs _ _) => cs | _ => #[]
def IsRow (w : World) (g k : Nat) : Prop := ∃ t cs, Blk w g t cs ∧ cs.size = k
theorem Blk.isRow {w : World} {g k : Nat} {t : TypeId} {cs : Array Value} (h : Blk w g t cs) (hk : cs.size = k) : IsRow w g k := ⟨t, cs, h, hk⟩
theorem Blk.rowOf_eq {w : World} {g : Nat} {t : TypeId} {cs : Array Value} (h : Blk w g t cs) : rowOf w g = cs := by
  unfold rowOf; rw [show w.heap[g]? = some (.cells cs t (0, 0)) from h]
section
variable {d : Option Tmp} {x y : Operand} {ty : TypeId} {pos : String} {after : Array Edge} {guard : Option (Nat × Bool)} {a : Act} {w : World} {K : Act → World → Prop} {Q : Exit → Act → World → Prop}
set_option maxRecDepth 100000 in
theorem wp_load_any (t k : Nat) (hrun : ∀ g t' cs, Blk w g t' cs → cs.size = k → (loadVar t ⟨g, 0, none⟩).run Try.prog w = .ok (.agg cs) w)
    (hx : a.eval x = .pointer (some ⟨blockOf (a.eval x), 0, none⟩)) (hb : IsRow w (blockOf (a.eval x)) k) :
    Oper.wp Try.prog ⟨d, .load t x, ty, pos, after, guard⟩ a w K Q = K (a.put d (.agg (rowOf w (blockOf (a.eval x))))) w := by
  obtain ⟨g, hg⟩ : ∃ g, g = blockOf (a.eval x) := ⟨_, rfl⟩
  rw [← hg] at hx hb ⊢
  obtain ⟨t', cs, hB, hk⟩ := hb
  rw [hB.rowOf_eq]
  have hr := hrun g t' cs hB hk
  unfold Oper.wp execOp
  simp only [hx, Instr.loadAt, Instr.sureAddr, Sem.run_bind, Sem.run_pure, Result.andThen_ok, hr]
  rfl
theorem wp_load53 (hx : a.eval x = .pointer (some ⟨blockOf (a.eval x), 0, none⟩)) (hb : IsRow w (blockOf (a.eval x)) 13) :
    Oper.wp Try.prog ⟨d, .load 53 x, ty, pos, after, guard⟩ a w K Q = K (a.put d (.agg (rowOf w (blockOf (a.eval x))))) w := wp_load_any _ 13 (fun g t' cs hB hk => run_loadVar_row w g t' 53 cs (0, 0) _ hB Try.underlying53 rfl (by rw [hk]; kernel_rfl)) hx hb
theorem wp_load56 (hx : a.eval x = .pointer (some ⟨blockOf (a.eval x), 0, none⟩)) (hb : IsRow w (blockOf (a.eval x)) 5) :
    Oper.wp Try.prog ⟨d, .load 56 x, ty, pos, after, guard⟩ a w K Q = K (a.put d (.agg (rowOf w (blockOf (a.eval x))))) w := wp_load_any _ 5 (fun g t' cs hB hk => run_loadVar_row w g t' 56 cs (0, 0) _ hB Try.underlying56 rfl (by rw [hk]; kernel_rfl)) hx hb
theorem wp_load28 (hx : a.eval x = .pointer (some ⟨blockOf (a.eval x), 0, none⟩)) (hb : IsRow w (blockOf (a.eval x)) 5) :
    Oper.wp Try.prog ⟨d, .load 28 x, ty, pos, after, guard⟩ a w K Q = K (a.put d (.agg (rowOf w (blockOf (a.eval x))))) w := wp_load_any _ 5 (fun g t' cs hB hk => run_loadVar_row w g t' 28 cs (0, 0) _ hB Try.underlying28 rfl (by rw [hk]; kernel_rfl)) hx hb
set_option maxRecDepth 100000 in
theorem wp_store_at (t k : Nat) (hi : (Try.prog.info? t).map (·.size) = some k)
    (hx : a.eval x = .pointer (some ⟨blockOf (a.eval x), 0, none⟩)) (hb : IsRow w (blockOf (a.eval x)) k) (hy : a.eval y = .agg (aggOf (a.eval y))) (hs : (aggOf (a.eval y)).size = k) (h1 : (aggOf (a.eval y)).all (·.oneCell') = true) :
    Oper.wp Try.prog ⟨d, .store t x y, ty, pos, after, guard⟩ a w K Q = K (a.put d undef) (w.setRow (blockOf (a.eval x)) (aggOf (a.eval y))) := by
  obtain ⟨g, hg⟩ : ∃ g, g = blockOf (a.eval x) := ⟨_, rfl⟩
  obtain ⟨c, hc⟩ : ∃ c, c = aggOf (a.eval y) := ⟨_, rfl⟩
  rw [← hg] at hx hb ⊢
  rw [← hc] at hy hs h1 ⊢
  obtain ⟨t', cs, hB, hk⟩ := hb
  unfold Oper.wp execOp
  simp only [hx, hy, Instr.storeAt, Instr.sureAddr, Sem.run_bind, Sem.run_pure, Result.andThen_ok, run_storeVar_row w g t' t cs c hB (by rw [hs]; exact hi) (by rw [hs, hk]) h1]
  rfl
theorem wp_store53 (hx : a.eval x = .pointer (some ⟨blockOf (a.eval x), 0, none⟩)) (hb : IsRow w (blockOf (a.eval x)) 13) (hy : a.eval y = .agg (aggOf (a.eval y))) (hs : (aggOf (a.eval y)).size = 13) (h1 : (aggOf (a.eval y)).all (·.oneCell') = true) :
    Oper.wp Try.prog ⟨d, .store 53 x y, ty, pos, after, guard⟩ a w K Q = K (a.put d undef) (w.setRow (blockOf (a.eval x)) (aggOf (a.eval y))) := wp_store_at _ 13 (by kernel_rfl) hx hb hy hs h1
theorem wp_store56 (hx : a.eval x = .pointer (some ⟨blockOf (a.eval x), 0, none⟩)) (hb : IsRow w (blockOf (a.eval x)) 5) (hy : a.eval y = .agg (aggOf (a.eval y))) (hs : (aggOf (a.eval y)).size = 5) (h1 : (aggOf (a.eval y)).all (·.oneCell') = true) :
    Oper.wp Try.prog ⟨d, .store 56 x y, ty, pos, after, guard⟩ a w K Q = K (a.put d undef) (w.setRow (blockOf (a.eval x)) (aggOf (a.eval y))) := wp_store_at _ 5 (by kernel_rfl) hx hb hy hs h1
end

structure Rd where
  size : Nat
  A : Option Addr
  n : Nat
  xs : List Value
structure Bk where
  g : Nat
  t : TypeId
  cs : Array Value
structure AW (w : World) (L : List Bk) (R : List Rd) (W : World) : Prop where
  b : Below w.heap.size w W
  l : ∀ e ∈ L, Blk W e.g e.t e.cs
  r : ∀ e ∈ R, Reads W W.heap.size e.size e.A e.n e.xs
section
variable {w W W' : World} {L : List Bk} {R : List Rd}
theorem AW.start (w : World) : AW w [] [⟨1, none, 0, []⟩, ⟨3, none, 0, []⟩] w :=
  ⟨Below.refl _ _, by simp, fun e he => by
    simp only [List.mem_cons, List.not_mem_nil, or_false] at he
    rcases he with rfl | rfl <;> exact Reads.none_⟩
theorem AW.drew (h : AW w L R W) : AW w L R W.drew := ⟨h.b.drew, h.l, h.r⟩
theorem AW.drewN (h : AW w L R W) (n : Nat) : AW w L R (W.drewN n) := ⟨below_drewNm h.b n, h.l, h.r⟩
theorem AW.call (h : AW w L R W) (hb : Below W.heap.size W W') : AW w L R W' :=
  ⟨h.b.trans (hb.mono h.b.size), fun e he => (h.l e he).below hb (h.l e he).lt, fun e he => ((h.r e he).below hb).more hb.size⟩
theorem AW.alloc (h : AW w L R W) (o : Obj) : AW w L R (W.alloc o) :=
  ⟨h.b.alloc h.b.size _, fun e he => (h.l e he).alloc _, fun e he => ((h.r e he).alloc (Nat.le_refl _) o).more (by simp)⟩
theorem AW.put (h : AW w L R W) (t : TypeId) (cs : Array Value) : AW w (⟨W.heap.size, t, cs⟩ :: L) R (W.alloc (.cells cs t)) :=
  ⟨(h.alloc _).b, fun e he => by
    rcases List.mem_cons.1 he with rfl | he
    · exact Blk.new _ _ _
    · exact (h.alloc _).l e he, (h.alloc _).r⟩
theorem AW.put' (h : AW w L R W) (t : TypeId) (cs : Array Value) {g : Nat} (hg : g = W.heap.size) : AW w (⟨g, t, cs⟩ :: L) R (W.alloc (.cells cs t)) := hg ▸ h.put t cs
theorem AW.read (h : AW w L R W) {e : Rd} (he : Reads W W.heap.size e.size e.A e.n e.xs) : AW w L (e :: R) W :=
  ⟨h.b, h.l, fun x hx => by
    rcases List.mem_cons.1 hx with rfl | hx
    · exact he
    · exact h.r x hx⟩
theorem AW.array (h : AW w L R W) (t : TypeId) (cs : Array Value) (k n : Nat) (hl : cs.size = n * k) : AW w L (⟨k, some ⟨W.heap.size, 0, none⟩, n, cs.toList⟩ :: R) (W.alloc (.cells cs t)) :=
  (h.alloc _).read (reads_new W t cs k n _ _ rfl (by simp) hl)
theorem AW.array' (h : AW w L R W) (t : TypeId) (cs : Array Value) (k n : Nat) (hl : cs.size = n * k) {g : Nat} (hg : g = W.heap.size) : AW w L (⟨k, some ⟨g, 0, none⟩, n, cs.toList⟩ :: R) (W.alloc (.cells cs t)) := hg ▸ h.array t cs k n hl
theorem AW.row_head {e : Bk} (h : AW w (e :: L) R W) : IsRow W e.g e.cs.size := (h.l e (.head _)).isRow rfl
theorem AW.none3 (h : AW w L R W) : AW w L (⟨3, none, 0, []⟩ :: R) W := h.read Reads.none_
theorem AW.less (h : AW w L R W) {L' : List Bk} {R' : List Rd} (hl : L' ⊆ L) (hr : R' ⊆ R) : AW w L' R' W := ⟨h.b, fun e he => h.l e (hl he), fun e he => h.r e (hr he)⟩
theorem AW.of_own (h : AW w L R W) {base e size n c : Nat} {A : Option Addr} {xs : List Value} (ho : W.ownsRow base e size (.slice A n c) n xs) : AW w L (⟨size, A, n, xs⟩ :: R) W := h.read (Reads.of_own ho)

theorem ev_aw (x t q : Int) (h : AW w L R W) : Calls Try.prog 40 #[.int .i64 x, .int .i64 t, .int .i64 q] W fun e w' => e = .returned (.agg #[.int .i64 t, .int .i64 q, .int .i64 0, .int .i64 0, .int .i64 x]) ∧ AW w L R w' :=
  (event_c x t q W).mono fun e w' ⟨he, hb⟩ => ⟨he, h.call hb⟩
theorem bg_aw (x t q : Int) (A : Option Addr) (n c : Nat) (ys : List Int) (hn : n ≤ 1000000) (h : AW w L (⟨1, A, n, int64s ys⟩ :: R) W) :
    Calls Try.prog 59 #[.agg #[.int .i64 t, .int .i64 q, .int .i64 0, .int .i64 0, .int .i64 x], .slice A n c, .int .i64 0] W fun e w' => ∃ A1 k1, e = .returned (.agg #[.int .i64 0, .bool false, .int .i64 x, .int .i64 t, .int .i64 q, .int .i64 0, .int .i64 0, .int .i64 0, .int .i64 0, .int .i64 0, .slice A1 n k1, .int .i64 0, .slice none 0 0]) ∧
      AW w L (⟨1, A1, n, int64s ys⟩ :: ⟨1, A, n, int64s ys⟩ :: R) w' := by
  refine (begin_c x t q 0 0 0 A n c ys hn W (h.r _ (.head _))).mono ?_
  rintro e w' ⟨A1, k1, rfl, ho, hb⟩
  exact ⟨A1, k1, rfl, (h.call hb).of_own ho⟩
theorem AW.row5 (h : AW w L R W) (g : Nat) (t : TypeId) (a0 a1 a2 a3 a4 : Value) (hm : (⟨g, t, #[a0, a1, a2, a3, a4]⟩ : Bk) ∈ L) : IsRow W g 5 ∧ rowOf W g = #[a0, a1, a2, a3, a4] := ⟨(h.l _ hm).isRow rfl, (h.l _ hm).rowOf_eq⟩
theorem isRow_alloc {g k : Nat} {o : Obj} (h : IsRow W g k) : IsRow (W.alloc o) g k := by
  obtain ⟨t, cs, hb, hk⟩ := h
  exact ⟨t, cs, hb.alloc o, hk⟩
theorem rowOf_alloc5 {g : Nat} {o : Obj} (h : IsRow W g 5) : rowOf (W.alloc o) g = rowOf W g := by
  obtain ⟨t, cs, hb, hk⟩ := h
  rw [hb.rowOf_eq, (hb.alloc o).rowOf_eq]
theorem rowOf_alloc13 {g : Nat} {o : Obj} (h : IsRow W g 13) : rowOf (W.alloc o) g = rowOf W g := by
  obtain ⟨t, cs, hb, hk⟩ := h
  rw [hb.rowOf_eq, (hb.alloc o).rowOf_eq]
theorem isRow_new {g k : Nat} {t : TypeId} {cs : Array Value} (hg : g = W.heap.size) (hk : cs.size = k) : IsRow (W.alloc (.cells cs t)) g k := ⟨t, cs, hg ▸ Blk.new W t cs, hk⟩
theorem below_al {a : World} (h : Below a.heap.size a W) (o : Obj) : Below a.heap.size a (W.alloc o) := h.alloc h.size o
theorem Reads.al {k n : Nat} {A : Option Addr} {xs : List Value} (h : Reads W W.heap.size k A n xs) (o : Obj) : Reads (W.alloc o) (W.alloc o).heap.size k A n xs := (h.alloc (Nat.le_refl _) o).more (by simp)
theorem reads_00 {g : Nat} (hg : g = W.heap.size) : Reads (W.alloc (.cells #[.int .i64 0, .int .i64 0] 2)) (W.alloc (.cells #[.int .i64 0, .int .i64 0] 2)).heap.size 1 (some ⟨g, 0, none⟩) 2 (int64s [0, 0]) := reads_new W _ #[.int .i64 0, .int .i64 0] 1 2 _ _ hg (by simp [hg]) rfl
theorem IsRow.below {g k : Nat} (h : IsRow W g k) (hb : Below W.heap.size W W') : IsRow W' g k := by
  obtain ⟨t, cs, hB, hk⟩ := h
  exact ⟨t, cs, hB.below hb hB.lt, hk⟩
theorem Reads.call {k n : Nat} {A : Option Addr} {xs : List Value} (h : Reads W W.heap.size k A n xs) (hb : Below W.heap.size W W') : Reads W' W'.heap.size k A n xs := (h.below hb).more hb.size
theorem keepA {g : Nat} {c : Array Value} (h : IsRow W g 5 ∧ rowOf W g = c) (o : Obj) : IsRow (W.alloc o) g 5 ∧ rowOf (W.alloc o) g = c := ⟨isRow_alloc h.1, (rowOf_alloc5 h.1).trans h.2⟩
theorem keepD {g : Nat} {c : Array Value} (h : IsRow W g 5 ∧ rowOf W g = c) : IsRow W.drew g 5 ∧ rowOf W.drew g = c := h
theorem keepRow {g k : Nat} {c : Array Value} (h : IsRow W g 5 ∧ rowOf W g = c) (hn : g ≠ k) (cs : Array Value) : IsRow (W.setRow k cs) g 5 ∧ rowOf (W.setRow k cs) g = c := by
  obtain ⟨⟨t, ds, hb, hk⟩, h2⟩ := h
  have hb' := hb.row_far hn cs
  exact ⟨⟨t, ds, hb', hk⟩, hb'.rowOf_eq.trans (hb.rowOf_eq.symm.trans h2)⟩
theorem k5D {g : Nat} {a0 a1 a2 a3 a4 : Value} (h : (W.cell? ⟨g, 0, none⟩ = some a0 ∧ W.cell? ⟨g, 1, none⟩ = some a1 ∧ W.cell? ⟨g, 2, none⟩ = some a2 ∧ W.cell? ⟨g, 3, none⟩ = some a3 ∧ W.cell? ⟨g, 4, none⟩ = some a4) ∧ g < W.heap.size) : ((W.drew).cell? ⟨g, 0, none⟩ = some a0 ∧ (W.drew).cell? ⟨g, 1, none⟩ = some a1 ∧ (W.drew).cell? ⟨g, 2, none⟩ = some a2 ∧ (W.drew).cell? ⟨g, 3, none⟩ = some a3 ∧ (W.drew).cell? ⟨g, 4, none⟩ = some a4) ∧ g < (W.drew).heap.size := h
theorem k5A {g : Nat} {a0 a1 a2 a3 a4 : Value} (h : (W.cell? ⟨g, 0, none⟩ = some a0 ∧ W.cell? ⟨g, 1, none⟩ = some a1 ∧ W.cell? ⟨g, 2, none⟩ = some a2 ∧ W.cell? ⟨g, 3, none⟩ = some a3 ∧ W.cell? ⟨g, 4, none⟩ = some a4) ∧ g < W.heap.size) (o : Obj) : ((W.alloc o).cell? ⟨g, 0, none⟩ = some a0 ∧ (W.alloc o).cell? ⟨g, 1, none⟩ = some a1 ∧ (W.alloc o).cell? ⟨g, 2, none⟩ = some a2 ∧ (W.alloc o).cell? ⟨g, 3, none⟩ = some a3 ∧ (W.alloc o).cell? ⟨g, 4, none⟩ = some a4) ∧ g < (W.alloc o).heap.size := by
  obtain ⟨⟨h0, h1, h2, h3, h4⟩, hl⟩ := h
  refine ⟨⟨?_, ?_, ?_, ?_, ?_⟩, by simp; omega⟩
  · rw [World.cell?_alloc_lt W o _ hl]; exact h0
  · rw [World.cell?_alloc_lt W o _ hl]; exact h1
  · rw [World.cell?_alloc_lt W o _ hl]; exact h2
  · rw [World.cell?_alloc_lt W o _ hl]; exact h3
  · rw [World.cell?_alloc_lt W o _ hl]; exact h4
theorem k5R {g k : Nat} {a0 a1 a2 a3 a4 : Value} (h : (W.cell? ⟨g, 0, none⟩ = some a0 ∧ W.cell? ⟨g, 1, none⟩ = some a1 ∧ W.cell? ⟨g, 2, none⟩ = some a2 ∧ W.cell? ⟨g, 3, none⟩ = some a3 ∧ W.cell? ⟨g, 4, none⟩ = some a4) ∧ g < W.heap.size) (hn : g ≠ k) (cs : Array Value) : ((W.setRow k cs).cell? ⟨g, 0, none⟩ = some a0 ∧ (W.setRow k cs).cell? ⟨g, 1, none⟩ = some a1 ∧ (W.setRow k cs).cell? ⟨g, 2, none⟩ = some a2 ∧ (W.setRow k cs).cell? ⟨g, 3, none⟩ = some a3 ∧ (W.setRow k cs).cell? ⟨g, 4, none⟩ = some a4) ∧ g < (W.setRow k cs).heap.size := by
  obtain ⟨⟨h0, h1, h2, h3, h4⟩, hl⟩ := h
  have hk : ∀ i, (W.setRow k cs).cell? ⟨g, i, none⟩ = W.cell? ⟨g, i, none⟩ := fun i => by
    unfold World.cell?
    rw [setRow_other W k g cs hn]
  exact ⟨⟨(hk 0).trans h0, (hk 1).trans h1, (hk 2).trans h2, (hk 3).trans h3, (hk 4).trans h4⟩, by simpa using hl⟩
theorem isRow_drew {g k : Nat} : IsRow W.drew g k = IsRow W g k := rfl
theorem isRow_drewN {g k n : Nat} : IsRow (W.drewN n) g k = IsRow W g k := rfl
theorem rowOf_drew {g : Nat} : rowOf W.drew g = rowOf W g := rfl
theorem rowOf_drewN {g n : Nat} : rowOf (W.drewN n) g = rowOf W g := rfl

/-- one instruction, then a Halt, by the closure of awake: what it makes, in numbers -/
theorem call60 (i : Ins) (hi : i.ok) (v : Envi) (s : St) (TV : Value → Value → Value) (cs : List Int) (sn : List Snd) (E : Int) (hV : (topS [i, haltI] v s).v = TV) (hcs : (topS [i, haltI] v s).cells = cs) (hsn : (topS [i, haltI] v s).sends = sn) (hE : topE [i, haltI] v s = E) (nC nS : Nat) (hnC : cs.length = nC) (hnS : sn.length = nS)
    (B D : Option Addr) (m k d f : Nat) (hk : k ≤ 1000000) (h : AW w L R W) (hc : ⟨1, B, m, int64s s.cells⟩ ∈ R) (hs : ⟨3, D, k, sndsV s.sends⟩ ∈ R) :
    Calls Try.prog 60 #[i.v, v.v, s.v (.slice B m d) (.slice D k f)] W fun e w' => ∃ A1 k1 A2 k2, e = .returned (.tuple #[TV (.slice A1 nC k1) (.slice A2 nS k2), .int .i64 E]) ∧
      AW w L (⟨1, A1, nC, int64s cs⟩ :: ⟨3, A2, nS, sndsV sn⟩ :: R) w' := by
  refine (one60_c i hi v s B D m k d f hk W (h.r _ hc) (h.r _ hs)).mono ?_
  rintro e w' ⟨C, S, rfl, ho, hq, hb⟩
  subst hnC; subst hnS
  rw [hcs] at ho
  rw [hsn] at hq
  rw [hV, hE]
  obtain ⟨A1, k1, rfl⟩ := own_slice ho
  obtain ⟨A2, k2, rfl⟩ := own_slice hq
  exact ⟨A1, k1, A2, k2, rfl, ((h.call hb).of_own hq).of_own ho⟩
theorem call25 (i : Ins) (hi : i.ok) (v : Envi) (s : St) (TV : Value → Value → Value) (cs : List Int) (sn : List Snd) (E : Int) (hV : (topS [i, haltI] v s).v = TV) (hcs : (topS [i, haltI] v s).cells = cs) (hsn : (topS [i, haltI] v s).sends = sn) (hE : topE [i, haltI] v s = E) (nC nS : Nat) (hnC : cs.length = nC) (hnS : sn.length = nS)
    (B D : Option Addr) (m k d f : Nat) (hk : k ≤ 1000000) (h : AW w L R W) (hc : ⟨1, B, m, int64s s.cells⟩ ∈ R) (hs : ⟨3, D, k, sndsV s.sends⟩ ∈ R) :
    Calls Try.prog 25 #[i.v, v.v, s.v (.slice B m d) (.slice D k f)] W fun e w' => ∃ A1 k1 A2 k2, e = .returned (.tuple #[TV (.slice A1 nC k1) (.slice A2 nS k2), .int .i64 E]) ∧
      AW w L (⟨1, A1, nC, int64s cs⟩ :: ⟨3, A2, nS, sndsV sn⟩ :: R) w' := by
  refine (one18_c i hi v s B D m k d f hk W (h.r _ hc) (h.r _ hs)).mono ?_
  rintro e w' ⟨C, S, rfl, ho, hq, hb⟩
  subst hnC; subst hnS
  rw [hcs] at ho
  rw [hsn] at hq
  rw [hV, hE]
  obtain ⟨A1, k1, rfl⟩ := own_slice ho
  obtain ⟨A2, k2, rfl⟩ := own_slice hq
  exact ⟨A1, k1, A2, k2, rfl, ((h.call hb).of_own hq).of_own ho⟩
/-- Do of a program that is one Halt -/
theorem call31 (p : List Ins) (hp : ∀ i ∈ p, i.ok) (v : Envi) (s : St) (TV : Value → Value → Value) (cs : List Int) (sn : List Snd) (E : Int) (hV : (topS p v s).v = TV) (hcs : (topS p v s).cells = cs) (hsn : (topS p v s).sends = sn) (hE : topE p v s = E) (nC nS : Nat) (hnC : cs.length = nC) (hnS : sn.length = nS)
    (A B D : Option Addr) (n m k c d f : Nat) (hn : n < 2^62) (hk : k ≤ 1000000) (h : AW w L R W) (hA : ⟨5, A, n, insV p⟩ ∈ R) (hc : ⟨1, B, m, int64s s.cells⟩ ∈ R) (hs : ⟨3, D, k, sndsV s.sends⟩ ∈ R) :
    Calls Try.prog 31 #[.slice A n c, v.v, s.v (.slice B m d) (.slice D k f)] W fun e w' => ∃ A1 k1 A2 k2, e = .returned (.tuple #[TV (.slice A1 nC k1) (.slice A2 nS k2), .int .i64 E]) ∧
      AW w L (⟨1, A1, nC, int64s cs⟩ :: ⟨3, A2, nS, sndsV sn⟩ :: R) w' := by
  refine (Do_c A n c hn p hp v s B D m k d f hk W (h.r _ hA) (h.r _ hc) (h.r _ hs)).mono ?_
  rintro e w' ⟨C, S, rfl, ho, hq, hb⟩
  subst hnC; subst hnS
  rw [hcs] at ho
  rw [hsn] at hq
  rw [hV, hE]
  obtain ⟨A1, k1, rfl⟩ := own_slice ho
  obtain ⟨A2, k2, rfl⟩ := own_slice hq
  exact ⟨A1, k1, A2, k2, rfl, ((h.call hb).of_own hq).of_own ho⟩
end
end Go.Proofs.Ytmljmabbopkpiaa
end

section
/- fermatalaw18.Env; what one instruction before a Halt answers, in plain words. -/
namespace Go.Proofs.Ytmljmabbopkpiaa
open Go.RowKit
set_option linter.unusedVariables false
set_option linter.unusedSimpArgs false

set_option maxRecDepth 100000 in
set_option maxHeartbeats 2000000 in
theorem env_c (sd pr po lo nw : Int) (w : World) (p0 : 0 ≤ pr) (p1 : pr ≤ 65535) (q0 : 0 ≤ po) (q1 : po ≤ 255) (l0 : 0 ≤ lo) (l1 : lo ≤ 255) (n0 : 0 ≤ nw) (n1 : nw ≤ 4294967295) :
    Calls Try.prog 26 #[.int .u64 sd, .int .u16 pr, .int .u8 po, .int .u8 lo, .int .u32 nw] w fun e w' => e = .returned (.agg #[.int .u64 sd, .int .i64 pr, .int .i64 (po % 17), .int .i64 (1 + lo), .int .i64 nw]) ∧ Below w.heap.size w w' := by
  have w1 : wrap64 pr = pr := by unfold wrap64; omega
  have w2 : wrap64 po = po := by unfold wrap64; omega
  have w3 : wrap64 lo = lo := by unfold wrap64; omega
  have w4 : wrap64 nw = nw := by unfold wrap64; omega
  have w5 : wrap64 (1 + lo) = 1 + lo := by unfold wrap64; omega
  have w6 : Int.tmod po 17 = po % 17 := Int.tmod_eq_emod_of_nonneg q0
  go_enter Try.func26, Try.ntmps26
  go_wp2_with fail
  (try simp only [Exit.inBlock, Exit.then])
  refine bodyPost_ret (v := .agg #[.int .u64 sd, .int .i64 pr, .int .i64 (po % 17), .int .i64 (1 + lo), .int .i64 nw]) (results_cell_row (P := Try.prog) (p := 10) (ty := 56) rfl _ _ w.heap.size 56 _ (0, 0) _ rfl (heap_alloc_new w _) Try.underlying56 rfl (by kernel_rfl)) rfl ?_
  exact ⟨rfl, (Below.refl _ w).alloc (Nat.le_refl _) _⟩

theorem checkI_one {i : Ins} (h : badAt 2 i = 0) : (checkI [i, haltI]).2 = 0 := by
  have hK := checkK_none (p := [i, haltI]) (by
    intro k hk y hy
    match k, hk with
    | 0, _ => cases hy; exact h
    | 1, _ => cases hy; exact (by decide : badAt 2 haltI = 0))
  unfold checkI
  rw [if_neg (by simp), if_neg (by simp), hK]
  show (if goesB haltI = true then _ else ((-1 : Int), (0 : Int))).2 = 0
  rw [if_neg (by decide)]
theorem one_top {i : Ins} {v : Envi} {s : St} (hb : badAt 2 i = 0) (hv : v.rightB = true) (hs : rightB s.at_ s.draws 2 s.cells.length = true) (he : s.ended = false) (h0 : s.at_ = 0) :
    topE [i, haltI] v s = doE s v i ∧ (doE s v i = 0 → topS [i, haltI] v s = doS s v i) ∧ (doE s v i ≠ 0 → topS [i, haltI] v s = zeroSt) := by
  have ho : openE [i, haltI] v s = 0 := by
    unfold openE
    rw [if_neg (by simp [checkI_one hb]), if_neg (by simp [hv]), if_neg (by simp [hs])]
  have hi : insAt [i, haltI] s.at_ = i := by rw [h0]; rfl
  have hT : topE [i, haltI] v s = doE s v i := by simp [topE, ho, stepE, he, hi]
  exact ⟨hT, fun h => by simp [topS, hT, h, hi], fun h => by simp [topS, hT, h]⟩
end Go.Proofs.Ytmljmabbopkpiaa
end

section
/- more on AW -/
namespace Go.Proofs.Ytmljmabbopkpiaa
set_option linter.unusedVariables false
set_option linter.unusedSimpArgs false
open Go.RowKit
section
variable {w W W' : World} {L : List Bk} {R : List Rd}
theorem AW.setRow1 {g : Nat} {t : TypeId} {cs : Array Value} (h : AW w [⟨g, t, cs⟩] [⟨1, none, 0, []⟩, ⟨3, none, 0, []⟩] W) (hg : w.heap.size ≤ g) (cs' : Array Value) : AW w [⟨g, t, cs'⟩] [⟨1, none, 0, []⟩, ⟨3, none, 0, []⟩] (W.setRow g cs') :=
  ⟨below_setRow h.b hg _, fun e he => by
    simp only [List.mem_cons, List.not_mem_nil, or_false] at he
    subst he
    exact (h.l _ (.head _)).row cs', fun e he => by
    simp only [List.mem_cons, List.not_mem_nil, or_false] at he
    rcases he with rfl | rfl <;> exact Reads.none_⟩
theorem AW.setCell1 {g : Nat} {t : TypeId} {cs : Array Value} (h : AW w [⟨g, t, cs⟩] [⟨1, none, 0, []⟩, ⟨3, none, 0, []⟩] W) (hg : w.heap.size ≤ g) (i : Nat) (u : Value) : AW w [⟨g, t, cs.setIfInBounds i u⟩] [⟨1, none, 0, []⟩, ⟨3, none, 0, []⟩] (W.setCell ⟨g, i, none⟩ u) :=
  ⟨h.b.setCell (p := ⟨g, i, none⟩) hg u, fun e he => by
    simp only [List.mem_cons, List.not_mem_nil, or_false] at he
    subst he
    exact (h.l _ (.head _)).set_ i u, fun e he => by
    simp only [List.mem_cons, List.not_mem_nil, or_false] at he
    rcases he with rfl | rfl <;> exact Reads.none_⟩
theorem u16_bd (x : Int) : 0 ≤ IntKind.u16.wrap x ∧ IntKind.u16.wrap x ≤ 65535 := by simp [IntKind.wrap, IntKind.bits, IntKind.signed]; omega
theorem now_bd (x : Int) : 0 ≤ wrap64 ((IntKind.u64.wrap x).tmod 281474976710657) ∧ wrap64 ((IntKind.u64.wrap x).tmod 281474976710657) ≤ 281474976710656 := by
  have h := u64_bd x
  rw [Int.tmod_eq_emod_of_nonneg h.1]
  unfold wrap64; omega
/-! ### a slice of n events of nothing -/
def zsnds (n : Nat) : Array Value := (List.replicate (n * 3) (Value.int .i64 0)).toArray
theorem zsnds_size (n : Nat) : (zsnds n).size = n * 3 := by simp [zsnds]
theorem zsnds_list (n : Nat) : (zsnds n).toList = sndsV (List.replicate n ⟨0, 0, 0⟩) := by
  unfold zsnds
  induction n with
  | zero => rfl
  | succ n ih =>
    rw [List.replicate_succ, sndsV, List.flatMap_cons]
    show _ = Snd.cells ⟨0, 0, 0⟩ ++ sndsV (List.replicate n ⟨0, 0, 0⟩)
    rw [← ih, show (n + 1) * 3 = n * 3 + 1 + 1 + 1 by omega]
    rfl
theorem made_zsnds (n : Nat) : madeCells #[.int .i64 0, .int .i64 0, .int .i64 0] (n * 3) = zsnds n := by
  apply Array.ext'
  unfold zsnds
  rw [List.toList_toArray, List.eq_replicate_iff]
  refine ⟨by simp [madeCells], fun b hb => ?_⟩
  simp only [madeCells, Array.toList_map, List.mem_map, Array.toList_range, List.mem_range] at hb
  obtain ⟨k, hk, rfl⟩ := hb
  have : k % 3 = 0 ∨ k % 3 = 1 ∨ k % 3 = 2 := by omega
  show (#[Value.int .i64 0, .int .i64 0, .int .i64 0] : Array Value)[k % 3]! = _
  rcases this with h | h | h <;> rw [h] <;> rfl
theorem make_sends (W : World) (n : Nat) (hn : n ≤ 1000000) : (Instr.makeSlice 51 (.int .i64 (n : Int)) (.int .i64 (n : Int))).run Try.prog W = .ok (.slice (some ⟨W.heap.size, 0, none⟩) n n) (W.alloc (.cells (zsnds n) 64)) := by
  obtain ⟨i0, hi, hz0, hz1, hz2⟩ := info_parts infoSend
  have := run_make (P := Try.prog) W 51 64 i0 _ Try.underlying51 hi hz0 .i64 .i64 n n (by omega) (Int.le_refl _) (by rw [hz2]; omega) (by omega)
  rw [this, hz1]
  simp only [Int.toNat_natCast]
  rw [show (Value.agg #[Value.int IntKind.i64 0, Value.int IntKind.i64 0, Value.int IntKind.i64 0]).cells = #[.int .i64 0, .int .i64 0, .int .i64 0] from rfl, made_zsnds]
theorem ins_ok8 {m : Int} (h : 0 ≤ m ∧ m < 16) : (⟨8, 0, 1, 0, m⟩ : Ins).ok :=
  { op0 := by show (0:Int) ≤ 8; decide, op1 := by show (8:Int) ≤ 255; decide, a0 := by show (0:Int) ≤ 0; decide, a1 := by show (0:Int) ≤ 255; decide, b0 := by show (0:Int) ≤ 1; decide, b1 := by show (1:Int) ≤ 255; decide, c0 := by show (0:Int) ≤ 0; decide, c1 := by show (0:Int) ≤ 255; decide, n0 := by show (-9223372036854775808:Int) ≤ m; omega, n1 := by show m ≤ (9223372036854775807:Int); omega }
theorem bad_send {m n : Int} (h : 0 ≤ m ∧ m < 16) : badAt n ⟨8, 0, 1, 0, m⟩ = 0 := by
  have h1 : oneE ⟨8, 0, 1, 0, m⟩ = 0 := by
    show (if formC 8 = 0 then 140 else oneK (formC 8) 0 1 0 m) = 0
    rw [if_neg (by decide)]
    exact oneK_pos (show fitsC 5 0 1 0 m from ⟨by decide, by decide, rfl, h.1, h.2⟩)
  unfold badAt
  rw [if_neg (by simp [h1])]
  have : targB ⟨8, 0, 1, 0, m⟩ = false := by simp [targB]
  rw [if_neg (by simp [this])]
end
end Go.Proofs.Ytmljmabbopkpiaa
end

section
/- more on AW: a cell of a block of one's own is set. -/
namespace Go.Proofs.Ytmljmabbopkpiaa
set_option linter.unusedVariables false
set_option linter.unusedSimpArgs false
open Go.RowKit
section
variable {w W W' : World} {L : List Bk} {R : List Rd}
theorem Reads.none_' {B k : Nat} {A : Option Addr} : Reads W B k A 0 [] := ⟨by simp, fun h => absurd h (by omega)⟩
theorem AW.upd {g : Nat} {t : TypeId} {cs : Array Value} (h : AW w (⟨g, t, cs⟩ :: L) R W) (hg : w.heap.size ≤ g) (hR : ∀ e ∈ R, e.n = 0 ∧ e.xs = []) (hn : ∀ e ∈ L, e.g ≠ g) (i : Nat) (u : Value) : AW w (⟨g, t, cs.setIfInBounds i u⟩ :: L) R (W.setCell ⟨g, i, none⟩ u) :=
  ⟨h.b.setCell (p := ⟨g, i, none⟩) hg u, fun e he => by
    rcases List.mem_cons.1 he with rfl | he
    · exact (h.l _ (.head _)).set_ i u
    · exact (h.l _ (.tail _ he)).far (p := ⟨g, i, none⟩) (hn e he) u, fun e he => by
    obtain ⟨z1, z2⟩ := hR e he
    rw [z1, z2]
    exact Reads.none_'⟩
theorem u32_bd (x : Int) : 0 ≤ IntKind.u32.wrap x ∧ IntKind.u32.wrap x ≤ 4294967295 := by simp [IntKind.wrap, IntKind.bits, IntKind.signed]; omega
theorem AW.readBlk {g : Nat} {t : TypeId} {cs : Array Value} (h : AW w L R W) (hm : (⟨g, t, cs⟩ : Bk) ∈ L) (k n : Nat) (hl : cs.size = n * k) : AW w L (⟨k, some ⟨g, 0, none⟩, n, cs.toList⟩ :: R) W := by
  have hb := h.l _ hm
  refine h.read ⟨by simpa using hl, fun _ => ⟨_, rfl, hb.lt, fun j u hu => ?_⟩⟩
  rw [Addr.add_lit, Nat.zero_add, hb.cell]
  simpa using hu
end
end Go.Proofs.Ytmljmabbopkpiaa
end

section
/- fermatalaw18.Made: a right state of numbers. -/
namespace Go.Proofs.Ytmljmabbopkpiaa
open Go.RowKit
set_option linter.unusedVariables false
set_option linter.unusedSimpArgs false

structure Sm where
  at_ : Int
  regs : Nat → Int
  cells : List Int
  draws : Int
  sends : Int
def Sm.cs (x : Sm) (C : Value) : Array Value := #[.int .u8 x.at_, .int .i64 (x.regs 0), .int .i64 (x.regs 1), .int .i64 (x.regs 2), .int .i64 (x.regs 3), .int .i64 (x.regs 4), .int .i64 (x.regs 5), .int .i64 (x.regs 6), .int .i64 (x.regs 7), C, .int .u32 x.draws, .int .u8 x.sends]
structure Sm.ok (x : Sm) : Prop where
  a0 : 0 ≤ x.at_
  a1 : x.at_ ≤ 255
  r0 : ∀ k, -9223372036854775808 ≤ x.regs k ∧ x.regs k ≤ 9223372036854775807
  d0 : 0 ≤ x.draws
  d1 : x.draws ≤ 4294967295
  s0 : 0 ≤ x.sends
  s1 : x.sends ≤ 255
/-- n events: number i to port i, with delay i -/
def mSends (n : Nat) : List Snd := (List.range n).map fun i : Nat => ⟨(i : Int), (i : Int), 1⟩
def made18 (x : Sm) (l : Nat) : St := ⟨x.at_ % max l 1, false, x.regs, x.cells.take 12, x.draws, mSends (x.sends % 21).toNat⟩
theorem Reads.take {w : World} {B size n : Nat} {A : Option Addr} {xs : List Value} (h : Reads w B size A n xs) {k : Nat} (hk : k ≤ n) : Reads w B size A k (xs.take (k * size)) := by
  refine ⟨by rw [List.length_take, h.1, Nat.min_eq_left (Nat.mul_le_mul_right _ hk)], fun hn => ?_⟩
  obtain ⟨ad, rfl, hb, hc⟩ := h.2 (by omega)
  refine ⟨ad, rfl, hb, fun j u hu => hc j u ?_⟩
  rw [List.getElem?_take] at hu
  split at hu
  · exact hu
  · cases hu
theorem int64s_take (xs : List Int) (k : Nat) : (int64s xs).take k = int64s (xs.take k) := by simp [int64s, List.map_take]

theorem max_i64 (a b M : Int) (t u : TypeId) (v : Array TypeId) (h : (if a < b then b else a) = M) (w : World) : (Builtin.max_ v t #[.int .i64 a, .int .i64 b]).run Try.prog w = .ok (.int .i64 M) w := by
  subst h
  unfold Builtin.max_
  simp [Builtin.max2]
theorem min_i64 (a b M : Int) (t u : TypeId) (v : Array TypeId) (h : (if b < a then b else a) = M) (w : World) : (Builtin.min_ v t #[.int .i64 a, .int .i64 b]).run Try.prog w = .ok (.int .i64 M) w := by
  subst h
  unfold Builtin.min_
  simp [Builtin.min2]
/-- behind the region that makes the state -/
structure M18 (w W0 : World) (g : Nat) (C : Value) (CS : Array Value) (m : Nat) (ys : List Value) (X : World) : Prop where
  lt : W0.heap.size ≤ g
  own : X.ownsRow w.heap.size 2 1 C m ys
  blk : Blk X g 53 CS
  below : Below W0.heap.size W0 X
section
variable {w W0 X u : World} {C : Value} {CS Z : Array Value} {m : Nat} {ys : List Value}
theorem m18_a (hw : w.heap.size ≤ W0.heap.size) (hX : Below W0.heap.size W0 X) (hb : Below X.heap.size X u) (ho : u.ownsRow X.heap.size 2 1 C m ys) : M18 w W0 u.heap.size C CS m ys (u.alloc (.cells CS 53)) :=
  ⟨Nat.le_trans hX.size hb.size, own_alloc (own_more ho (Nat.le_trans hw hX.size)) _, Blk.new _ _ _, (hX.trans (hb.mono hX.size)).alloc (Nat.le_trans hX.size hb.size) _⟩
theorem m18_b (hw : w.heap.size ≤ W0.heap.size) (hX : Below W0.heap.size W0 X) (hb : Below (X.alloc (.cells Z 53)).heap.size (X.alloc (.cells Z 53)) u) (ho : u.ownsRow (X.alloc (.cells Z 53)).heap.size 2 1 C m ys) : M18 w W0 X.heap.size C CS m ys (u.setRow X.heap.size CS) := by
  have hB : Blk u X.heap.size 53 Z := (Blk.new _ _ _).below hb (by simp)
  have hs : X.heap.size ≤ (X.alloc (.cells Z 53)).heap.size := by simp
  exact ⟨hX.size, own_row hB (own_more ho (Nat.le_trans hw (Nat.le_trans hX.size hs))) (by decide), hB.row CS, below_setRow ((hX.alloc hX.size _).trans (hb.mono (Nat.le_trans hX.size hs))) hX.size _⟩
theorem m18_c (hw : w.heap.size ≤ W0.heap.size) (hX : Below W0.heap.size W0 X) (hb : Below X.heap.size X u) (ho : u.ownsRow X.heap.size 2 1 C m ys) : M18 w W0 u.heap.size C CS m ys ((u.alloc (.cells Z 53)).setRow u.heap.size CS) := by
  have h := m18_a (CS := Z) hw hX hb ho
  exact ⟨h.lt, own_row h.blk h.own (by decide), h.blk.row CS, below_setRow h.below h.lt _⟩
end
theorem mSends_len (j : Nat) : (mSends j).length = j := by simp [mSends]
theorem mSends_succ (j : Nat) : sndsV (mSends j) ++ [.int .i64 (j : Int), .int .i64 (j : Int), .int .i64 1] = sndsV (mSends (j + 1)) := by
  simp [mSends, sndsV, List.range_succ, Snd.cells]
structure ML (w : World) (g : Nat) (at_ : Int) (q : Nat → Int) (d : Int) (C : Value) (m : Nat) (ys : List Value) (j : Nat) (S : Value) (X : World) : Prop where
  own : X.ownsRow w.heap.size 2 1 C m ys
  snd : X.ownsRow w.heap.size 64 3 S j (sndsV (mSends j))
  blk : Blk X g 53 #[.int .i64 (at_), .bool false, .int .i64 (q 0), .int .i64 (q 1), .int .i64 (q 2), .int .i64 (q 3), .int .i64 (q 4), .int .i64 (q 5), .int .i64 (q 6), .int .i64 (q 7), C, .int .i64 d, S]
  blk4 : Blk X (w.heap.size + 1) 53 #[.int .i64 0, .bool false, .int .i64 0, .int .i64 0, .int .i64 0, .int .i64 0, .int .i64 0, .int .i64 0, .int .i64 0, .int .i64 0, .slice none 0 0, .int .i64 0, .slice none 0 0]
  below : Below w.heap.size w X
  hg : w.heap.size + 1 < g
theorem ML.cell {w X X1 : World} {g : Nat} {at_ : Int} {q : Nat → Int} {d : Int} {C : Value} {m : Nat} {ys : List Value} {j : Nat} {S : Value} (h : ML w g at_ q d C m ys j S X) (o : Obj) (hgr : (X.alloc o).grownBy X1 S.ownBlock) :
    X1.cell? ⟨g, 12, none⟩ = some S ∧ X1.frozen? ⟨g, 12, none⟩ = false := by
  have hb : Blk X1 g _ _ := (h.blk.alloc o).grown hgr (fun e => own_blk_ne h.snd h.blk (by decide) e.symm)
  exact ⟨hb.cell 12, hb.frozen 12⟩
theorem ML.step {w X X1 : World} {g : Nat} {at_ : Int} {q : Nat → Int} {d : Int} {C : Value} {m : Nat} {ys : List Value} {j : Nat} {S S1 : Value} (h : ML w g at_ q d C m ys j S X) (o : Obj) (hgr : (X.alloc o).grownBy X1 S.ownBlock)
    (ho : X1.ownsRow w.heap.size 64 3 S1 (j + 1) (sndsV (mSends (j + 1)))) : ML w g at_ q d C m ys (j + 1) S1 (X1.setCell ⟨g, 12, none⟩ S1) := by
  have hb : Blk X1 g _ _ := (h.blk.alloc o).grown hgr (fun e => own_blk_ne h.snd h.blk (by decide) e.symm)
  have hb4 : Blk X1 (w.heap.size + 1) _ _ := (h.blk4.alloc o).grown hgr (fun e => own_blk_ne h.snd h.blk4 (by decide) e.symm)
  have hc : X1.ownsRow w.heap.size 2 1 C m ys := ownsRow_keep (own_alloc h.own o) fun k hk hlt => hgr.block k hlt (fun e => own_own_ne h.own h.snd (by decide) k hk e.symm)
  have hB : Below w.heap.size w X1 := (h.below.alloc h.below.size o).grown hgr (Nat.le_trans h.below.size (by simp)) (fun k hk => own_base h.snd k hk)
  refine ⟨?_, ?_, hb.set_ 12 S1, hb4.far (p := ⟨g, 12, none⟩) (by have := h.hg; show w.heap.size + 1 ≠ g; omega) S1, hB.setCell (p := ⟨g, 12, none⟩) (by have := h.hg; show w.heap.size ≤ g; omega) S1, h.hg⟩
  · exact ownsRow_keep hc fun k hk _ => Below.heap_setCell _ _ _ _ (fun e => own_blk_ne hc hb (by decide) (by rw [hk, e]))
  · exact ownsRow_keep ho fun k hk _ => Below.heap_setCell _ _ _ _ (fun e => own_blk_ne ho hb (by decide) (by rw [hk, e]))
theorem preRow' {w1 W : World} (h : Below w1.heap.size w1 W ∧ ∀ b o, b < w1.heap.size → W.cell? ⟨b, o, none⟩ = w1.cell? ⟨b, o, none⟩) {g : Nat} (hg : w1.heap.size ≤ g) (cs : Array Value) : Below w1.heap.size w1 (W.setRow g cs) ∧ ∀ b o, b < w1.heap.size → (W.setRow g cs).cell? ⟨b, o, none⟩ = w1.cell? ⟨b, o, none⟩ :=
  preOf (below_setRow h.1 hg cs)

attribute [local go_sem ↓] wp_load53 wp_load56 wp_load28 wp_store53 wp_store56
attribute [local go_sem] blockOf aggOf Value.oneCell' isRow_alloc rowOf_alloc5 rowOf_alloc13 isRow_drew isRow_drewN rowOf_drew rowOf_drewN

set_option maxRecDepth 100000 in
set_option maxHeartbeats 4000000 in
theorem made18_c (x : Sm) (hx : x.ok) (A P : Option Addr) (n c l k : Nat) (w : World) (hA : Reads w w.heap.size 1 A n (int64s x.cells)) (hc : n ≤ c) (hcm : c ≤ 9223372036854775807) (hl : l ≤ 1000000) :
    Calls Try.prog 24 #[.agg (x.cs (.slice A n c)), .slice P l k] w fun e w' => ∃ C S, e = .returned ((made18 x l).v C S) ∧ w'.ownsRow w.heap.size 2 1 C (made18 x l).cells.length (int64s (made18 x l).cells) ∧
      w'.ownsRow w.heap.size 64 3 S (made18 x l).sends.length (sndsV (made18 x l).sends) ∧ Below w.heap.size w w' := by
  obtain ⟨at_, q, xs, d, s⟩ := x
  obtain ⟨a0, a1, r0, d0, d1, s0, s1⟩ := hx
  unfold Sm.cs
  dsimp only at *
  have hn := hA.i64_len
  obtain ⟨m, hm⟩ : ∃ m, m = min n 12 := ⟨_, rfl⟩
  have hmn : m ≤ n := by omega
  have hml : (xs.take 12).length = m := by rw [List.length_take]; omega
  have htk : xs.take 12 = xs.take m := by
    rcases Nat.le_total n 12 with h | h
    · rw [List.take_of_length_le (by omega), List.take_of_length_le (by omega)]
    · rw [show m = 12 by omega]
  have hmi : (if (n : Int) ≤ 12 then (n : Int) else 12) = m := by split <;> omega
  obtain ⟨M, hM⟩ : ∃ M : Int, M = max (l : Int) 1 := ⟨_, rfl⟩
  have hM1 : 1 ≤ M := by omega
  have e1 : Int.tmod at_ M = at_ % M := Int.tmod_eq_emod_of_nonneg a0
  have w1 : wrap64 at_ = at_ := by unfold wrap64; omega
  have v1 : IntKind.i64.wrap at_ = at_ := by simp [IntKind.wrap, IntKind.bits, IntKind.signed]; omega
  have v2 : IntKind.i64.wrap d = d := by simp [IntKind.wrap, IntKind.bits, IntKind.signed]; omega
  have v3 : IntKind.i64.wrap s = s := by simp [IntKind.wrap, IntKind.bits, IntKind.signed]; omega
  have w2 : wrap64 d = d := by unfold wrap64; omega
  have w3 : wrap64 s = s := by unfold wrap64; omega
  have hRd := (hA.take hmn)
  rw [Nat.mul_one, int64s_take, ← htk] at hRd
  have HM := Lib.hid hM
  have Hm := Lib.hid hm
  have HT := Lib.hid htk
  have hm12 : m ≤ 12 := by omega
  go_enter Try.func24, Try.ntmps24
  go_upto_region 1 with fail
  obtain ⟨W0, hW⟩ : ∃ W0, W0 = ((w.alloc (.cells #[.int .u8 at_, .int .i64 (q 0), .int .i64 (q 1), .int .i64 (q 2), .int .i64 (q 3), .int .i64 (q 4), .int .i64 (q 5), .int .i64 (q 6), .int .i64 (q 7), .slice A n c, .int .u32 d, .int .u8 s] 50)).alloc (.cells #[.int .i64 0, .bool false, .int .i64 0, .int .i64 0, .int .i64 0, .int .i64 0, .int .i64 0, .int .i64 0, .int .i64 0, .int .i64 0, .slice none 0 0, .int .i64 0, .slice none 0 0] 53)) := ⟨_, rfl⟩
  have hB0 : Below w.heap.size w W0 := hW ▸ ((Below.refl _ w).alloc (Nat.le_refl _) _).alloc (by simp) _
  have hbk2 : Blk W0 w.heap.size 50 #[.int .u8 at_, .int .i64 (q 0), .int .i64 (q 1), .int .i64 (q 2), .int .i64 (q 3), .int .i64 (q 4), .int .i64 (q 5), .int .i64 (q 6), .int .i64 (q 7), .slice A n c, .int .u32 d, .int .u8 s] := hW ▸ (Blk.new _ _ _).alloc _
  have hbk4 : Blk W0 (w.heap.size + 1) 53 #[.int .i64 0, .bool false, .int .i64 0, .int .i64 0, .int .i64 0, .int .i64 0, .int .i64 0, .int .i64 0, .int .i64 0, .int .i64 0, .slice none 0 0, .int .i64 0, .slice none 0 0] := hW ▸ Blk.new_ (by simp)
  have hsz : W0.heap.size = w.heap.size + 2 := by rw [hW]; simp
  rw [← hW]
  clear hW
  have z0 : W0.cell? ⟨w.heap.size, 0, none⟩ = some (.int .u8 at_) := hbk2.cell 0
  have z1 : W0.cell? ⟨w.heap.size, 1, none⟩ = some (.int .i64 (q 0)) := hbk2.cell 1
  have z2 : W0.cell? ⟨w.heap.size, 2, none⟩ = some (.int .i64 (q 1)) := hbk2.cell 2
  have z3 : W0.cell? ⟨w.heap.size, 3, none⟩ = some (.int .i64 (q 2)) := hbk2.cell 3
  have z4 : W0.cell? ⟨w.heap.size, 4, none⟩ = some (.int .i64 (q 3)) := hbk2.cell 4
  have z5 : W0.cell? ⟨w.heap.size, 5, none⟩ = some (.int .i64 (q 4)) := hbk2.cell 5
  have z6 : W0.cell? ⟨w.heap.size, 6, none⟩ = some (.int .i64 (q 5)) := hbk2.cell 6
  have z7 : W0.cell? ⟨w.heap.size, 7, none⟩ = some (.int .i64 (q 6)) := hbk2.cell 7
  have z8 : W0.cell? ⟨w.heap.size, 8, none⟩ = some (.int .i64 (q 7)) := hbk2.cell 8
  have z9 : W0.cell? ⟨w.heap.size, 9, none⟩ = some (.slice A n c) := hbk2.cell 9
  have z10 : W0.cell? ⟨w.heap.size, 10, none⟩ = some (.int .u32 d) := hbk2.cell 10
  have z11 : W0.cell? ⟨w.heap.size, 11, none⟩ = some (.int .u8 s) := hbk2.cell 11
  have hlt2 : w.heap.size < W0.heap.size := by omega
  have hlt4 : w.heap.size + 1 < W0.heap.size := by omega
  clear hsz
  have CL := Lib.hid (fun (X : World) (hX : Below W0.heap.size W0 X ∧ ∀ b o, b < W0.heap.size → X.cell? ⟨b, o, none⟩ = W0.cell? ⟨b, o, none⟩) => (clone64_c A m c (int64s (xs.take 12)) X (((hRd.below hB0).below (hX.1.mono (by omega))).more (Nat.le_trans (by omega) hX.1.size)) (ones_i64 _) (by omega)).mono (R' := fun e w' => ∃ A1 k1, e = .returned (.slice A1 m k1) ∧ w'.ownsRow X.heap.size 2 1 (.slice A1 m k1) m (int64s (xs.take 12)) ∧ Below X.heap.size X w' ∧ (∀ g k, IsRow X g k → IsRow w' g k)) fun e w' ⟨v, he, ho, hb⟩ => by
    obtain ⟨A1, k1, rfl⟩ := own_slice ho
    exact ⟨A1, k1, he, ho, hb, fun g k h => h.below hb⟩)
  clear hA hRd
  have hmax : ∀ W : World, (Builtin.max_ #[3, 3] 3 #[.int .i64 (l : Int), .int .i64 1]).run Try.prog W = .ok (.int .i64 M) W := fun W => max_i64 _ _ _ _ 0 _ (by split <;> omega) W
  have hmin : ∀ W : World, (Builtin.min_ #[3, 3] 3 #[.int .i64 (n : Int), .int .i64 12]).run Try.prog W = .ok (.int .i64 (m : Int)) W := fun W => min_i64 _ _ _ _ 0 _ (by split <;> omega) W
  have hM0 : (M == 0) = false := by simp; omega
  have hM00 : M ≠ 0 := by omega
  have hm0 : (0 : Int) ≤ (m : Int) := by omega
  have hmc : (m : Int) ≤ (c : Int) := by omega
  clear hM hm hmi htk hml hn
  go_cut [5] (fun p X => ∃ g A1 k1, p = .pointer (some ⟨g, 0, none⟩) ∧ M18 w W0 g (.slice A1 m k1) #[.int .i64 (at_ % M), .bool false, .int .i64 (q 0), .int .i64 (q 1), .int .i64 (q 2), .int .i64 (q 3), .int .i64 (q 4), .int .i64 (q 5), .int .i64 (q 6), .int .i64 (q 7), .slice A1 m k1, .int .i64 d, .slice none 0 0] m (int64s (xs.take 12)) X)
  case first =>
    have irn : ∀ (W : World) (g k : Nat) (t : TypeId) (cs : Array Value), g = W.heap.size → cs.size = k → IsRow (W.alloc (.cells cs t)) g k := fun W g k t cs => isRow_new
    have irnD : ∀ (W : World) (g k : Nat) (t : TypeId) (cs : Array Value), g = W.heap.size → cs.size = k → IsRow (W.alloc (.cells cs t)).drew g k := fun W g k t cs => isRow_new
    go_region_held3 (fun W => Below W0.heap.size W0 W ∧ ∀ b o, b < W0.heap.size → W.cell? ⟨b, o, none⟩ = W0.cell? ⟨b, o, none⟩)
      (repeat' (first | (with_reducible (first | exact preD | assumption | exact preR | refine preB ?_ hb2 | refine preE ?_ | refine preA ?_ _ | refine preRow' ?_ ?_ _ | refine preS ?_ ?_ _)) | omega | (simp; done) | (simp; omega)))
      ((go_at_call 62; refine (CL.out _ ?_).mono ?_; (focus (with_reducible (repeat' (first | exact preD | assumption | exact preR | refine preE ?_ | refine preA ?_ _)))); rintro e u2 ⟨A1, k1, rfl, ho2, hb2, hro⟩; obtain ⟨hc2, hf2⟩ := bcell hb2; have hz2 := hb2.size; (try simp at hz2); ((first | (with_reducible have pX := hro _ 13 (irn _ _ _ _ _ rfl rfl)) | (with_reducible have pX := hro _ 13 (irnD _ _ _ _ _ rfl rfl)) | skip); (try simp at pX))))
    all_goals (go_wp2_with fail; go_meet)
    all_goals (first
      | exact ⟨_, _, _, rfl, m18_a hB0.size (Below.refl _ _) hb2 ho2⟩
      | exact ⟨_, _, _, rfl, m18_a hB0.size (Below.refl _ _).drew hb2 ho2⟩
      | exact ⟨_, _, _, rfl, m18_b hB0.size (Below.refl _ _) hb2 ho2⟩
      | exact ⟨_, _, _, rfl, m18_b hB0.size (Below.refl _ _).drew hb2 ho2⟩
      | exact ⟨_, _, _, rfl, m18_b hB0.size (Below.refl _ _) ((Below.refl _ _).drew.trans hb2) ho2⟩
      | exact ⟨_, _, _, rfl, m18_c hB0.size (Below.refl _ _) hb2 ho2⟩
      | exact ⟨_, _, _, rfl, m18_c hB0.size (Below.refl _ _).drew hb2 ho2⟩)
  case rest =>
  obtain ⟨g, A1, k1, rfl, hM18⟩ := hcut
  obtain ⟨N, hN⟩ : ∃ N : Nat, (N : Int) = s % 21 := ⟨(s % 21).toNat, by omega⟩
  have hN21 : N ≤ 20 := by omega
  have e2 : Int.tmod s 21 = N := by rw [hN]; exact Int.tmod_eq_emod_of_nonneg s0
  have e3 : s % 21 = N := hN.symm
  have z11' : wc.cell? ⟨w.heap.size, 11, none⟩ = some (.int .u8 s) := (hM18.below.cell (p := ⟨w.heap.size, 11, none⟩) hlt2).trans z11
  have hL0 : ML w g (at_ % M) q d (.slice A1 m k1) m (int64s (xs.take 12)) 0 (.slice none 0 0) wc := ⟨hM18.own, World.ownsRow_nil _ _ _ _, hM18.blk, hbk4.below hM18.below hlt4, hB0.trans (hM18.below.mono hB0.size), Nat.lt_of_lt_of_le hlt4 hM18.lt⟩
  have HN := Lib.hid hN
  clear hN hM18 z0 z1 z2 z3 z4 z5 z6 z7 z8 z9 z10 z11 hbk2 hbk4 CL hmax hmin hB0 e1
  obtain ⟨AM, hAM⟩ : ∃ AM, AM = at_ % M := ⟨_, rfl⟩
  rw [← hAM] at hL0
  have HA := Lib.hid hAM
  clear hAM
  have hgz : w.heap.size + 1 < g := hL0.hg
  obtain ⟨iS, hi, hz0, hz1, hz2⟩ := info_parts infoSend
  go_wp2
  go_loopw [32] (fun k wr => ∃ (j : Nat) (D : Option Addr) (f : Nat), k = .int .i64 j ∧ j ≤ N ∧ ML w g AM q d (.slice A1 m k1) m (int64s (xs.take 12)) j (.slice D j f) wr) (fun k _ => N - (intOf k).toNat)
  case atStart => exact ⟨0, none, 0, rfl, by omega, hL0⟩
  case round =>
    obtain ⟨j, D, f, rfl, hj, hL⟩ := hrel
    have c12 : wr.cell? ⟨g, 12, none⟩ = some (.slice D j f) := hL.blk.cell 12
    have hones : ∀ u ∈ [Value.int .i64 (j : Int), .int .i64 (j : Int), .int .i64 1], u.oneCell' = true := by
      intro u hu; simp at hu; rcases hu with rfl | rfl | rfl <;> rfl
    by_cases hlt : j < N
    · have hrd : Reads (wr.alloc (.cells #[.int .i64 (j : Int), .int .i64 (j : Int), .int .i64 1] 64)) (wr.heap.size + 1) 3 (some ⟨wr.heap.size, 0, none⟩) 1 [.int .i64 (j : Int), .int .i64 (j : Int), .int .i64 1] := reads_new3 _ _ _ _ _ _ rfl
      have HL := Lib.hid hL
      have hlg : g < wr.heap.size := hL.blk.lt
      have hgne : ¬ g = wr.heap.size := by omega
      clear hL hL0
      go_wp2_with (at_builtin
                   refine wpList_append_any _ rfl (.tmp 36) (.tmp 40) _ rfl w.heap.size 64 iS _ 3 24 Try.underlying51 hi hz0 hz1 hz2 rfl (by omega) (.slice D j f) j (sndsV (mSends j)) rfl
                     (own_alloc HL.out.snd _) (wr.heap.size + 1) (some ⟨wr.heap.size, 0, none⟩) 1 1 [.int .i64 (j : Int), .int .i64 (j : Int), .int .i64 1] rfl hrd hones (by unfold maxLen; omega) (by omega) (by have := HL.out.below.size; simp; omega) ?_
                   intro v1 w1 hown1 hg1 hat1
                   obtain ⟨hc4, hf4⟩ := HL.out.cell _ hg1
                   rw [mSends_succ] at hown1
                   obtain ⟨D1, f1, rfl⟩ := own_slice hown1)
      go_roundw
      case rel => exact ⟨j + 1, D1, f1, by go_num, by omega, HL.out.step _ hg1 hown1⟩
      case measure => simp [intOf]; omega
    · have hjN : j = N := by omega
      subst hjN
      have hmade : made18 ⟨at_, q, xs, d, s⟩ l = ⟨AM, false, q, xs.take 12, d, mSends j⟩ := by
        unfold made18
        dsimp only
        rw [HA.out, HM.out, e3, Int.toNat_natCast, show ((max l 1 : Nat) : Int) = max (l : Int) 1 by omega]
      have hlen : (xs.take 12).length = m := by have := hL.own.1; simpa [int64s] using this
      have bx : Blk wr g 53 #[.int .i64 (AM), .bool false, .int .i64 (q 0), .int .i64 (q 1), .int .i64 (q 2), .int .i64 (q 3), .int .i64 (q 4), .int .i64 (q 5), .int .i64 (q 6), .int .i64 (q 7), .slice A1 m k1, .int .i64 d, .slice D j f] := hL.blk
      have br := hL.blk4
      have hK := copied_fin hL.below br hL.own hL.snd #[.int .i64 (AM), .bool false, .int .i64 (q 0), .int .i64 (q 1), .int .i64 (q 2), .int .i64 (q 3), .int .i64 (q 4), .int .i64 (q 5), .int .i64 (q 6), .int .i64 (q 7), .slice A1 m k1, .int .i64 d, .slice D j f]
      have HK := Lib.hid (And.intro hmade (And.intro hlen hK))
      clear hL0 hL hmade hlen hK e3
      go_wp2_with (first
        | refine wpList_load_row (P := Try.prog) rfl 53 (.tmp 5) rfl g rfl 53 _ (0, 0) _ bx Try.underlying53 rfl (by kernel_rfl) ?_
        | refine wpList_store_row (P := Try.prog) rfl 53 (.tmp 4) (.tmp 44) rfl (w.heap.size + 1) #[.int .i64 (AM), .bool false, .int .i64 (q 0), .int .i64 (q 1), .int .i64 (q 2), .int .i64 (q 3), .int .i64 (q 4), .int .i64 (q 5), .int .i64 (q 6), .int .i64 (q 7), .slice A1 m k1, .int .i64 d, .slice D j f] rfl rfl 53 _ br (by kernel_rfl) rfl (by kernel_rfl) ?_)
      (try simp only [Exit.inBlock, Exit.then])
      refine bodyPost_ret (v := .agg #[.int .i64 (AM), .bool false, .int .i64 (q 0), .int .i64 (q 1), .int .i64 (q 2), .int .i64 (q 3), .int .i64 (q 4), .int .i64 (q 5), .int .i64 (q 6), .int .i64 (q 7), .slice A1 m k1, .int .i64 d, .slice D j f]) (results_cell_row (P := Try.prog) (p := 4) (ty := 53) rfl _ _ (w.heap.size + 1) 53 _ (0, 0) _ rfl (Blk.row br _) Try.underlying53 rfl (by kernel_rfl)) rfl ?_
      obtain ⟨h1, h2, h3, h4, h5⟩ := HK.out
      rw [h1]
      dsimp only
      rw [h2, mSends_len]
      exact ⟨_, _, rfl, h3, h4, h5⟩
end Go.Proofs.Ytmljmabbopkpiaa
end

section
/- What a law is handed, opened for a walk over symbolic values; and from a walk to a law. -/
namespace Go.Proofs.Ytmljmabbopkpiaa
open Go.ChangeShapes Go.WideShapes Go.ChangeAt Go.RowKit Go.Deep
set_option linter.unusedVariables false
set_option linter.unusedSimpArgs false

theorem cell_lt {w : World} {p : Addr} {v : Value} (h : w.cell? p = some v) : p.block < w.heap.size := by
  rcases Nat.lt_or_ge p.block w.heap.size with hl | hg
  · exact hl
  · unfold World.cell? at h
    rw [Array.getElem?_eq_none hg] at h
    cases h
theorem trod_int_at {H : Type} {enc : TypeId × Value → H} {w : World} {base : Nat} {spare : Nat → Bool} {held : Bool} {n : Nat} {v : Value} {x : DataW H × List MemPlace} {t : TypeId} {k : IntKind} (ht : Try.prog.underlying t = some (.int k)) (h : DataW.trod enc Try.prog w base spare held n t [v] = some x) : ∃ a, v = .int k a ∧ (Lit.int k a).wf = true := by
  obtain ⟨a, e0, _, b⟩ := DataW.trod_int ht h
  exact ⟨a, (List.cons.inj e0).1, b⟩
/-- a slice of words, handed in, reads as a list -/
theorem open_words {H : Type} {enc : TypeId × Value → H} {w : World} {base : Nat} {n : Nat} {v : Value} {x : DataW H × List MemPlace} (h : DataW.trod enc Try.prog w base (fun _ => true) true n 47 [v] = some x) :
    ∃ A l c xs, v = .slice A l c ∧ l ≤ c ∧ c ≤ 9223372036854775807 ∧ Reads w w.heap.size 1 A l (int64s xs) := by
  rcases open_slice1 Try.underlying47 (by kernel_rfl) h with ⟨h0, _⟩ | ⟨a, len, cap, m, k, V, D, Pl, h0, _, hl, hm, hmm, _, hx⟩
  · exact ⟨none, 0, 0, [], (List.cons.inj h0).1, by omega, by omega, Reads.none_⟩
  · have hmc : m = cap := hmm.trans (if_pos rfl)
    obtain ⟨f, hf⟩ := choose_lt (n := len) (p := fun i (z : Int) => V i = .int .i64 z) (fun i hi => by
      obtain ⟨z, hz, _⟩ := trod_int_at Try.underlying2 (hx i (by omega)).2
      exact ⟨z, hz⟩)
    refine ⟨some a, len, cap, (List.range len).map f, (List.cons.inj h0).1, hl, by unfold maxLen at hm; omega, by simp [int64s], fun hn => ⟨a, rfl, ?_, fun j u hu => ?_⟩⟩
    · have := cell_lt (hx 0 (by omega)).1
      rwa [block_of_add] at this
    · have hj : j < len := by
        have := (List.getElem?_eq_some_iff.1 hu).1
        simpa [int64s] using this
      rw [(hx j (by omega)).1, ← hu, hf j hj]
      simp [int64s, hj]
set_option maxRecDepth 100000 in
theorem okWide_structS {w : World} {r : Reach} {base : Nat} {v : Value} (h : Value.okWide Try.prog w r base 50 v) : ∃ cs, v = .agg cs ∧ cs.size = Try.prog.cellsOf 50 := okWide_struct Try.underlying50 h

set_option maxRecDepth 100000 in
theorem open_small18 {H : Type} {enc : TypeId × Value → H} {w : World} {b0 : Nat} {r : Reach} {v : Value} {d : DataW H} {p : List MemPlace} (hv : Value.okWide Try.prog w r b0 50 v) (h : DataW.Trod enc Try.prog w 0 (fun _ => true) true 50 v d p) :
    ∃ (x : Sm) (A : Option Addr) (n c : Nat), v = .agg (x.cs (.slice A n c)) ∧ x.ok ∧ n ≤ c ∧ c ≤ 9223372036854775807 ∧ Reads w w.heap.size 1 A n (int64s x.cells) := by
  obtain ⟨cs, rfl, hsz⟩ := okWide_structS hv
  obtain ⟨l⟩ := cs
  have h5 : Try.prog.cellsOf 50 = 12 := by kernel_rfl
  have h1 : Try.prog.cellsOf 5 = 1 := by kernel_rfl
  have h2 : Try.prog.cellsOf 46 = 8 := by kernel_rfl
  have h3 : Try.prog.cellsOf 47 = 1 := by kernel_rfl
  have h4 : Try.prog.cellsOf 48 = 1 := by kernel_rfl
  match l, hsz.trans h5 with
  | [c0, c1, c2, c3, c4, c5, c6, c7, c8, c9, c10, c11], _ =>
    obtain ⟨fuel, hf⟩ := h
    obtain ⟨xs, n, _, _, _, hlen, hg⟩ := DataW.trod_struct Try.underlying50 hf
    match xs, hlen with
    | [y0, y1, y2, y3, y4], _ =>
      have g0 : DataW.trod enc Try.prog w 0 (fun _ => true) true n 5 [c0] = some y0 := by simpa [Value.cells, h1, h2, h3, h4] using hg 0 _ rfl
      have g1 : DataW.trod enc Try.prog w 0 (fun _ => true) true n 46 [c1, c2, c3, c4, c5, c6, c7, c8] = some y1 := by simpa [Value.cells, h1, h2, h3, h4] using hg 1 _ rfl
      have g2 : DataW.trod enc Try.prog w 0 (fun _ => true) true n 47 [c9] = some y2 := by simpa [Value.cells, h1, h2, h3, h4] using hg 2 _ rfl
      have g3 : DataW.trod enc Try.prog w 0 (fun _ => true) true n 48 [c10] = some y3 := by simpa [Value.cells, h1, h2, h3, h4] using hg 3 _ rfl
      have g4 : DataW.trod enc Try.prog w 0 (fun _ => true) true n 5 [c11] = some y4 := by simpa [Value.cells, h1, h2, h3, h4] using hg 4 _ rfl
      obtain ⟨a0, rfl, b0⟩ := trod_int_at Try.underlying5 g0
      obtain ⟨a3, rfl, b3⟩ := trod_int_at Try.underlying48 g3
      obtain ⟨a4, rfl, b4⟩ := trod_int_at Try.underlying5 g4
      obtain ⟨A, l, c, ys, rfl, e1, e2, e3⟩ := open_words g2
      obtain ⟨zs, k, _, _, _, zlen, hz⟩ := DataW.trod_array Try.underlying46 g1
      match zs, zlen with
      | [z0, z1, z2, z3, z4, z5, z6, z7], _ =>
        have h6 : Try.prog.cellsOf 2 = 1 := by kernel_rfl
        have u0 : DataW.trod enc Try.prog w 0 (fun _ => true) true k 2 [c1] = some z0 := by simpa [h6] using hz 0 (by decide)
        obtain ⟨r0, rfl, s0⟩ := trod_int_at Try.underlying2 u0
        have u1 : DataW.trod enc Try.prog w 0 (fun _ => true) true k 2 [c2] = some z1 := by simpa [h6] using hz 1 (by decide)
        obtain ⟨r1, rfl, s1⟩ := trod_int_at Try.underlying2 u1
        have u2 : DataW.trod enc Try.prog w 0 (fun _ => true) true k 2 [c3] = some z2 := by simpa [h6] using hz 2 (by decide)
        obtain ⟨r2, rfl, s2⟩ := trod_int_at Try.underlying2 u2
        have u3 : DataW.trod enc Try.prog w 0 (fun _ => true) true k 2 [c4] = some z3 := by simpa [h6] using hz 3 (by decide)
        obtain ⟨r3, rfl, s3⟩ := trod_int_at Try.underlying2 u3
        have u4 : DataW.trod enc Try.prog w 0 (fun _ => true) true k 2 [c5] = some z4 := by simpa [h6] using hz 4 (by decide)
        obtain ⟨r4, rfl, s4⟩ := trod_int_at Try.underlying2 u4
        have u5 : DataW.trod enc Try.prog w 0 (fun _ => true) true k 2 [c6] = some z5 := by simpa [h6] using hz 5 (by decide)
        obtain ⟨r5, rfl, s5⟩ := trod_int_at Try.underlying2 u5
        have u6 : DataW.trod enc Try.prog w 0 (fun _ => true) true k 2 [c7] = some z6 := by simpa [h6] using hz 6 (by decide)
        obtain ⟨r6, rfl, s6⟩ := trod_int_at Try.underlying2 u6
        have u7 : DataW.trod enc Try.prog w 0 (fun _ => true) true k 2 [c8] = some z7 := by simpa [h6] using hz 7 (by decide)
        obtain ⟨r7, rfl, s7⟩ := trod_int_at Try.underlying2 u7
        simp [Lit.wf, IntKind.min, IntKind.max, IntKind.signed, IntKind.bits] at b0 b3 b4 s0 s1 s2 s3 s4 s5 s6 s7
        exact ⟨⟨a0, fun j => match j with | 0 => r0 | 1 => r1 | 2 => r2 | 3 => r3 | 4 => r4 | 5 => r5 | 6 => r6 | _ => r7, ys, a3, a4⟩, A, l, c, rfl, ⟨b0.1, b0.2, fun k => match k with | 0 => s0 | 1 => s1 | 2 => s2 | 3 => s3 | 4 => s4 | 5 => s5 | 6 => s6 | n + 7 => s7, b3.1, b3.2, b4.1, b4.2⟩, e1, e2, e3⟩

set_option maxRecDepth 100000 in
theorem open_envD {H : Type} {enc : TypeId × Value → H} {w : World} {base b0 : Nat} {r : Reach} {spare : Nat → Bool} {held : Bool} {v : Value} {d : DataW H} {p : List MemPlace} (hv : Value.okWide Try.prog w r b0 56 v) (h : DataW.Trod enc Try.prog w base spare held 56 v d p) :
    ∃ a b c e f, v = .agg #[.int .u64 a, .int .i64 b, .int .i64 c, .int .i64 e, .int .i64 f] := by
  obtain ⟨cs, rfl, hsz⟩ := okWide_struct Try.underlying56 hv
  obtain ⟨l⟩ := cs
  have h5 : Try.prog.cellsOf 56 = 5 := by kernel_rfl
  have h1 : Try.prog.cellsOf 29 = 1 := by kernel_rfl
  have h2 : Try.prog.cellsOf 3 = 1 := by kernel_rfl
  match l, hsz.trans h5 with
  | [c0, c1, c2, c3, c4], _ =>
    obtain ⟨fuel, hf⟩ := h
    obtain ⟨xs, n, _, _, _, hlen, hg⟩ := DataW.trod_struct Try.underlying56 hf
    match xs, hlen with
    | [y0, y1, y2, y3, y4], _ =>
      have g0 : DataW.trod enc Try.prog w base spare held n 29 [c0] = some y0 := by simpa [Value.cells, h1, h2] using hg 0 _ rfl
      have g1 : DataW.trod enc Try.prog w base spare held n 3 [c1] = some y1 := by simpa [Value.cells, h1, h2] using hg 1 _ rfl
      have g2 : DataW.trod enc Try.prog w base spare held n 3 [c2] = some y2 := by simpa [Value.cells, h1, h2] using hg 2 _ rfl
      have g3 : DataW.trod enc Try.prog w base spare held n 3 [c3] = some y3 := by simpa [Value.cells, h1, h2] using hg 3 _ rfl
      have g4 : DataW.trod enc Try.prog w base spare held n 3 [c4] = some y4 := by simpa [Value.cells, h1, h2] using hg 4 _ rfl
      obtain ⟨a, e0, _, _⟩ := DataW.trod_int Try.underlying29 g0
      obtain rfl := (List.cons.inj e0).1
      obtain ⟨b, e1, _, _⟩ := DataW.trod_int Try.underlying3 g1
      obtain rfl := (List.cons.inj e1).1
      obtain ⟨c, e2, _, _⟩ := DataW.trod_int Try.underlying3 g2
      obtain rfl := (List.cons.inj e2).1
      obtain ⟨e, e3, _, _⟩ := DataW.trod_int Try.underlying3 g3
      obtain rfl := (List.cons.inj e3).1
      obtain ⟨f, e4, _, _⟩ := DataW.trod_int Try.underlying3 g4
      obtain rfl := (List.cons.inj e4).1
      exact ⟨a, b, c, e, f, rfl⟩


set_option maxRecDepth 100000 in
/-- a slice of raw instructions, handed in, reads as a list -/
theorem open_small14s {H : Type} {enc : TypeId × Value → H} {w : World} {n : Nat} {v : Value} {x : DataW H × List MemPlace} (h : DataW.trod enc Try.prog w 0 (fun _ => true) true n 22 [v] = some x) :
    ∃ A l c xs, v = .slice A l c ∧ l ≤ c ∧ c ≤ 9223372036854775807 ∧ (∀ i ∈ xs, Ins.ok i) ∧ Reads w w.heap.size 5 A l (insV xs) := by
  have h5 : Try.prog.cellsOf 121 = 5 := by kernel_rfl
  have hc1 : Try.prog.cellsOf 5 = 1 := by kernel_rfl
  have hc2 : Try.prog.cellsOf 2 = 1 := by kernel_rfl
  rcases open_slice Try.underlying22 h with ⟨h0, _⟩ | ⟨a, len, cap, m, k, D, Pl, h0, _, hl, hm, hmm, _, hx⟩
  · exact ⟨none, 0, 0, [], (List.cons.inj h0).1, by omega, by omega, (fun _ h => by cases h), Reads.none_⟩
  · have hmc : m = cap := hmm.trans (if_pos rfl)
    have each : ∀ i, i < len → ∃ y : Ins, y.ok ∧ ∀ j u, y.cells[j]? = some u → w.cell? (a.add (i * 5 + j)) = some u := by
      intro i hi
      obtain ⟨cs', h1, h2⟩ := hx i (by omega)
      rw [h5] at h1
      obtain ⟨_, hlen, hcell⟩ := World.cells?_some h1
      obtain ⟨ys, q, _, _, _, hyl, hf⟩ := DataW.trod_struct Try.underlying121 h2
      match ys, hyl, cs', hlen with
      | [y0, y1, y2, y3, y4], _, [c0, c1, c2, c3, c4], _ =>
        have g0 : DataW.trod enc Try.prog w 0 (fun _ => true) true q 5 [c0] = some y0 := by simpa [hc1, hc2] using hf 0 _ rfl
        have g1 : DataW.trod enc Try.prog w 0 (fun _ => true) true q 5 [c1] = some y1 := by simpa [hc1, hc2] using hf 1 _ rfl
        have g2 : DataW.trod enc Try.prog w 0 (fun _ => true) true q 5 [c2] = some y2 := by simpa [hc1, hc2] using hf 2 _ rfl
        have g3 : DataW.trod enc Try.prog w 0 (fun _ => true) true q 5 [c3] = some y3 := by simpa [hc1, hc2] using hf 3 _ rfl
        have g4 : DataW.trod enc Try.prog w 0 (fun _ => true) true q 2 [c4] = some y4 := by simpa [hc1, hc2] using hf 4 _ rfl
        obtain ⟨a0, rfl, b0⟩ := trod_int_at Try.underlying5 g0
        obtain ⟨a1, rfl, b1⟩ := trod_int_at Try.underlying5 g1
        obtain ⟨a2, rfl, b2⟩ := trod_int_at Try.underlying5 g2
        obtain ⟨a3, rfl, b3⟩ := trod_int_at Try.underlying5 g3
        obtain ⟨a4, rfl, b4⟩ := trod_int_at Try.underlying2 g4
        simp [Lit.wf, IntKind.min, IntKind.max, IntKind.signed, IntKind.bits] at b0 b1 b2 b3 b4
        refine ⟨⟨a0, a1, a2, a3, a4⟩, ⟨b0.1, b0.2, b1.1, b1.2, b2.1, b2.2, b3.1, b3.2, b4.1, b4.2⟩, fun j u hj => ?_⟩
        have hj5 : j < 5 := (List.getElem?_eq_some_iff.1 hj).1
        have := hcell j hj5
        rw [Vm.add_add] at this
        rw [this]
        exact hj
    have : Inhabited Ins := ⟨⟨0, 0, 0, 0, 0⟩⟩
    obtain ⟨f, hf⟩ := choose_lt (n := len) (p := fun i (y : Ins) => y.ok ∧ ∀ j u, y.cells[j]? = some u → w.cell? (a.add (i * 5 + j)) = some u) each
    refine ⟨some a, len, cap, (List.range len).map f, (List.cons.inj h0).1, hl, by unfold maxLen at hm; omega, fun i hi => ?_, by rw [insV_len]; simp, fun hn => ⟨a, rfl, ?_, fun j u hu => ?_⟩⟩
    · obtain ⟨q, hq, rfl⟩ := List.mem_map.1 hi
      exact (hf q (List.mem_range.1 hq)).1
    · have := cell_lt ((hf 0 hn).2 0 _ rfl)
      rwa [block_of_add] at this
    · have hj := (List.getElem?_eq_some_iff.1 hu).1
      rw [insV_len] at hj
      simp at hj
      obtain ⟨q, r, hr5, rfl⟩ : ∃ q r, r < 5 ∧ j = q * 5 + r := ⟨j / 5, j % 5, by omega, by omega⟩
      have hq : q < len := by omega
      refine (hf q hq).2 r u ?_
      have hfl := flat_at Ins.cells 5 (fun _ => rfl) ((List.range len).map f) q r (f q) (by simp [hq]) hr5
      rw [← hfl]
      exact hu

namespace Vm
/-- a law that a walk has shown -/
theorem law_of_lit {f : FuncId} {args : List SV} {L0 L1 : List HB} {W : World} {β : Env} (H : LitOk Try.prog f args L0 (.bool true) L1) (R : Rep W (fun _ => False) β (hp L0) W) :
    Calls Try.prog f (denL β args).toArray W fun e W' => e = .returned (.bool true) ∧ Below W.heap.size W W' :=
  (H W _ β W R).mono fun e W' ⟨β', _, R', _, he⟩ => ⟨he, R'.os, R'.tape, R'.output, R'.size, fun k hk => R'.frame k hk id⟩
end Vm
end Go.Proofs.Ytmljmabbopkpiaa
end

section
/- Control: what a walk's end is, by the code around it; loops without a change of the base; joins; scopes. -/
namespace Go.Proofs.Ytmljmabbopkpiaa.Vm
open Go.RowKit
set_option linter.unusedVariables false
set_option linter.unusedSimpArgs false
set_option maxRecDepth 100000

section
variable {P : Program} {T : Tab} {C : FuncId → Option Spec} {w0 : World} {M : Nat → Prop} {E : Env} {n0 N n : Nat} {D : List Deferred} {φ φ2 φ' : Fr} {L L2 L' : List HB} {Q : Exit → Act → World → Prop} {ro : Option Nat} {K : Act → World → Prop}

theorem At.runEnd (hC : ∀ f S, C f = some S → CallOk P f S) (hT : TabOk P T) {ops : Array Oper} {k len : Nat} {l : List Oper} {c : Prop} {rs : List Rc} (hd : noDefer ops.toList = true) (hl : (ops.toList.drop k).take len = l) (hlen : l.length = len) (hr : runR T C N ops.toList φ L l = some (c, rs, φ', L')) (hc : c)
    (h : At w0 M E n0 N D φ' L' (Q .normal)) : At w0 M E n0 N D φ L (wpOpsIn (FR ro) n P ops Q (List.range' k len)) := by
  have := At.run (ro := ro) (n := n) (rest := []) hC hT hd hl hlen hr hc h
  rwa [List.append_nil] at this
theorem At.code {c : Code} (h : WF ro n P c w0 M E n0 N D φ L Q) : At w0 M E n0 N D φ L (c.wpIn (FR ro) n P Q) := h
theorem At.thenNormal (h : At w0 M E n0 N D φ L K) : At w0 M E n0 N D φ L (Exit.then K Q .normal) := h
theorem At.thenRet (h : At w0 M E n0 N D φ L (Q .ret)) : At w0 M E n0 N D φ L (Exit.then K Q .ret) := h
theorem At.thenExit {j : Nat} (h : At w0 M E n0 N D φ L (Q (.exit j))) : At w0 M E n0 N D φ L (Exit.then K Q (.exit j)) := h
theorem At.thenGoto {j : Nat} (h : At w0 M E n0 N D φ L (Q (.goto j))) : At w0 M E n0 N D φ L (Exit.then K Q (.goto j)) := h
theorem At.inNormal {id : Nat} (h : At w0 M E n0 N D φ L (Q .normal)) : At w0 M E n0 N D φ L (Exit.inBlock id Q .normal) := h
theorem At.inRet {id : Nat} (h : At w0 M E n0 N D φ L (Q .ret)) : At w0 M E n0 N D φ L (Exit.inBlock id Q .ret) := h
theorem At.inGoto {id j : Nat} (h : At w0 M E n0 N D φ L (Q (.goto j))) : At w0 M E n0 N D φ L (Exit.inBlock id Q (.goto j)) := h
theorem At.inHit {id : Nat} (h : At w0 M E n0 N D φ L (Q .normal)) : At w0 M E n0 N D φ L (Exit.inBlock id Q (.exit id)) := fun a w hS => by
  show (if id = id then Q .normal a w else Q (.exit id) a w)
  rw [if_pos rfl]
  exact h a w hS
theorem At.inMiss {id j : Nat} (hn : Nat.beq j id = false) (h : At w0 M E n0 N D φ L (Q (.exit j))) : At w0 M E n0 N D φ L (Exit.inBlock id Q (.exit j)) := fun a w hS => by
  show (if j = id then Q .normal a w else Q (.exit j) a w)
  rw [if_neg (fun e => by rw [e] at hn; simp at hn)]
  exact h a w hS
/-- no goto -/
theorem At.noGotoNormal (h : At w0 M E n0 N D φ L (Q .normal)) : At w0 M E n0 N D φ L (Exit.noGoto Q .normal) := h
theorem At.noGotoRet (h : At w0 M E n0 N D φ L (Q .ret)) : At w0 M E n0 N D φ L (Exit.noGoto Q .ret) := h
theorem At.noGotoExit {j : Nat} (h : At w0 M E n0 N D φ L (Q (.exit j))) : At w0 M E n0 N D φ L (Exit.noGoto Q (.exit j)) := h
theorem WF.scope {c : Code} (h : WF none n P c w0 M E n0 N D φ L (Exit.noGoto Q)) : WF none n P (.scope c) w0 M E n0 N D φ L Q := fun a w hS => by
  have h1 : c.wp P (Exit.noGoto Q) a w := wpIn_wide.1 (h a w hS)
  exact wpIn_wide.2 (wp_scope_straight h1)
/-- behind the first part it is thus, or thus .. -/
theorem WF.seqJoin {α : Type} (p : α → Prop) (φi : α → Fr) (Li : α → List HB) {x y : Code} (hx : WF ro n P x w0 M E n0 N D φ L (Exit.then (fun a w => ∃ z, p z ∧ St w0 M E n0 N D (φi z) (Li z) a w) Q)) (hy : ∀ z, p z → WF ro n P y w0 M E n0 N D (φi z) (Li z) Q) : WF ro n P (.seq x y) w0 M E n0 N D φ L Q := fun a w hS => by
  refine wpIn_seq (wpIn_mono (hx a w hS) fun e a' w' hq => ?_)
  cases e <;> try exact hq
  obtain ⟨z, hz, hS'⟩ := hq
  exact hy z hz a' w' hS'
theorem At.join {α : Type} {p : α → Prop} {φi : α → Fr} {Li : α → List HB} (z : α) (hz : p z) (hφ : SubF φ (φi z)) (hL : LessL L (Li z)) (h0 : hp (Li z) 0 = .gone) (hs : StableH (hp (Li z)) (Li z)) (hf : StableF (hp (Li z)) (φi z)) (hb : bornTo n0 (Li z) = true) : At w0 M E n0 N D φ L (fun a w => ∃ z, p z ∧ St w0 M E n0 N D (φi z) (Li z) a w) :=
  fun a w hS => ⟨z, hz, hS.sub hφ hL h0 hs hf hb⟩
open Classical in
/-- a loop in which the base stays -/
theorem WF.loop0 {α : Type} (p : α → Prop) (φi : α → Fr) (Li : α → List HB) (μ : α → Nat) {c : Code} (x0 : α) (h0 : p x0)
    (step : ∀ x, p x → WF ro n P c w0 M E n0 N D (φi x) (Li x) (Exit.then (fun a w => ∃ y, (p y ∧ μ y < μ x) ∧ St w0 M E n0 N D (φi y) (Li y) a w) Q)) : WF ro n P (.loop c) w0 M E n0 N D (φi x0) (Li x0) Q := by
  intro a w hS
  let I : Act → World → Prop := fun a w => ∃ x, p x ∧ St w0 M E n0 N D (φi x) (Li x) a w
  let pm : Act → World → Nat → Prop := fun a w k => ∃ x, p x ∧ St w0 M E n0 N D (φi x) (Li x) a w ∧ μ x = k
  have hex : ∀ a w, I a w → ∃ k, pm a w k := fun a w ⟨x, h1, h2⟩ => ⟨μ x, x, h1, h2, rfl⟩
  let m : Act → World → Nat := fun a w => if h : I a w then Classical.choose (least (hex a w h)) else 0
  have hm : ∀ a w (h : I a w), pm a w (m a w) ∧ ∀ k, pm a w k → m a w ≤ k := fun a w h => by
    have := Classical.choose_spec (least (hex a w h))
    simp only [m, h, dif_pos]
    exact this
  refine wpIn_loop I m ⟨x0, h0, hS⟩ fun a w hI => ?_
  obtain ⟨⟨x, hx, hSx, hμ⟩, hmin⟩ := hm a w hI
  refine wpIn_mono (step x hx a w hSx) fun e a' w' hq => ?_
  cases e <;> try exact hq
  obtain ⟨y, ⟨hy, hlt⟩, hSy⟩ := hq
  refine ⟨⟨y, hy, hSy⟩, ?_⟩
  have := (hm a' w' ⟨y, hy, hSy⟩).2 (μ y) ⟨y, hy, hSy, rfl⟩
  omega
/-- a loop from a state of which more is known -/
theorem WF.loopAt {α : Type} (p : α → Prop) (φi : α → Fr) (Li : α → List HB) (μ : α → Nat) {c : Code} (x0 : α) (h0 : p x0)
    (hφ : SubF φ (φi x0)) (hL : LessL L (Li x0)) (hz : hp (Li x0) 0 = .gone) (hs : StableH (hp (Li x0)) (Li x0)) (hf : StableF (hp (Li x0)) (φi x0)) (hb : bornTo n0 (Li x0) = true)
    (step : ∀ x, p x → WF ro n P c w0 M E n0 N D (φi x) (Li x) (Exit.then (fun a w => ∃ y, (p y ∧ μ y < μ x) ∧ St w0 M E n0 N D (φi y) (Li y) a w) Q)) : WF ro n P (.loop c) w0 M E n0 N D φ L Q :=
  WF.sub hφ hL hz hs hf hb (WF.loop0 p φi Li μ x0 h0 step)
theorem At.next {α : Type} {p : α → Prop} {φi : α → Fr} {Li : α → List HB} (y : α) (hy : p y) (hφ : SubF φ (φi y)) (hL : LessL L (Li y)) (h0 : hp (Li y) 0 = .gone) (hs : StableH (hp (Li y)) (Li y)) (hf : StableF (hp (Li y)) (φi y)) (hb : bornTo n0 (Li y) = true) : At w0 M E n0 N D φ L (fun a w => ∃ y, p y ∧ St w0 M E n0 N D (φi y) (Li y) a w) :=
  fun a w hS => ⟨y, hy, hS.sub hφ hL h0 hs hf hb⟩
/-- a whole function's end -/
theorem At.endsRet (hT : TabOk P T) {fn : Func} {c : Prop} {vs : List SV} {v : SV} {rs : List ResultVar} {L0 : List HB} {w1 : World} {M1 : Nat → Prop} {D1 : List Deferred} (A : Anc w0 M [] w1 M1 D1) (hro : RoOk w0 M E L0) (hL0 : L0.length ≤ n0) (hrs : fn.results.toList = rs) (hr : resV T φ (hp L) rs = some (c, vs)) (hc : c) (hL : LessL L L2) (h0 : hp L2 0 = .gone) (hs : StableH (hp L2) L2) (hsub : RoSub L L0) (hv : ∀ β, (resS vs).den β = v.den β) (hst : Stable (hp L2) v) :
    At w1 M1 E n0 N D1 φ L (EndsM n P fn w0 M E n0 v L2 .ret) := At.endsM hT A hro hL0 hrs hr hc hL h0 hs hsub hv hst
theorem At.endsNormal (hT : TabOk P T) {fn : Func} {c : Prop} {vs : List SV} {v : SV} {rs : List ResultVar} {L0 : List HB} {w1 : World} {M1 : Nat → Prop} {D1 : List Deferred} (A : Anc w0 M [] w1 M1 D1) (hro : RoOk w0 M E L0) (hL0 : L0.length ≤ n0) (hrs : fn.results.toList = rs) (hr : resV T φ (hp L) rs = some (c, vs)) (hc : c) (hL : LessL L L2) (h0 : hp L2 0 = .gone) (hs : StableH (hp L2) L2) (hsub : RoSub L L0) (hv : ∀ β, (resS vs).den β = v.den β) (hst : Stable (hp L2) v) :
    At w1 M1 E n0 N D1 φ L (EndsM n P fn w0 M E n0 v L2 .normal) := At.endsM hT A hro hL0 hrs hr hc hL h0 hs hsub hv hst
end
end Go.Proofs.Ytmljmabbopkpiaa.Vm
end

section
/- Functions of Go's own library, walked. -/
namespace Go.Proofs.Ytmljmabbopkpiaa.Vm
open Go.RowKit
attribute [local push_cast] runR opG gtmp gval gus opX tmpsOf tm tmO tmP restr look look2 tab tys zs ets eqB eqBL allB numOf ieq Int.cast_ofNat_Int Int.ofNat_zero beq_true beq_false frameOf ev evL ofV opV loadV noW pushF wrsL setH allBorn allGone HB.born HB.isGone HB.val SV.plain dstOk hp nav fitsT SV.size sizeL SV.isAgg TK.size TK.agg bin binE binN binI arN arI cmpN cmpI keq kn narrow callV storeV setp fillV buildV buildSliceV makeV sliceV appendV copyV List.isEmpty_nil srcV evO asN ite_t ite_f ite_bool ite_int ite_nat maxV v_beq v_ble v_blt cond_true cond_false List.getElem?_cons_zero List.getElem?_cons_succ List.getD_cons_zero List.getD_cons_succ List.getD_nil List.length_cons List.length_nil List.take_succ_cons List.take_zero List.set_cons_zero List.set_cons_succ List.cons_append List.nil_append List.append_assoc List.replicate_succ List.replicate_zero Nat.zero_add Nat.add_zero decide_true decide_false Bool.true_and Bool.and_true Bool.false_and Bool.and_false Bool.true_or Bool.or_true Bool.false_or Bool.or_false beq_self_eq_true Bool.or_self Nat.lt_irrefl Nat.not_lt_zero Nat.le_refl Option.getD_some Option.getD_none BEq.rfl Bool.not_true Bool.not_false Bool.cond_true_left Bool.cond_false_right
set_option linter.unusedVariables false
set_option linter.unusedSimpArgs false
set_option maxRecDepth 100000
set_option maxHeartbeats 4000000
theorem fol : Try.prog.follows .mixedOrders = true := by kernel_rfl
def c0 : FuncId → Option Spec := look2 []
theorem c1_ok : ∀ f S, c0 f = some S → CallOk Try.prog f S := fun f S h => by cases h
/-! ### bits.Mul, of small numbers -/
theorem mul64_lit (a b : Nat) (ha : a ≤ 65535) (hb : b ≤ 65535) : LitOk Try.prog 121 [.nat .u64 a, .nat .u64 b] [.gone] (.tup [.nat .u64 0, .nat .u64 (a * b)]) [.gone] := by
  refine litOkM (fn := Try.f121) 1 51 0 rfl rfl rfl rfl rfl (by simp only [StableL, Stable, hp]; simp [HB.born]) rfl fun w0 M E hro => ?_
  have hab : a * b ≤ 4294967295 := Nat.le_trans (Nat.mul_le_mul ha hb) (by decide)
  have mask : ∀ x, x ≤ 4294967295 → x &&& 4294967295 = x := fun x hx => by
    have := Nat.and_two_pow_sub_one_eq_mod x 32
    have p32 : (2 : Nat) ^ 32 = 4294967296 := by decide
    rw [p32] at this
    rw [show (4294967296 - 1 : Nat) = 4294967295 by decide] at this
    rw [this]
    exact Nat.mod_eq_of_lt (by omega)
  have e32 : min 32 (IntKind.bits .u64) = 32 := by decide
  have p32 : (2 : Nat) ^ 32 = 4294967296 := by decide
  have shr : ∀ x, x ≤ 4294967295 → x / 2 ^ (min 32 (IntKind.bits .u64)) = 0 := fun x hx => by
    rw [e32, p32]
    exact Nat.div_eq_of_lt (by omega)
  have ma := mask a (by omega)
  have mb := mask b (by omega)
  have sa := shr a (by omega)
  have sb := shr b (by omega)
  have sab := shr (a * b) hab
  repeat' (first
    | with_reducible (first | apply WF.seq | refine At.code ?_ | apply At.thenNormal | apply At.thenRet | apply At.thenExit | apply At.thenGoto | apply At.inNormal | apply At.inRet | apply At.inGoto | apply At.inHit | apply At.noGotoNormal | apply At.noGotoRet | apply At.noGotoExit | apply WF.skip | apply WF.ret | apply WF.exit | apply WF.goto | apply WF.label | apply WF.block | apply WF.scope)
    | ((with_reducible apply At.inMiss); · rfl)
    | ((with_reducible intro hif); first | (focus (cases hif; done)) | (simp only [Bool.not_eq_true', Bool.not_eq_false', decide_eq_true_eq, decide_eq_false_iff_not, Bool.and_eq_true, Bool.or_eq_true] at hif; try (exfalso; omega)) | (try (exfalso; omega)))
    | ((first | ((with_reducible apply WF.region c1_ok tab_ok); · rfl) | ((with_reducible apply WF.drawn fol c1_ok tab_ok); · rfl) | with_reducible apply WF.cond)
       · simp only [push_cast, ↓Int.cast_ofNat_Int, ↓ofV_m1, ↓ofV_min, Nat.reduceAdd, Nat.reduceEqDiff, Nat.reduceLT, Nat.reduceMul, Nat.reduceLeDiff, reduceCtorEq, reduceIte, ma, mb, sa, sb, sab, inN, Nat.zero_mul, Nat.mul_zero, Nat.zero_div, Nat.zero_and]; rfl
       try kernel_rfl
       try (focus ((first | exact True.intro | (simp only [and_self, implies_true, true_and, and_true, forall_const, false_implies, true_implies, Bool.not_eq_true', imp_self, shaped, shapedL, kndOf, ma, mb, sa, sb, sab, inN, Nat.zero_mul, Nat.mul_zero, Nat.zero_div, Nat.zero_and]; done) | (simp only [and_self, implies_true, true_and, and_true, forall_const, false_implies, true_implies, Bool.not_eq_true', imp_self, shaped, shapedL, kndOf, ma, mb, sa, sb, sab, inN, Nat.zero_mul, Nat.mul_zero, Nat.zero_div, Nat.zero_and]; (repeat' (first | assumption | exact True.intro | omega | apply And.intro))) | ((repeat' (first | assumption | exact True.intro | omega | apply And.intro)))); done)))
    | fail)
  apply At.endsRet tab_ok (fn := Try.f121) (rs := [.tmp 4, .tmp 5]) Anc.refl hro (Nat.le_of_ble_eq_true rfl) rfl
  · simp only [push_cast, ↓Int.cast_ofNat_Int, ↓ofV_m1, ↓ofV_min, Nat.reduceAdd, Nat.reduceEqDiff, Nat.reduceLT, Nat.reduceMul, Nat.reduceLeDiff, reduceCtorEq, reduceIte, resV, resV1]; rfl
  · (first | trivial | (simp only [and_self]; done))
  · (repeat' (first | exact trivial | exact .same _ | exact .dead _ | exact .gone rfl | exact .loose | assumption | exact .arr (by assumption) | apply And.intro))
  · rfl
  · (first | exact trivial | (repeat' (first | exact trivial | exact rfl | assumption | exact prS_stable _ | exact i64S_stable _ | exact sndsS_stable _ | exact insS_stable _ | exact sndS_stable _ | exact hst _ _ | exact hst1 _ _ | exact hst2 _ _ | apply Stable.ite | apply And.intro | intro _ | (simp only [Stable, StableL, i64S, prS, insS, sndsS, sndS]; done))))
  · (repeat' (first | exact trivial | exact .inl rfl | exact .inr rfl | exact rfl | apply And.intro))
  · exact fun β => rfl
  · (first | exact trivial | (repeat' (first | exact trivial | exact rfl | assumption | exact prS_stable _ | exact i64S_stable _ | exact sndsS_stable _ | exact insS_stable _ | exact sndS_stable _ | exact hst _ _ | exact hst1 _ _ | exact hst2 _ _ | apply Stable.ite | apply And.intro | intro _ | (simp only [Stable, StableL, i64S, prS, insS, sndsS, sndS]; done))))
def sMul64 : Spec := fun args h m => match args with
  | [.nat q1 v1, .nat q2 v2] => bif keq q1 .u64 && keq q2 .u64 then some ((v1 ≤ 65535) ∧ (v2 ≤ 65535), .tup [.nat .u64 0, .nat .u64 (v1 * v2)], [], []) else none
  | _ => none
theorem sMul64_ok : CallOk Try.prog 121 sMul64 := by
  refine ⟨named_spec (by kernel_rfl), fun args h m c v rd wr hs hm hc w0 M β h' w R hrd hwr hst => ?_⟩
  unfold sMul64 at hs
  split at hs
  · rename_i q1 v1 q2 v2
    obtain ⟨hb, hs⟩ := bif_some hs
    simp only [Option.some.injEq, Prod.mk.injEq] at hs
    obtain ⟨rfl, rfl, rfl, rfl⟩ := hs
    simp only [Bool.and_eq_true] at hb
    obtain ⟨b1, b2⟩ := hb
    have w1 := keq_eq b1
    subst w1
    have w2 := keq_eq b2
    subst w2
    obtain ⟨y1, y2⟩ := hc
    refine callRo (views := []) (mul64_lit v1 v2 y1 y2) ?_ R hm hwr ?_ ?_ ?_
    · intro x hx; cases hx
    · intro β1 hv
      simp only [denL, aggDen, intDen, natDen, boolDen, ls_length]
    · (first | exact trivial | (repeat' (first | exact trivial | exact rfl | assumption | exact prS_stable _ | exact i64S_stable _ | exact sndsS_stable _ | exact insS_stable _ | exact sndS_stable _ | exact hst _ _ | exact hst1 _ _ | exact hst2 _ _ | apply Stable.ite | apply And.intro | intro _ | (simp only [Stable, StableL, i64S, prS, insS, sndsS, sndS]; done))))
    · (first | exact trivial | (repeat' (first | exact trivial | exact rfl | assumption | exact prS_stable _ | exact i64S_stable _ | exact sndsS_stable _ | exact insS_stable _ | exact sndS_stable _ | exact hst _ _ | exact hst1 _ _ | exact hst2 _ _ | apply Stable.ite | apply And.intro | intro _ | (simp only [Stable, StableL, i64S, prS, insS, sndsS, sndS]; done))))
  · cases hs
def cMul : FuncId → Option Spec := look2 [(121, sMul64)]
theorem cMul_ok : ∀ f S, cMul f = some S → CallOk Try.prog f S := allOk_spec ⟨sMul64_ok, trivial⟩
theorem mul_lit (a b : Nat) (ha : a ≤ 65535) (hb : b ≤ 65535) : LitOk Try.prog 92 [.nat .u64 a, .nat .u64 b] [.gone] (.tup [.nat .u64 0, .nat .u64 (a * b)]) [.gone] := by
  refine litOkM (fn := Try.f92) 1 30 0 rfl rfl rfl rfl rfl (by simp only [StableL, Stable, hp]; simp [HB.born]) rfl fun w0 M E hro => ?_
  repeat' (first
    | with_reducible (first | apply WF.seq | refine At.code ?_ | apply At.thenNormal | apply At.thenRet | apply At.thenExit | apply At.thenGoto | apply At.inNormal | apply At.inRet | apply At.inGoto | apply At.inHit | apply At.noGotoNormal | apply At.noGotoRet | apply At.noGotoExit | apply WF.skip | apply WF.ret | apply WF.exit | apply WF.goto | apply WF.label | apply WF.block | apply WF.scope)
    | ((with_reducible apply At.inMiss); · rfl)
    | ((with_reducible intro hif); first | (focus (cases hif; done)) | (simp only [Bool.not_eq_true', Bool.not_eq_false', decide_eq_true_eq, decide_eq_false_iff_not, Bool.and_eq_true, Bool.or_eq_true] at hif; try (exfalso; omega)) | (try (exfalso; omega)))
    | ((first | ((with_reducible apply WF.region cMul_ok tab_ok); · rfl) | ((with_reducible apply WF.drawn fol cMul_ok tab_ok); · rfl) | with_reducible apply WF.cond)
       · simp only [push_cast, ↓Int.cast_ofNat_Int, ↓ofV_m1, ↓ofV_min, Nat.reduceAdd, Nat.reduceEqDiff, Nat.reduceLT, Nat.reduceMul, Nat.reduceLeDiff, reduceCtorEq, reduceIte, cMul, sMul64, inN]; rfl
       try kernel_rfl
       try (focus ((first | exact True.intro | (simp only [and_self, implies_true, true_and, and_true, forall_const, false_implies, true_implies, Bool.not_eq_true', imp_self, shaped, shapedL, kndOf, cMul, sMul64, inN]; done) | (simp only [and_self, implies_true, true_and, and_true, forall_const, false_implies, true_implies, Bool.not_eq_true', imp_self, shaped, shapedL, kndOf, cMul, sMul64, inN]; (repeat' (first | assumption | exact True.intro | omega | apply And.intro))) | ((repeat' (first | assumption | exact True.intro | omega | apply And.intro)))); done)))
    | fail)
  apply At.endsRet tab_ok (fn := Try.f92) (rs := [.tmp 4, .tmp 5]) Anc.refl hro (Nat.le_of_ble_eq_true rfl) rfl
  · simp only [push_cast, ↓Int.cast_ofNat_Int, ↓ofV_m1, ↓ofV_min, Nat.reduceAdd, Nat.reduceEqDiff, Nat.reduceLT, Nat.reduceMul, Nat.reduceLeDiff, reduceCtorEq, reduceIte, resV, resV1]; rfl
  · (first | trivial | (simp only [and_self]; done))
  · (repeat' (first | exact trivial | exact .same _ | exact .dead _ | exact .gone rfl | exact .loose | assumption | exact .arr (by assumption) | apply And.intro))
  · rfl
  · (first | exact trivial | (repeat' (first | exact trivial | exact rfl | assumption | exact prS_stable _ | exact i64S_stable _ | exact sndsS_stable _ | exact insS_stable _ | exact sndS_stable _ | exact hst _ _ | exact hst1 _ _ | exact hst2 _ _ | apply Stable.ite | apply And.intro | intro _ | (simp only [Stable, StableL, i64S, prS, insS, sndsS, sndS]; done))))
  · (repeat' (first | exact trivial | exact .inl rfl | exact .inr rfl | exact rfl | apply And.intro))
  · exact fun β => rfl
  · (first | exact trivial | (repeat' (first | exact trivial | exact rfl | assumption | exact prS_stable _ | exact i64S_stable _ | exact sndsS_stable _ | exact insS_stable _ | exact sndS_stable _ | exact hst _ _ | exact hst1 _ _ | exact hst2 _ _ | apply Stable.ite | apply And.intro | intro _ | (simp only [Stable, StableL, i64S, prS, insS, sndsS, sndS]; done))))
def sMul : Spec := fun args h m => match args with
  | [.nat q1 v1, .nat q2 v2] => bif keq q1 .u64 && keq q2 .u64 then some ((v1 ≤ 65535) ∧ (v2 ≤ 65535), .tup [.nat .u64 0, .nat .u64 (v1 * v2)], [], []) else none
  | _ => none
theorem sMul_ok : CallOk Try.prog 92 sMul := by
  refine ⟨named_spec (by kernel_rfl), fun args h m c v rd wr hs hm hc w0 M β h' w R hrd hwr hst => ?_⟩
  unfold sMul at hs
  split at hs
  · rename_i q1 v1 q2 v2
    obtain ⟨hb, hs⟩ := bif_some hs
    simp only [Option.some.injEq, Prod.mk.injEq] at hs
    obtain ⟨rfl, rfl, rfl, rfl⟩ := hs
    simp only [Bool.and_eq_true] at hb
    obtain ⟨b1, b2⟩ := hb
    have w1 := keq_eq b1
    subst w1
    have w2 := keq_eq b2
    subst w2
    obtain ⟨y1, y2⟩ := hc
    refine callRo (views := []) (mul_lit v1 v2 y1 y2) ?_ R hm hwr ?_ ?_ ?_
    · intro x hx; cases hx
    · intro β1 hv
      simp only [denL, aggDen, intDen, natDen, boolDen, ls_length]
    · (first | exact trivial | (repeat' (first | exact trivial | exact rfl | assumption | exact prS_stable _ | exact i64S_stable _ | exact sndsS_stable _ | exact insS_stable _ | exact sndS_stable _ | exact hst _ _ | exact hst1 _ _ | exact hst2 _ _ | apply Stable.ite | apply And.intro | intro _ | (simp only [Stable, StableL, i64S, prS, insS, sndsS, sndS]; done))))
    · (first | exact trivial | (repeat' (first | exact trivial | exact rfl | assumption | exact prS_stable _ | exact i64S_stable _ | exact sndsS_stable _ | exact insS_stable _ | exact sndS_stable _ | exact hst _ _ | exact hst1 _ _ | exact hst2 _ _ | apply Stable.ite | apply And.intro | intro _ | (simp only [Stable, StableL, i64S, prS, insS, sndsS, sndS]; done))))
  · cases hs
end Go.Proofs.Ytmljmabbopkpiaa.Vm
end

section
/- slices.Equal, Index, Contains. (printed by gen_vs3.py) -/
namespace Go.Proofs.Ytmljmabbopkpiaa.Vm
open Go.RowKit
attribute [local push_cast] runR opG gtmp gval gus opX tmpsOf tm tmO tmP restr look look2 tab tys zs ets eqB eqBL allB numOf ieq Int.cast_ofNat_Int Int.ofNat_zero beq_true beq_false frameOf ev evL ofV opV loadV noW pushF wrsL setH allBorn allGone HB.born HB.isGone HB.val SV.plain dstOk hp nav fitsT SV.size sizeL SV.isAgg TK.size TK.agg bin binE binN binI arN arI cmpN cmpI keq kn narrow callV storeV setp fillV buildV buildSliceV makeV sliceV appendV copyV List.isEmpty_nil srcV evO asN ite_t ite_f ite_bool ite_int ite_nat maxV v_beq v_ble v_blt cond_true cond_false List.getElem?_cons_zero List.getElem?_cons_succ List.getD_cons_zero List.getD_cons_succ List.getD_nil List.length_cons List.length_nil List.take_succ_cons List.take_zero List.set_cons_zero List.set_cons_succ List.cons_append List.nil_append List.append_assoc List.replicate_succ List.replicate_zero Nat.zero_add Nat.add_zero decide_true decide_false Bool.true_and Bool.and_true Bool.false_and Bool.and_false Bool.true_or Bool.or_true Bool.false_or Bool.or_false beq_self_eq_true Bool.or_self Nat.lt_irrefl Nat.not_lt_zero Nat.le_refl Option.getD_some Option.getD_none BEq.rfl Bool.not_true Bool.not_false Bool.cond_true_left Bool.cond_false_right
set_option linter.unusedVariables false
set_option linter.unusedSimpArgs false
set_option maxRecDepth 100000
set_option maxHeartbeats 4000000
theorem ext_getD {α : Type} {xs ys : List α} (d : α) (hl : xs.length = ys.length) (h : ∀ q, q < xs.length → xs.getD q d = ys.getD q d) : xs = ys := by
  apply List.ext_getElem hl
  intro q h1 h2
  have := h q h1
  simpa [List.getD_eq_getElem?_getD, List.getElem?_eq_getElem h1, List.getElem?_eq_getElem h2] using this
theorem ins_ext {a b : Ins} (h1 : a.op = b.op) (h2 : a.a = b.a) (h3 : a.b = b.b) (h4 : a.c = b.c) (h5 : a.n = b.n) : a = b := by cases a; cases b; simp_all
theorem snd_ext {a b : Snd} (h1 : a.port = b.port) (h2 : a.delay = b.delay) (h3 : a.value = b.value) : a = b := by cases a; cases b; simp_all
def eqL {α : Type} [DecidableEq α] (xs ys : List α) : Bool := decide (xs = ys)
theorem eqL_true {α : Type} [DecidableEq α] {xs ys : List α} (h : xs = ys) : eqL xs ys = true := by unfold eqL; simp [h]
theorem eqL_false {α : Type} [DecidableEq α] {xs ys : List α} (h : xs ≠ ys) : eqL xs ys = false := by unfold eqL; simp [h]
theorem eqL_iff {α : Type} [DecidableEq α] {xs ys : List α} : eqL xs ys = true ↔ xs = ys := by unfold eqL; simp
theorem eqSnd_lit (xs ys : List Snd) (p1 p2 : Nat) (hx : xs.length ≤ 281474976710656) : LitOk Try.prog 52 [.sl 1 2 [] 3 0 xs.length (some p1), .sl 3 4 [] 3 0 ys.length (some p2)] [.gone, .gone, .ro (.arr xs.length 3 (sndsS xs)), .gone, .ro (.arr ys.length 3 (sndsS ys))] (.bool (eqL xs ys)) [.gone] := by
  refine litOkM (fn := Try.f52) 5 26 0 rfl rfl rfl rfl rfl (by simp only [StableL, Stable, hp]; simp [HB.born]) rfl fun w0 M E hro => ?_
  repeat' (first
    | with_reducible (first | apply WF.seq | refine At.code ?_ | apply At.thenNormal | apply At.thenRet | apply At.thenExit | apply At.thenGoto | apply At.inNormal | apply At.inRet | apply At.inGoto | apply At.inHit | apply At.noGotoNormal | apply At.noGotoRet | apply At.noGotoExit | apply WF.skip | apply WF.ret | apply WF.exit | apply WF.goto | apply WF.label | apply WF.block | apply WF.scope)
    | ((with_reducible apply At.inMiss); · rfl)
    | ((with_reducible intro hif); first | (focus (cases hif; done)) | (simp only [Bool.not_eq_true', Bool.not_eq_false', decide_eq_true_eq, decide_eq_false_iff_not, Bool.and_eq_true, Bool.or_eq_true] at hif; try (exfalso; omega)) | (try (exfalso; omega)))
    | ((first | ((with_reducible apply WF.region c1_ok tab_ok); · rfl) | ((with_reducible apply WF.drawn fol c1_ok tab_ok); · rfl) | with_reducible apply WF.cond)
       · simp only [push_cast, ↓Int.cast_ofNat_Int, ↓ofV_m1, ↓ofV_min, Nat.reduceAdd, Nat.reduceEqDiff, Nat.reduceLT, Nat.reduceMul, Nat.reduceLeDiff, reduceCtorEq, reduceIte]; rfl
       try kernel_rfl
       try (focus ((first | exact True.intro | (simp only [and_self, implies_true, true_and, and_true, forall_const, false_implies, true_implies, Bool.not_eq_true', imp_self, shaped, shapedL, kndOf]; done) | (simp only [and_self, implies_true, true_and, and_true, forall_const, false_implies, true_implies, Bool.not_eq_true', imp_self, shaped, shapedL, kndOf]; (repeat' (first | assumption | exact True.intro | omega | apply And.intro))) | ((repeat' (first | assumption | exact True.intro | omega | apply And.intro)))); done)))
    | fail)
  · have hne : xs ≠ ys := fun e => hif (by rw [e])
    apply At.endsRet tab_ok (fn := Try.f52) (rs := [.tmp 4]) Anc.refl hro (Nat.le_of_ble_eq_true rfl) rfl
    · simp only [push_cast, ↓Int.cast_ofNat_Int, ↓ofV_m1, ↓ofV_min, Nat.reduceAdd, Nat.reduceEqDiff, Nat.reduceLT, Nat.reduceMul, Nat.reduceLeDiff, reduceCtorEq, reduceIte, resV, resV1]; rfl
    · (first | trivial | (simp only [and_self]; done))
    · (repeat' (first | exact trivial | exact .same _ | exact .dead _ | exact .gone rfl | exact .loose | assumption | exact .arr (by assumption) | apply And.intro))
    · rfl
    · (first | exact trivial | (repeat' (first | exact trivial | exact rfl | assumption | exact prS_stable _ | exact i64S_stable _ | exact sndsS_stable _ | exact insS_stable _ | exact sndS_stable _ | exact hst _ _ | exact hst1 _ _ | exact hst2 _ _ | apply Stable.ite | apply And.intro | intro _ | (simp only [Stable, StableL, i64S, prS, insS, sndsS, sndS]; done))))
    · (repeat' (first | exact trivial | exact .inl rfl | exact .inr rfl | exact rfl | apply And.intro))
    · rw [eqL_false hne]; exact fun β => rfl
    · (first | exact trivial | (repeat' (first | exact trivial | exact rfl | assumption | exact prS_stable _ | exact i64S_stable _ | exact sndsS_stable _ | exact insS_stable _ | exact sndS_stable _ | exact hst _ _ | exact hst1 _ _ | exact hst2 _ _ | apply Stable.ite | apply And.intro | intro _ | (simp only [Stable, StableL, i64S, prS, insS, sndsS, sndS]; done))))
  · refine WF.loopAt (fun j => j ≤ xs.length ∧ ∀ q, q < j → xs.getD q ⟨0, 0, 0⟩ = ys.getD q ⟨0, 0, 0⟩) (fun j => [(0, .sl 1 2 [] 3 0 xs.length (some p1)), (1, .sl 3 4 [] 3 0 ys.length (some p2)), (12, .nat .i64 xs.length), (13, .nat .i64 j)]) (fun j => [.gone, .gone, .ro (.arr xs.length 3 (sndsS xs)), .gone, .ro (.arr ys.length 3 (sndsS ys))]) (fun j => xs.length - j) 0 ⟨Nat.zero_le _, fun q hq => absurd hq (Nat.not_lt_zero q)⟩ ?_ ?_ rfl ?_ ?_ rfl ?_
    · ((repeat' (first | exact trivial | apply And.intro)) <;> (first | rfl | (simp only [look, cond_true, cond_false]; done)))
    · (repeat' (first | exact trivial | exact .same _ | exact .dead _ | exact .gone rfl | exact .loose | assumption | exact .arr (by assumption) | apply And.intro))
    · (first | exact trivial | (repeat' (first | exact trivial | exact rfl | assumption | exact prS_stable _ | exact i64S_stable _ | exact sndsS_stable _ | exact insS_stable _ | exact sndS_stable _ | exact hst _ _ | exact hst1 _ _ | exact hst2 _ _ | apply Stable.ite | apply And.intro | intro _ | (simp only [Stable, StableL, i64S, prS, insS, sndsS, sndS]; done))))
    · (first | exact trivial | (repeat' (first | exact trivial | exact rfl | assumption | exact prS_stable _ | exact i64S_stable _ | exact sndsS_stable _ | exact insS_stable _ | exact sndS_stable _ | exact hst _ _ | exact hst1 _ _ | exact hst2 _ _ | apply Stable.ite | apply And.intro | intro _ | (simp only [Stable, StableL, i64S, prS, insS, sndsS, sndS]; done))))
    have hlen := hif
    rintro j ⟨hj, heq⟩
    repeat' (first
      | with_reducible (first | apply WF.seq | refine At.code ?_ | apply At.thenNormal | apply At.thenRet | apply At.thenExit | apply At.thenGoto | apply At.inNormal | apply At.inRet | apply At.inGoto | apply At.inHit | apply At.noGotoNormal | apply At.noGotoRet | apply At.noGotoExit | apply WF.skip | apply WF.ret | apply WF.exit | apply WF.goto | apply WF.label | apply WF.block | apply WF.scope)
      | ((with_reducible apply At.inMiss); · rfl)
      | ((with_reducible intro hif); first | (focus (cases hif; done)) | (simp only [Bool.not_eq_true', Bool.not_eq_false', decide_eq_true_eq, decide_eq_false_iff_not, Bool.and_eq_true, Bool.or_eq_true] at hif; try (exfalso; omega)) | (try (exfalso; omega)))
      | ((first | ((with_reducible apply WF.region c1_ok tab_ok); · rfl) | ((with_reducible apply WF.drawn fol c1_ok tab_ok); · rfl) | with_reducible apply WF.cond)
         · simp only [push_cast, ↓Int.cast_ofNat_Int, ↓ofV_m1, ↓ofV_min, Nat.reduceAdd, Nat.reduceEqDiff, Nat.reduceLT, Nat.reduceMul, Nat.reduceLeDiff, reduceCtorEq, reduceIte, sndsS, sndS, inN]; rfl
         try kernel_rfl
         try (focus ((first | exact True.intro | (simp only [and_self, implies_true, true_and, and_true, forall_const, false_implies, true_implies, Bool.not_eq_true', imp_self, shaped, shapedL, kndOf, sndsS, sndS, inN]; done) | (simp only [and_self, implies_true, true_and, and_true, forall_const, false_implies, true_implies, Bool.not_eq_true', imp_self, shaped, shapedL, kndOf, sndsS, sndS, inN]; (repeat' (first | assumption | exact True.intro | omega | apply And.intro))) | ((repeat' (first | assumption | exact True.intro | omega | apply And.intro)))); done)))
      | fail)
    · have hne : xs ≠ ys := by rintro rfl; simp at hif
      apply At.endsRet tab_ok (fn := Try.f52) (rs := [.tmp 4]) Anc.refl hro (Nat.le_of_ble_eq_true rfl) rfl
      · simp only [push_cast, ↓Int.cast_ofNat_Int, ↓ofV_m1, ↓ofV_min, Nat.reduceAdd, Nat.reduceEqDiff, Nat.reduceLT, Nat.reduceMul, Nat.reduceLeDiff, reduceCtorEq, reduceIte, resV, resV1]; rfl
      · (first | trivial | (simp only [and_self]; done))
      · (repeat' (first | exact trivial | exact .same _ | exact .dead _ | exact .gone rfl | exact .loose | assumption | exact .arr (by assumption) | apply And.intro))
      · rfl
      · (first | exact trivial | (repeat' (first | exact trivial | exact rfl | assumption | exact prS_stable _ | exact i64S_stable _ | exact sndsS_stable _ | exact insS_stable _ | exact sndS_stable _ | exact hst _ _ | exact hst1 _ _ | exact hst2 _ _ | apply Stable.ite | apply And.intro | intro _ | (simp only [Stable, StableL, i64S, prS, insS, sndsS, sndS]; done))))
      · (repeat' (first | exact trivial | exact .inl rfl | exact .inr rfl | exact rfl | apply And.intro))
      · rw [eqL_false hne]; exact fun β => rfl
      · (first | exact trivial | (repeat' (first | exact trivial | exact rfl | assumption | exact prS_stable _ | exact i64S_stable _ | exact sndsS_stable _ | exact insS_stable _ | exact sndS_stable _ | exact hst _ _ | exact hst1 _ _ | exact hst2 _ _ | apply Stable.ite | apply And.intro | intro _ | (simp only [Stable, StableL, i64S, prS, insS, sndsS, sndS]; done))))
    · have hq : xs.getD j ⟨0, 0, 0⟩ = ys.getD j ⟨0, 0, 0⟩ := snd_ext (of_decide_eq_true hif.1) (of_decide_eq_true hif.2.1) (of_decide_eq_true hif.2.2)
      refine At.next (j + 1) ?_ ?_ ?_ rfl ?_ ?_ rfl
      · refine ⟨⟨by omega, fun q hq' => ?_⟩, by omega⟩; by_cases e : q = j; (rw [e]; exact hq); exact heq q (by omega)
      · ((repeat' (first | exact trivial | apply And.intro)) <;> (first | rfl | (simp only [look, cond_true, cond_false]; done)))
      · (repeat' (first | exact trivial | exact .same _ | exact .dead _ | exact .gone rfl | exact .loose | assumption | exact .arr (by assumption) | apply And.intro))
      · (first | exact trivial | (repeat' (first | exact trivial | exact rfl | assumption | exact prS_stable _ | exact i64S_stable _ | exact sndsS_stable _ | exact insS_stable _ | exact sndS_stable _ | exact hst _ _ | exact hst1 _ _ | exact hst2 _ _ | apply Stable.ite | apply And.intro | intro _ | (simp only [Stable, StableL, i64S, prS, insS, sndsS, sndS]; done))))
      · (first | exact trivial | (repeat' (first | exact trivial | exact rfl | assumption | exact prS_stable _ | exact i64S_stable _ | exact sndsS_stable _ | exact insS_stable _ | exact sndS_stable _ | exact hst _ _ | exact hst1 _ _ | exact hst2 _ _ | apply Stable.ite | apply And.intro | intro _ | (simp only [Stable, StableL, i64S, prS, insS, sndsS, sndS]; done))))
    · have hjn : j = xs.length := by omega
      subst hjn
      have he : xs = ys := ext_getD ⟨0, 0, 0⟩ hlen heq
      apply At.endsRet tab_ok (fn := Try.f52) (rs := [.tmp 4]) Anc.refl hro (Nat.le_of_ble_eq_true rfl) rfl
      · simp only [push_cast, ↓Int.cast_ofNat_Int, ↓ofV_m1, ↓ofV_min, Nat.reduceAdd, Nat.reduceEqDiff, Nat.reduceLT, Nat.reduceMul, Nat.reduceLeDiff, reduceCtorEq, reduceIte, resV, resV1]; rfl
      · (first | trivial | (simp only [and_self]; done))
      · (repeat' (first | exact trivial | exact .same _ | exact .dead _ | exact .gone rfl | exact .loose | assumption | exact .arr (by assumption) | apply And.intro))
      · rfl
      · (first | exact trivial | (repeat' (first | exact trivial | exact rfl | assumption | exact prS_stable _ | exact i64S_stable _ | exact sndsS_stable _ | exact insS_stable _ | exact sndS_stable _ | exact hst _ _ | exact hst1 _ _ | exact hst2 _ _ | apply Stable.ite | apply And.intro | intro _ | (simp only [Stable, StableL, i64S, prS, insS, sndsS, sndS]; done))))
      · (repeat' (first | exact trivial | exact .inl rfl | exact .inr rfl | exact rfl | apply And.intro))
      · rw [eqL_true he]; exact fun β => rfl
      · (first | exact trivial | (repeat' (first | exact trivial | exact rfl | assumption | exact prS_stable _ | exact i64S_stable _ | exact sndsS_stable _ | exact insS_stable _ | exact sndS_stable _ | exact hst _ _ | exact hst1 _ _ | exact hst2 _ _ | apply Stable.ite | apply And.intro | intro _ | (simp only [Stable, StableL, i64S, prS, insS, sndsS, sndS]; done))))
def sEqSnd : Spec := fun args h m => match args with
  | [v1, v2] => match srcV h 3 (.tup []) v1, srcV h 3 (.tup []) v2 with
    | some (c1, n1, f1, r1), some (c2, n2, f2, r2) => some (c1 ∧ c2 ∧ (∀ q, q < n1 → isSnd (f1 q) = true) ∧ (∀ q, q < n2 → isSnd (f2 q) = true) ∧ ((ls sndOf n1 f1).length ≤ 281474976710656), .bool (eqL (ls sndOf n1 f1) (ls sndOf n2 f2)), r1 ++ r2, [])
    | _, _ => none
  | _ => none
theorem sEqSnd_ok : CallOk Try.prog 52 sEqSnd := by
  refine ⟨named_spec (by kernel_rfl), fun args h m c v rd wr hs hm hc w0 M β h' w R hrd hwr hst => ?_⟩
  unfold sEqSnd at hs
  split at hs
  · rename_i v1 v2
    split at hs
    · rename_i c1 n1 f1 r1 c2 n2 f2 r2 a1 a2
      simp only [Option.some.injEq, Prod.mk.injEq] at hs
      obtain ⟨rfl, rfl, rfl, rfl⟩ := hs
      obtain ⟨k1, k2, g1, g2, y1⟩ := hc
      obtain ⟨A1, p1, d1, e1, t1⟩ := reads_src R a1 k1 (fun i hi => hrd i (List.mem_append_left _ hi)) (by omega)
      obtain ⟨A2, p2, d2, e2, t2⟩ := reads_src R a2 k2 (fun i hi => hrd i (List.mem_append_right _ hi)) (by omega)
      refine callRo (views := [⟨3, (ls sndOf n1 f1).length, sndsS (ls sndOf n1 f1), A1, p1⟩, ⟨3, (ls sndOf n2 f2).length, sndsS (ls sndOf n2 f2), A2, p2⟩]) (eqSnd_lit (ls sndOf n1 f1) (ls sndOf n2 f2) p1 p2 y1) ?_ R hm hwr ?_ ?_ ?_
      · intro x hx
        simp only [List.mem_cons, List.not_mem_nil, or_false] at hx
        rcases hx with rfl | rfl
        · exact viewSnd t1 e1 g1
        · exact viewSnd t2 e2 g2
      · intro β1 hv
        simp only [Vd, ls_length, and_true] at hv
        obtain ⟨z1, z2⟩ := hv
        simp only [denL, aggDen, intDen, natDen, boolDen, ls_length, z1, z2, d1, d2]
      · (first | exact trivial | (repeat' (first | exact trivial | exact rfl | assumption | exact prS_stable _ | exact i64S_stable _ | exact sndsS_stable _ | exact insS_stable _ | exact sndS_stable _ | exact hst _ _ | exact hst1 _ _ | exact hst2 _ _ | apply Stable.ite | apply And.intro | intro _ | (simp only [Stable, StableL, i64S, prS, insS, sndsS, sndS]; done))))
      · (first | exact trivial | (repeat' (first | exact trivial | exact rfl | assumption | exact prS_stable _ | exact i64S_stable _ | exact sndsS_stable _ | exact insS_stable _ | exact sndS_stable _ | exact hst _ _ | exact hst1 _ _ | exact hst2 _ _ | apply Stable.ite | apply And.intro | intro _ | (simp only [Stable, StableL, i64S, prS, insS, sndsS, sndS]; done))))
    · cases hs
  · cases hs

def idxI (xs : List Int) (v : Int) : Int := if v ∈ xs then (xs.idxOf v : Int) else -1
theorem idx_at {xs : List Int} {v : Int} {j : Nat} (hj : j < xs.length) (h : ∀ q, q < j → xs.getD q 0 ≠ v) (hv : v = xs.getD j 0) : idxI xs v = j := by
  have hm : v ∈ xs := by rw [hv, List.getD_eq_getElem?_getD, List.getElem?_eq_getElem hj]; exact List.getElem_mem hj
  unfold idxI
  rw [if_pos hm]
  congr 1
  have key : ∀ (l : List Int) (j : Nat), j < l.length → (∀ q, q < j → l.getD q 0 ≠ v) → v = l.getD j 0 → l.idxOf v = j := by
    intro l
    induction l with
    | nil => intro j hj; simp at hj
    | cons a l ih =>
      intro j hj hne he
      cases j with
      | zero => simp at he; simp [he]
      | succ j =>
        have h0 := hne 0 (by omega)
        simp at h0
        rw [List.idxOf_cons]
        have : (a == v) = false := by simpa using h0
        rw [this, cond_false, ih j (by simpa using hj) (fun q hq => by simpa using hne (q + 1) (by omega)) (by simpa using he)]
  exact key xs j hj h hv
theorem idx_none {xs : List Int} {v : Int} (h : ∀ q, q < xs.length → xs.getD q 0 ≠ v) : idxI xs v = -1 := by
  unfold idxI
  rw [if_neg]
  intro hm
  obtain ⟨q, hq, e⟩ := List.getElem_of_mem hm
  exact h q hq (by rw [List.getD_eq_getElem?_getD, List.getElem?_eq_getElem hq]; exact e)
theorem idx_nonneg {xs : List Int} {v : Int} : 0 ≤ idxI xs v ↔ v ∈ xs := by
  unfold idxI
  split
  · rename_i h; exact ⟨fun _ => h, fun _ => by omega⟩
  · rename_i h; exact ⟨fun h' => by omega, fun h' => absurd h' h⟩
theorem idx_lit (xs : List Int) (v : Int) (p1 : Nat) (hx : xs.length ≤ 281474976710656) : LitOk Try.prog 84 [.sl 1 2 [] 1 0 xs.length (some p1), .int .i64 v] [.gone, .gone, .ro (.arr xs.length 1 (i64S xs))] (.int .i64 (idxI xs v)) [.gone] := by
  refine litOkM (fn := Try.f84) 3 19 0 rfl rfl rfl rfl rfl (by simp only [StableL, Stable, hp]; simp [HB.born]) rfl fun w0 M E hro => ?_
  repeat' (first
    | with_reducible (first | apply WF.seq | refine At.code ?_ | apply At.thenNormal | apply At.thenRet | apply At.thenExit | apply At.thenGoto | apply At.inNormal | apply At.inRet | apply At.inGoto | apply At.inHit | apply At.noGotoNormal | apply At.noGotoRet | apply At.noGotoExit | apply WF.skip | apply WF.ret | apply WF.exit | apply WF.goto | apply WF.label | apply WF.block | apply WF.scope)
    | ((with_reducible apply At.inMiss); · rfl)
    | ((with_reducible intro hif); first | (focus (cases hif; done)) | (simp only [Bool.not_eq_true', Bool.not_eq_false', decide_eq_true_eq, decide_eq_false_iff_not, Bool.and_eq_true, Bool.or_eq_true] at hif; try (exfalso; omega)) | (try (exfalso; omega)))
    | ((first | ((with_reducible apply WF.region c1_ok tab_ok); · rfl) | ((with_reducible apply WF.drawn fol c1_ok tab_ok); · rfl) | with_reducible apply WF.cond)
       · simp only [push_cast, ↓Int.cast_ofNat_Int, ↓ofV_m1, ↓ofV_min, Nat.reduceAdd, Nat.reduceEqDiff, Nat.reduceLT, Nat.reduceMul, Nat.reduceLeDiff, reduceCtorEq, reduceIte]; rfl
       try kernel_rfl
       try (focus ((first | exact True.intro | (simp only [and_self, implies_true, true_and, and_true, forall_const, false_implies, true_implies, Bool.not_eq_true', imp_self, shaped, shapedL, kndOf]; done) | (simp only [and_self, implies_true, true_and, and_true, forall_const, false_implies, true_implies, Bool.not_eq_true', imp_self, shaped, shapedL, kndOf]; (repeat' (first | assumption | exact True.intro | omega | apply And.intro))) | ((repeat' (first | assumption | exact True.intro | omega | apply And.intro)))); done)))
    | fail)
  refine WF.loopAt (fun j => j ≤ xs.length ∧ ∀ q, q < j → xs.getD q 0 ≠ v) (fun j => [(0, .sl 1 2 [] 1 0 xs.length (some p1)), (1, .int .i64 v), (7, .nat .i64 xs.length), (8, .nat .i64 j)]) (fun j => [.gone, .gone, .ro (.arr xs.length 1 (i64S xs))]) (fun j => xs.length - j) 0 ⟨Nat.zero_le _, fun q hq => absurd hq (Nat.not_lt_zero q)⟩ ?_ ?_ rfl ?_ ?_ rfl ?_
  · ((repeat' (first | exact trivial | apply And.intro)) <;> (first | rfl | (simp only [look, cond_true, cond_false]; done)))
  · (repeat' (first | exact trivial | exact .same _ | exact .dead _ | exact .gone rfl | exact .loose | assumption | exact .arr (by assumption) | apply And.intro))
  · (first | exact trivial | (repeat' (first | exact trivial | exact rfl | assumption | exact prS_stable _ | exact i64S_stable _ | exact sndsS_stable _ | exact insS_stable _ | exact sndS_stable _ | exact hst _ _ | exact hst1 _ _ | exact hst2 _ _ | apply Stable.ite | apply And.intro | intro _ | (simp only [Stable, StableL, i64S, prS, insS, sndsS, sndS]; done))))
  · (first | exact trivial | (repeat' (first | exact trivial | exact rfl | assumption | exact prS_stable _ | exact i64S_stable _ | exact sndsS_stable _ | exact insS_stable _ | exact sndS_stable _ | exact hst _ _ | exact hst1 _ _ | exact hst2 _ _ | apply Stable.ite | apply And.intro | intro _ | (simp only [Stable, StableL, i64S, prS, insS, sndsS, sndS]; done))))
  rintro j ⟨hj, heq⟩
  repeat' (first
    | with_reducible (first | apply WF.seq | refine At.code ?_ | apply At.thenNormal | apply At.thenRet | apply At.thenExit | apply At.thenGoto | apply At.inNormal | apply At.inRet | apply At.inGoto | apply At.inHit | apply At.noGotoNormal | apply At.noGotoRet | apply At.noGotoExit | apply WF.skip | apply WF.ret | apply WF.exit | apply WF.goto | apply WF.label | apply WF.block | apply WF.scope)
    | ((with_reducible apply At.inMiss); · rfl)
    | ((with_reducible intro hif); first | (focus (cases hif; done)) | (simp only [Bool.not_eq_true', Bool.not_eq_false', decide_eq_true_eq, decide_eq_false_iff_not, Bool.and_eq_true, Bool.or_eq_true] at hif; try (exfalso; omega)) | (try (exfalso; omega)))
    | ((first | ((with_reducible apply WF.region c1_ok tab_ok); · rfl) | ((with_reducible apply WF.drawn fol c1_ok tab_ok); · rfl) | with_reducible apply WF.cond)
       · simp only [push_cast, ↓Int.cast_ofNat_Int, ↓ofV_m1, ↓ofV_min, Nat.reduceAdd, Nat.reduceEqDiff, Nat.reduceLT, Nat.reduceMul, Nat.reduceLeDiff, reduceCtorEq, reduceIte, i64S, inN]; rfl
       try kernel_rfl
       try (focus ((first | exact True.intro | (simp only [and_self, implies_true, true_and, and_true, forall_const, false_implies, true_implies, Bool.not_eq_true', imp_self, shaped, shapedL, kndOf, i64S, inN]; done) | (simp only [and_self, implies_true, true_and, and_true, forall_const, false_implies, true_implies, Bool.not_eq_true', imp_self, shaped, shapedL, kndOf, i64S, inN]; (repeat' (first | assumption | exact True.intro | omega | apply And.intro))) | ((repeat' (first | assumption | exact True.intro | omega | apply And.intro)))); done)))
    | fail)
  · rename_i hjl
    apply At.endsRet tab_ok (fn := Try.f84) (rs := [.tmp 4]) Anc.refl hro (Nat.le_of_ble_eq_true rfl) rfl
    · simp only [push_cast, ↓Int.cast_ofNat_Int, ↓ofV_m1, ↓ofV_min, Nat.reduceAdd, Nat.reduceEqDiff, Nat.reduceLT, Nat.reduceMul, Nat.reduceLeDiff, reduceCtorEq, reduceIte, resV, resV1]; rfl
    · (first | trivial | (simp only [and_self]; done))
    · (repeat' (first | exact trivial | exact .same _ | exact .dead _ | exact .gone rfl | exact .loose | assumption | exact .arr (by assumption) | apply And.intro))
    · rfl
    · (first | exact trivial | (repeat' (first | exact trivial | exact rfl | assumption | exact prS_stable _ | exact i64S_stable _ | exact sndsS_stable _ | exact insS_stable _ | exact sndS_stable _ | exact hst _ _ | exact hst1 _ _ | exact hst2 _ _ | apply Stable.ite | apply And.intro | intro _ | (simp only [Stable, StableL, i64S, prS, insS, sndsS, sndS]; done))))
    · (repeat' (first | exact trivial | exact .inl rfl | exact .inr rfl | exact rfl | apply And.intro))
    · rw [idx_at hjl heq hif]; exact fun β => rfl
    · (first | exact trivial | (repeat' (first | exact trivial | exact rfl | assumption | exact prS_stable _ | exact i64S_stable _ | exact sndsS_stable _ | exact insS_stable _ | exact sndS_stable _ | exact hst _ _ | exact hst1 _ _ | exact hst2 _ _ | apply Stable.ite | apply And.intro | intro _ | (simp only [Stable, StableL, i64S, prS, insS, sndsS, sndS]; done))))
  · refine At.next (j + 1) ?_ ?_ ?_ rfl ?_ ?_ rfl
    · refine ⟨⟨by omega, fun q hq' => ?_⟩, by omega⟩; by_cases e : q = j; (rw [e]; exact fun e => hif e.symm); exact heq q (by omega)
    · ((repeat' (first | exact trivial | apply And.intro)) <;> (first | rfl | (simp only [look, cond_true, cond_false]; done)))
    · (repeat' (first | exact trivial | exact .same _ | exact .dead _ | exact .gone rfl | exact .loose | assumption | exact .arr (by assumption) | apply And.intro))
    · (first | exact trivial | (repeat' (first | exact trivial | exact rfl | assumption | exact prS_stable _ | exact i64S_stable _ | exact sndsS_stable _ | exact insS_stable _ | exact sndS_stable _ | exact hst _ _ | exact hst1 _ _ | exact hst2 _ _ | apply Stable.ite | apply And.intro | intro _ | (simp only [Stable, StableL, i64S, prS, insS, sndsS, sndS]; done))))
    · (first | exact trivial | (repeat' (first | exact trivial | exact rfl | assumption | exact prS_stable _ | exact i64S_stable _ | exact sndsS_stable _ | exact insS_stable _ | exact sndS_stable _ | exact hst _ _ | exact hst1 _ _ | exact hst2 _ _ | apply Stable.ite | apply And.intro | intro _ | (simp only [Stable, StableL, i64S, prS, insS, sndsS, sndS]; done))))
  · have hjn : j = xs.length := by omega
    subst hjn
    apply At.endsRet tab_ok (fn := Try.f84) (rs := [.tmp 4]) Anc.refl hro (Nat.le_of_ble_eq_true rfl) rfl
    · simp only [push_cast, ↓Int.cast_ofNat_Int, ↓ofV_m1, ↓ofV_min, Nat.reduceAdd, Nat.reduceEqDiff, Nat.reduceLT, Nat.reduceMul, Nat.reduceLeDiff, reduceCtorEq, reduceIte, resV, resV1]; rfl
    · (first | trivial | (simp only [and_self]; done))
    · (repeat' (first | exact trivial | exact .same _ | exact .dead _ | exact .gone rfl | exact .loose | assumption | exact .arr (by assumption) | apply And.intro))
    · rfl
    · (first | exact trivial | (repeat' (first | exact trivial | exact rfl | assumption | exact prS_stable _ | exact i64S_stable _ | exact sndsS_stable _ | exact insS_stable _ | exact sndS_stable _ | exact hst _ _ | exact hst1 _ _ | exact hst2 _ _ | apply Stable.ite | apply And.intro | intro _ | (simp only [Stable, StableL, i64S, prS, insS, sndsS, sndS]; done))))
    · (repeat' (first | exact trivial | exact .inl rfl | exact .inr rfl | exact rfl | apply And.intro))
    · rw [idx_none heq]; exact fun β => rfl
    · (first | exact trivial | (repeat' (first | exact trivial | exact rfl | assumption | exact prS_stable _ | exact i64S_stable _ | exact sndsS_stable _ | exact insS_stable _ | exact sndS_stable _ | exact hst _ _ | exact hst1 _ _ | exact hst2 _ _ | apply Stable.ite | apply And.intro | intro _ | (simp only [Stable, StableL, i64S, prS, insS, sndsS, sndS]; done))))
def sIdx : Spec := fun args h m => match args with
  | [v1, v2] => match srcV h 1 (.tup []) v1 with
    | some (c1, n1, f1, r1) => bif isI .i64 v2 then some (c1 ∧ (∀ q, q < n1 → isI .i64 (f1 q) = true) ∧ ((ls iOf n1 f1).length ≤ 281474976710656), .int .i64 (idxI (ls iOf n1 f1) (iOf v2)), r1, []) else none
    | _ => none
  | _ => none
theorem sIdx_ok : CallOk Try.prog 84 sIdx := by
  refine ⟨named_spec (by kernel_rfl), fun args h m c v rd wr hs hm hc w0 M β h' w R hrd hwr hst => ?_⟩
  unfold sIdx at hs
  split at hs
  · rename_i v1 v2
    split at hs
    · rename_i c1 n1 f1 r1 a1
      obtain ⟨hb, hs⟩ := bif_some hs
      simp only [Option.some.injEq, Prod.mk.injEq] at hs
      obtain ⟨rfl, rfl, rfl, rfl⟩ := hs
      have b2 := hb
      obtain ⟨k1, g1, y1⟩ := hc
      obtain ⟨A1, p1, d1, e1, t1⟩ := reads_src R a1 k1 (fun i hi => hrd i hi) (by omega)
      refine callRo (views := [⟨1, (ls iOf n1 f1).length, i64S (ls iOf n1 f1), A1, p1⟩]) (idx_lit (ls iOf n1 f1) (iOf v2) p1 y1) ?_ R hm hwr ?_ ?_ ?_
      · intro x hx
        simp only [List.mem_cons, List.not_mem_nil, or_false] at hx
        subst hx
        · exact viewI64 t1 e1 g1
      · intro β1 hv
        simp only [Vd, ls_length, and_true] at hv
        have z1 := hv
        simp only [denL, aggDen, intDen, natDen, boolDen, ls_length, z1, d1, isI_den b2]
      · (first | exact trivial | (repeat' (first | exact trivial | exact rfl | assumption | exact prS_stable _ | exact i64S_stable _ | exact sndsS_stable _ | exact insS_stable _ | exact sndS_stable _ | exact hst _ _ | exact hst1 _ _ | exact hst2 _ _ | apply Stable.ite | apply And.intro | intro _ | (simp only [Stable, StableL, i64S, prS, insS, sndsS, sndS]; done))))
      · (first | exact trivial | (repeat' (first | exact trivial | exact rfl | assumption | exact prS_stable _ | exact i64S_stable _ | exact sndsS_stable _ | exact insS_stable _ | exact sndS_stable _ | exact hst _ _ | exact hst1 _ _ | exact hst2 _ _ | apply Stable.ite | apply And.intro | intro _ | (simp only [Stable, StableL, i64S, prS, insS, sndsS, sndS]; done))))
    · cases hs
  · cases hs
def cIdx : FuncId → Option Spec := look2 [(84, sIdx)]
theorem cIdx_ok : ∀ f S, cIdx f = some S → CallOk Try.prog f S := allOk_spec ⟨sIdx_ok, trivial⟩
theorem isI_int (k k' : IntKind) (n : Int) : isI k (.int k' n) = keq k k' := rfl
theorem isI_nat (k k' : IntKind) (n : Nat) : isI k (.nat k' n) = keq k k' := rfl
theorem ls_i64S (l : List Int) : ls iOf l.length (i64S l) = l := ls_of (g := iOf) (e := fun x => .int .i64 x) (fun _ => rfl) l 0
theorem ls_i64S' (l : List Int) : ls iOf l.length (fun q => i64S l q) = l := ls_i64S l
theorem ls_prS (l : List Ins) : ls insOf l.length (prS l) = l := ls_of insOf_insS l _
theorem ls_prS' (l : List Ins) : ls insOf l.length (fun q => prS l q) = l := ls_prS l
theorem ls_sndsS (l : List Snd) : ls sndOf l.length (sndsS l) = l := ls_of sndOf_sndS l _
theorem ls_sndsS' (l : List Snd) : ls sndOf l.length (fun q => sndsS l q) = l := ls_sndsS l
theorem cont_lit (xs : List Int) (v : Int) (p1 : Nat) (hx : xs.length ≤ 281474976710656) : LitOk Try.prog 38 [.sl 1 2 [] 1 0 xs.length (some p1), .int .i64 v] [.gone, .gone, .ro (.arr xs.length 1 (i64S xs))] (.bool (decide (v ∈ xs))) [.gone] := by
  refine litOkM (fn := Try.f38) 3 9 0 rfl rfl rfl rfl rfl (by simp only [StableL, Stable, hp]; simp [HB.born]) rfl fun w0 M E hro => ?_
  repeat' (first
    | with_reducible (first | apply WF.seq | refine At.code ?_ | apply At.thenNormal | apply At.thenRet | apply At.thenExit | apply At.thenGoto | apply At.inNormal | apply At.inRet | apply At.inGoto | apply At.inHit | apply At.noGotoNormal | apply At.noGotoRet | apply At.noGotoExit | apply WF.skip | apply WF.ret | apply WF.exit | apply WF.goto | apply WF.label | apply WF.block | apply WF.scope)
    | ((with_reducible apply At.inMiss); · rfl)
    | ((with_reducible intro hif); first | (focus (cases hif; done)) | (simp only [Bool.not_eq_true', Bool.not_eq_false', decide_eq_true_eq, decide_eq_false_iff_not, Bool.and_eq_true, Bool.or_eq_true] at hif; try (exfalso; omega)) | (try (exfalso; omega)))
    | ((first | ((with_reducible apply WF.region cIdx_ok tab_ok); · rfl) | ((with_reducible apply WF.drawn fol cIdx_ok tab_ok); · rfl) | with_reducible apply WF.cond)
       · simp only [push_cast, ↓Int.cast_ofNat_Int, ↓ofV_m1, ↓ofV_min, Nat.reduceAdd, Nat.reduceEqDiff, Nat.reduceLT, Nat.reduceMul, Nat.reduceLeDiff, reduceCtorEq, reduceIte, cIdx, sIdx, isI_int, isI_nat, iOf, ls_i64S, ls_i64S']; rfl
       try kernel_rfl
       try (focus ((first | exact True.intro | (simp only [and_self, implies_true, true_and, and_true, forall_const, false_implies, true_implies, Bool.not_eq_true', imp_self, shaped, shapedL, kndOf, cIdx, sIdx, isI_int, isI_nat, iOf, ls_i64S, ls_i64S']; done) | (simp only [and_self, implies_true, true_and, and_true, forall_const, false_implies, true_implies, Bool.not_eq_true', imp_self, shaped, shapedL, kndOf, cIdx, sIdx, isI_int, isI_nat, iOf, ls_i64S, ls_i64S']; (first | exact ⟨fun q _ => rfl, hx⟩ | (repeat' (first | assumption | exact True.intro | omega | apply And.intro)))) | ((first | exact ⟨fun q _ => rfl, hx⟩ | (repeat' (first | assumption | exact True.intro | omega | apply And.intro))))); done)))
    | fail)
  apply At.endsRet tab_ok (fn := Try.f38) (rs := [.tmp 4]) Anc.refl hro (Nat.le_of_ble_eq_true rfl) rfl
  · simp only [push_cast, ↓Int.cast_ofNat_Int, ↓ofV_m1, ↓ofV_min, Nat.reduceAdd, Nat.reduceEqDiff, Nat.reduceLT, Nat.reduceMul, Nat.reduceLeDiff, reduceCtorEq, reduceIte, resV, resV1]; rfl
  · (first | trivial | (simp only [and_self]; done))
  · (repeat' (first | exact trivial | exact .same _ | exact .dead _ | exact .gone rfl | exact .loose | assumption | exact .arr (by assumption) | apply And.intro))
  · rfl
  · (first | exact trivial | (repeat' (first | exact trivial | exact rfl | assumption | exact prS_stable _ | exact i64S_stable _ | exact sndsS_stable _ | exact insS_stable _ | exact sndS_stable _ | exact hst _ _ | exact hst1 _ _ | exact hst2 _ _ | apply Stable.ite | apply And.intro | intro _ | (simp only [Stable, StableL, i64S, prS, insS, sndsS, sndS]; done))))
  · (repeat' (first | exact trivial | exact .inl rfl | exact .inr rfl | exact rfl | apply And.intro))
  · intro β; simp [resS, SV.den, idx_nonneg]
  · (first | exact trivial | (repeat' (first | exact trivial | exact rfl | assumption | exact prS_stable _ | exact i64S_stable _ | exact sndsS_stable _ | exact insS_stable _ | exact sndS_stable _ | exact hst _ _ | exact hst1 _ _ | exact hst2 _ _ | apply Stable.ite | apply And.intro | intro _ | (simp only [Stable, StableL, i64S, prS, insS, sndsS, sndS]; done))))
def sCont : Spec := fun args h m => match args with
  | [v1, v2] => match srcV h 1 (.tup []) v1 with
    | some (c1, n1, f1, r1) => bif isI .i64 v2 then some (c1 ∧ (∀ q, q < n1 → isI .i64 (f1 q) = true) ∧ ((ls iOf n1 f1).length ≤ 281474976710656), .bool (decide ((iOf v2) ∈ (ls iOf n1 f1))), r1, []) else none
    | _ => none
  | _ => none
theorem sCont_ok : CallOk Try.prog 38 sCont := by
  refine ⟨named_spec (by kernel_rfl), fun args h m c v rd wr hs hm hc w0 M β h' w R hrd hwr hst => ?_⟩
  unfold sCont at hs
  split at hs
  · rename_i v1 v2
    split at hs
    · rename_i c1 n1 f1 r1 a1
      obtain ⟨hb, hs⟩ := bif_some hs
      simp only [Option.some.injEq, Prod.mk.injEq] at hs
      obtain ⟨rfl, rfl, rfl, rfl⟩ := hs
      have b2 := hb
      obtain ⟨k1, g1, y1⟩ := hc
      obtain ⟨A1, p1, d1, e1, t1⟩ := reads_src R a1 k1 (fun i hi => hrd i hi) (by omega)
      refine callRo (views := [⟨1, (ls iOf n1 f1).length, i64S (ls iOf n1 f1), A1, p1⟩]) (cont_lit (ls iOf n1 f1) (iOf v2) p1 y1) ?_ R hm hwr ?_ ?_ ?_
      · intro x hx
        simp only [List.mem_cons, List.not_mem_nil, or_false] at hx
        subst hx
        · exact viewI64 t1 e1 g1
      · intro β1 hv
        simp only [Vd, ls_length, and_true] at hv
        have z1 := hv
        simp only [denL, aggDen, intDen, natDen, boolDen, ls_length, z1, d1, isI_den b2]
      · (first | exact trivial | (repeat' (first | exact trivial | exact rfl | assumption | exact prS_stable _ | exact i64S_stable _ | exact sndsS_stable _ | exact insS_stable _ | exact sndS_stable _ | exact hst _ _ | exact hst1 _ _ | exact hst2 _ _ | apply Stable.ite | apply And.intro | intro _ | (simp only [Stable, StableL, i64S, prS, insS, sndsS, sndS]; done))))
      · (first | exact trivial | (repeat' (first | exact trivial | exact rfl | assumption | exact prS_stable _ | exact i64S_stable _ | exact sndsS_stable _ | exact insS_stable _ | exact sndS_stable _ | exact hst _ _ | exact hst1 _ _ | exact hst2 _ _ | apply Stable.ite | apply And.intro | intro _ | (simp only [Stable, StableL, i64S, prS, insS, sndsS, sndS]; done))))
    · cases hs
  · cases hs
end Go.Proofs.Ytmljmabbopkpiaa.Vm
end

section
/- Calls of functions that only read what the caller has: closures, pointers, slices of it; what they make may lead to it. -/
namespace Go.Proofs.Ytmljmabbopkpiaa.Vm
open Go.RowKit
set_option linter.unusedVariables false
set_option linter.unusedSimpArgs false
set_option maxRecDepth 100000

def rhoL (l : List Nat) (m : Nat) : Nat → Nat := fun i => if i < l.length then l.getD i 0 else m + (i - l.length)
def noMine : List HB → Bool
  | [] => true
  | b :: l => !b.mine && noMine l
theorem noMine_spec : ∀ {L : List HB}, noMine L = true → ∀ i, (hp L i).mine = false
  | [], _, i => by unfold hp; simp [HB.mine]
  | b :: l, h, 0 => by
    simp only [noMine, Bool.and_eq_true, Bool.not_eq_true'] at h
    exact h.1
  | b :: l, h, i + 1 => by
    simp only [noMine, Bool.and_eq_true] at h
    have := noMine_spec h.2 i
    unfold hp at this ⊢
    simpa using this
def FitL (ρ : Nat → Nat) (h : HM) : List HB → List Nat → Prop
  | [], _ => True
  | b :: l, n => match n with
    | j :: n => Fit ρ b (h j) ∧ FitL ρ h l n
    | [] => False
theorem fitL_get {ρ : Nat → Nat} {h : HM} : ∀ {L : List HB} {l : List Nat}, FitL ρ h L l → ∀ i, i < L.length → Fit ρ (hp L i) (h (l.getD i 0))
  | [], l, _, i, hi => by simp at hi
  | b :: L, [], hf, _, _ => by exact hf.elim
  | b :: L, j :: l, hf, 0, _ => hf.1
  | b :: L, j :: l, hf, i + 1, hi => by
    have := fitL_get hf.2 i (by simpa using hi)
    unfold hp at this ⊢
    simpa using this
/-- what a call has, and what it makes -/
def hG (n0 : Nat) (L0 L1 : List HB) : HM := fun i => if i < n0 then hp L0 i else hp L1 i
theorem laid_ro {L0 L1 : List HB} {h : HM} {l : List Nat} {m : Nat} {v : SV} (hlen : l.length = L0.length) (hpos : 0 < L0.length) (h00 : l.getD 0 0 = 0) (hz : hp L0 0 = .gone) (hno : noMine L0 = true) (hfit : FitL (rhoL l m) h L0 l) (hm : ∀ i, m ≤ i → i < m + (L1.length - L0.length) → h i = .dead) (hle : L0.length ≤ L1.length)
    (hst0 : StableH (hp L0) L0) (hstb : ∀ j, (h j).stable h) (hnew : NewL (hG L0.length L0 L1) (L1.drop L0.length)) (hv : Stable (hG L0.length L0 L1) v) :
    Laid L0 L1 h (wrs h (newB (rhoL l m) m (L1.drop L0.length))) (rhoL l m) m v := by
  obtain ⟨k, hk⟩ : ∃ k, k = L1.length - L0.length := ⟨_, rfl⟩
  have hdl : (L1.drop L0.length).length = k := by rw [List.length_drop, hk]
  have hrl : ∀ i, i < L0.length → rhoL l m i = l.getD i 0 := fun i hi => if_pos (by omega)
  have hrn : ∀ i, L0.length ≤ i → rhoL l m i = m + (i - L0.length) := fun i hi => by
    unfold rhoL; rw [if_neg (by omega), hlen]
  have hmin := noMine_spec hno
  have hget : ∀ j, m ≤ j → (L1.drop L0.length).getD (j - m) .dead = hp L1 (L0.length + (j - m)) := fun j hj => by
    unfold hp
    rw [List.getD_eq_getElem?_getD, List.getD_eq_getElem?_getD, List.getElem?_drop]
  have hnewj : ∀ j, m ≤ j → j < m + k → wrs h (newB (rhoL l m) m (L1.drop L0.length)) j = (hp L1 (L0.length + (j - m))).ren (rhoL l m) := fun j h1 h3 => by
    rw [wrs_newB, if_pos ⟨h1, by omega⟩, hget j h1]
  have holdj : ∀ j, ¬ (m ≤ j ∧ j < m + k) → wrs h (newB (rhoL l m) m (L1.drop L0.length)) j = h j := fun j hj => by
    rw [wrs_newB, if_neg (by rw [hdl]; exact hj)]
  have bornold : ∀ j, (h j).born = true → ¬ (m ≤ j ∧ j < m + k) := fun j hj hc => by
    rw [hm j hc.1 (by omega)] at hj; cases hj
  have more : ∀ i, (h i).born = true → (wrs h (newB (rhoL l m) m (L1.drop L0.length)) i).born = true := fun i hi => by rw [holdj i (bornold i hi)]; exact hi
  have hfit' : ∀ i, i < L0.length → Fit (rhoL l m) (hp L0 i) (h (rhoL l m i)) := fun i hi => by rw [hrl i hi]; exact fitL_get hfit i hi
  have moreG : ∀ i, (hG L0.length L0 L1 i).born = true → (wrs h (newB (rhoL l m) m (L1.drop L0.length)) (rhoL l m i)).born = true := fun i hi => by
    unfold hG at hi
    split at hi
    · rename_i hlt
      exact more _ (hfit' i hlt).born
    · rename_i hge
      have hlt : i < L1.length := by
        rcases Nat.lt_or_ge i L1.length with h' | h'
        · exact h'
        · rw [hp_dead h'] at hi; cases hi
      rw [hrn i (by omega), hnewj _ (by omega) (by omega), show L0.length + (m + (i - L0.length) - m) = i by omega]
      cases hh : hp L1 i <;> rw [hh] at hi <;> first | rfl | (cases hi; done)
  have hnewS := newL_spec hnew
  refine { z := by rw [hrl 0 hpos, h00], z0 := hz, new := fun i hi => hrn i hi, pre := hfit', inj := fun i j hi hj hne hmi => absurd hmi (by rw [hmin i]; exact Bool.false_ne_true), img := fun i hi hmi => absurd hmi (by rw [hmin i]; exact Bool.false_ne_true), old := fun j hj _ => holdj j (bornold j hj), fresh := fun j hj => ?_, un := fun i hi hb => ?_, st0 := stableH_spec hst0, st2 := fun j => ?_, stv := hv.ren moreG }
  · by_cases hc : m ≤ j ∧ j < m + k
    · exact .inr ⟨hc.1, hnewj j hc.1 hc.2, (hnewS _ (by omega)).2⟩
    · left
      rw [holdj j hc]
      cases hh : h j <;> rw [hh] at hj <;> first | rfl | (cases hj; done)
  · have hlt : i < L1.length := by
      rcases Nat.lt_or_ge i L1.length with h' | h'
      · exact h'
      · rw [hp_dead h'] at hb; cases hb
    rw [hrn i hi, hm _ (by omega) (by omega)]
    rfl
  · by_cases hc : m ≤ j ∧ j < m + k
    · rw [hnewj j hc.1 hc.2]
      have hs := (hnewS (L0.length + (j - m)) (by omega)).1
      cases hh : hp L1 (L0.length + (j - m)) with
      | own t u ex => rw [hh] at hs; exact Stable.ren moreG hs
      | ro u => rw [hh] at hs; exact Stable.ren moreG hs
      | raw o => trivial
      | gone => trivial
      | dead => trivial
    · rw [holdj j hc]
      have : (h j).stable h := hstb j
      exact HB.stable_more this more
theorem callG {P : Program} {f : FuncId} {args : List SV} {L0 L1 : List HB} {v : SV} {w0 w : World} {M : Nat → Prop} {β : Env} {h h' : HM} {m : Nat} (l : List Nat) (H : LitOk P f args L0 v L1) (R : Rep w0 M β h' w) (hlen : l.length = L0.length) (hpos : 0 < L0.length) (h00 : l.getD 0 0 = 0) (hz : hp L0 0 = .gone) (hno : noMine L0 = true) (hfit : FitL (rhoL l m) h' L0 l)
    (hm : ∀ i, m ≤ i → h i = .dead) (hwr : ∀ p ∈ newB (rhoL l m) m (L1.drop L0.length), h' p.1 = h p.1) (hle : L0.length ≤ L1.length)
    (hst0 : StableH (hp L0) L0) (hsta : StableL (hp L0) args) (hnew : NewL (hG L0.length L0 L1) (L1.drop L0.length)) (hv : Stable (hG L0.length L0 L1) v) :
    Calls P f (denL β (renL (rhoL l m) args)).toArray w fun e w' => ∃ β', (∀ i, (h' i).born = true → β i = β' i) ∧ Rep w0 M β' (wrs h' (newB (rhoL l m) m (L1.drop L0.length))) w' ∧ Stable (wrs h' (newB (rhoL l m) m (L1.drop L0.length))) (v.ren (rhoL l m)) ∧ e = .returned ((v.ren (rhoL l m)).den β') :=
  call_lit H R (laid_ro hlen hpos h00 hz hno hfit (fun i hi hlt => by
    obtain ⟨b, hb⟩ := newB_mem (ρ := rhoL l m) (l := L1.drop L0.length) hi (by rw [List.length_drop]; exact hlt)
    exact (hwr _ hb).trans (hm i hi)) hle hst0 R.st hnew hv) hsta

/-! ### other numbers at the end -/
def sg (l : List Nat) : Nat → Nat := fun i => l.getD i 0
def PickL (σ : Nat → Nat) (h : HM) : List HB → List Nat → Prop
  | [], _ => True
  | b :: l, n => match n with
    | j :: n => (b = .gone ∨ Less (h j) (b.ren σ)) ∧ PickL σ h l n
    | [] => False
theorem pickL_get {σ : Nat → Nat} {h : HM} : ∀ {L : List HB} {l : List Nat}, PickL σ h L l → ∀ i, i < L.length → hp L i = .gone ∨ Less (h (l.getD i 0)) ((hp L i).ren σ)
  | [], l, _, i, hi => by simp at hi
  | b :: L, [], hf, _, _ => by exact hf.elim
  | b :: L, j :: l, hf, 0, _ => hf.1
  | b :: L, j :: l, hf, i + 1, hi => by
    have := pickL_get hf.2 i (by simpa using hi)
    unfold hp at this ⊢
    simpa using this
/-- the numbers of those that are the walk's own are all different -/
def injL : List HB → List Nat → List Nat → Bool
  | [], _, _ => true
  | b :: L, l, seen => match l with
    | j :: l => bif b.mine then !memN j seen && injL L l (j :: seen) else injL L l seen
    | [] => false
theorem injL_seen : ∀ {L : List HB} {l seen : List Nat}, injL L l seen = true → ∀ i, i < L.length → (hp L i).mine = true → l.getD i 0 ∉ seen
  | [], l, seen, _, i, hi, _ => by simp at hi
  | b :: L, [], seen, h, _, _, _ => by cases h
  | b :: L, j :: l, seen, h, i, hi, hm => by
    simp only [injL] at h
    cases i with
    | zero =>
      have hb : b.mine = true := hm
      rw [hb] at h
      simp only [cond_true, Bool.and_eq_true, Bool.not_eq_true'] at h
      intro hc
      have := memN_iff.2 hc
      simp only [List.getD_cons_zero] at this
      rw [h.1] at this
      cases this
    | succ i =>
      have hm' : (hp L i).mine = true := by unfold hp at hm ⊢; simpa using hm
      rw [List.getD_cons_succ]
      cases hb : b.mine with
      | false => rw [hb] at h; exact injL_seen h i (by simpa using hi) hm'
      | true =>
        rw [hb] at h
        simp only [cond_true, Bool.and_eq_true] at h
        exact fun hc => injL_seen h.2 i (by simpa using hi) hm' (.tail _ hc)
theorem injL_spec : ∀ {L : List HB} {l seen : List Nat}, injL L l seen = true → ∀ i j, i < j → j < L.length → (hp L i).mine = true → (hp L j).mine = true → l.getD i 0 ≠ l.getD j 0
  | [], l, seen, _, i, j, _, hj, _, _ => by simp at hj
  | b :: L, [], seen, h, _, _, _, _, _, _ => by cases h
  | b :: L, k :: l, seen, h, i, j, hij, hj, hi, hjm => by
    simp only [injL] at h
    obtain ⟨j, rfl⟩ : ∃ j', j = j' + 1 := ⟨j - 1, by omega⟩
    have hj' : j < L.length := by simpa using hj
    have hjm' : (hp L j).mine = true := by unfold hp at hjm ⊢; simpa using hjm
    rw [List.getD_cons_succ]
    cases i with
    | zero =>
      have hb : b.mine = true := hi
      rw [hb] at h
      simp only [cond_true, Bool.and_eq_true] at h
      rw [List.getD_cons_zero]
      exact fun e => injL_seen h.2 j hj' hjm' (by rw [← e]; exact .head _)
    | succ i =>
      have hi' : (hp L i).mine = true := by unfold hp at hi ⊢; simpa using hi
      rw [List.getD_cons_succ]
      cases hb : b.mine with
      | false => rw [hb] at h; exact injL_spec h i j (by omega) hj' hi' hjm'
      | true =>
        rw [hb] at h
        simp only [cond_true, Bool.and_eq_true] at h
        exact injL_spec h.2 i j (by omega) hj' hi' hjm'
theorem Rep.pick {w0 w : World} {M : Nat → Prop} {β : Env} {h : HM} {L : List HB} {l : List Nat} (R : Rep w0 M β h w) (h0 : l.getD 0 0 = 0) (hz : hp L 0 = .gone) (hp_ : PickL (sg l) h L l) (hi : injL L l [] = true) (hs : StableH (hp L) L) : Rep w0 M (fun i => β (sg l i)) (hp L) w := by
  have get : ∀ i, (hp L i) = .dead ∨ hp L i = .gone ∨ (i < L.length ∧ Less (h (sg l i)) ((hp L i).ren (sg l))) := fun i => by
    rcases Nat.lt_or_ge i L.length with hlt | hge
    · rcases pickL_get hp_ i hlt with e | e
      · exact .inr (.inl e)
      · exact .inr (.inr ⟨hlt, e⟩)
    · exact .inl (hp_dead hge)
  have mine : ∀ i, (hp L i).mine = true → i < L.length ∧ (h (sg l i)).mine = true := fun i hm => by
    rcases get i with e | e | ⟨hlt, e⟩
    · rw [e] at hm; cases hm
    · rw [e] at hm; cases hm
    · refine ⟨hlt, less_mine e ?_⟩
      cases hh : hp L i <;> rw [hh] at hm <;> first | rfl | (cases hm; done)
  refine { os := R.os, tape := R.tape, output := R.output, size := R.size, frame := R.frame, nil := ?_, nil0 := hz, st := stableH_spec hs, blk := fun i => ?_, own := fun i a hm ha => R.own _ a (mine i hm).2 ha, ro := fun i v a hv ha hzz => ?_, dist := fun i j ai aj hne hmi hmj hai haj => ?_, lt := fun i a hm ha => R.lt _ a (mine i hm).2 ha }
  · show β (l.getD 0 0) = _
    rw [h0]; exact R.nil
  · rcases get i with e | e | ⟨hlt, e⟩
    · rw [e]; trivial
    · rw [e]; trivial
    · have hB := R.blk (sg l i)
      exact holds_unren (β := fun i => β (sg l i)) (β' := β) (h := hp L) (ρ := sg l) (fun _ _ => rfl) (stableH_spec hs i) rfl (holds_less e hB)
  · rcases get i with e | e | ⟨hlt, e⟩
    · rw [e] at hv; cases hv
    · rw [e] at hv; cases hv
    · rw [hv] at e
      exact R.ro _ (v.ren (sg l)) a (less_ro e) ha (by rw [size_ren]; exact hzz)
  · have h1 := mine i hmi
    have h2 := mine j hmj
    refine R.dist _ _ ai aj ?_ h1.2 h2.2 hai haj
    rcases Nat.lt_or_ge i j with hlt | hge
    · exact injL_spec hi i j hlt h2.1 hmi hmj
    · exact fun e => injL_spec hi j i (by omega) h1.1 hmj hmi e.symm
def idTo (n : Nat) (l : List Nat) : Bool := (List.range n).all fun i => Nat.beq (l.getD i 0) i
section
variable {P : Program} {T : Tab} {w0 w1 : World} {M M1 : Nat → Prop} {E : Env} {n0 N n : Nat} {D1 : List Deferred} {φ : Fr} {L L2 : List HB}
/-- the end of a function, with other numbers -/
theorem At.endsPick (l : List Nat) (hT : TabOk P T) {fn : Func} {c : Prop} {vs : List SV} {v : SV} {rs : List ResultVar} {L0 : List HB} (A : Anc w0 M [] w1 M1 D1) (hro : RoOk w0 M E L0) (hL0 : L0.length ≤ n0) (hrs : fn.results.toList = rs) (hr : resV T φ (hp L) rs = some (c, vs)) (hc : c) (h00 : l.getD 0 0 = 0) (hz : hp L2 0 = .gone) (hid : idTo n0 l = true) (hpk : PickL (sg l) (hp L) L2 l) (hinj : injL L2 l [] = true) (hs : StableH (hp L2) L2) (hsub : RoSub L L0) (hv : ∀ β, (resS vs).den β = (v.ren (sg l)).den β) (hst : Stable (hp L2) v) :
    At w1 M1 E n0 N D1 φ L (EndsM n P fn w0 M E n0 v L2 .ret) := fun a w hS => by
  obtain ⟨⟨β, hE, R, F⟩, hbn, _, hd⟩ := hS
  subst hrs
  have R0 : Rep w0 M β (hp L) w := R.back A fun i u a hi ha hz => by
    obtain ⟨h1, h2⟩ := roSub_spec hsub i u hi
    exact hro i u a h1 (by rw [← hE i (Nat.lt_of_lt_of_le h2 hL0)]; exact ha) hz
  obtain ⟨rs, d1, n1, k1⟩ := A.marks
  simp only [EndsM, bodyPostM, hd, d1, List.append_nil]
  refine leaves_marks (β := β) (h := hp L) rs w R0 n1 (fun r hr => ?_) (fun w' R' => ?_)
  · obtain ⟨k1, k2, k3, k4⟩ := k1 r hr
    refine ⟨k1, fun ⟨i, a', hm, ha, e⟩ => ?_, (R.frame r k2 k3).trans k4⟩
    rcases R.own i a' hm ha with h' | h'
    · omega
    · exact k3 (by rw [← e]; exact h')
  · obtain ⟨q1, q2⟩ := resV_ok ⟨hT, R', F⟩ hr hc
    refine ⟨_, q2, fun i => β (sg l i), fun i hi => ?_, R'.pick h00 hz hpk hinj hs, hst, ?_⟩
    · simp only [idTo, List.all_eq_true] at hid
      have e := Nat.eq_of_beq_eq_true (hid i (List.mem_range.2 hi))
      show β (l.getD i 0) = E i
      rw [e]; exact hE i hi
    · rw [hv]
      congr 1
      exact den_ren (h := hp L2) (fun _ _ => rfl) hst
end
theorem hp_append1 (L : List HB) (x : HB) : hp (L ++ [x]) = upd (hp L) L.length x := by
  funext i
  unfold hp upd
  by_cases h2 : i = L.length
  · subst h2; simp
  · rw [if_neg h2]
    rcases Nat.lt_or_ge i L.length with h | h
    · simp [List.getElem?_append_left h]
    · simp [List.getElem?_eq_none (show (L ++ [x]).length ≤ i by simp; omega), List.getElem?_eq_none h]
/-- a nil slice, known as one that has a block of no elements -/
theorem At.nil {w0 : World} {M : Nat → Prop} {E : Env} {n0 N : Nat} {D : List Deferred} {φ : Fr} {L : List HB} {K : Act → World → Prop} (t : Tmp) (ty k : Nat) (f : Nat → SV) (hl : look φ t = some (.sl 0 0 [] 0 0 0 (some 0))) (hf : ∀ (h : HM) (q : Nat), Stable h (f q))
    (h : At w0 M E n0 N D ((t, .sl L.length L.length [] k 0 0 none) :: φ) (L ++ [.own ty (.arr 0 k f) false]) K) : At w0 M E n0 N D φ L K := fun a w hS => by
  obtain ⟨⟨β, hE, R, F⟩, hbn, hsz, hd⟩ := hS
  have hm : hp L L.length = .dead := hp_dead (Nat.le_refl _)
  have R1 := nothing R (e := ty) (k := k) (g := f) hm (fun q => hf _ q)
  have hag : ∀ i, (hp L i).born = true → β i = setE β L.length (none, 0) i := agree_setE hm
  have hborn : ∀ i, (hp L i).born = true → (upd (hp L) L.length (.own ty (.arr 0 k f) false) i).born = true := fun i hi => by
    unfold Vm.upd; split
    · rfl
    · exact hi
  refine h a w ⟨⟨setE β L.length (none, 0), fun i hi => (hag i (hbn i hi)).symm.trans (hE i hi), by rw [hp_append1]; exact R1, fun u v hu => ?_⟩, fun i hi => by rw [hp_append1]; exact hborn i (hbn i hi), hsz, hd⟩
  rw [hp_append1]
  simp only [look] at hu
  cases hq : Nat.beq t u with
  | true =>
    rw [hq] at hu
    have := Nat.eq_of_beq_eq_true hq
    subst this
    injection hu with hu
    subst hu
    refine ⟨?_, ?_⟩
    · simp only [Stable, upd_same]; exact ⟨rfl, rfl⟩
    · rw [(F t _ hl).2]
      simp [SV.den, setE_same, R.nil]
  | false =>
    rw [hq] at hu
    obtain ⟨k1, k2⟩ := F u v hu
    exact ⟨k1.more hborn, by rw [k2]; exact k1.den hag⟩
end Go.Proofs.Ytmljmabbopkpiaa.Vm
end
