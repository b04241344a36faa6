/- what a straight walk knows of memory: blocks, and lists that read. -/
import Derived.Test.YtmljmabbopkpiaaBegin
namespace Go.Proofs.Ytmljmabbopkpiaa
open Go.RowKit
set_option linter.unusedVariables false
set_option linter.unusedSimpArgs false

/-! ### whole rows: how a walk loads and stores a struct at once -/
def blockOf : Value → Nat
  | .pointer (some a) => a.block
  | _ => 0
def aggOf : Value → Array Value
  | .agg c => c
  | _ => #[]
def rowOf (w : World) (g : Nat) : Array Value := match w.heap[g]? with | some (.cells cs _ _) => cs | _ => #[]
def IsRow (w : World) (g k : Nat) : Prop := ∃ t cs, Blk w g t cs ∧ cs.size = k
theorem Blk.isRow {w : World} {g k : Nat} {t : TypeId} {cs : Array Value} (h : Blk w g t cs) (hk : cs.size = k) : IsRow w g k := ⟨t, cs, h, hk⟩
theorem Blk.rowOf_eq {w : World} {g : Nat} {t : TypeId} {cs : Array Value} (h : Blk w g t cs) : rowOf w g = cs := by
  unfold rowOf; rw [show w.heap[g]? = some (.cells cs t (0, 0)) from h]
section
variable {d : Option Tmp} {x y : Operand} {ty : TypeId} {pos : String} {after : Array Edge} {guard : Option (Nat × Bool)} {a : Act} {w : World} {K : Act → World → Prop} {Q : Exit → Act → World → Prop}
set_option maxRecDepth 100000 in
theorem wp_load_any (t k : Nat) (hrun : ∀ g t' cs, Blk w g t' cs → cs.size = k → (loadVar t ⟨g, 0, none⟩).run Try.prog w = .ok (.agg cs) w)
    (hx : a.eval x = .pointer (some ⟨blockOf (a.eval x), 0, none⟩)) (hb : IsRow w (blockOf (a.eval x)) k) :
    Oper.wp Try.prog ⟨d, .load t x, ty, pos, after, guard⟩ a w K Q = K (a.put d (.agg (rowOf w (blockOf (a.eval x))))) w := by
  obtain ⟨g, hg⟩ : ∃ g, g = blockOf (a.eval x) := ⟨_, rfl⟩
  rw [← hg] at hx hb ⊢
  obtain ⟨t', cs, hB, hk⟩ := hb
  rw [hB.rowOf_eq]
  have hr := hrun g t' cs hB hk
  unfold Oper.wp execOp
  simp only [hx, Instr.loadAt, Instr.sureAddr, Sem.run_bind, Sem.run_pure, Result.andThen_ok, hr]
  rfl
theorem wp_load53 (hx : a.eval x = .pointer (some ⟨blockOf (a.eval x), 0, none⟩)) (hb : IsRow w (blockOf (a.eval x)) 13) :
    Oper.wp Try.prog ⟨d, .load 53 x, ty, pos, after, guard⟩ a w K Q = K (a.put d (.agg (rowOf w (blockOf (a.eval x))))) w := wp_load_any _ 13 (fun g t' cs hB hk => run_loadVar_row w g t' 53 cs (0, 0) _ hB Try.underlying53 rfl (by rw [hk]; kernel_rfl)) hx hb
theorem wp_load56 (hx : a.eval x = .pointer (some ⟨blockOf (a.eval x), 0, none⟩)) (hb : IsRow w (blockOf (a.eval x)) 5) :
    Oper.wp Try.prog ⟨d, .load 56 x, ty, pos, after, guard⟩ a w K Q = K (a.put d (.agg (rowOf w (blockOf (a.eval x))))) w := wp_load_any _ 5 (fun g t' cs hB hk => run_loadVar_row w g t' 56 cs (0, 0) _ hB Try.underlying56 rfl (by rw [hk]; kernel_rfl)) hx hb
theorem wp_load28 (hx : a.eval x = .pointer (some ⟨blockOf (a.eval x), 0, none⟩)) (hb : IsRow w (blockOf (a.eval x)) 5) :
    Oper.wp Try.prog ⟨d, .load 28 x, ty, pos, after, guard⟩ a w K Q = K (a.put d (.agg (rowOf w (blockOf (a.eval x))))) w := wp_load_any _ 5 (fun g t' cs hB hk => run_loadVar_row w g t' 28 cs (0, 0) _ hB Try.underlying28 rfl (by rw [hk]; kernel_rfl)) hx hb
set_option maxRecDepth 100000 in
theorem wp_store_at (t k : Nat) (hi : (Try.prog.info? t).map (·.size) = some k)
    (hx : a.eval x = .pointer (some ⟨blockOf (a.eval x), 0, none⟩)) (hb : IsRow w (blockOf (a.eval x)) k) (hy : a.eval y = .agg (aggOf (a.eval y))) (hs : (aggOf (a.eval y)).size = k) (h1 : (aggOf (a.eval y)).all (·.oneCell') = true) :
    Oper.wp Try.prog ⟨d, .store t x y, ty, pos, after, guard⟩ a w K Q = K (a.put d undef) (w.setRow (blockOf (a.eval x)) (aggOf (a.eval y))) := by
  obtain ⟨g, hg⟩ : ∃ g, g = blockOf (a.eval x) := ⟨_, rfl⟩
  obtain ⟨c, hc⟩ : ∃ c, c = aggOf (a.eval y) := ⟨_, rfl⟩
  rw [← hg] at hx hb ⊢
  rw [← hc] at hy hs h1 ⊢
  obtain ⟨t', cs, hB, hk⟩ := hb
  unfold Oper.wp execOp
  simp only [hx, hy, Instr.storeAt, Instr.sureAddr, Sem.run_bind, Sem.run_pure, Result.andThen_ok, run_storeVar_row w g t' t cs c hB (by rw [hs]; exact hi) (by rw [hs, hk]) h1]
  rfl
theorem wp_store53 (hx : a.eval x = .pointer (some ⟨blockOf (a.eval x), 0, none⟩)) (hb : IsRow w (blockOf (a.eval x)) 13) (hy : a.eval y = .agg (aggOf (a.eval y))) (hs : (aggOf (a.eval y)).size = 13) (h1 : (aggOf (a.eval y)).all (·.oneCell') = true) :
    Oper.wp Try.prog ⟨d, .store 53 x y, ty, pos, after, guard⟩ a w K Q = K (a.put d undef) (w.setRow (blockOf (a.eval x)) (aggOf (a.eval y))) := wp_store_at _ 13 (by kernel_rfl) hx hb hy hs h1
theorem wp_store56 (hx : a.eval x = .pointer (some ⟨blockOf (a.eval x), 0, none⟩)) (hb : IsRow w (blockOf (a.eval x)) 5) (hy : a.eval y = .agg (aggOf (a.eval y))) (hs : (aggOf (a.eval y)).size = 5) (h1 : (aggOf (a.eval y)).all (·.oneCell') = true) :
    Oper.wp Try.prog ⟨d, .store 56 x y, ty, pos, after, guard⟩ a w K Q = K (a.put d undef) (w.setRow (blockOf (a.eval x)) (aggOf (a.eval y))) := wp_store_at _ 5 (by kernel_rfl) hx hb hy hs h1
end

structure Rd where
  size : Nat
  A : Option Addr
  n : Nat
  xs : List Value
structure Bk where
  g : Nat
  t : TypeId
  cs : Array Value
structure AW (w : World) (L : List Bk) (R : List Rd) (W : World) : Prop where
  b : Below w.heap.size w W
  l : ∀ e ∈ L, Blk W e.g e.t e.cs
  r : ∀ e ∈ R, Reads W W.heap.size e.size e.A e.n e.xs
section
variable {w W W' : World} {L : List Bk} {R : List Rd}
theorem AW.start (w : World) : AW w [] [⟨1, none, 0, []⟩, ⟨3, none, 0, []⟩] w :=
  ⟨Below.refl _ _, by simp, fun e he => by
    simp only [List.mem_cons, List.not_mem_nil, or_false] at he
    rcases he with rfl | rfl <;> exact Reads.none_⟩
theorem AW.drew (h : AW w L R W) : AW w L R W.drew := ⟨h.b.drew, h.l, h.r⟩
theorem AW.drewN (h : AW w L R W) (n : Nat) : AW w L R (W.drewN n) := ⟨below_drewNm h.b n, h.l, h.r⟩
theorem AW.call (h : AW w L R W) (hb : Below W.heap.size W W') : AW w L R W' :=
  ⟨h.b.trans (hb.mono h.b.size), fun e he => (h.l e he).below hb (h.l e he).lt, fun e he => ((h.r e he).below hb).more hb.size⟩
theorem AW.alloc (h : AW w L R W) (o : Obj) : AW w L R (W.alloc o) :=
  ⟨h.b.alloc h.b.size _, fun e he => (h.l e he).alloc _, fun e he => ((h.r e he).alloc (Nat.le_refl _) o).more (by simp)⟩
theorem AW.put (h : AW w L R W) (t : TypeId) (cs : Array Value) : AW w (⟨W.heap.size, t, cs⟩ :: L) R (W.alloc (.cells cs t)) :=
  ⟨(h.alloc _).b, fun e he => by
    rcases List.mem_cons.1 he with rfl | he
    · exact Blk.new _ _ _
    · exact (h.alloc _).l e he, (h.alloc _).r⟩
theorem AW.put' (h : AW w L R W) (t : TypeId) (cs : Array Value) {g : Nat} (hg : g = W.heap.size) : AW w (⟨g, t, cs⟩ :: L) R (W.alloc (.cells cs t)) := hg ▸ h.put t cs
theorem AW.read (h : AW w L R W) {e : Rd} (he : Reads W W.heap.size e.size e.A e.n e.xs) : AW w L (e :: R) W :=
  ⟨h.b, h.l, fun x hx => by
    rcases List.mem_cons.1 hx with rfl | hx
    · exact he
    · exact h.r x hx⟩
theorem AW.array (h : AW w L R W) (t : TypeId) (cs : Array Value) (k n : Nat) (hl : cs.size = n * k) : AW w L (⟨k, some ⟨W.heap.size, 0, none⟩, n, cs.toList⟩ :: R) (W.alloc (.cells cs t)) :=
  (h.alloc _).read (reads_new W t cs k n _ _ rfl (by simp) hl)
theorem AW.array' (h : AW w L R W) (t : TypeId) (cs : Array Value) (k n : Nat) (hl : cs.size = n * k) {g : Nat} (hg : g = W.heap.size) : AW w L (⟨k, some ⟨g, 0, none⟩, n, cs.toList⟩ :: R) (W.alloc (.cells cs t)) := hg ▸ h.array t cs k n hl
theorem AW.row_head {e : Bk} (h : AW w (e :: L) R W) : IsRow W e.g e.cs.size := (h.l e (.head _)).isRow rfl
theorem AW.none3 (h : AW w L R W) : AW w L (⟨3, none, 0, []⟩ :: R) W := h.read Reads.none_
theorem AW.less (h : AW w L R W) {L' : List Bk} {R' : List Rd} (hl : L' ⊆ L) (hr : R' ⊆ R) : AW w L' R' W := ⟨h.b, fun e he => h.l e (hl he), fun e he => h.r e (hr he)⟩
theorem AW.of_own (h : AW w L R W) {base e size n c : Nat} {A : Option Addr} {xs : List Value} (ho : W.ownsRow base e size (.slice A n c) n xs) : AW w L (⟨size, A, n, xs⟩ :: R) W := h.read (Reads.of_own ho)

theorem ev_aw (x t q : Int) (h : AW w L R W) : Calls Try.prog 40 #[.int .i64 x, .int .i64 t, .int .i64 q] W fun e w' => e = .returned (.agg #[.int .i64 t, .int .i64 q, .int .i64 0, .int .i64 0, .int .i64 x]) ∧ AW w L R w' :=
  (event_c x t q W).mono fun e w' ⟨he, hb⟩ => ⟨he, h.call hb⟩
theorem bg_aw (x t q : Int) (A : Option Addr) (n c : Nat) (ys : List Int) (hn : n ≤ 1000000) (h : AW w L (⟨1, A, n, int64s ys⟩ :: R) W) :
    Calls Try.prog 59 #[.agg #[.int .i64 t, .int .i64 q, .int .i64 0, .int .i64 0, .int .i64 x], .slice A n c, .int .i64 0] W fun e w' => ∃ A1 k1, e = .returned (.agg #[.int .i64 0, .bool false, .int .i64 x, .int .i64 t, .int .i64 q, .int .i64 0, .int .i64 0, .int .i64 0, .int .i64 0, .int .i64 0, .slice A1 n k1, .int .i64 0, .slice none 0 0]) ∧
      AW w L (⟨1, A1, n, int64s ys⟩ :: ⟨1, A, n, int64s ys⟩ :: R) w' := by
  refine (begin_c x t q 0 0 0 A n c ys hn W (h.r _ (.head _))).mono ?_
  rintro e w' ⟨A1, k1, rfl, ho, hb⟩
  exact ⟨A1, k1, rfl, (h.call hb).of_own ho⟩
theorem AW.row5 (h : AW w L R W) (g : Nat) (t : TypeId) (a0 a1 a2 a3 a4 : Value) (hm : (⟨g, t, #[a0, a1, a2, a3, a4]⟩ : Bk) ∈ L) : IsRow W g 5 ∧ rowOf W g = #[a0, a1, a2, a3, a4] := ⟨(h.l _ hm).isRow rfl, (h.l _ hm).rowOf_eq⟩
theorem isRow_alloc {g k : Nat} {o : Obj} (h : IsRow W g k) : IsRow (W.alloc o) g k := by
  obtain ⟨t, cs, hb, hk⟩ := h
  exact ⟨t, cs, hb.alloc o, hk⟩
theorem rowOf_alloc5 {g : Nat} {o : Obj} (h : IsRow W g 5) : rowOf (W.alloc o) g = rowOf W g := by
  obtain ⟨t, cs, hb, hk⟩ := h
  rw [hb.rowOf_eq, (hb.alloc o).rowOf_eq]
theorem rowOf_alloc13 {g : Nat} {o : Obj} (h : IsRow W g 13) : rowOf (W.alloc o) g = rowOf W g := by
  obtain ⟨t, cs, hb, hk⟩ := h
  rw [hb.rowOf_eq, (hb.alloc o).rowOf_eq]
theorem isRow_new {g k : Nat} {t : TypeId} {cs : Array Value} (hg : g = W.heap.size) (hk : cs.size = k) : IsRow (W.alloc (.cells cs t)) g k := ⟨t, cs, hg ▸ Blk.new W t cs, hk⟩
theorem below_al {a : World} (h : Below a.heap.size a W) (o : Obj) : Below a.heap.size a (W.alloc o) := h.alloc h.size o
theorem Reads.al {k n : Nat} {A : Option Addr} {xs : List Value} (h : Reads W W.heap.size k A n xs) (o : Obj) : Reads (W.alloc o) (W.alloc o).heap.size k A n xs := (h.alloc (Nat.le_refl _) o).more (by simp)
theorem reads_00 {g : Nat} (hg : g = W.heap.size) : Reads (W.alloc (.cells #[.int .i64 0, .int .i64 0] 2)) (W.alloc (.cells #[.int .i64 0, .int .i64 0] 2)).heap.size 1 (some ⟨g, 0, none⟩) 2 (int64s [0, 0]) := reads_new W _ #[.int .i64 0, .int .i64 0] 1 2 _ _ hg (by simp [hg]) rfl
theorem IsRow.below {g k : Nat} (h : IsRow W g k) (hb : Below W.heap.size W W') : IsRow W' g k := by
  obtain ⟨t, cs, hB, hk⟩ := h
  exact ⟨t, cs, hB.below hb hB.lt, hk⟩
theorem Reads.call {k n : Nat} {A : Option Addr} {xs : List Value} (h : Reads W W.heap.size k A n xs) (hb : Below W.heap.size W W') : Reads W' W'.heap.size k A n xs := (h.below hb).more hb.size
theorem keepA {g : Nat} {c : Array Value} (h : IsRow W g 5 ∧ rowOf W g = c) (o : Obj) : IsRow (W.alloc o) g 5 ∧ rowOf (W.alloc o) g = c := ⟨isRow_alloc h.1, (rowOf_alloc5 h.1).trans h.2⟩
theorem keepD {g : Nat} {c : Array Value} (h : IsRow W g 5 ∧ rowOf W g = c) : IsRow W.drew g 5 ∧ rowOf W.drew g = c := h
theorem keepRow {g k : Nat} {c : Array Value} (h : IsRow W g 5 ∧ rowOf W g = c) (hn : g ≠ k) (cs : Array Value) : IsRow (W.setRow k cs) g 5 ∧ rowOf (W.setRow k cs) g = c := by
  obtain ⟨⟨t, ds, hb, hk⟩, h2⟩ := h
  have hb' := hb.row_far hn cs
  exact ⟨⟨t, ds, hb', hk⟩, hb'.rowOf_eq.trans (hb.rowOf_eq.symm.trans h2)⟩
theorem k5D {g : Nat} {a0 a1 a2 a3 a4 : Value} (h : (W.cell? ⟨g, 0, none⟩ = some a0 ∧ W.cell? ⟨g, 1, none⟩ = some a1 ∧ W.cell? ⟨g, 2, none⟩ = some a2 ∧ W.cell? ⟨g, 3, none⟩ = some a3 ∧ W.cell? ⟨g, 4, none⟩ = some a4) ∧ g < W.heap.size) : ((W.drew).cell? ⟨g, 0, none⟩ = some a0 ∧ (W.drew).cell? ⟨g, 1, none⟩ = some a1 ∧ (W.drew).cell? ⟨g, 2, none⟩ = some a2 ∧ (W.drew).cell? ⟨g, 3, none⟩ = some a3 ∧ (W.drew).cell? ⟨g, 4, none⟩ = some a4) ∧ g < (W.drew).heap.size := h
theorem k5A {g : Nat} {a0 a1 a2 a3 a4 : Value} (h : (W.cell? ⟨g, 0, none⟩ = some a0 ∧ W.cell? ⟨g, 1, none⟩ = some a1 ∧ W.cell? ⟨g, 2, none⟩ = some a2 ∧ W.cell? ⟨g, 3, none⟩ = some a3 ∧ W.cell? ⟨g, 4, none⟩ = some a4) ∧ g < W.heap.size) (o : Obj) : ((W.alloc o).cell? ⟨g, 0, none⟩ = some a0 ∧ (W.alloc o).cell? ⟨g, 1, none⟩ = some a1 ∧ (W.alloc o).cell? ⟨g, 2, none⟩ = some a2 ∧ (W.alloc o).cell? ⟨g, 3, none⟩ = some a3 ∧ (W.alloc o).cell? ⟨g, 4, none⟩ = some a4) ∧ g < (W.alloc o).heap.size := by
  obtain ⟨⟨h0, h1, h2, h3, h4⟩, hl⟩ := h
  refine ⟨⟨?_, ?_, ?_, ?_, ?_⟩, by simp; omega⟩
  · rw [World.cell?_alloc_lt W o _ hl]; exact h0
  · rw [World.cell?_alloc_lt W o _ hl]; exact h1
  · rw [World.cell?_alloc_lt W o _ hl]; exact h2
  · rw [World.cell?_alloc_lt W o _ hl]; exact h3
  · rw [World.cell?_alloc_lt W o _ hl]; exact h4
theorem k5R {g k : Nat} {a0 a1 a2 a3 a4 : Value} (h : (W.cell? ⟨g, 0, none⟩ = some a0 ∧ W.cell? ⟨g, 1, none⟩ = some a1 ∧ W.cell? ⟨g, 2, none⟩ = some a2 ∧ W.cell? ⟨g, 3, none⟩ = some a3 ∧ W.cell? ⟨g, 4, none⟩ = some a4) ∧ g < W.heap.size) (hn : g ≠ k) (cs : Array Value) : ((W.setRow k cs).cell? ⟨g, 0, none⟩ = some a0 ∧ (W.setRow k cs).cell? ⟨g, 1, none⟩ = some a1 ∧ (W.setRow k cs).cell? ⟨g, 2, none⟩ = some a2 ∧ (W.setRow k cs).cell? ⟨g, 3, none⟩ = some a3 ∧ (W.setRow k cs).cell? ⟨g, 4, none⟩ = some a4) ∧ g < (W.setRow k cs).heap.size := by
  obtain ⟨⟨h0, h1, h2, h3, h4⟩, hl⟩ := h
  have hk : ∀ i, (W.setRow k cs).cell? ⟨g, i, none⟩ = W.cell? ⟨g, i, none⟩ := fun i => by
    unfold World.cell?
    rw [setRow_other W k g cs hn]
  exact ⟨⟨(hk 0).trans h0, (hk 1).trans h1, (hk 2).trans h2, (hk 3).trans h3, (hk 4).trans h4⟩, by simpa using hl⟩
theorem isRow_drew {g k : Nat} : IsRow W.drew g k = IsRow W g k := rfl
theorem isRow_drewN {g k n : Nat} : IsRow (W.drewN n) g k = IsRow W g k := rfl
theorem rowOf_drew {g : Nat} : rowOf W.drew g = rowOf W g := rfl
theorem rowOf_drewN {g n : Nat} : rowOf (W.drewN n) g = rowOf W g := rfl

/-- one instruction, then a Halt, by the closure of awake: what it makes, in numbers -/
theorem call60 (i : Ins) (hi : i.ok) (v : Envi) (s : St) (TV : Value → Value → Value) (cs : List Int) (sn : List Snd) (E : Int) (hV : (topS [i, haltI] v s).v = TV) (hcs : (topS [i, haltI] v s).cells = cs) (hsn : (topS [i, haltI] v s).sends = sn) (hE : topE [i, haltI] v s = E) (nC nS : Nat) (hnC : cs.length = nC) (hnS : sn.length = nS)
    (B D : Option Addr) (m k d f : Nat) (hk : k ≤ 1000000) (h : AW w L R W) (hc : ⟨1, B, m, int64s s.cells⟩ ∈ R) (hs : ⟨3, D, k, sndsV s.sends⟩ ∈ R) :
    Calls Try.prog 60 #[i.v, v.v, s.v (.slice B m d) (.slice D k f)] W fun e w' => ∃ A1 k1 A2 k2, e = .returned (.tuple #[TV (.slice A1 nC k1) (.slice A2 nS k2), .int .i64 E]) ∧
      AW w L (⟨1, A1, nC, int64s cs⟩ :: ⟨3, A2, nS, sndsV sn⟩ :: R) w' := by
  refine (one60_c i hi v s B D m k d f hk W (h.r _ hc) (h.r _ hs)).mono ?_
  rintro e w' ⟨C, S, rfl, ho, hq, hb⟩
  subst hnC; subst hnS
  rw [hcs] at ho
  rw [hsn] at hq
  rw [hV, hE]
  obtain ⟨A1, k1, rfl⟩ := own_slice ho
  obtain ⟨A2, k2, rfl⟩ := own_slice hq
  exact ⟨A1, k1, A2, k2, rfl, ((h.call hb).of_own hq).of_own ho⟩
theorem call25 (i : Ins) (hi : i.ok) (v : Envi) (s : St) (TV : Value → Value → Value) (cs : List Int) (sn : List Snd) (E : Int) (hV : (topS [i, haltI] v s).v = TV) (hcs : (topS [i, haltI] v s).cells = cs) (hsn : (topS [i, haltI] v s).sends = sn) (hE : topE [i, haltI] v s = E) (nC nS : Nat) (hnC : cs.length = nC) (hnS : sn.length = nS)
    (B D : Option Addr) (m k d f : Nat) (hk : k ≤ 1000000) (h : AW w L R W) (hc : ⟨1, B, m, int64s s.cells⟩ ∈ R) (hs : ⟨3, D, k, sndsV s.sends⟩ ∈ R) :
    Calls Try.prog 25 #[i.v, v.v, s.v (.slice B m d) (.slice D k f)] W fun e w' => ∃ A1 k1 A2 k2, e = .returned (.tuple #[TV (.slice A1 nC k1) (.slice A2 nS k2), .int .i64 E]) ∧
      AW w L (⟨1, A1, nC, int64s cs⟩ :: ⟨3, A2, nS, sndsV sn⟩ :: R) w' := by
  refine (one18_c i hi v s B D m k d f hk W (h.r _ hc) (h.r _ hs)).mono ?_
  rintro e w' ⟨C, S, rfl, ho, hq, hb⟩
  subst hnC; subst hnS
  rw [hcs] at ho
  rw [hsn] at hq
  rw [hV, hE]
  obtain ⟨A1, k1, rfl⟩ := own_slice ho
  obtain ⟨A2, k2, rfl⟩ := own_slice hq
  exact ⟨A1, k1, A2, k2, rfl, ((h.call hb).of_own hq).of_own ho⟩
/-- Do of a program that is one Halt -/
theorem call31 (p : List Ins) (hp : ∀ i ∈ p, i.ok) (v : Envi) (s : St) (TV : Value → Value → Value) (cs : List Int) (sn : List Snd) (E : Int) (hV : (topS p v s).v = TV) (hcs : (topS p v s).cells = cs) (hsn : (topS p v s).sends = sn) (hE : topE p v s = E) (nC nS : Nat) (hnC : cs.length = nC) (hnS : sn.length = nS)
    (A B D : Option Addr) (n m k c d f : Nat) (hn : n < 2^62) (hk : k ≤ 1000000) (h : AW w L R W) (hA : ⟨5, A, n, insV p⟩ ∈ R) (hc : ⟨1, B, m, int64s s.cells⟩ ∈ R) (hs : ⟨3, D, k, sndsV s.sends⟩ ∈ R) :
    Calls Try.prog 31 #[.slice A n c, v.v, s.v (.slice B m d) (.slice D k f)] W fun e w' => ∃ A1 k1 A2 k2, e = .returned (.tuple #[TV (.slice A1 nC k1) (.slice A2 nS k2), .int .i64 E]) ∧
      AW w L (⟨1, A1, nC, int64s cs⟩ :: ⟨3, A2, nS, sndsV sn⟩ :: R) w' := by
  refine (Do_c A n c hn p hp v s B D m k d f hk W (h.r _ hA) (h.r _ hc) (h.r _ hs)).mono ?_
  rintro e w' ⟨C, S, rfl, ho, hq, hb⟩
  subst hnC; subst hnS
  rw [hcs] at ho
  rw [hsn] at hq
  rw [hV, hE]
  obtain ⟨A1, k1, rfl⟩ := own_slice ho
  obtain ⟨A2, k2, rfl⟩ := own_slice hq
  exact ⟨A1, k1, A2, k2, rfl, ((h.call hb).of_own hq).of_own ho⟩
end
end Go.Proofs.Ytmljmabbopkpiaa
