import Derived.Test.YtjliakjbdcplcaaGreatS4
import Derived.Test.YtjliakjbdcplcaaGreatS5
import Derived.Test.YtjliakjbdcplcaaGreatS6
import Derived.Test.YtjliakjbdcplcaaGreatProg
import Derived.IntWalk
import Derived.Laws.ResultCell
import Derived.Laws.OwnMore
import Derived.Lib.OthersKept
import Derived.Deep.RegionHeld3
import Derived.StillTailTactics
import Derived.Deep.QuietTactic
import Derived.Deep.RegionLaw
import Derived.Deep.DrawnRows
import Derived.Laws.EntriesVeiled
import Derived.BigQuiet
import Derived.WalkSpells
import Derived.Handy
import Derived.Deep.DeepCutAuto
section
namespace Go.Proofs.YtjliakjbdcplcaaGreat.Vm
theorem b16 {P : Prop} (h : P := by exact oneK_pos (show _ ∧ _ ∧ _ ∧ _ by dsimp only; omega)) : P := h
theorem b17 {P : Prop} (h : P := by exact oneK_pos (show _ ∧ _ ∧ _ ∧ _ ∧ _ by dsimp only; omega)) : P := h
theorem b18 {P : Prop} (h : P := by simp only [push_cast, ↓JP, Nat.reduceAdd, Nat.reduceEqDiff, Nat.reduceLT, Nat.reduceMul, Nat.reduceLeDiff, reduceCtorEq, reduceIte, ↓JK, resV, resV1]; rfl) : P := h
theorem b19 {P : Prop} (h : P := by (repeat' (first | exact trivial | exact rfl | assumption | apply Stable.ite | apply And.intro | intro _ | (simp only [Stable, StableL, i64S, prS, insS, sndsS, sndS, stS, evS, macS]; done)))) : P := h
theorem b20 {P : Prop} (h : P := by (first | exact True.intro | ((try simp only [JS, implies_true, forall_const, shaped, shapedL, kndOf, inR]); (repeat' (first | assumption | exact True.intro | omega | apply And.intro)); done))) : P := h
theorem b21 {P : Prop} (h : P := by (simp only [push_cast, ↓JP, Nat.reduceAdd, Nat.reduceEqDiff, Nat.reduceLT, Nat.reduceMul, Nat.reduceLeDiff, reduceCtorEq, reduceIte, ↓JK, JM, inR]; rfl)) : P := h
theorem b22 {P : Prop} (h : P := by (first | exact True.intro | ((try simp only [JS, implies_true, forall_const, shaped, shapedL, kndOf, inR, inN]); (repeat' (first | assumption | exact True.intro | omega | apply And.intro)); done))) : P := h
theorem b23 {P : Prop} (h : P := by (simp only [push_cast, ↓JP, Nat.reduceAdd, Nat.reduceEqDiff, Nat.reduceLT, Nat.reduceMul, Nat.reduceLeDiff, reduceCtorEq, reduceIte, ↓JK, JM, inR, inN, Bool.cond_decide]; rfl)) : P := h
end Go.Proofs.YtjliakjbdcplcaaGreat.Vm
end
section
namespace Go.Proofs.YtjliakjbdcplcaaGreat.Vm
open Go.RowKit
set_option linter.unusedVariables false
set_option linter.unusedSimpArgs false
def stepX (P : List Ins) (s : Sta) (x : Ins) : Ins := if s.ended = true then x else insAt P s.at_
structure RR where
  tr : List Int
  at_ : Int
  bad : Int
  s : Sta
  x : Ins
def runA (P : List Ins) (v : Evi) : Nat → Sta → Ins → List Int → Int → RR
  | 0, s, x, tr, a => if s.ended = true then ⟨tr, a, 0, s, x⟩ else ⟨tr, s.at_, 190, s, x⟩
  | n + 1, s, x, tr, a => if s.ended = true then ⟨tr, a, 0, s, x⟩ else
    if stepE P v s = 0 then runA P v n (stepS P v s) (stepX P s x) (tr ++ [s.at_]) s.at_ else ⟨tr ++ [s.at_], s.at_, stepE P v s, stepS P v s, stepX P s x⟩
theorem runA_end {P : List Ins} {v : Evi} {n : Nat} {s : Sta} {x : Ins} {tr : List Int} {a : Int} (h : s.ended = true) : runA P v n s x tr a = ⟨tr, a, 0, s, x⟩ := by
  cases n <;> simp [runA, h]
theorem runA_zero {P : List Ins} {v : Evi} {s : Sta} {x : Ins} {tr : List Int} {a : Int} (h : s.ended = false) : runA P v 0 s x tr a = ⟨tr, s.at_, 190, s, x⟩ := by simp [runA, h]
theorem runA_go {P : List Ins} {v : Evi} {n : Nat} {s : Sta} {x : Ins} {tr : List Int} {a : Int} (h : s.ended = false) (hn : 0 < n) (he : stepE P v s = 0) : runA P v n s x tr a = runA P v (n - 1) (stepS P v s) (stepX P s x) (tr ++ [s.at_]) s.at_ := by
  obtain ⟨n, rfl⟩ : ∃ k, n = k + 1 := ⟨n - 1, by omega⟩
  simp [runA, h, he]
theorem runA_bad {P : List Ins} {v : Evi} {n : Nat} {s : Sta} {x : Ins} {tr : List Int} {a : Int} (h : s.ended = false) (hn : 0 < n) (he : stepE P v s ≠ 0) : runA P v n s x tr a = ⟨tr ++ [s.at_], s.at_, stepE P v s, stepS P v s, stepX P s x⟩ := by
  obtain ⟨n, rfl⟩ : ∃ k, n = k + 1 := ⟨n - 1, by omega⟩
  simp [runA, h, he]
theorem wrongE_vals (op b : Int) : wrongE op b = 0 ∨ wrongE op b = 130 ∨ wrongE op b = 131 := by
  unfold wrongE
  split
  · omega
  · split <;> omega
theorem doE_ne190 (s : Sta) (v : Evi) (x : Ins) : doE s v x ≠ 190 := by
  unfold doE sendE
  have := wrongE_vals (x.op - 32) (s.regs x.c.toNat)
  repeat' split
  all_goals omega
theorem stepE_ne190 (P : List Ins) (v : Evi) (s : Sta) : stepE P v s ≠ 190 := by
  unfold stepE
  split
  · omega
  · exact doE_ne190 _ _ _
def rrE (f : Int) : Int := if f < 0 ∨ 4096 < f then 2 else 0
def begR (value time source : Int) : Nat → Int := fun q => if q = 2 then source else if q = 1 then time else if q = 0 then value else 0
def begS (value time source : Int) (cells : List Int) (draws : Int) : Sta := ⟨0, false, begR value time source, cells, draws, []⟩
def ropE (P : List Ins) (v : Evi) (s : Sta) (f : Int) : Int := if rrE f = 0 then openE P v s else rrE f
def runO (P : List Ins) (v : Evi) (s : Sta) (f : Int) : RR := if ropE P v s f = 0 then runA P v f.toNat s Ins0 [] 0 else ⟨[], 0, ropE P v s f, zeroSt, Ins0⟩
theorem ropE_zero {P : List Ins} {v : Evi} {s : Sta} {f : Int} (h : ropE P v s f = 0) : (0 ≤ f ∧ f ≤ 4096) ∧ openE P v s = 0 := by
  unfold ropE at h
  by_cases q : rrE f = 0
  · rw [if_pos q] at h
    refine ⟨?_, h⟩
    unfold rrE at q
    split at q <;> omega
  · rw [if_neg q] at h; exact absurd h q
theorem openE_zero {P : List Ins} {v : Evi} {s : Sta} (h : openE P v s = 0) : (checkI P).2 = 0 ∧ v.rightB = true ∧ s.rightB P.length = true := by
  unfold openE at h
  have q1 : (checkI P).2 = 0 := by
    by_cases q : (checkI P).2 = 0
    · exact q
    · rw [if_pos q] at h; cases h
  rw [if_neg (fun h => h q1)] at h
  have q2 : v.rightB = true := by
    cases q : v.rightB
    · rw [if_pos q] at h; cases h
    · rfl
  rw [if_neg (by rw [q2]; exact Bool.noConfusion)] at h
  refine ⟨q1, q2, ?_⟩
  cases q : s.rightB P.length
  · rw [if_pos q] at h; cases h
  · rfl
end Go.Proofs.YtjliakjbdcplcaaGreat.Vm
end

section
namespace Go.Proofs.YtjliakjbdcplcaaGreat
open Go.RowKit
set_option linter.unusedVariables false
set_option linter.unusedSimpArgs false

theorem reads_new (X : World) (t : TypeId) (cs : Array Value) (k n B gg : Nat) (h : gg = X.heap.size) (hB : gg < B) (hl : cs.size = n * k) : Reads (X.alloc (.cells cs t)) B k (some ⟨gg, 0, none⟩) n cs.toList := by
  subst h
  refine ⟨by simpa using hl, fun _ => ⟨_, rfl, hB, fun j u hu => ?_⟩⟩
  rw [Addr.add_lit, cell_of_row _ _ _ _ _ _ (heap_alloc_new X _), Nat.zero_add]
  simpa using hu
theorem blk5 {W : World} {g : Nat} {t : TypeId} {a0 a1 a2 a3 a4 : Value} (h : Blk W g t #[a0, a1, a2, a3, a4]) :
    (W.cell? ⟨g, 0, none⟩ = some a0 ∧ W.cell? ⟨g, 1, none⟩ = some a1 ∧ W.cell? ⟨g, 2, none⟩ = some a2 ∧ W.cell? ⟨g, 3, none⟩ = some a3 ∧ W.cell? ⟨g, 4, none⟩ = some a4) ∧ ∀ i, W.frozen? ⟨g, i, none⟩ = false :=
  ⟨⟨h.cell 0, h.cell 1, h.cell 2, h.cell 3, h.cell 4⟩, fun i => h.frozen i⟩
theorem max_i64 (a b M : Int) (t u : TypeId) (v : Array TypeId) (h : (if a < b then b else a) = M) (w : World) : (Builtin.max_ v t #[.int .i64 a, .int .i64 b]).run Tryz.prog w = .ok (.int .i64 M) w := by
  subst h
  unfold Builtin.max_
  simp [Builtin.max2]
theorem Blk.row {W : World} {g : Nat} {t : TypeId} {cs : Array Value} (h : Blk W g t cs) (cs' : Array Value) : Blk (W.setRow g cs') g t cs' := setRow_heap _ _ _ _ _ _ h
def haltI : Ins := ⟨1, 0, 0, 0, 0⟩
theorem haltI_ok : haltI.ok := ⟨by decide, by decide, by decide, by decide, by decide, by decide, by decide, by decide, by decide, by decide⟩
theorem min_i64 (a b M : Int) (t u : TypeId) (v : Array TypeId) (h : (if b < a then b else a) = M) (w : World) : (Builtin.min_ v t #[.int .i64 a, .int .i64 b]).run Tryz.prog w = .ok (.int .i64 M) w := by
  subst h
  unfold Builtin.min_
  simp [Builtin.min2]
theorem infoIns : (Tryz.prog.info? 38).map (fun i => (i.zero, i.size, i.bytes)) = some (some (.agg #[.int .u8 0, .int .u8 0, .int .u8 0, .int .u8 0, .int .i64 0]), 5, 16) := by kernel_rfl
theorem ownsRow_keep {w w' : World} {base : Nat} {e : TypeId} {size : Nat} {v : Value} {n : Nat} {xs : List Value} (h : w.ownsRow base e size v n xs) (hk : ∀ g, v.ownBlock = some g → g < w.heap.size → w'.heap[g]? = w.heap[g]?) : w'.ownsRow base e size v n xs := by
  refine ⟨h.1, ?_⟩
  rcases h.2 with h2 | ⟨g, cap, cur, rfl, hb, hh, r⟩
  · exact .inl h2
  · have hlt : g < w.heap.size := by
      rcases Nat.lt_or_ge g w.heap.size with hlt | hge
      · exact hlt
      · rw [Array.getElem?_eq_none hge] at hh; cases hh
    exact .inr ⟨g, cap, cur, rfl, hb, by rw [hk g rfl hlt]; exact hh, r⟩
theorem own_slice {w : World} {base : Nat} {e : TypeId} {size : Nat} {v : Value} {n : Nat} {xs : List Value} (h : w.ownsRow base e size v n xs) : ∃ A c, v = .slice A n c := by
  rcases h.2 with ⟨rfl, rfl⟩ | ⟨g, cap, cur, rfl, _⟩
  · exact ⟨_, _, rfl⟩
  · exact ⟨_, _, rfl⟩
theorem own_alloc {W : World} {base size n : Nat} {e : TypeId} {v : Value} {xs : List Value} (h : W.ownsRow base e size v n xs) (o : Obj) : (W.alloc o).ownsRow base e size v n xs := ownsRow_keep h fun j _ hj => Below.heap_alloc W o j hj
theorem own_base {w : World} {base : Nat} {e : TypeId} {size : Nat} {v : Value} {n : Nat} {xs : List Value} (h : w.ownsRow base e size v n xs) : ∀ k, v.ownBlock = some k → base ≤ k := by
  intro k hk
  rcases h.2 with ⟨rfl, _⟩ | ⟨g, cap, cur, rfl, hb, _⟩
  · simp [Value.ownBlock] at hk
  · simp [Value.ownBlock] at hk; omega
def IsRow (w : World) (g k : Nat) : Prop := ∃ t cs, Blk w g t cs ∧ cs.size = k
section
variable {d : Option Tmp} {x y : Operand} {ty : TypeId} {pos : String} {after : Array Edge} {guard : Option (Nat × Bool)} {a : Act} {w : World} {K : Act → World → Prop} {Q : Exit → Act → World → Prop}
end

structure Rd where
  size : Nat
  A : Option Addr
  n : Nat
  xs : List Value
structure Bk where
  g : Nat
  t : TypeId
  cs : Array Value
structure AW (w : World) (L : List Bk) (R : List Rd) (W : World) : Prop where
  b : Below w.heap.size w W
  l : ∀ e ∈ L, Blk W e.g e.t e.cs
  r : ∀ e ∈ R, Reads W W.heap.size e.size e.A e.n e.xs
section
variable {w W W' : World} {L : List Bk} {R : List Rd}
theorem AW.start (w : World) : AW w [] [⟨1, none, 0, []⟩, ⟨3, none, 0, []⟩] w :=
  ⟨Below.refl _ _, by simp, fun e he => by
    simp only [List.mem_cons, List.not_mem_nil, or_false] at he
    rcases he with rfl | rfl <;> exact Reads.none_⟩
theorem AW.drew (h : AW w L R W) : AW w L R W.drew := ⟨h.b.drew, h.l, h.r⟩
theorem AW.call (h : AW w L R W) (hb : Below W.heap.size W W') : AW w L R W' :=
  ⟨h.b.trans (hb.mono h.b.size), fun e he => (h.l e he).below hb (h.l e he).lt, fun e he => ((h.r e he).below hb).more hb.size⟩
theorem AW.alloc (h : AW w L R W) (o : Obj) : AW w L R (W.alloc o) :=
  ⟨h.b.alloc h.b.size _, fun e he => (h.l e he).alloc _, fun e he => ((h.r e he).alloc (Nat.le_refl _) o).more (by simp)⟩
theorem AW.put (h : AW w L R W) (t : TypeId) (cs : Array Value) : AW w (⟨W.heap.size, t, cs⟩ :: L) R (W.alloc (.cells cs t)) :=
  ⟨(h.alloc _).b, fun e he => by
    rcases List.mem_cons.1 he with rfl | he
    · exact Blk.new _ _ _
    · exact (h.alloc _).l e he, (h.alloc _).r⟩
theorem AW.put' (h : AW w L R W) (t : TypeId) (cs : Array Value) {g : Nat} (hg : g = W.heap.size) : AW w (⟨g, t, cs⟩ :: L) R (W.alloc (.cells cs t)) := hg ▸ h.put t cs
theorem AW.read (h : AW w L R W) {e : Rd} (he : Reads W W.heap.size e.size e.A e.n e.xs) : AW w L (e :: R) W :=
  ⟨h.b, h.l, fun x hx => by
    rcases List.mem_cons.1 hx with rfl | hx
    · exact he
    · exact h.r x hx⟩
theorem AW.array (h : AW w L R W) (t : TypeId) (cs : Array Value) (k n : Nat) (hl : cs.size = n * k) : AW w L (⟨k, some ⟨W.heap.size, 0, none⟩, n, cs.toList⟩ :: R) (W.alloc (.cells cs t)) :=
  (h.alloc _).read (reads_new W t cs k n _ _ rfl (by simp) hl)
theorem AW.less (h : AW w L R W) {L' : List Bk} {R' : List Rd} (hl : L' ⊆ L) (hr : R' ⊆ R) : AW w L' R' W := ⟨h.b, fun e he => h.l e (hl he), fun e he => h.r e (hr he)⟩
theorem IsRow.below {g k : Nat} (h : IsRow W g k) (hb : Below W.heap.size W W') : IsRow W' g k := by
  obtain ⟨t, cs, hB, hk⟩ := h
  exact ⟨t, cs, hB.below hb hB.lt, hk⟩
theorem Reads.call {k n : Nat} {A : Option Addr} {xs : List Value} (h : Reads W W.heap.size k A n xs) (hb : Below W.heap.size W W') : Reads W' W'.heap.size k A n xs := (h.below hb).more hb.size
end
end Go.Proofs.YtjliakjbdcplcaaGreat
end

section
namespace Go.Proofs.YtjliakjbdcplcaaGreat
open Go.RowKit
set_option linter.unusedVariables false
set_option linter.unusedSimpArgs false

theorem u64_bd4 (z : Int) : 0 ≤ IntKind.u64.wrap z ∧ IntKind.u64.wrap z < 18446744073709551616 := by
  have e : IntKind.u64.wrap z = z % 18446744073709551616 := by simp [IntKind.wrap, IntKind.bits, IntKind.signed]
  rw [e]; omega
def tbl14 : List Int := [3, 3, 3, 3, 3, 4, 5, 5, 5, 6, 6, 6, 7, 8, 8, 9, 10, 10, 10, 11, 11, 1, 2]
def op14 (o : Int) : Int := if o % 40 < 17 then 33 + o % 40 else tbl14.getD (o % 40 - 17).toNat 0
def tblV : Array Value := #[.int .u8 3, .int .u8 3, .int .u8 3, .int .u8 3, .int .u8 3, .int .u8 4, .int .u8 5, .int .u8 5, .int .u8 5, .int .u8 6, .int .u8 6, .int .u8 6, .int .u8 7, .int .u8 8, .int .u8 8, .int .u8 9, .int .u8 10, .int .u8 10, .int .u8 10, .int .u8 11, .int .u8 11, .int .u8 1, .int .u8 2]
theorem tblV_at (k : Nat) (h : k < 23) : tblV[k]? = some (.int .u8 (tbl14.getD k 0)) := by
  match k, h with
  | 0, _ => rfl
  | 1, _ => rfl
  | 2, _ => rfl
  | 3, _ => rfl
  | 4, _ => rfl
  | 5, _ => rfl
  | 6, _ => rfl
  | 7, _ => rfl
  | 8, _ => rfl
  | 9, _ => rfl
  | 10, _ => rfl
  | 11, _ => rfl
  | 12, _ => rfl
  | 13, _ => rfl
  | 14, _ => rfl
  | 15, _ => rfl
  | 16, _ => rfl
  | 17, _ => rfl
  | 18, _ => rfl
  | 19, _ => rfl
  | 20, _ => rfl
  | 21, _ => rfl
  | 22, _ => rfl
  | n + 23, h => exact absurd h (by omega)
theorem tblV_get (k : Nat) (h : k < ([.int .u8 3, .int .u8 3, .int .u8 3, .int .u8 3, .int .u8 3, .int .u8 4, .int .u8 5, .int .u8 5, .int .u8 5, .int .u8 6, .int .u8 6, .int .u8 6, .int .u8 7, .int .u8 8, .int .u8 8, .int .u8 9, .int .u8 10, .int .u8 10, .int .u8 10, .int .u8 11, .int .u8 11, .int .u8 1, .int .u8 2] : List Value).length) : ([.int .u8 3, .int .u8 3, .int .u8 3, .int .u8 3, .int .u8 3, .int .u8 4, .int .u8 5, .int .u8 5, .int .u8 5, .int .u8 6, .int .u8 6, .int .u8 6, .int .u8 7, .int .u8 8, .int .u8 8, .int .u8 9, .int .u8 10, .int .u8 10, .int .u8 10, .int .u8 11, .int .u8 11, .int .u8 1, .int .u8 2] : List Value)[k] = .int .u8 (tbl14.getD k 0) := by
  have := tblV_at k h
  unfold tblV at this
  rw [List.getElem?_toArray] at this
  exact Option.some.inj ((List.getElem?_eq_getElem h).symm.trans this)
theorem op14_bd (o : Int) : 1 ≤ op14 o ∧ op14 o ≤ 49 ∧ formC (op14 o) ≠ 0 := by
  unfold op14
  by_cases h : o % 40 < 17
  · rw [if_pos h]
    refine ⟨by omega, by omega, ?_⟩
    unfold formC
    rw [if_pos (by omega)]
    decide
  · rw [if_neg h]
    obtain ⟨k, hk, hk2⟩ : ∃ k : Nat, (o % 40 - 17).toNat = k ∧ k < 23 := ⟨_, rfl, by omega⟩
    rw [hk]
    match k, hk2 with
    | 0, _ => exact (by decide)
    | 1, _ => exact (by decide)
    | 2, _ => exact (by decide)
    | 3, _ => exact (by decide)
    | 4, _ => exact (by decide)
    | 5, _ => exact (by decide)
    | 6, _ => exact (by decide)
    | 7, _ => exact (by decide)
    | 8, _ => exact (by decide)
    | 9, _ => exact (by decide)
    | 10, _ => exact (by decide)
    | 11, _ => exact (by decide)
    | 12, _ => exact (by decide)
    | 13, _ => exact (by decide)
    | 14, _ => exact (by decide)
    | 15, _ => exact (by decide)
    | 16, _ => exact (by decide)
    | 17, _ => exact (by decide)
    | 18, _ => exact (by decide)
    | 19, _ => exact (by decide)
    | 20, _ => exact (by decide)
    | 21, _ => exact (by decide)
    | 22, _ => exact (by decide)
    | n + 23, h => exact absurd h (by omega)
set_option maxRecDepth 100000 in
set_option maxHeartbeats 1000000 in
theorem op14_c (x : Ins) (hx : x.ok) (w : World) : Calls Tryz.prog 130 #[x.v] w fun e w' => e = .returned (.int .u8 (op14 x.op)) ∧ Below w.heap.size w w' := by
  obtain ⟨o0, o1, -, -, -, -, -, -, -, -⟩ := hx
  obtain ⟨op, a, b, c, n⟩ := x
  dsimp only at o0 o1 ⊢
  unfold Ins.v
  dsimp only
  have m1 : Int.tmod op 40 = op % 40 := Int.tmod_eq_emod_of_nonneg o0
  have hv : op14 op = if op % 40 < 17 then 33 + op % 40 else tbl14.getD (op % 40 - 17).toNat 0 := rfl
  obtain ⟨M, hM⟩ : ∃ M, M = op % 40 := ⟨_, rfl⟩
  have hM0 : 0 ≤ M ∧ M < 40 := by omega
  rw [← hM] at m1 hv
  have hM' : op % 40 = M := hM.symm
  clear hM
  by_cases h : M < 17
  · rw [if_pos h] at hv
    rw [hv]
    have d1 := decide_eq_true h
    have w1 : IntKind.u8.wrap (33 + M) = 33 + M := IntWalk.u8_in _ (by omega)
    clear hv
    go_enter Tryz.func130, Tryz.ntmps130
    go_wp2_with fail
    go_ret
    exact ⟨rfl, (Below.refl _ w).alloc (Nat.le_refl _) _⟩
  · rw [if_neg h] at hv
    rw [hv]
    have d1 := decide_eq_false h
    have w1 : IntKind.u8.wrap (M - 17) = M - 17 := IntWalk.u8_in _ (by omega)
    obtain ⟨k, hk⟩ : ∃ k : Nat, M - 17 = k := ⟨(M - 17).toNat, by omega⟩
    have hk23 : k < 23 := by omega
    have hk0 : (0 : Int) ≤ (k : Int) := by omega
    have hk1 : (k : Int) < 23 := by omega
    rw [hk] at w1
    have hz : ((M - 17).toNat) = k := by omega
    rw [hz]
    have hb := tblV_get k
    obtain ⟨V, hV⟩ : ∃ V, V = tbl14.getD k 0 := ⟨_, rfl⟩
    rw [← hV] at hb ⊢
    clear hv hV hz h
    go_enter Tryz.func130, Tryz.ntmps130
    go_wp2_with fail
    go_ret
    exact ⟨rfl, ((Below.refl _ w).alloc (Nat.le_refl _) _).alloc (by simp) _⟩

def fld14 (x : Ins) : Nat → Int | 0 => x.a | 1 => x.b | _ => x.c
def setF14 (i : Ins) (k : Nat) (v : Int) : Ins := match k with | 0 => { i with a := v } | 1 => { i with b := v } | _ => { i with c := v }
def step14 (x : Ins) (M : Int) (st : Nat × Ins) (l : UInt8) : Nat × Ins :=
  if l.toNat = 114 then (st.1 + 1, if st.1 < 3 then setF14 st.2 st.1 (fld14 x st.1 % 8) else st.2)
  else if l.toNat = 110 then (st.1, { st.2 with n := x.n })
  else if l.toNat = 112 then (st.1, { st.2 with n := IntKind.u64.wrap x.n % 16 })
  else (st.1, { st.2 with n := IntKind.u64.wrap x.n % M })
def fold14 (x : Ins) (M : Int) (S : ByteArray) (p : Nat) : Nat × Ins := (S.data.toList.take p).foldl (step14 x M) (0, ⟨op14 x.op, 0, 0, 0, 0⟩)
theorem fold14_succ (x : Ins) (M : Int) (S : ByteArray) (p : Nat) (h : p < S.size) : fold14 x M S (p + 1) = step14 x M (fold14 x M S p) (S[p]'h) := by
  unfold fold14
  rw [List.take_add_one]
  have : S.data.toList[p]? = some (S[p]'h) := by
    rw [Array.getElem?_toList]
    exact Array.getElem?_eq_getElem (show p < S.data.size from h)
  rw [this]
  simp
def itPos (S : ByteArray) (g : Nat) (X : World) : Nat := match X.heap[g]? with | some (.stringIter _ p) => S.size - p | _ => 0
theorem itPos_eq {S : ByteArray} {g p : Nat} {X : World} (h : X.heap[g]? = some (.stringIter S p)) : itPos S g X = S.size - p := by unfold itPos; rw [h]
structure MI (w : World) (B : Nat) (x : Ins) (S : ByteArray) (p : Nat) (out : Ins) (X : World) : Prop where
  it : X.heap[B + 2]? = some (.stringIter S p)
  b8 : Blk X B 38 #[.int .u8 out.op, .int .u8 out.a, .int .u8 out.b, .int .u8 out.c, .int .i64 out.n]
  b2 : Blk X w.heap.size 194 #[.int .u8 x.op, .int .u8 x.a, .int .u8 x.b, .int .u8 x.c, .int .i64 x.n]
  b9 : Blk X (B + 1) 226 #[.pointer (some ⟨B, 1, none⟩), .pointer (some ⟨B, 2, none⟩), .pointer (some ⟨B, 3, none⟩)]
  b4 : Blk X (w.heap.size + 1) 38 #[.int .u8 0, .int .u8 0, .int .u8 0, .int .u8 0, .int .i64 0]
  below : Below w.heap.size w X
section
variable {w X : World} {B : Nat} {x out : Ins} {S : ByteArray} {p : Nat}
theorem MI.next (h : MI w B x S p out X) (hB : w.heap.size + 1 < B) (q : Nat) : MI w B x S q out (X.iterAt (B + 2) S q) :=
  have f : ∀ {g t cs}, g ≠ B + 2 → Blk X g t cs → Blk (X.iterAt (B + 2) S q) g t cs := fun hg hb => (Lib.iterAt_other X (B + 2) _ S q hg).trans hb
  ⟨Lib.iterAt_heap X (B + 2) S p q h.it, f (by omega) h.b8, f (by omega) h.b2, f (by omega) h.b9, f (by omega) h.b4, Lib.below_iterAt h.below (by omega) S q⟩
theorem MI.alloc (h : MI w B x S p out X) (o : Obj) : MI w B x S p out (X.alloc o) :=
  ⟨(Below.heap_alloc X o _ (Array.getElem?_eq_some_iff.1 h.it).1).trans h.it, h.b8.alloc o, h.b2.alloc o, h.b9.alloc o, h.b4.alloc o, h.below.alloc h.below.size o⟩
theorem MI.drew (h : MI w B x S p out X) : MI w B x S p out X.drew := ⟨h.it, h.b8, h.b2, h.b9, h.b4, h.below.drew⟩
theorem MI.set (h : MI w B x S p out X) (hB : w.heap.size + 1 < B) (i : Nat) (u : Value) (out' : Ins) (ho : (#[.int .u8 out.op, .int .u8 out.a, .int .u8 out.b, .int .u8 out.c, .int .i64 out.n] : Array Value).setIfInBounds i u = #[.int .u8 out'.op, .int .u8 out'.a, .int .u8 out'.b, .int .u8 out'.c, .int .i64 out'.n]) :
    MI w B x S p out' (X.setCell ⟨B, i, none⟩ u) :=
  ⟨(Below.heap_setCell X ⟨B, i, none⟩ u (B + 2) (by show B + 2 ≠ B; omega)).trans h.it, ho ▸ h.b8.set_ i u, h.b2.far (p := ⟨B, i, none⟩) (by show w.heap.size ≠ B; omega) u, h.b9.far (p := ⟨B, i, none⟩) (by show B + 1 ≠ B; omega) u, h.b4.far (p := ⟨B, i, none⟩) (by show w.heap.size + 1 ≠ B; omega) u, h.below.setCell (p := ⟨B, i, none⟩) (by show w.heap.size ≤ B; omega) u⟩
end
set_option maxRecDepth 100000 in
set_option maxHeartbeats 4000000 in
theorem one14_w (x : Ins) (hx : x.ok) (n : Int) (hn : 1 ≤ n ∧ n ≤ 1000000) (S : ByteArray) (hS : S.size ≤ 100) (hasc : ∀ p (h : p < S.size), (S[p]'h).toNat < 128) (w : World)
    (hform : ∀ w, Calls Tryz.prog 131 #[.int .u8 (op14 x.op)] w fun e w' => e = .returned (.tuple #[.string S, .bool true]) ∧ Below w.heap.size w w') :
    Calls Tryz.prog 103 #[x.v, .int .i64 n] w fun e w' => e = .returned (fold14 x n S S.size).2.v ∧ Below w.heap.size w w' := by
  have HOP := Lib.hid (fun W => op14_c x hx W)
  have HF := Lib.hid hform
  clear hform
  obtain ⟨o0, o1, a0, a1, b0, b1, c0, c1, n0, n1⟩ := hx
  have f0 : fold14 x n S 0 = (0, ⟨op14 x.op, 0, 0, 0, 0⟩) := by simp [fold14]
  have hfs := fun p h => fold14_succ x n S p h
  obtain ⟨op, hop⟩ : ∃ op, op = op14 x.op := ⟨_, rfl⟩
  rw [← hop] at HOP HF f0
  clear hop
  obtain ⟨F, hF⟩ : ∃ F, F = fold14 x n S := ⟨_, rfl⟩
  rw [← hF] at f0 hfs ⊢
  clear hF
  obtain ⟨x0, xa, xb, xc, xn⟩ := x
  unfold Ins.v at HOP ⊢
  dsimp only at o0 o1 a0 a1 b0 b1 c0 c1 n0 n1 HOP ⊢
  obtain ⟨U, hU⟩ : ∃ U, U = IntKind.u64.wrap xn := ⟨_, rfl⟩
  have hU0 := u64_bd4 xn
  rw [← hU] at hU0
  have HFS := Lib.hid hfs
  have HU := Lib.hid hU
  have u1 : IntKind.u64.wrap xn = U := hU.symm
  clear hfs hU
  go_enter Tryz.func103, Tryz.ntmps103
  go_upto_region 1 with fail
  have hA0 : AW w [] [] w := ⟨Below.refl _ _, by simp, by simp⟩
  have hA1 := (hA0.put 194 #[.int .u8 x0, .int .u8 xa, .int .u8 xb, .int .u8 xc, .int .i64 xn]).put' (g := w.heap.size + 1) 38 #[.int .u8 0, .int .u8 0, .int .u8 0, .int .u8 0, .int .i64 0] (by simp)
  obtain ⟨W, hW⟩ : ∃ W, W = ((w.alloc (.cells #[.int .u8 x0, .int .u8 xa, .int .u8 xb, .int .u8 xc, .int .i64 xn] 194)).alloc (.cells #[.int .u8 0, .int .u8 0, .int .u8 0, .int .u8 0, .int .i64 0] 38)) := ⟨_, rfl⟩
  rw [← hW] at hA1 ⊢
  clear hW hA0
  obtain ⟨⟨z0, z1, z2, z3, z4⟩, zf⟩ := blk5 (hA1.l _ (.tail _ (.head _)))
  dsimp only at z0 z1 z2 z3 z4
  clear zf
  go_wp2_with fail
  clear z0 z1 z2 z3 z4
  go_at_call 130
  refine (HOP.out W).mono ?_
  rintro e W1 ⟨rfl, hb⟩
  have hA2 := hA1.call hb
  clear hb hA1 HOP
  go_wp2_with fail
  go_at_call 131
  refine (HF.out W1).mono ?_
  rintro e W2 ⟨rfl, hb⟩
  have hA3 := hA2.call hb
  clear hb hA2 HF
  go_upto_region 5 with fail
  have hA4 := (hA3.put 38 #[.int .u8 op, .int .u8 0, .int .u8 0, .int .u8 0, .int .i64 0]).put' (g := W2.heap.size + 1) 226 #[.pointer (some ⟨W2.heap.size, 1, none⟩), .pointer (some ⟨W2.heap.size, 2, none⟩), .pointer (some ⟨W2.heap.size, 3, none⟩)] (by simp)
  have hlt : w.heap.size + 1 < W2.heap.size := (hA3.l _ (.head _)).lt
  obtain ⟨W3, hW⟩ : ∃ W, W = ((W2.alloc (.cells #[.int .u8 op, .int .u8 0, .int .u8 0, .int .u8 0, .int .i64 0] 38)).alloc (.cells #[.pointer (some ⟨W2.heap.size, 1, none⟩), .pointer (some ⟨W2.heap.size, 2, none⟩), .pointer (some ⟨W2.heap.size, 3, none⟩)] 226)) := ⟨_, rfl⟩
  have hz3 : W3.heap.size = W2.heap.size + 2 := by rw [hW]; simp
  rw [← hW] at hA4 ⊢
  clear hW hA3
  obtain ⟨B, hB⟩ : ∃ B, B = W2.heap.size := ⟨_, rfl⟩
  rw [← hB] at hA4 hlt hz3 ⊢
  have hI0 : MI w B ⟨x0, xa, xb, xc, xn⟩ S 0 ⟨op, 0, 0, 0, 0⟩ (W3.iter S 0) := ⟨hz3 ▸ heap_alloc_new W3 _, (hA4.l _ (.tail _ (.head _))).alloc _, (hA4.l _ (.tail _ (.tail _ (.tail _ (.head _))))).alloc _, (hA4.l _ (.head _)).alloc _, (hA4.l _ (.tail _ (.tail _ (.head _)))).alloc _, hA4.b.alloc hA4.b.size _⟩
  clear hB hA4
  go_wp2
  go_loopw [10] (fun k wr => ∃ (p u : Nat) (out : Ins), k = .int .i64 u ∧ p ≤ S.size ∧ u ≤ p ∧ F p = (u, out) ∧ MI w B ⟨x0, xa, xb, xc, xn⟩ S p out wr) (fun _ wr => itPos S (B + 2) wr)
  case atStart => exact ⟨0, 0, _, rfl, by omega, by omega, f0, hI0⟩
  case round =>
    obtain ⟨p, u, out, rfl, hp, hup, hF, hI⟩ := hrel
    clear hI0 f0 hz3
    have hm := itPos_eq hI.it
    by_cases hps : p < S.size
    · have hn := fun ty => Lib.run_next_ascii_at (P := Tryz.prog) wr (B + 2) S p ty hI.it hps (hasc p hps)
      have hI' := hI.next hlt (p + 1)
      obtain ⟨X, hX⟩ : ∃ X, X = wr.iterAt (B + 2) S (p + 1) := ⟨_, rfl⟩
      rw [← hX] at hn hI'
      clear hX hI
      have hs := HFS.out p hps
      rw [hF] at hs
      obtain ⟨l, hl⟩ : ∃ l, l = S[p]'hps := ⟨_, rfl⟩
      rw [← hl] at hs hn
      obtain ⟨z, hz⟩ : ∃ z : Nat, z = l.toNat := ⟨_, rfl⟩
      rw [← hz] at hn
      unfold step14 at hs
      rw [← hz] at hs
      dsimp only at hs
      have HM := Lib.hid hm
      clear hz hl hF hm hasc
      obtain ⟨⟨y0, y1, y2, y3, y4⟩, yf⟩ := blk5 hI'.b2
      dsimp only at y0 y1 y2 y3 y4
      clear yf
      have t0 : X.cell? ⟨B + 1, 0, none⟩ = some (.pointer (some ⟨B, 1, none⟩)) := hI'.b9.cell 0
      have t1 : X.cell? ⟨B + 1, 1, none⟩ = some (.pointer (some ⟨B, 2, none⟩)) := hI'.b9.cell 1
      have t2 : X.cell? ⟨B + 1, 2, none⟩ = some (.pointer (some ⟨B, 3, none⟩)) := hI'.b9.cell 2
      obtain ⟨⟨k0, k1, k2, k3, k4⟩, kf⟩ := blk5 hI'.b8
      have hlX : B < X.heap.size := hI'.b8.lt
      have hlX1 : B + 1 < X.heap.size := hI'.b9.lt
      have hlw : w.heap.size < X.heap.size := hI'.b2.lt
      by_cases h114 : z = 114
      · rw [if_pos h114] at hs
        subst h114
        by_cases hu3 : u < 3
        · rw [if_pos hu3] at hs
          have hu : u = 0 ∨ u = 1 ∨ u = 2 := by omega
          rcases hu with rfl | rfl | rfl
          · have v1 : Int.tmod xa 8 = xa % 8 := Int.tmod_eq_emod_of_nonneg a0
            have hJ : MI w B ⟨x0, xa, xb, xc, xn⟩ S (p + 1) (setF14 out 0 (xa % 8)) _ := ((hI'.set hlt 1 (.int .u8 (xa % 8)) _ rfl).alloc (.cells #[.int .u8 xa, .int .u8 xb, .int .u8 xc] 5)).drew
            have HJ := Lib.hid hJ
            clear hJ
            go_wp2_with go_region
            all_goals (try go_wp2)
            all_goals exact ⟨⟨p + 1, 1, _, rfl, by omega, by omega, hs, HJ.out⟩, by rw [itPos_eq HJ.out.it, HM.out]; omega⟩
          · have v1 : Int.tmod xb 8 = xb % 8 := Int.tmod_eq_emod_of_nonneg b0
            have hJ : MI w B ⟨x0, xa, xb, xc, xn⟩ S (p + 1) (setF14 out 1 (xb % 8)) _ := ((hI'.set hlt 2 (.int .u8 (xb % 8)) _ rfl).alloc (.cells #[.int .u8 xa, .int .u8 xb, .int .u8 xc] 5)).drew
            have HJ := Lib.hid hJ
            clear hJ
            go_wp2_with go_region
            all_goals (try go_wp2)
            all_goals exact ⟨⟨p + 1, 2, _, rfl, by omega, by omega, hs, HJ.out⟩, by rw [itPos_eq HJ.out.it, HM.out]; omega⟩
          · have v1 : Int.tmod xc 8 = xc % 8 := Int.tmod_eq_emod_of_nonneg c0
            have hJ : MI w B ⟨x0, xa, xb, xc, xn⟩ S (p + 1) (setF14 out 2 (xc % 8)) _ := ((hI'.set hlt 3 (.int .u8 (xc % 8)) _ rfl).alloc (.cells #[.int .u8 xa, .int .u8 xb, .int .u8 xc] 5)).drew
            have HJ := Lib.hid hJ
            clear hJ
            go_wp2_with go_region
            all_goals (try go_wp2)
            all_goals exact ⟨⟨p + 1, 3, _, rfl, by omega, by omega, hs, HJ.out⟩, by rw [itPos_eq HJ.out.it, HM.out]; omega⟩
        · rw [if_neg hu3] at hs
          have d3 : decide ((u : Int) < 3) = false := decide_eq_false (by omega)
          have d4 : ¬ (u : Int) < 3 := by omega
          clear y0 y1 y2 y3 y4 t0 t1 t2 k0 k1 k2 k3 k4 kf
          go_wp2_with fail
          go_roundw
          case rel => exact ⟨p + 1, u + 1, out, by go_num, by omega, by omega, hs, hI'⟩
          case measure => rw [itPos_eq hI'.it, HM.out]; omega
      · rw [if_neg h114] at hs
        have q1 : ((z : Int) == 114) = false := by simp; omega
        have q2 : decide ((z : Int) = 114) = false := decide_eq_false (by omega)
        have q3 : ¬ (z : Int) = 114 := by omega
        by_cases h110 : z = 110
        · rw [if_pos h110] at hs
          subst h110
          clear q1 q2 q3 h114
          go_wp2_with fail
          go_roundw
          case rel => exact ⟨p + 1, u, _, by go_num, by omega, by omega, hs, hI'.set hlt 4 _ _ rfl⟩
          case measure => rw [itPos_eq (hI'.set hlt 4 _ ⟨out.op, out.a, out.b, out.c, xn⟩ rfl).it, HM.out]; omega
        · rw [if_neg h110] at hs
          have r1 : ((z : Int) == 110) = false := by simp; omega
          have r2 : decide ((z : Int) = 110) = false := decide_eq_false (by omega)
          have r3 : ¬ (z : Int) = 110 := by omega
          by_cases h112 : z = 112
          · rw [if_pos h112] at hs
            subst h112
            rw [u1] at hs
            have v1 : Int.tmod U 16 = U % 16 := Int.tmod_eq_emod_of_nonneg hU0.1
            have v2 : IntKind.i64.wrap (U % 16) = U % 16 := by simp [IntKind.wrap, IntKind.bits, IntKind.signed]; omega
            clear q1 q2 q3 r1 r2 r3 h114 h110
            go_wp2_with fail
            go_roundw
            case rel => exact ⟨p + 1, u, _, by go_num, by omega, by omega, hs, hI'.set hlt 4 _ _ rfl⟩
            case measure => rw [itPos_eq (hI'.set hlt 4 _ ⟨out.op, out.a, out.b, out.c, U % 16⟩ rfl).it, HM.out]; omega
          · rw [if_neg h112] at hs
            have s1 : ((z : Int) == 112) = false := by simp; omega
            have s2 : decide ((z : Int) = 112) = false := decide_eq_false (by omega)
            have s3 : ¬ (z : Int) = 112 := by omega
            rw [u1] at hs
            have v1 : Int.tmod U n = U % n := Int.tmod_eq_emod_of_nonneg hU0.1
            have v2 : IntKind.i64.wrap (U % n) = U % n := by
              have := Int.emod_nonneg U (b := n) (by omega)
              have := Int.emod_lt_of_pos U (b := n) (by omega)
              simp [IntKind.wrap, IntKind.bits, IntKind.signed]; omega
            have v3 : IntKind.u64.wrap n = n := by simp [IntKind.wrap, IntKind.bits, IntKind.signed]; omega
            have v4 : (n == 0) = false := by simp; omega
            have v5 : ¬ n = 0 := by omega
            have v6 : n ≠ 0 := by omega
            have hmax : ∀ W : World, (Builtin.max_ #[3, 3] 3 #[.int .i64 n, .int .i64 1]).run Tryz.prog W = .ok (.int .i64 n) W := fun W => max_i64 _ _ _ _ 0 _ (by split <;> omega) W
            clear h114 h110 h112
            go_wp2_with fail
            go_roundw
            case rel => exact ⟨p + 1, u, _, by go_num, by omega, by omega, hs, hI'.set hlt 4 _ _ rfl⟩
            case measure => rw [itPos_eq (hI'.set hlt 4 _ ⟨out.op, out.a, out.b, out.c, U % n⟩ rfl).it, HM.out]; omega
    · have hpe : p = S.size := by omega
      have hn := fun ty => Lib.run_next_end_at (P := Tryz.prog) wr (B + 2) S p ty hI.it hps
      have b8 := hI.b8
      have b4 := hI.b4
      have hb := hI.below
      have hv : (F S.size).2 = out := by rw [← hpe, hF]
      have HV := Lib.hid hv
      clear hI hF hm hv
      go_wp2_with (first
        | refine wpList_load_row (P := Tryz.prog) rfl 38 (.tmp 8) rfl B rfl 38 _ (0, 0) _ b8 Tryz.underlying38 rfl (by kernel_rfl) ?_
        | refine wpList_store_row (P := Tryz.prog) rfl 38 (.tmp 4) (.tmp 76) rfl (w.heap.size + 1) #[.int .u8 out.op, .int .u8 out.a, .int .u8 out.b, .int .u8 out.c, .int .i64 out.n] rfl rfl 38 _ b4 (by kernel_rfl) rfl (by kernel_rfl) ?_)
      (try simp only [Exit.inBlock, Exit.then])
      refine bodyPost_ret (v := .agg #[.int .u8 out.op, .int .u8 out.a, .int .u8 out.b, .int .u8 out.c, .int .i64 out.n]) (results_cell_row (P := Tryz.prog) (p := 4) (ty := 38) rfl _ _ (w.heap.size + 1) 38 _ (0, 0) _ rfl (Blk.row b4 _) Tryz.underlying38 rfl (by kernel_rfl)) rfl ?_
      exact ⟨by rw [HV.out], below_setRow hb (Nat.le_succ _) _⟩

end Go.Proofs.YtjliakjbdcplcaaGreat
end

section
namespace Go.Proofs.YtjliakjbdcplcaaGreat
open Go.RowKit
set_option linter.unusedVariables false
set_option linter.unusedSimpArgs false

def one14 (x : Ins) (M : Int) : Ins := (fold14 x M (formS (formC (op14 x.op))) (formS (formC (op14 x.op))).size).2
theorem formC_cases (op : Int) : formC op = 0 ∨ formC op = 1 ∨ formC op = 2 ∨ formC op = 3 ∨ formC op = 4 ∨ formC op = 5 ∨ formC op = 6 ∨ formC op = 7 := by
  unfold formC; repeat (first | (split; · simp) | simp)
theorem formS_size (k : Nat) : (formS k).size ≤ 100 := by
  unfold formS; split <;> decide
theorem formS_asc (k : Nat) : ∀ p (h : p < (formS k).size), ((formS k)[p]'h).toNat < 128 := by
  have key : ∀ k, k < 8 → ∀ p (h : p < (formS k).size), ((formS k)[p]'h).toNat < 128 := by decide
  rcases Nat.lt_or_ge k 8 with h | h
  · exact key k h
  · intro p hp
    have : formS k = ⟨#[]⟩ := by
      unfold formS
      split <;> first | omega | rfl
    rw [this] at hp
    exact absurd hp (Nat.not_lt_zero p)
theorem one14_c (x : Ins) (hx : x.ok) (n : Int) (hn : 1 ≤ n ∧ n ≤ 1000000) (w : World) :
    Calls Tryz.prog 103 #[x.v, .int .i64 n] w fun e w' => e = .returned (one14 x n).v ∧ Below w.heap.size w w' := by
  have hb := op14_bd x.op
  have hf := fun w => form_c (op14 x.op) (by omega) w
  have h0 : (formC (op14 x.op) != 0) = true := by simpa using hb.2.2
  rw [h0] at hf
  exact one14_w x hx n hn _ (formS_size _) (formS_asc _) w hf
theorem one14_eq (x : Ins) (M : Int) : one14 x M = match formC (op14 x.op) with
    | 1 => ⟨op14 x.op, x.a % 8, x.b % 8, x.c % 8, 0⟩
    | 3 => ⟨op14 x.op, x.a % 8, 0, 0, x.n⟩
    | 4 => ⟨op14 x.op, x.a % 8, x.b % 8, 0, 0⟩
    | 5 => ⟨op14 x.op, x.a % 8, x.b % 8, 0, IntKind.u64.wrap x.n % 16⟩
    | 6 => ⟨op14 x.op, 0, 0, 0, IntKind.u64.wrap x.n % M⟩
    | 7 => ⟨op14 x.op, x.a % 8, 0, 0, IntKind.u64.wrap x.n % M⟩
    | _ => ⟨op14 x.op, 0, 0, 0, 0⟩ := by
  unfold one14
  rcases formC_cases (op14 x.op) with h | h | h | h | h | h | h | h <;> (rw [h]; rfl)
theorem one14_forms (x : Ins) (M : Int) : (formC (op14 x.op) = 1 ∧ one14 x M = ⟨op14 x.op, x.a % 8, x.b % 8, x.c % 8, 0⟩) ∨ (formC (op14 x.op) = 2 ∧ one14 x M = ⟨op14 x.op, 0, 0, 0, 0⟩) ∨
    (formC (op14 x.op) = 3 ∧ one14 x M = ⟨op14 x.op, x.a % 8, 0, 0, x.n⟩) ∨ (formC (op14 x.op) = 4 ∧ one14 x M = ⟨op14 x.op, x.a % 8, x.b % 8, 0, 0⟩) ∨
    (formC (op14 x.op) = 5 ∧ one14 x M = ⟨op14 x.op, x.a % 8, x.b % 8, 0, IntKind.u64.wrap x.n % 16⟩) ∨ (formC (op14 x.op) = 6 ∧ one14 x M = ⟨op14 x.op, 0, 0, 0, IntKind.u64.wrap x.n % M⟩) ∨
    (formC (op14 x.op) = 7 ∧ one14 x M = ⟨op14 x.op, x.a % 8, 0, 0, IntKind.u64.wrap x.n % M⟩) := by
  have he := one14_eq x M
  rcases formC_cases (op14 x.op) with h | h | h | h | h | h | h | h
  · exact absurd h (op14_bd x.op).2.2
  · exact .inl ⟨h, by rw [he, h]; rfl⟩
  · exact .inr (.inl ⟨h, by rw [he, h]; rfl⟩)
  · exact .inr (.inr (.inl ⟨h, by rw [he, h]; rfl⟩))
  · exact .inr (.inr (.inr (.inl ⟨h, by rw [he, h]; rfl⟩)))
  · exact .inr (.inr (.inr (.inr (.inl ⟨h, by rw [he, h]; rfl⟩))))
  · exact .inr (.inr (.inr (.inr (.inr (.inl ⟨h, by rw [he, h]; rfl⟩)))))
  · exact .inr (.inr (.inr (.inr (.inr (.inr ⟨h, by rw [he, h]; rfl⟩)))))
theorem one14_op (x : Ins) (M : Int) : (one14 x M).op = op14 x.op := by
  rcases one14_forms x M with ⟨_, h⟩ | ⟨_, h⟩ | ⟨_, h⟩ | ⟨_, h⟩ | ⟨_, h⟩ | ⟨_, h⟩ | ⟨_, h⟩ <;> rw [h]
theorem ok_mk {op a b c n : Int} (h : (0 ≤ op ∧ op ≤ 255) ∧ (0 ≤ a ∧ a ≤ 255) ∧ (0 ≤ b ∧ b ≤ 255) ∧ (0 ≤ c ∧ c ≤ 255) ∧ (-9223372036854775808 ≤ n ∧ n ≤ 9223372036854775807)) : (⟨op, a, b, c, n⟩ : Ins).ok :=
  ⟨h.1.1, h.1.2, h.2.1.1, h.2.1.2, h.2.2.1.1, h.2.2.1.2, h.2.2.2.1.1, h.2.2.2.1.2, h.2.2.2.2.1, h.2.2.2.2.2⟩
theorem one14_ok (x : Ins) (hx : x.ok) (M : Int) (hM : 1 ≤ M ∧ M ≤ 1000000) : (one14 x M).ok := by
  have hb := op14_bd x.op
  have hu := u64_bd4 x.n
  have hm := Int.emod_nonneg (IntKind.u64.wrap x.n) (b := M) (by omega)
  have hm2 := Int.emod_lt_of_pos (IntKind.u64.wrap x.n) (b := M) (by omega)
  obtain ⟨-, -, -, -, -, -, -, -, n0, n1⟩ := hx
  rcases one14_forms x M with ⟨_, h⟩ | ⟨_, h⟩ | ⟨_, h⟩ | ⟨_, h⟩ | ⟨_, h⟩ | ⟨_, h⟩ | ⟨_, h⟩ <;> (rw [h]; exact ok_mk (by omega))
theorem one14_one (x : Ins) (M : Int) (hM : 1 ≤ M ∧ M ≤ 256) : oneE (one14 x M) = 0 := by
  have hb := op14_bd x.op
  have hu := u64_bd4 x.n
  have hm := Int.emod_nonneg (IntKind.u64.wrap x.n) (b := M) (by omega)
  have hm2 := Int.emod_lt_of_pos (IntKind.u64.wrap x.n) (b := M) (by omega)
  unfold oneE
  rw [one14_op, if_neg hb.2.2]
  rcases one14_forms x M with ⟨h1, h⟩ | ⟨h1, h⟩ | ⟨h1, h⟩ | ⟨h1, h⟩ | ⟨h1, h⟩ | ⟨h1, h⟩ | ⟨h1, h⟩ <;> rw [h1, h]
  · exact Vm.b16
  · exact Vm.b16
  · exact oneK_pos (show _ ∧ _ ∧ _ by dsimp only; omega)
  · exact Vm.b16
  · exact Vm.b17
  · exact Vm.b17
  · exact Vm.b17
theorem one14_bad (x : Ins) (M : Int) (hM : 1 ≤ M ∧ M ≤ 256) : badAt M (one14 x M) = 0 := by
  have h1 := one14_one x M hM
  have hb := op14_bd x.op
  have hm2 := Int.emod_lt_of_pos (IntKind.u64.wrap x.n) (b := M) (by omega)
  unfold badAt
  rw [if_neg (by simp [h1])]
  by_cases ht : targB (one14 x M) = true
  · rw [if_neg]
    rintro ⟨-, h2⟩
    have h3 : targV (one14 x M) = (one14 x M).n := by unfold targV; rw [if_pos ht]
    rw [h3] at h2
    unfold targB at ht
    rw [one14_op] at ht
    simp [h1] at ht
    have hc : formC (op14 x.op) = 6 ∨ formC (op14 x.op) = 7 := by
      rcases ht with h | h | h <;> rw [h] <;> decide
    rcases one14_forms x M with ⟨h5, h⟩ | ⟨h5, h⟩ | ⟨h5, h⟩ | ⟨h5, h⟩ | ⟨h5, h⟩ | ⟨h5, h⟩ | ⟨h5, h⟩ <;> first | omega | (rw [h] at h2; dsimp only at h2; omega)
  · rw [if_neg (by simp [ht])]
def made14 (xs : List Ins) : List Ins := (xs.take 40).map (fun x => one14 x ((xs.take 40).length + 1 : Nat)) ++ [haltI]
theorem made14_len (xs : List Ins) : (made14 xs).length = (xs.take 40).length + 1 := by simp [made14]
theorem made14_le (xs : List Ins) : 1 ≤ (made14 xs).length ∧ (made14 xs).length ≤ 41 := by
  rw [made14_len, List.length_take]; omega
theorem made14_ok (xs : List Ins) (hx : ∀ x ∈ xs, x.ok) : ∀ i ∈ made14 xs, i.ok := by
  intro i hi
  unfold made14 at hi
  rw [List.mem_append, List.mem_map] at hi
  rcases hi with ⟨x, h, rfl⟩ | h
  · exact one14_ok x (hx x (List.mem_of_mem_take h)) _ (by rw [List.length_take]; omega)
  · rw [List.mem_singleton] at h
    rw [h]; exact haltI_ok
theorem made14_bad (xs : List Ins) : ∀ i ∈ made14 xs, badAt (made14 xs).length i = 0 := by
  intro i hi
  rw [made14_len]
  unfold made14 at hi
  rw [List.mem_append, List.mem_map] at hi
  rcases hi with ⟨x, h, rfl⟩ | h
  · exact one14_bad x _ (by rw [List.length_take]; omega)
  · rw [List.mem_singleton] at h
    rw [h]
    unfold badAt
    rw [if_neg (by decide), if_neg (fun h => absurd h.1 (by decide))]
theorem made14_right (xs : List Ins) : (checkI (made14 xs)).2 = 0 := by
  have hl := made14_le xs
  unfold checkI
  rw [if_neg (by omega), if_neg (by omega)]
  have hK := checkK_none (p := made14 xs) (fun k hk y hy => made14_bad xs y (List.mem_of_getElem? hy))
  rw [hK]
  have : (made14 xs).getD ((made14 xs).length - 1) ⟨0, 0, 0, 0, 0⟩ = haltI := by
    rw [made14_len]
    simp [made14, List.getD]
  rw [this, if_neg (by decide)]
theorem reads_new5 (X : World) (t : TypeId) (a b c d e : Value) (gg : Nat) (h : gg = X.heap.size) : Reads (X.alloc (.cells #[a, b, c, d, e] t)) (gg + 1) 5 (some ⟨gg, 0, none⟩) 1 [a, b, c, d, e] := by
  subst h
  refine ⟨rfl, fun _ => ⟨_, rfl, Nat.lt_succ_self _, fun j u hu => ?_⟩⟩
  rw [Addr.add_lit, cell_of_row _ _ _ _ _ _ (heap_alloc_new X _), Nat.zero_add]
  simpa using hu
set_option maxRecDepth 100000 in
set_option maxHeartbeats 4000000 in
theorem made14_c (xs : List Ins) (hx : ∀ x ∈ xs, x.ok) (A : Option Addr) (n c : Nat) (w : World) (hA : Reads w w.heap.size 5 A n (insV xs)) (hc : n ≤ c) (hcm : c ≤ 9223372036854775807) :
    Calls Tryz.prog 73 #[.slice A n c] w fun e w' => ∃ P, e = .returned P ∧ w'.ownsRow w.heap.size 38 5 P (made14 xs).length (insV (made14 xs)) ∧ Below w.heap.size w w' := by
  have hn := hA.ins_len
  obtain ⟨m, hm⟩ : ∃ m, m = min n 40 := ⟨_, rfl⟩
  have hmn : m ≤ n := by omega
  have hm40 : m ≤ 40 := by omega
  have hml : (xs.take 40).length = m := by rw [List.length_take]; omega
  have hmin : ∀ W : World, (Builtin.min_ #[3, 3] 3 #[.int .i64 (n : Int), .int .i64 40]).run Tryz.prog W = .ok (.int .i64 (m : Int)) W := fun W => min_i64 _ _ _ _ 0 _ (by split <;> omega) W
  have hm0 : (0 : Int) ≤ (m : Int) := by omega
  have hmc : (m : Int) ≤ (c : Int) := by omega
  obtain ⟨iS, hi, hz0, hz1, hz2⟩ := info_parts infoIns
  have HL := Lib.hid hml
  clear hm hml
  go_enter Tryz.func73, Tryz.ntmps73
  go_wp2
  go_loopw [3, 13] (fun s k wr => ∃ (j : Nat) (D : Option Addr) (f : Nat), k = .int .i64 j ∧ s = .slice D j f ∧ j ≤ m ∧ wr.ownsRow w.heap.size 38 5 (.slice D j f) j (insV ((xs.take j).map fun x => one14 x (m + 1 : Nat))) ∧ Below w.heap.size w wr) (fun _ k _ => m - (intOf k).toNat)
  case atStart => exact ⟨0, none, 0, rfl, rfl, by omega, World.ownsRow_nil _ _ _ _, Below.refl _ _⟩
  case round =>
    obtain ⟨j, D, f, rfl, rfl, hj, ho, hb⟩ := hrel
    by_cases hlt : j < m
    · obtain ⟨ab, off, x, rfl, hab, hxj, c0, c1, c2, c3, c4⟩ := (hA.below hb).ins_at (show j < n by omega)
      have hxo : x.ok := hx x (List.mem_of_getElem? hxj)
      have hM : 1 ≤ ((m : Int) + 1) ∧ ((m : Int) + 1) ≤ 1000000 := by omega
      have w1 : wrap64 ((m : Int) + 1) = (m : Int) + 1 := by unfold wrap64; omega
      have OC := Lib.hid (fun W => one14_c x hxo ((m : Int) + 1) hM W)
      obtain ⟨y, hy⟩ : ∃ y, y = one14 x ((m : Int) + 1) := ⟨_, rfl⟩
      rw [← hy] at OC
      have hyo : y.ok := hy ▸ one14_ok x hxo _ hM
      have hstep : insV (((xs.take j).map fun x => one14 x (m + 1 : Nat))) ++ y.cells = insV ((xs.take (j + 1)).map fun x => one14 x (m + 1 : Nat)) := by
        rw [List.take_add_one, hxj, hy]
        simp [insV]
      have hab2 : ab < wr.heap.size := by have := hb.size; omega
      have HO := Lib.hid (And.intro ho (And.intro hstep hb))
      obtain ⟨x0, xa, xb, xc, xn⟩ := x
      obtain ⟨y0, ya, yb, yc, yn⟩ := y
      unfold Ins.v at OC
      dsimp only at OC c0 c1 c2 c3 c4
      clear ho hstep hb hA hxj hy hxo hyo
      go_wp2_with fail
      go_at_call 103
      refine (OC.out _).mono ?_
      rintro e W1 ⟨rfl, hb1⟩
      have hB1 : Below wr.heap.size wr W1 := ((Below.refl _ wr).alloc (Nat.le_refl _) _).trans (hb1.mono (by simp))
      have ho1 : W1.ownsRow w.heap.size 38 5 (.slice D j f) j (insV ((xs.take j).map fun x => one14 x (m + 1 : Nat))) := ownsRow_keep HO.out.1 fun k _ hk => hB1.block k hk
      have hb2 : Below w.heap.size w W1 := HO.out.2.2.trans (hB1.mono HO.out.2.2.size)
      have HQ := Lib.hid (And.intro ho1 hb2)
      have hrd : Reads (W1.alloc (.cells #[.int .u8 y0, .int .u8 ya, .int .u8 yb, .int .u8 yc, .int .i64 yn] 38)) (W1.heap.size + 1) 5 (some ⟨W1.heap.size, 0, none⟩) 1 [.int .u8 y0, .int .u8 ya, .int .u8 yb, .int .u8 yc, .int .i64 yn] := reads_new5 _ _ _ _ _ _ _ _ rfl
      have hones : ∀ u ∈ [Value.int .u8 y0, .int .u8 ya, .int .u8 yb, .int .u8 yc, .int .i64 yn], u.oneCell' = true := by
        intro u hu; simp at hu; rcases hu with rfl | rfl | rfl | rfl | rfl <;> rfl
      clear hb1 hB1 ho1 hb2
      go_wp2_with (at_builtin
                   refine wpList_append_any _ rfl (.tmp 17) (.tmp 23) _ rfl w.heap.size 38 iS _ 5 16 Tryz.underlying22 hi hz0 hz1 hz2 rfl (by omega) (.slice D j f) j _ rfl
                     (own_alloc HQ.out.1 _) (W1.heap.size + 1) (some ⟨W1.heap.size, 0, none⟩) 1 1 _ rfl hrd hones (by unfold maxLen; omega) (by omega) (by have := HQ.out.2.size; simp; omega) ?_
                   intro v1 w1 hown1 hg1 hat1)
      obtain ⟨D1, f1, rfl⟩ := own_slice hown1
      have hf2 := HO.out.2.1
      have hn2 : insV ((xs.take j).map fun x => one14 x (m + 1 : Nat)) ++ [.int .u8 y0, .int .u8 ya, .int .u8 yb, .int .u8 yc, .int .i64 yn] = insV ((xs.take (j + 1)).map fun x => one14 x (m + 1 : Nat)) := hf2
      rw [hn2] at hown1
      go_roundw
      case rel => exact ⟨j + 1, D1, f1, by go_num, rfl, by omega, hown1, (HQ.out.2.alloc HQ.out.2.size _).grown hg1 (Nat.le_trans HQ.out.2.size (by simp)) (fun k hk => own_base HQ.out.1 k hk)⟩
      case measure => simp [intOf]; omega
    · have hjm : j = m := by omega
      subst hjm
      have hfin : insV ((xs.take j).map fun x => one14 x (j + 1 : Nat)) ++ haltI.cells = insV (made14 xs) := by
        have ht : xs.take j = xs.take 40 := by
          have := HL.out
          rw [List.length_take] at this
          rcases Nat.le_total xs.length 40 with h | h
          · rw [List.take_of_length_le (by omega), List.take_of_length_le h]
          · rw [show j = 40 by omega]
        unfold made14
        rw [HL.out, ht]
        simp [insV]
      have hlen : (made14 xs).length = j + 1 := by rw [made14_len, HL.out]
      have HQ := Lib.hid (And.intro ho (And.intro hb (And.intro hfin hlen)))
      have hrd : Reads (wr.alloc (.cells #[.int .u8 1, .int .u8 0, .int .u8 0, .int .u8 0, .int .i64 0] 38)) (wr.heap.size + 1) 5 (some ⟨wr.heap.size, 0, none⟩) 1 [.int .u8 1, .int .u8 0, .int .u8 0, .int .u8 0, .int .i64 0] := reads_new5 _ _ _ _ _ _ _ _ rfl
      have hones : ∀ u ∈ [Value.int .u8 1, .int .u8 0, .int .u8 0, .int .u8 0, .int .i64 0], u.oneCell' = true := by
        intro u hu; simp at hu; rcases hu with rfl | rfl | rfl | rfl | rfl <;> rfl
      clear ho hb hfin hlen hA
      go_wp2_with (at_builtin
                   refine wpList_append_any _ rfl (.tmp 26) (.tmp 28) _ rfl w.heap.size 38 iS _ 5 16 Tryz.underlying22 hi hz0 hz1 hz2 rfl (by omega) (.slice D j f) j _ rfl
                     (own_alloc HQ.out.1 _) (wr.heap.size + 1) (some ⟨wr.heap.size, 0, none⟩) 1 1 _ rfl hrd hones (by unfold maxLen; omega) (by omega) (by have := HQ.out.2.1.size; simp; omega) ?_
                   intro v1 w1 hown1 hg1 hat1)
      obtain ⟨h1, h2, h3, h4⟩ := HQ.out
      have hn2 : insV ((xs.take j).map fun x => one14 x (j + 1 : Nat)) ++ [.int .u8 1, .int .u8 0, .int .u8 0, .int .u8 0, .int .i64 0] = insV (made14 xs) := h3
      rw [hn2] at hown1
      go_ret
      rw [h4]
      exact ⟨_, rfl, hown1, (h2.alloc h2.size _).grown hg1 (Nat.le_trans h2.size (by simp)) (fun k hk => own_base h1 k hk)⟩
end Go.Proofs.YtjliakjbdcplcaaGreat
end

section
namespace Go.Proofs.YtjliakjbdcplcaaGreat.Vm
open Go.RowKit
set_option linter.unusedVariables false
set_option linter.unusedSimpArgs false
end Go.Proofs.YtjliakjbdcplcaaGreat.Vm
end

section
namespace Go.Proofs.YtjliakjbdcplcaaGreat.Vm
open Go.RowKit
set_option linter.unusedVariables false
set_option linter.unusedSimpArgs false
section
variable {P : List Ins} {v : Evi}
theorem runA_le : ∀ (n : Nat) (s : Sta) (x : Ins) (tr : List Int) (a : Int), tr.length ≤ (runA P v n s x tr a).tr.length ∧ (runA P v n s x tr a).tr.length ≤ tr.length + n
  | 0, s, x, tr, a => by
    unfold runA
    split <;> simp
  | n + 1, s, x, tr, a => by
    unfold runA
    split
    · simp
    · split
      · have := runA_le n (stepS P v s) (stepX P s x) (tr ++ [s.at_]) s.at_
        simp at this
        omega
      · simp
theorem runA_more {m : Nat} {s : Sta} {x : Ins} {tr : List Int} {a : Int} (he : s.ended = false) (hm : 0 < m) : tr.length < (runA P v m s x tr a).tr.length := by
  by_cases hs : stepE P v s = 0
  · rw [runA_go he hm hs]
    have := (runA_le (P := P) (v := v) (m - 1) (stepS P v s) (stepX P s x) (tr ++ [s.at_]) s.at_).1
    simp at this
    omega
  · rw [runA_bad he hm hs]; simp
variable {s : Sta} {F n : Int}
theorem ropE_of (hO : openE P v s = 0) (h0 : 0 ≤ F) (h1 : F ≤ 4096) : ropE P v s F = 0 := by
  unfold ropE
  have : rrE F = 0 := by unfold rrE; rw [if_neg (by omega)]
  rw [if_pos this]; exact hO
theorem runO_of (hO : openE P v s = 0) (h0 : 0 ≤ F) (h1 : F ≤ 4096) : runO P v s F = runA P v F.toNat s Ins0 [] 0 := by
  unfold runO; rw [if_pos (ropE_of hO h0 h1)]
theorem runO_le (hO : openE P v s = 0) (h0 : 0 ≤ F) (h1 : F ≤ 4096) : ((runO P v s F).tr.length : Int) ≤ F := by
  rw [runO_of hO h0 h1]
  have := (runA_le (P := P) (v := v) F.toNat s Ins0 [] 0).2
  simp at this
  omega
end
theorem runA_good {P : List Ins} {v : Evi} (hP : PG P) : ∀ (n : Nat) (s : Sta) (x : Ins) (tr : List Int) (a : Int), SG P s → SG P (runA P v n s x tr a).s
  | 0, s, x, tr, a, h => by
    unfold runA
    split <;> exact h
  | n + 1, s, x, tr, a, h => by
    unfold runA
    split
    · exact h
    · split
      · exact runA_good hP n _ _ _ _ (stepS_good h hP)
      · exact stepS_good h hP
end Go.Proofs.YtjliakjbdcplcaaGreat.Vm
end

section
namespace Go.Proofs.YtjliakjbdcplcaaGreat.Vm
open Go.RowKit
set_option linter.unusedVariables false
set_option linter.unusedSimpArgs false
def cnt (P : List Ins) (op : Int) (tr : List Int) : Nat := (tr.filter fun k => decide ((insAt P k).op = op)).length
theorem cnt_app (P : List Ins) (op : Int) (tr : List Int) (k : Int) : cnt P op (tr ++ [k]) = cnt P op tr + (if (insAt P k).op = op then 1 else 0) := by
  unfold cnt
  rw [List.filter_append, List.length_append]
  congr 1
  by_cases h : (insAt P k).op = op <;> simp [h]
def chg (a b : List Int) : Nat := ((List.range a.length).filter fun i => decide (a.getD i 0 ≠ b.getD i 0)).length
theorem chg_self (a : List Int) : chg a a = 0 := by simp [chg]
theorem filter_one {l : List Nat} (hl : l.Nodup) (p q : Nat → Bool) (r : Nat) (h : ∀ i, i ≠ r → p i = q i) : (l.filter p).length ≤ (l.filter q).length + 1 := by
  induction l with
  | nil => simp
  | cons x l ih =>
    rw [List.nodup_cons] at hl
    by_cases hx : x = r
    · subst hx
      have e : l.filter p = l.filter q := List.filter_congr fun i hi => h i (fun e => hl.1 (e ▸ hi))
      simp only [List.filter_cons, e]
      cases p x <;> cases q x <;> simp only [cond_true, cond_false, if_true, if_false, List.length_cons, Bool.false_eq_true] <;> omega
    · have := ih hl.2
      simp only [List.filter_cons, h x hx]
      cases q x <;> simp only [if_true, if_false, List.length_cons, Bool.false_eq_true] <;> omega
theorem chg_set (a b : List Int) (r : Nat) (z : Int) : chg a (b.set r z) ≤ chg a b + 1 := by
  unfold chg
  refine filter_one List.nodup_range _ _ r fun i hi => ?_
  rw [List.getD_eq_getElem?_getD (l := b.set r z), List.getElem?_set_ne (fun e => hi e.symm), ← List.getD_eq_getElem?_getD]
structure SI (P : List Ins) (v : Evi) (c0 : List Int) (d0 : Int) (tr : List Int) (s : Sta) : Prop where
  at_ : ∀ k ∈ tr, 0 ≤ k ∧ k < P.length
  n : s.sends.length = cnt P 8 tr
  d : s.draws = d0 + cnt P 7 tr
  l : s.cells.length = c0.length
  c : chg c0 s.cells ≤ cnt P 6 tr
  s : ∀ y ∈ s.sends, 0 ≤ y.port ∧ y.port < v.ports ∧ v.look ≤ y.delay ∧ y.delay ≤ 281474976710656 - v.now
theorem si_step {P : List Ins} {v : Evi} {c0 : List Int} {d0 : Int} {tr : List Int} {s : Sta} (hP : PG P) (h : SI P v c0 d0 tr s) (hG : SG P s) (he : s.ended = false) (hs : stepE P v s = 0) : SI P v c0 d0 (tr ++ [s.at_]) (stepS P v s) := by
  have hE : doE s v (insAt P s.at_) = 0 := by unfold stepE at hs; rw [he] at hs; exact hs
  have e0 : stepS P v s = doS s v (insAt P s.at_) := by unfold stepS; rw [he]; rfl
  have R := hG.ri hP
  rw [e0]
  have ht : ∀ k ∈ tr ++ [s.at_], 0 ≤ k ∧ k < P.length := fun k hk => by
    rw [List.mem_append] at hk
    rcases hk with hk | hk
    · exact h.at_ k hk
    · simp at hk; subst hk; exact ⟨hG.a0, hG.a1⟩
  have c6 := cnt_app P 6 tr s.at_
  have c7 := cnt_app P 7 tr s.at_
  have c8 := cnt_app P 8 tr s.at_
  generalize hx : insAt P s.at_ = x at *
  have hd := h.d
  have hn := h.n
  have hc := h.c
  -- the same lists and draws
  have base : ∀ t : Sta, t.sends = s.sends → t.draws = s.draws → t.cells = s.cells → x.op ≠ 7 → x.op ≠ 8 → SI P v c0 d0 (tr ++ [s.at_]) t := fun t h1 h2 h3 n7 n8 => by
    rw [if_neg n7] at c7
    rw [if_neg n8] at c8
    exact ⟨ht, by rw [h1, c8, hn]; rfl, by rw [h2, c7, hd]; rfl, by rw [h3, h.l], by rw [h3, c6]; omega, by rw [h1]; exact h.s⟩
  rcases R.cls with q | q | q | q | q | q | q | q | q | q | q | q
  · rw [show doS s v x = { s with ended := true } by simp [doS, hE, q]]; exact base _ rfl rfl rfl (by omega) (by omega)
  · exact absurd hE (by simp [doE, q])
  · rw [show doS s v x = s.put x.a.toNat x.n by simp [doS, hE, q]]; exact base _ rfl rfl rfl (by omega) (by omega)
  · rw [show doS s v x = s.put x.a.toNat (s.regs x.b.toNat) by simp [doS, hE, q]]; exact base _ rfl rfl rfl (by omega) (by omega)
  · rw [show doS s v x = s.put x.a.toNat (s.cells.getD (s.regs x.b.toNat).toNat 0) by simp [doS, hE, q]]; exact base _ rfl rfl rfl (by omega) (by omega)
  · rw [show doS s v x = { s with cells := s.cells.set (s.regs x.b.toNat).toNat (s.regs x.a.toNat), at_ := s.at_ + 1 } by simp [doS, hE, q]]
    rw [if_neg (by omega)] at c7 c8
    rw [if_pos q] at c6
    refine ⟨ht, by rw [c8]; exact hn, by rw [c7]; exact hd, by simpa using h.l, ?_, h.s⟩
    have := chg_set c0 s.cells (s.regs x.b.toNat).toNat (s.regs x.a.toNat)
    rw [c6]
    exact Nat.le_trans this (by omega)
  · rw [show doS s v x = { s.put x.a.toNat (drawI v.seed v.process s.draws (s.regs x.b.toNat)) with draws := s.draws + 1 } by simp [doS, hE, q]]
    rw [if_neg (by omega)] at c8 c6
    rw [if_pos q] at c7
    refine ⟨ht, by rw [c8]; exact hn, ?_, h.l, by rw [c6]; exact hc, h.s⟩
    show s.draws + 1 = _
    rw [c7]
    omega
  · rw [show doS s v x = { s with at_ := s.at_ + 1, sends := s.sends ++ [⟨x.n, s.regs x.a.toNat, s.regs x.b.toNat⟩] } by simp [doS, hE, q]]
    rw [if_neg (by omega)] at c7 c6
    rw [if_pos q] at c8
    refine ⟨ht, ?_, by rw [c7]; exact hd, h.l, by rw [c6]; exact hc, fun y hy => ?_⟩
    · show (s.sends ++ [_]).length = _
      rw [List.length_append, c8, hn]; rfl
    · rw [List.mem_append] at hy
      rcases hy with hy | hy
      · exact h.s y hy
      · simp at hy
        subst hy
        have hx8 := R.snd q
        have h3 : sendE s v x = 0 := by
          have : doE s v x = sendE s v x := by simp [doE, q]
          rw [← this]; exact hE
        unfold sendE at h3
        split at h3
        · omega
        · split at h3
          · omega
          · split at h3
            · omega
            · refine ⟨hx8.1, ?_, ?_, ?_⟩ <;> dsimp only <;> omega
  · rw [show doS s v x = { s with at_ := x.n } by simp [doS, hE, q]]; exact base _ rfl rfl rfl (by omega) (by omega)
  · rw [show doS s v x = { s with at_ := if s.regs x.a.toNat = 0 then x.n else s.at_ + 1 } by simp [doS, hE, q]]; exact base _ rfl rfl rfl (by omega) (by omega)
  · rw [show doS s v x = { s with at_ := if s.regs x.a.toNat < 0 then x.n else s.at_ + 1 } by simp [doS, hE, q]]; exact base _ rfl rfl rfl (by omega) (by omega)
  · rw [show doS s v x = s.put x.a.toNat (applyV (x.op - 32) (s.regs x.b.toNat) (s.regs x.c.toNat)) by
      unfold doS
      rw [hE]
      simp [show ¬ x.op = 1 by omega, show ¬ x.op = 3 by omega, show ¬ x.op = 4 by omega, show ¬ x.op = 5 by omega, show ¬ x.op = 6 by omega, show ¬ x.op = 7 by omega, show ¬ x.op = 8 by omega, show ¬ x.op = 9 by omega, show ¬ x.op = 10 by omega, show ¬ x.op = 11 by omega]]
    exact base _ rfl rfl rfl (by omega) (by omega)
theorem si_run {P : List Ins} {v : Evi} {c0 : List Int} {d0 : Int} (hP : PG P) : ∀ (n : Nat) (s : Sta) (x : Ins) (tr : List Int) (a : Int), SI P v c0 d0 tr s → SG P s → (runA P v n s x tr a).bad = 0 → SI P v c0 d0 (runA P v n s x tr a).tr (runA P v n s x tr a).s
  | 0, s, x, tr, a, h, hG, hb => by
    cases he : s.ended
    · rw [runA_zero he] at hb; cases hb
    · rw [runA_end he]; exact h
  | n + 1, s, x, tr, a, h, hG, hb => by
    cases he : s.ended
    · by_cases hs : stepE P v s = 0
      · rw [runA_go he (Nat.succ_pos n) hs] at hb ⊢
        exact si_run hP n _ _ _ _ (si_step hP h hG he hs) (stepS_good hG hP) hb
      · rw [runA_bad he (Nat.succ_pos n) hs] at hb
        exact absurd hb hs
    · rw [runA_end he]; exact h
end Go.Proofs.YtjliakjbdcplcaaGreat.Vm
end

section
namespace Go.Proofs.YtjliakjbdcplcaaGreat.Vm
open Go.RowKit
set_option linter.unusedVariables false
set_option linter.unusedSimpArgs false
structure Prc where
  id : Int
  P : List Ins
  cells : List Int
  draws : Int
  seq : Int
  ports : List Int
structure Rul where
  seed : Int
  ahead : Int
  fuel : Int
structure Dn where
  p : Prc
  sent : List Evt
  used : Nat
def keyB (t s q : Int) : Bool := decide (0 ≤ t ∧ t ≤ 281474976710656 ∧ 0 ≤ s ∧ s ≤ 16 ∧ 0 ≤ q ∧ q ≤ 4294967295)
def isB (x : Int) : Bool := decide (1 ≤ x ∧ x ≤ 16)
def noPort (x : Int) : Bool := decide (x ≠ 0) && !isB x
def Prc.rightB (p : Prc) : Bool := decide ((checkI p.P).2 = 0) && (isB p.id && (decide (p.cells.length ≤ 1024) && (decide (0 ≤ p.draws) && (decide (p.draws ≤ 1099511627776) && (decide (0 ≤ p.seq) && (decide (p.seq ≤ 4294967296) && (decide (p.ports.length ≤ 16) && !(p.ports.any noPort))))))))
def Rul.rightB (r : Rul) : Bool := decide (1 ≤ r.ahead ∧ r.ahead ≤ 1048576 ∧ 0 ≤ r.fuel ∧ r.fuel ≤ 4096)
def procE (r : Rul) (p : Prc) : Int := if r.rightB = false then 280 else if p.rightB = false then 281 else 0
def takesB (p : Prc) (e : Evt) : Bool := keyB e.time e.source e.seq && decide (e.to_ = p.id)
def hV (r : Rul) (p : Prc) (t : Int) : Evi := ⟨r.seed, p.id, p.ports.length, r.ahead, t⟩
def hB (p : Prc) (e : Evt) : Sta := begS e.value e.time e.source p.cells p.draws
def hR (r : Rul) (p : Prc) (e : Evt) : RR := runO p.P (hV r p e.time) (hB p e) r.fuel
def goneB (ports : List Int) (l : List Snd) : Bool := l.any fun s => decide (ports.getD s.port.toNat 0 = 0)
def sentL (p : Prc) (t : Int) : Int → List Snd → List Evt
  | _, [] => []
  | q, s :: l => ⟨t + s.delay, p.id, q, p.ports.getD s.port.toNat 0, s.value⟩ :: sentL p t (q + 1) l
def hE (r : Rul) (p : Prc) (e : Evt) : Int :=
  if (hR r p e).bad ≠ 0 then (hR r p e).bad else if goneB p.ports (hR r p e).s.sends = true then 285 else if 4294967296 < p.seq + (hR r p e).s.sends.length then 284 else 0
def hS (r : Rul) (D : Dn) (e : Evt) : Dn :=
  { p := { D.p with cells := (hR r D.p e).s.cells, draws := (hR r D.p e).s.draws, seq := D.p.seq + (hR r D.p e).s.sends.length },
    sent := D.sent ++ sentL D.p e.time D.p.seq (hR r D.p e).s.sends, used := D.used + (hR r D.p e).tr.length }
theorem sentL_len (p : Prc) (t : Int) : ∀ (l : List Snd) (q : Int), (sentL p t q l).length = l.length
  | [], _ => rfl
  | s :: l, q => by simp [sentL, sentL_len p t l]
theorem sentL_app (p : Prc) (t : Int) : ∀ (l m : List Snd) (q : Int), sentL p t q (l ++ m) = sentL p t q l ++ sentL p t (q + l.length) m
  | [], m, q => by simp [sentL]
  | s :: l, m, q => by
    simp only [List.cons_append, sentL, sentL_app p t l m, List.length_cons]
    rw [show q + 1 + (l.length : Int) = q + ((l.length + 1 : Nat) : Int) by omega]
theorem rightB_iff {p : Prc} : p.rightB = true ↔ (checkI p.P).2 = 0 ∧ (1 ≤ p.id ∧ p.id ≤ 16) ∧ p.cells.length ≤ 1024 ∧ 0 ≤ p.draws ∧ p.draws ≤ 1099511627776 ∧ 0 ≤ p.seq ∧ p.seq ≤ 4294967296 ∧ p.ports.length ≤ 16 ∧ p.ports.any noPort = false := by
  unfold Prc.rightB isB
  simp only [Bool.and_eq_true, decide_eq_true_eq, Bool.not_eq_true']
theorem proc_open {r : Rul} {p : Prc} {e : Evt} (hr : r.rightB = true) (hp : p.rightB = true) (ht : 0 ≤ e.time ∧ e.time ≤ 281474976710656) : openE p.P (hV r p e.time) (hB p e) = 0 := by
  obtain ⟨h1, ⟨h2, h3⟩, h4, h5, h6, h7, h8, h9, _⟩ := rightB_iff.1 hp
  have hr' := of_decide_eq_true (show decide _ = true from hr)
  unfold openE
  have q1 : (hV r p e.time).rightB = true := decide_eq_true ⟨by show 0 ≤ p.id; omega, by show p.id ≤ 65536; omega, by show (0 : Int) ≤ (p.ports.length : Int); omega, hr'.1, ht.1, ht.2⟩
  have hl := right_last' h1
  have q2 : (hB p e).rightB p.P.length = true := decide_eq_true ⟨Int.le_refl 0, by show (0 : Int) < _; omega, by show (p.cells.length : Int) ≤ 1024; omega, h5, h6⟩
  rw [if_neg (fun h => h h1), if_neg (by rw [q1]; exact Bool.noConfusion), if_neg (by rw [q2]; exact Bool.noConfusion)]
end Go.Proofs.YtjliakjbdcplcaaGreat.Vm
end

section
namespace Go.Proofs.YtjliakjbdcplcaaGreat.Vm
open Go.RowKit
set_option linter.unusedVariables false
set_option linter.unusedSimpArgs false
set_option maxRecDepth 100000
set_option maxHeartbeats 4000000
def sCheck : Spec := fun args h m => match args with
  | [v1] => match srcV h 5 (.tup []) v1 with
    | some (c1, n1, f1, r1) => some (c1 ∧ (∀ q, q < n1 → isIns (f1 q) = true) ∧ ((∀ x ∈ (ls insOf n1 f1), x.ok)) ∧ (n1 ≤ 281474976710656), .tup [.int .i64 (checkI (ls insOf n1 f1)).1, .int .i64 (checkI (ls insOf n1 f1)).2], r1, [])
    | _ => none
  | _ => none
theorem sCheck_ok : CallOk Tryz.prog 109 sCheck := by
  refine ⟨named_spec (by kernel_rfl), fun args h m c v rd wr hs hm hc w0 M β h' w R hrd hwr hst => ?_⟩
  unfold sCheck at hs
  split at hs
  · rename_i v1
    split at hs
    · rename_i c1 n1 f1 r1 a1
      simp only [Option.some.injEq, Prod.mk.injEq] at hs
      obtain ⟨rfl, rfl, rfl, rfl⟩ := hs
      obtain ⟨k1, g1, y1, y2⟩ := hc
      obtain ⟨A1, p1, d1, e1, t1⟩ := reads_src R a1 k1 (fun i hi => hrd i hi) (by omega)
      rw [elems_ins g1] at t1
      simp only [denL, aggDen, intDen, natDen, boolDen, d1]
      exact (check_c A1 n1 p1 (by omega) (ls insOf n1 f1) y1 w t1).mono fun e w' he => post_read R (by (repeat' (first | exact trivial | exact rfl | assumption | apply Stable.ite | apply And.intro | intro _ | (simp only [Stable, StableL, i64S, prS, insS, sndsS, sndS]; done)))) rfl he.1 he.2
    · cases hs
  · cases hs
end Go.Proofs.YtjliakjbdcplcaaGreat.Vm
end

section
namespace Go.Proofs.YtjliakjbdcplcaaGreat.Vm
open Go.RowKit
set_option linter.unusedVariables false
set_option linter.unusedSimpArgs false
set_option maxRecDepth 100000

def oldB (ρ : Nat → Nat) : List HB → List HB → List Nat → List (Nat × HB)
  | [], _, _ => []
  | b :: L0, L1, l => match L1, l with
    | c :: L1, j :: l => bif b.mine then (j, c.ren ρ) :: oldB ρ L0 L1 l else oldB ρ L0 L1 l
    | _, _ => []
def mrgL : List HB → List HB → List HB
  | [], L1 => L1
  | b :: L0, L1 => match L1 with
    | c :: L1 => (bif b.mine then c else b) :: mrgL L0 L1
    | [] => []
def noRo2 : List HB → List HB → Bool
  | [], L1 => L1.all fun c => !c.isRo
  | b :: L0, L1 => match L1 with
    | c :: L1 => (!b.mine || (c.born && !c.isRo)) && noRo2 L0 L1
    | [] => true
theorem hp_cons (b : HB) (L : List HB) (i : Nat) : hp (b :: L) (i + 1) = hp L i := by unfold hp; simp
theorem hp_zero (b : HB) (L : List HB) : hp (b :: L) 0 = b := by unfold hp; simp
theorem noRo2_old : ∀ {L0 L1 : List HB}, noRo2 L0 L1 = true → L0.length ≤ L1.length → ∀ i, i < L0.length → (hp L0 i).mine = true → (hp L1 i).born = true ∧ (hp L1 i).isRo = false
  | [], _, _, _, i, hi, _ => by simp at hi
  | b :: L0, [], _, hl, _, _, _ => by simp at hl
  | b :: L0, c :: L1, h, hl, i, hi, hm => by
    simp only [noRo2, Bool.and_eq_true, Bool.or_eq_true, Bool.not_eq_true'] at h
    cases i with
    | zero =>
      rw [hp_zero] at hm
      rw [hp_zero]
      rcases h.1 with h1 | h1
      · rw [hm] at h1; cases h1
      · exact h1
    | succ i =>
      rw [hp_cons] at hm
      rw [hp_cons]
      exact noRo2_old h.2 (by simpa using hl) i (by simpa using hi) hm
theorem noRo2_new : ∀ {L0 L1 : List HB}, noRo2 L0 L1 = true → L0.length ≤ L1.length → ∀ i, L0.length ≤ i → (hp L1 i).isRo = false
  | [], L1, h, _, i, _ => by
    simp only [noRo2, List.all_eq_true] at h
    unfold hp
    rw [List.getD_eq_getElem?_getD]
    cases hh : L1[i]? with
    | none => rfl
    | some x => simpa using h x (List.mem_of_getElem? hh)
  | b :: L0, [], _, hl, _, _ => by simp at hl
  | b :: L0, c :: L1, h, hl, i, hi => by
    simp only [noRo2, Bool.and_eq_true] at h
    cases i with
    | zero => simp at hi
    | succ i =>
      rw [hp_cons]
      exact noRo2_new h.2 (by simpa using hl) i (by simpa using hi)
theorem mrgL_get : ∀ {L0 L1 : List HB}, L0.length ≤ L1.length → ∀ i, hp (mrgL L0 L1) i = if i < L0.length then (bif (hp L0 i).mine then hp L1 i else hp L0 i) else hp L1 i
  | [], L1, _, i => by simp [mrgL]
  | b :: L0, [], hl, _ => by simp at hl
  | b :: L0, c :: L1, hl, i => by
    cases i with
    | zero => simp [mrgL, hp_zero]
    | succ i =>
      simp only [mrgL, hp_cons]
      rw [mrgL_get (by simpa using hl) i]
      simp
theorem wrs_oldB_ne {ρ : Nat → Nat} : ∀ {L0 L1 : List HB} {l : List Nat} {h : HM} {j : Nat}, (∀ i, i < L0.length → (hp L0 i).mine = true → l.getD i 0 ≠ j) → wrs h (oldB ρ L0 L1 l) j = h j
  | [], _, _, h, j, _ => rfl
  | b :: L0, [], l, h, j, _ => rfl
  | b :: L0, c :: L1, [], h, j, _ => rfl
  | b :: L0, c :: L1, k :: l, h, j, hn => by
    have ih := fun h' => wrs_oldB_ne (ρ := ρ) (L0 := L0) (L1 := L1) (l := l) (h := h') (j := j) (fun i hi hm => by
      have := hn (i + 1) (by simpa using hi) (by rw [hp_cons]; exact hm)
      simpa using this)
    cases hb : b.mine with
    | false => simp only [oldB, hb, cond_false]; exact ih h
    | true =>
      simp only [oldB, hb, cond_true]
      show wrs (upd h k (c.ren ρ)) (oldB ρ L0 L1 l) j = h j
      rw [ih, upd_ne (fun e => hn 0 (by simp) (by rw [hp_zero]; exact hb) (by simpa using e.symm))]
theorem wrs_oldB {ρ : Nat → Nat} : ∀ {L0 L1 : List HB} {l : List Nat} {h : HM}, L0.length ≤ L1.length → l.length = L0.length → (∀ i j, i < j → j < L0.length → (hp L0 i).mine = true → (hp L0 j).mine = true → l.getD i 0 ≠ l.getD j 0) → ∀ i, i < L0.length → (hp L0 i).mine = true → wrs h (oldB ρ L0 L1 l) (l.getD i 0) = (hp L1 i).ren ρ
  | [], _, _, h, _, _, _, i, hi, _ => by simp at hi
  | b :: L0, [], l, h, hl, _, _, _, _, _ => by simp at hl
  | b :: L0, c :: L1, [], h, _, hl, _, _, _, _ => by simp at hl
  | b :: L0, c :: L1, k :: l, h, hle, hln, hn, i, hi, hm => by
    cases i with
    | zero =>
      rw [hp_zero] at hm
      simp only [oldB, hm, cond_true, List.getD_cons_zero]
      show wrs (upd h k (c.ren ρ)) (oldB ρ L0 L1 l) k = _
      rw [wrs_oldB_ne (fun i hi hm' e => hn 0 (i + 1) (by omega) (by simpa using hi) (by rw [hp_zero]; exact hm) (by rw [hp_cons]; exact hm') (by simpa using e.symm)), upd_same, hp_zero]
    | succ i =>
      rw [hp_cons] at hm
      have ih := fun h' => wrs_oldB (ρ := ρ) (L0 := L0) (L1 := L1) (l := l) (h := h') (by simpa using hle) (by simpa using hln) (fun a b hab hb ha hb' => by
        have := hn (a + 1) (b + 1) (by omega) (by simpa using hb) (by rw [hp_cons]; exact ha) (by rw [hp_cons]; exact hb')
        simpa using this) i (by simpa using hi) hm
      rw [List.getD_cons_succ, hp_cons]
      cases hb : b.mine with
      | false => simp only [oldB, hb, cond_false]; exact ih h
      | true =>
        simp only [oldB, hb, cond_true]
        exact ih (upd h k (c.ren ρ))
theorem wrs_app : ∀ (l : List (Nat × HB)) {m : List (Nat × HB)} {h : HM}, wrs h (l ++ m) = wrs (wrs h l) m
  | [], _, _ => rfl
  | p :: l, m, h => wrs_app l
theorem laid_rw {L0 L1 : List HB} {h : HM} {l : List Nat} {m : Nat} {v : SV} (hlen : l.length = L0.length) (hpos : 0 < L0.length) (h00 : l.getD 0 0 = 0) (hz : hp L0 0 = .gone) (hfit : FitL (rhoL l m) h L0 l) (hinj : ∀ i j, i < L0.length → j < L0.length → i ≠ j → (hp L0 i).mine = true → (hp L0 j).mine = true ∨ (hp L0 j).isRo = true → l.getD i 0 ≠ l.getD j 0)
    (hm : ∀ i, m ≤ i → i < m + (L1.length - L0.length) → h i = .dead) (hle : L0.length ≤ L1.length) (hno : noRo2 L0 L1 = true)
    (hst0 : StableH (hp L0) L0) (hstb : ∀ j, (h j).stable h) (hst1 : StableH (hp (mrgL L0 L1)) (mrgL L0 L1)) (hv : Stable (hp (mrgL L0 L1)) v) :
    Laid L0 L1 h (wrs h (oldB (rhoL l m) L0 L1 l ++ newB (rhoL l m) m (L1.drop L0.length))) (rhoL l m) m v := by
  rw [wrs_app]
  obtain ⟨k, hk⟩ : ∃ k, k = L1.length - L0.length := ⟨_, rfl⟩
  have hdl : (L1.drop L0.length).length = k := by rw [List.length_drop, hk]
  have hrl : ∀ i, i < L0.length → rhoL l m i = l.getD i 0 := fun i hi => if_pos (by omega)
  have hrn : ∀ i, L0.length ≤ i → rhoL l m i = m + (i - L0.length) := fun i hi => by
    unfold rhoL; rw [if_neg (by omega), hlen]
  have hget : ∀ j, m ≤ j → (L1.drop L0.length).getD (j - m) .dead = hp L1 (L0.length + (j - m)) := fun j hj => by
    unfold hp
    rw [List.getD_eq_getElem?_getD, List.getD_eq_getElem?_getD, List.getElem?_drop]
  have hmr := mrgL_get hle
  generalize hh1 : wrs h (oldB (rhoL l m) L0 L1 l) = h1
  have hnewj : ∀ j, m ≤ j → j < m + k → wrs h1 (newB (rhoL l m) m (L1.drop L0.length)) j = (hp L1 (L0.length + (j - m))).ren (rhoL l m) := fun j h1 h3 => by
    rw [wrs_newB, if_pos ⟨h1, by omega⟩, hget j h1]
  have holdj : ∀ j, ¬ (m ≤ j ∧ j < m + k) → wrs h1 (newB (rhoL l m) m (L1.drop L0.length)) j = h1 j := fun j hj => by
    rw [wrs_newB, if_neg (by rw [hdl]; exact hj)]
  have bornold : ∀ j, (h j).born = true → ¬ (m ≤ j ∧ j < m + k) := fun j hj hc => by
    rw [hm j hc.1 (by omega)] at hj; cases hj
  have hfit' : ∀ i, i < L0.length → Fit (rhoL l m) (hp L0 i) (h (rhoL l m i)) := fun i hi => by rw [hrl i hi]; exact fitL_get hfit i hi
  have hborn : ∀ i, i < L0.length → (h (l.getD i 0)).born = true := fun i hi => by rw [← hrl i hi]; exact (hfit' i hi).born
  have him : ∀ i, i < L0.length → (hp L0 i).mine = true → h1 (l.getD i 0) = (hp L1 i).ren (rhoL l m) := fun i hi hmi => by
    rw [← hh1]
    exact wrs_oldB hle hlen (fun a b hab hb ha hb' => hinj a b (by omega) hb (by omega) ha (.inl hb')) i hi hmi
  have hne : ∀ j, (∀ i, i < L0.length → (hp L0 i).mine = true → l.getD i 0 ≠ j) → h1 j = h j := fun j hj => by
    rw [← hh1]
    exact wrs_oldB_ne hj
  have born_ren : ∀ {b : HB}, b.born = true → (b.ren (rhoL l m)).born = true := fun {b} hb => by
    cases b <;> first | rfl | (cases hb; done)
  have more1 : ∀ j, (h j).born = true → (h1 j).born = true := fun j hj => by
    by_cases hc : ∃ i, i < L0.length ∧ (hp L0 i).mine = true ∧ l.getD i 0 = j
    · obtain ⟨i, hi, hmi, rfl⟩ := hc
      rw [him i hi hmi]
      exact born_ren (noRo2_old hno hle i hi hmi).1
    · rw [hne j (fun i hi hmi e => hc ⟨i, hi, hmi, e⟩)]; exact hj
  have more : ∀ i, (h i).born = true → (wrs h1 (newB (rhoL l m) m (L1.drop L0.length)) i).born = true := fun i hi => by rw [holdj i (bornold i hi)]; exact more1 i hi
  have moreG : ∀ i, (hp (mrgL L0 L1) i).born = true → (wrs h1 (newB (rhoL l m) m (L1.drop L0.length)) (rhoL l m i)).born = true := fun i hi => by
    rw [hmr i] at hi
    split at hi
    · rename_i hlt
      exact more _ (hfit' i hlt).born
    · rename_i hge
      have hlt : i < L1.length := by
        rcases Nat.lt_or_ge i L1.length with h' | h'
        · exact h'
        · rw [hp_dead h'] at hi; cases hi
      rw [hrn i (by omega), hnewj _ (by omega) (by omega), show L0.length + (m + (i - L0.length) - m) = i by omega]
      exact born_ren hi
  have stG := stableH_spec hst1
  have ren_st : ∀ {b : HB}, b.stable (hp (mrgL L0 L1)) → (b.ren (rhoL l m)).stable (wrs h1 (newB (rhoL l m) m (L1.drop L0.length))) := fun {b} hs => by
    cases b with
    | own t u ex => exact Stable.ren moreG hs
    | ro u => exact Stable.ren moreG hs
    | raw o => trivial
    | gone => trivial
    | dead => trivial
  refine { z := by rw [hrl 0 hpos, h00], z0 := hz, new := fun i hi => hrn i hi, pre := hfit', inj := fun i j hi hj hne hmi hmj => by rw [hrl i hi, hrl j hj]; exact hinj i j hi hj hne hmi hmj, img := fun i hi hmi => ?_, old := fun j hj hno => ?_, fresh := fun j hj => ?_, un := fun i hi hb => ?_, st0 := stableH_spec hst0, st2 := fun j => ?_, stv := hv.ren moreG }
  · rw [hrl i hi, holdj _ (bornold _ (hborn i hi)), him i hi hmi]
    exact ⟨rfl, (noRo2_old hno hle i hi hmi).2⟩
  · rw [holdj j (bornold j hj)]
    exact hne j fun i hi hmi => by rw [← hrl i hi]; exact hno i hi hmi
  · by_cases hc : m ≤ j ∧ j < m + k
    · exact .inr ⟨hc.1, hnewj j hc.1 hc.2, noRo2_new hno hle _ (by omega)⟩
    · left
      rw [holdj j hc, hne j (fun i hi hmi e => by rw [← e, hborn i hi] at hj; cases hj)]
      cases hh : h j <;> rw [hh] at hj <;> first | rfl | (cases hj; done)
  · have hlt : i < L1.length := by
      rcases Nat.lt_or_ge i L1.length with h' | h'
      · exact h'
      · rw [hp_dead h'] at hb; cases hb
    rw [hrn i hi, hm _ (by omega) (by omega)]
    rfl
  · by_cases hc : m ≤ j ∧ j < m + k
    · rw [hnewj j hc.1 hc.2]
      have hs := stG (L0.length + (j - m))
      rw [hmr, if_neg (by omega)] at hs
      exact ren_st hs
    · rw [holdj j hc]
      by_cases hc2 : ∃ i, i < L0.length ∧ (hp L0 i).mine = true ∧ l.getD i 0 = j
      · obtain ⟨i, hi, hmi, rfl⟩ := hc2
        rw [him i hi hmi]
        have hs := stG i
        rw [hmr, if_pos hi, hmi] at hs
        exact ren_st hs
      · rw [hne j (fun i hi hmi e => hc2 ⟨i, hi, hmi, e⟩)]
        exact HB.stable_more (hstb j) more
theorem callRW {P : Program} {f : FuncId} {args : List SV} {L0 L1 : List HB} {v : SV} {w0 w : World} {M : Nat → Prop} {β : Env} {h h' : HM} {m : Nat} (l : List Nat) (H : LitOk P f args L0 v L1) (R : Rep w0 M β h' w) (hlen : l.length = L0.length) (hpos : 0 < L0.length) (h00 : l.getD 0 0 = 0) (hz : hp L0 0 = .gone) (hfit : FitL (rhoL l m) h' L0 l)
    (hinj : ∀ i j, i < L0.length → j < L0.length → i ≠ j → (hp L0 i).mine = true → (hp L0 j).mine = true ∨ (hp L0 j).isRo = true → l.getD i 0 ≠ l.getD j 0)
    (hm : ∀ i, m ≤ i → h i = .dead) (hwr : ∀ p ∈ newB (rhoL l m) m (L1.drop L0.length), h' p.1 = h p.1) (hle : L0.length ≤ L1.length) (hno : noRo2 L0 L1 = true)
    (hst0 : StableH (hp L0) L0) (hsta : StableL (hp L0) args) (hst1 : StableH (hp (mrgL L0 L1)) (mrgL L0 L1)) (hv : Stable (hp (mrgL L0 L1)) v) :
    Calls P f (denL β (renL (rhoL l m) args)).toArray w fun e w' => ∃ β', (∀ i, (h' i).born = true → β i = β' i) ∧ Rep w0 M β' (wrs h' (oldB (rhoL l m) L0 L1 l ++ newB (rhoL l m) m (L1.drop L0.length))) w' ∧ Stable (wrs h' (oldB (rhoL l m) L0 L1 l ++ newB (rhoL l m) m (L1.drop L0.length))) (v.ren (rhoL l m)) ∧ e = .returned ((v.ren (rhoL l m)).den β') :=
  call_lit H R (laid_rw hlen hpos h00 hz hfit hinj (fun i hi hlt => by
    obtain ⟨b, hb⟩ := newB_mem (ρ := rhoL l m) (l := L1.drop L0.length) hi (by rw [List.length_drop]; exact hlt)
    exact (hwr _ hb).trans (hm i hi)) hle hno hst0 R.st hst1 hv) hsta
end Go.Proofs.YtjliakjbdcplcaaGreat.Vm
end

section
namespace Go.Proofs.YtjliakjbdcplcaaGreat.Vm
open Go.RowKit
set_option linter.unusedVariables false
set_option linter.unusedSimpArgs false
set_option maxRecDepth 100000
theorem arrCl {β : Env} {n k : Nat} {f g : Nat → SV} (h : ∀ q, q < n → (f q).cl β = (g q).cl β) : (SV.arr n k f).cl β = (SV.arr n k g).cl β := by
  have e : (List.range n).flatMap (fun i => fit k (((f i).den β).cells.toList.map sane)) = (List.range n).flatMap (fun i => fit k (((g i).den β).cells.toList.map sane)) := by
    rw [List.flatMap_def, List.flatMap_def]
    exact congrArg List.flatten (List.map_congr_left fun q hq => congrArg (fit k) (h q (List.mem_range.1 hq)))
  simp only [SV.cl, SV.den, e]
theorem At.empty {w0 : World} {M : Nat → Prop} {E : Env} {n0 N : Nat} {D : List Deferred} {φ : Fr} {L : List HB} {K : Act → World → Prop} (ty k : Nat) (f : Nat → SV) (hf : ∀ (h : HM) (q : Nat), Stable h (f q))
    (h : At w0 M E n0 N D φ (L ++ [.own ty (.arr 0 k f) false]) K) : At w0 M E n0 N D φ L K := fun a w hS => by
  obtain ⟨⟨β, hE, R, F⟩, hbn, hsz, hd⟩ := hS
  have hm : hp L L.length = .dead := hp_dead (Nat.le_refl _)
  have R1 := nothing R (e := ty) (k := k) (g := f) hm (fun q => hf _ q)
  have hag : ∀ i, (hp L i).born = true → β i = setE β L.length (none, 0) i := agree_setE hm
  have hborn : ∀ i, (hp L i).born = true → (upd (hp L) L.length (.own ty (.arr 0 k f) false) i).born = true := fun i hi => by
    unfold Vm.upd; split
    · rfl
    · exact hi
  refine h a w ⟨⟨setE β L.length (none, 0), fun i hi => (hag i (hbn i hi)).symm.trans (hE i hi), by rw [hp_append1]; exact R1, fun u v hu => ?_⟩, fun i hi => by rw [hp_append1]; exact hborn i (hbn i hi), hsz, hd⟩
  rw [hp_append1]
  obtain ⟨k1, k2⟩ := F u v hu
  exact ⟨k1.more hborn, by rw [k2]; exact k1.den hag⟩
theorem WF.empty {P : Program} {w0 : World} {M : Nat → Prop} {E : Env} {n0 N n : Nat} {D : List Deferred} {φ : Fr} {L : List HB} {c : Code} {ro : Option Nat} {Q : Exit → Act → World → Prop} (ty k : Nat) (f : Nat → SV) (hf : ∀ (h : HM) (q : Nat), Stable h (f q))
    (h : WF ro n P c w0 M E n0 N D φ (L ++ [.own ty (.arr 0 k f) false]) Q) : WF ro n P c w0 M E n0 N D φ L Q := At.empty ty k f hf h
end Go.Proofs.YtjliakjbdcplcaaGreat.Vm
end

section
namespace Go.Proofs.YtjliakjbdcplcaaGreat.Vm
open Go.RowKit
set_option linter.unusedVariables false
set_option linter.unusedSimpArgs false
set_option maxRecDepth 100000

def stS (s : Sta) (c k : Nat) : SV := .agg [.int .i64 s.at_, .bool s.ended, .arr 8 1 fun q => .int .i64 (s.regs q), .sl c c [] 1 0 s.cells.length none, .int .i64 s.draws, .sl k k [] 3 0 s.sends.length none]
def evS (v : Evi) : SV := .agg [.int .u64 v.seed, .int .i64 v.process, .int .i64 v.ports, .int .i64 v.look, .int .i64 v.now]
def macS (s : Sta) (v : Evi) (x : Ins) (c k : Nat) : SV := .agg [stS s c k, evS v, insS x]
def mB (s : Sta) (v : Evi) (x : Ins) (c k : Nat) : HB := .own 186 (macS s v x c k) true
def cB (s : Sta) : HB := .own 2 (.arr s.cells.length 1 (i64S s.cells)) false
def sB (s : Sta) : HB := .own 125 (.arr s.sends.length 3 (sndsS s.sends)) false
theorem stS_eq (s : Sta) (c k : Nat) : stS s c k = .agg [.int .i64 s.at_, .bool s.ended, .arr 8 1 fun q => .int .i64 (s.regs q), .sl c c [] 1 0 s.cells.length none, .int .i64 s.draws, .sl k k [] 3 0 s.sends.length none] := rfl
theorem evS_eq (v : Evi) : evS v = .agg [.int .u64 v.seed, .int .i64 v.process, .int .i64 v.ports, .int .i64 v.look, .int .i64 v.now] := rfl
theorem macS_eq (s : Sta) (v : Evi) (x : Ins) (c k : Nat) : macS s v x c k = .agg [stS s c k, evS v, insS x] := rfl
theorem mB_eq (s : Sta) (v : Evi) (x : Ins) (c k : Nat) : mB s v x c k = .own 186 (macS s v x c k) true := rfl
theorem cB_eq (s : Sta) : cB s = .own 2 (.arr s.cells.length 1 (i64S s.cells)) false := rfl
theorem sB_eq (s : Sta) : sB s = .own 125 (.arr s.sends.length 3 (sndsS s.sends)) false := rfl
set_option linter.defProp false in
def JM := And.intro @stS_eq (And.intro @evS_eq (And.intro @macS_eq (And.intro @mB_eq (And.intro @cB_eq @sB_eq))))

theorem ls_getD {α : Type} {g : SV → α} {n q : Nat} {f : Nat → SV} {d : α} (h : q < n) : (ls g n f).getD q d = g (f q) := by
  simp [ls, h]
def macP (h : HM) (g : Nat) : Option (Sta × Evi × Ins × Nat × Nat × Prop) := match h g with
  | .own t (.agg [.agg [a, .bool e, .arr 8 1 rg, .sl z c [] 1 0 nc none, d, .sl z2 k [] 3 0 ns none], .agg [e0, e1, e2, e3, e4], iv]) true => match h c, h k with
    | .own t1 (.arr n1 1 cf) false, .own t2 (.arr n2 3 sf) false =>
      bif (Nat.beq t 186 && Nat.beq t1 2 && Nat.beq t2 125) && (Nat.beq z c && Nat.beq z2 k && Nat.beq n1 nc && Nat.beq n2 ns) && (isI .i64 a && isI .i64 d) && (isI .u64 e0 && isI .i64 e1 && isI .i64 e2 && isI .i64 e3 && isI .i64 e4) && isIns iv then
        some (⟨iOf a, e, fun q => iOf (rg q), ls iOf nc cf, iOf d, ls sndOf ns sf⟩, ⟨iOf e0, iOf e1, iOf e2, iOf e3, iOf e4⟩, insOf iv, c, k, (∀ q, q < 8 → isI .i64 (rg q) = true) ∧ (∀ q, q < nc → isI .i64 (cf q) = true) ∧ ∀ q, q < ns → isSnd (sf q) = true) else none
    | _, _ => none
  | _ => none
theorem mac_val {h : HM} {g c k : Nat} {s : Sta} {v : Evi} {x : Ins} {ok : Prop} (hp : macP h g = some (s, v, x, c, k, ok)) (hok : ok) :
    ∃ l cf sf, h g = .own 186 (.agg l) true ∧ (∀ β, (SV.agg l).cl β = (macS s v x c k).cl β) ∧ h c = .own 2 (.arr s.cells.length 1 cf) false ∧ (∀ β q, q < s.cells.length → (cf q).cl β = (i64S s.cells q).cl β) ∧
      h k = .own 125 (.arr s.sends.length 3 sf) false ∧ (∀ β q, q < s.sends.length → (sf q).cl β = (sndsS s.sends q).cl β) ∧ g ≠ c ∧ g ≠ k ∧ c ≠ k := by
  unfold macP at hp
  split at hp
  · rename_i t a e rg z c0 nc d z2 k0 ns e0 e1 e2 e3 e4 iv hg
    split at hp
    · rename_i t1 n1 cf t2 n2 sf hc hk
      obtain ⟨hb, hs⟩ := bif_some hp
      simp only [Option.some.injEq, Prod.mk.injEq] at hs
      obtain ⟨rfl, rfl, rfl, rfl, rfl, rfl⟩ := hs
      simp only [Bool.and_eq_true] at hb
      obtain ⟨⟨⟨⟨⟨⟨b1, b2⟩, b3⟩, ⟨⟨b4, b5⟩, b6⟩, b7⟩, b8, b9⟩, ⟨⟨⟨b10, b11⟩, b12⟩, b13⟩, b14⟩, b15⟩ := hb
      have b1 := Nat.eq_of_beq_eq_true b1
      have b2 := Nat.eq_of_beq_eq_true b2
      have b3 := Nat.eq_of_beq_eq_true b3
      have b4 := Nat.eq_of_beq_eq_true b4
      have b5 := Nat.eq_of_beq_eq_true b5
      have b6 := Nat.eq_of_beq_eq_true b6
      have b7 := Nat.eq_of_beq_eq_true b7
      subst b1 b2 b3 b4 b5 b6 b7
      obtain ⟨hr, hcf, hsf⟩ := hok
      refine ⟨_, cf, sf, hg, fun β => ?_, by rw [hc, ls_length], fun β q hq => ?_, by rw [hk, ls_length], fun β q hq => ?_, ?_, ?_, ?_⟩
      · have h8 : (SV.arr 8 1 rg).cl β = (SV.arr 8 1 fun q => .int .i64 (iOf (rg q))).cl β := arrCl fun q hq => by rw [isI_cl (hr q hq)]; rfl
        simp only [macS, stS, evS, cl_agg, clL_cons, clL_nil, h8, isI_cl b8, isI_cl b9, isI_cl b10, isI_cl b11, isI_cl b12, isI_cl b13, isI_cl b14, isIns_cl b15, isIns_cl (isIns_insS _), insOf_insS, ls_length]
        rfl
      · rw [ls_length] at hq
        rw [isI_cl (hcf q hq)]
        unfold i64S
        rw [ls_getD hq]; rfl
      · rw [ls_length] at hq
        rw [isSnd_cl (hsf q hq)]
        unfold sndsS
        rw [ls_getD hq, isSnd_cl (isSnd_sndS _), sndOf_sndS]
      · rintro rfl; rw [hg] at hc; cases hc
      · rintro rfl; rw [hg] at hk; cases hk
      · rintro rfl; rw [hc] at hk; cases hk
    · cases hp
  · cases hp
def macH (h : HM) (g c k : Nat) (s : Sta) (v : Evi) (x : Ins) : HM := upd (upd (upd h g (mB s v x c k)) c (cB s)) k (sB s)
theorem macH_g {h : HM} {g c k : Nat} {s : Sta} {v : Evi} {x : Ins} (n1 : g ≠ c) (n2 : g ≠ k) : macH h g c k s v x g = mB s v x c k := by
  unfold macH; rw [upd_ne n2, upd_ne n1, upd_same]
theorem macH_c {h : HM} {g c k : Nat} {s : Sta} {v : Evi} {x : Ins} (n3 : c ≠ k) : macH h g c k s v x c = cB s := by
  unfold macH; rw [upd_ne n3, upd_same]
theorem macH_k {h : HM} {g c k : Nat} {s : Sta} {v : Evi} {x : Ins} : macH h g c k s v x k = sB s := by
  unfold macH; rw [upd_same]
theorem macH_o {h : HM} {g c k i : Nat} {s : Sta} {v : Evi} {x : Ins} (n1 : i ≠ g) (n2 : i ≠ c) (n3 : i ≠ k) : macH h g c k s v x i = h i := by
  unfold macH; rw [upd_ne n3, upd_ne n2, upd_ne n1]
theorem macH_born {h : HM} {g c k i : Nat} {s : Sta} {v : Evi} {x : Ins} (hi : (h i).born = true) : (macH h g c k s v x i).born = true := by
  unfold macH Vm.upd
  split
  · rfl
  · split
    · rfl
    · split
      · rfl
      · exact hi
theorem cB_st {h : HM} {s : Sta} : (cB s).stable h := fun q => i64S_stable q
theorem sB_st {h : HM} {s : Sta} : (sB s).stable h := fun q => sndsS_stable q
theorem mB_st {h : HM} {s : Sta} {v : Evi} {x : Ins} {c k : Nat} (hc : (h c).born = true) (hk : (h k).born = true) : (mB s v x c k).stable h := by
  simp [mB, HB.stable, macS, stS, evS, insS, Stable, StableL, hc, hk]
theorem macS_ren (ρ : Nat → Nat) (s : Sta) (v : Evi) (x : Ins) (c k : Nat) : (macS s v x c k).ren ρ = macS s v x (ρ c) (ρ k) := by
  simp [macS, stS, evS, insS, SV.ren, renL]
theorem mB_ren (ρ : Nat → Nat) (s : Sta) (v : Evi) (x : Ins) (c k : Nat) : (mB s v x c k).ren ρ = mB s v x (ρ c) (ρ k) := by
  simp [mB, HB.ren, macS_ren]
theorem cB_ren (ρ : Nat → Nat) (s : Sta) : (cB s).ren ρ = cB s := rfl
theorem sB_ren (ρ : Nat → Nat) (s : Sta) : (sB s).ren ρ = sB s := by
  have : (fun q => (sndsS s.sends q).ren ρ) = sndsS s.sends := by
    funext q; unfold sndsS; simp only [sndS, SV.ren, renL]
  simp [sB, HB.ren, SV.ren, this]
section
variable {w0 w : World} {M : Nat → Prop} {β : Env} {h h' : HM} {g c k : Nat} {s : Sta} {v : Evi} {x : Ins} {ok : Prop}
theorem mac_canon (hp : macP h g = some (s, v, x, c, k, ok)) (hok : ok) (R : Rep w0 M β h' w) (eg : h' g = h g) (ec : h' c = h c) (ek : h' k = h k) :
    Rep w0 M β (macH h' g c k s v x) w ∧ g ≠ c ∧ g ≠ k ∧ c ≠ k ∧ 0 ≠ g ∧ 0 ≠ c ∧ 0 ≠ k := by
  obtain ⟨l, cf, sf, hg, hgl, hc, hcl, hk, hkl, n1, n2, n3⟩ := mac_val hp hok
  have z : ∀ {j : Nat} {b : HB}, h' j = b → b.mine = true → 0 ≠ j := fun {j b} hj hb e => by
    subst e; rw [R.nil0] at hj; subst hj; cases hb
  have z1 := z (eg.trans hg) rfl
  have z2 := z (ec.trans hc) rfl
  have z3 := z (ek.trans hk) rfl
  have hnn : (macH h' g c k s v x) 0 = .gone := by rw [macH_o z1 z2 z3]; exact R.nil0
  refine ⟨R.less (fun i => ?_) hnn (fun i => ?_), n1, n2, n3, z1, z2, z3⟩
  · by_cases e1 : i = g
    · subst e1
      rw [macH_g n1 n2, eg, hg]
      exact .val hgl (fun n k f e => by cases e) (fun n k f e => by cases e)
    · by_cases e2 : i = c
      · subst e2
        rw [macH_c n3, ec, hc]
        exact .val (fun β => arrCl (hcl β)) (fun n k f e => by injection e with e1 e2 e3; subst e1 e2; exact ⟨_, rfl⟩) (fun n k f e => by injection e with e1 e2 e3; subst e1 e2; exact ⟨_, rfl⟩)
      · by_cases e3 : i = k
        · subst e3
          rw [macH_k, ek, hk]
          exact .val (fun β => arrCl (hkl β)) (fun n k f e => by injection e with e1 e2 e3; subst e1 e2; exact ⟨_, rfl⟩) (fun n k f e => by injection e with e1 e2 e3; subst e1 e2; exact ⟨_, rfl⟩)
        · rw [macH_o e1 e2 e3]; exact .same _
  · by_cases e1 : i = g
    · subst e1
      rw [macH_g n1 n2]
      exact mB_st (by rw [macH_c n3]; rfl) (by rw [macH_k]; rfl)
    · by_cases e2 : i = c
      · subst e2
        rw [macH_c n3]; exact cB_st
      · by_cases e3 : i = k
        · subst e3
          rw [macH_k]; exact sB_st
        · rw [macH_o e1 e2 e3]
          exact HB.stable_more (R.st i) fun j hj => macH_born hj
end
abbrev MF := List SV → Sta → Evi → Ins → Option (Prop × (Nat → SV) × Sta × Ins × Bool)
def mS (F : MF) : Spec := fun args h m => match args with
  | .ptr g [] :: ar => match macP h g with
    | some (s, v, x, c, k, ok) => match F ar s v x with
      | some (cond, val, s', x', mv) => some (ok ∧ cond, val c, [g, c, k], bif mv then [(g, mB s' v x' c m), (c, cB s'), (k, .gone), (m, sB s')] else [(g, mB s' v x' c k), (c, cB s'), (k, sB s')])
      | none => none
    | none => none
  | _ => none
theorem inj4 {g c k : Nat} {a b d : HB} (n1 : g ≠ c) (n2 : g ≠ k) (n3 : c ≠ k) : ∀ i j, i < [HB.gone, a, b, d].length → j < [HB.gone, a, b, d].length → i ≠ j → (hp [HB.gone, a, b, d] i).mine = true → (hp [HB.gone, a, b, d] j).mine = true ∨ (hp [HB.gone, a, b, d] j).isRo = true → [0, g, c, k].getD i 0 ≠ [0, g, c, k].getD j 0 := by
  intro i j hi hj hne hmi hmj
  simp only [List.length_cons, List.length_nil] at hi hj
  have hi0 : i ≠ 0 := by rintro rfl; cases hmi
  have hj0 : j ≠ 0 := by
    rintro rfl
    rcases hmj with h | h <;> cases h
  rcases i with _ | _ | _ | _ | i
  · exact absurd rfl hi0
  all_goals rcases j with _ | _ | _ | _ | j
  all_goals first | exact absurd rfl hj0 | exact absurd rfl hne | (simp only [List.getD_cons_succ, List.getD_cons_zero]; first | exact n1 | exact n2 | exact n3 | exact n1.symm | exact n2.symm | exact n3.symm) | omega
theorem mS_ok {f : FuncId} {F : MF} (hf : named Tryz.prog f = true)
    (H : ∀ ar s v x cond val s' x' mv, F ar s v x = some (cond, val, s', x', mv) → cond → (∀ ρ, renL ρ ar = ar) ∧ (∀ h, StableL h ar) ∧ (∀ ρ : Nat → Nat, ρ 0 = 0 → (val 2).ren ρ = val (ρ 2)) ∧ (∀ h : HM, (h 0).born = true → (h 2).born = true → Stable h (val 2)) ∧
      LitOk Tryz.prog f (.ptr 1 [] :: ar) [.gone, mB s v x 2 3, cB s, sB s] (val 2) (bif mv then [.gone, mB s' v x' 2 4, cB s', .gone, sB s'] else [.gone, mB s' v x' 2 3, cB s', sB s'])) : CallOk Tryz.prog f (mS F) := by
  refine ⟨named_spec hf, fun args h m c v rd wr hs hm hc w0 M β h' w R hrd hwr hst => ?_⟩
  unfold mS at hs
  split at hs
  · rename_i g ar
    split at hs
    · rename_i s v x c k ok hmp
      split at hs
      · rename_i cond val s' x' mv hF
        simp only [Option.some.injEq, Prod.mk.injEq] at hs
        obtain ⟨rfl, rfl, rfl, rfl⟩ := hs
        obtain ⟨hok, hcond⟩ := hc
        obtain ⟨q1, q2, q3, q4, hl⟩ := H ar s v x _ _ _ _ _ hF hcond
        obtain ⟨R1, n1, n2, n3, z1, z2, z3⟩ := mac_canon hmp hok R (hrd g (by simp)) (hrd c (by simp)) (hrd k (by simp))
        have hfit : FitL (rhoL [0, g, c, k] m) (macH h' g c k s v x) [.gone, mB s v x 2 3, cB s, sB s] [0, g, c, k] := by
          refine ⟨.gone ?_, ?_, ?_, ?_, trivial⟩
          · rw [R1.nil0]; rfl
          · rw [macH_g n1 n2]
            have e : mB s v x c k = .own 186 ((macS s v x 2 3).ren (rhoL [0, g, c, k] m)) true := by rw [macS_ren]; rfl
            rw [e]; exact .own
          · rw [macH_c n3]
            exact .own (v := .arr s.cells.length 1 (i64S s.cells))
          · rw [macH_k]
            have e : sB s = (sB s).ren (rhoL [0, g, c, k] m) := (sB_ren _ _).symm
            rw [e]; exact .own (v := .arr s.sends.length 3 (sndsS s.sends))
        have hargs : renL (rhoL [0, g, c, k] m) (.ptr 1 [] :: ar) = .ptr g [] :: ar := by
          simp only [renL, SV.ren, q1]; rfl
        have hval : (val 2).ren (rhoL [0, g, c, k] m) = val c := q3 _ rfl
        have hst0 : StableH (hp [.gone, mB s v x 2 3, cB s, sB s]) [.gone, mB s v x 2 3, cB s, sB s] := ⟨trivial, mB_st rfl rfl, cB_st, sB_st, trivial⟩
        cases mv with
        | false =>
          have C := callRW (h := h) (m := m) [0, g, c, k] hl R1 rfl (by simp) rfl rfl hfit (inj4 n1 n2 n3) hm (fun p hp => by cases hp) (by simp) rfl hst0 ⟨rfl, q2 _⟩
            ⟨trivial, mB_st rfl rfl, cB_st, sB_st, trivial⟩ (q4 _ rfl rfl)
          rw [hargs] at C
          have hw : wrs (macH h' g c k s v x) (oldB (rhoL [0, g, c, k] m) [.gone, mB s v x 2 3, cB s, sB s] [.gone, mB s' v x' 2 3, cB s', sB s'] [0, g, c, k] ++ newB (rhoL [0, g, c, k] m) m ([HB.gone, mB s' v x' 2 3, cB s', sB s'].drop 4)) = wrs h' [(g, mB s' v x' c k), (c, cB s'), (k, sB s')] := by
            simp only [oldB, newB, mB_ren, cB_ren, sB_ren, List.drop, List.append_nil]
            funext i
            show upd (upd (upd (macH h' g c k s v x) g (mB s' v x' c k)) c (cB s')) k (sB s') i = upd (upd (upd h' g (mB s' v x' c k)) c (cB s')) k (sB s') i
            unfold macH Vm.upd
            split
            · rfl
            · split
              · rfl
              · split <;> rfl
          refine C.mono fun e w' ⟨β', g1, g2, g3, g4⟩ => ⟨β', fun i hi => g1 i (macH_born hi), ?_, ?_, ?_⟩
          · rw [cond_false, ← hw]; exact g2
          · rw [cond_false, ← hval, ← hw]; exact g3
          · rw [← hval]; exact g4
        | true =>
          have hmd : h m = .dead := hm m (Nat.le_refl _)
          have hm' : h' m = .dead := (hwr (m, sB s') (by simp)).trans hmd
          have mg : m ≠ g := by rintro rfl; have := mac_val hmp hok; obtain ⟨l, cf, sf, e, _⟩ := this; rw [hmd] at e; cases e
          have mc : m ≠ c := by rintro rfl; have := mac_val hmp hok; obtain ⟨l, cf, sf, _, _, e, _⟩ := this; rw [hmd] at e; cases e
          have mk : m ≠ k := by rintro rfl; have := mac_val hmp hok; obtain ⟨l, cf, sf, _, _, _, _, e, _⟩ := this; rw [hmd] at e; cases e
          have C := callRW (h := h) (m := m) [0, g, c, k] hl R1 rfl (by simp) rfl rfl hfit (inj4 n1 n2 n3) hm (fun p hp => by
              simp only [newB, List.drop, cond_true, List.length_cons, List.length_nil, List.mem_cons, List.not_mem_nil, or_false] at hp
              subst hp
              show macH h' g c k s v x m = h m
              rw [macH_o mg mc mk, hm', hmd]) (by simp) rfl hst0 ⟨rfl, q2 _⟩
            ⟨trivial, mB_st rfl rfl, cB_st, trivial, sB_st, trivial⟩ (q4 _ rfl rfl)
          rw [hargs] at C
          have hw : wrs (macH h' g c k s v x) (oldB (rhoL [0, g, c, k] m) [.gone, mB s v x 2 3, cB s, sB s] [.gone, mB s' v x' 2 4, cB s', .gone, sB s'] [0, g, c, k] ++ newB (rhoL [0, g, c, k] m) m ([HB.gone, mB s' v x' 2 4, cB s', .gone, sB s'].drop 4)) = wrs h' [(g, mB s' v x' c m), (c, cB s'), (k, .gone), (m, sB s')] := by
            have e4 : rhoL [0, g, c, k] m 4 = m := by simp [rhoL]
            simp only [oldB, newB, mB_ren, cB_ren, sB_ren, List.drop, e4]
            funext i
            show upd (upd (upd (upd (macH h' g c k s v x) g (mB s' v x' c m)) c (cB s')) k .gone) m (sB s') i = upd (upd (upd (upd h' g (mB s' v x' c m)) c (cB s')) k .gone) m (sB s') i
            unfold macH Vm.upd
            split
            · rfl
            · split
              · rfl
              · split
                · rfl
                · split <;> rfl
          refine C.mono fun e w' ⟨β', g1, g2, g3, g4⟩ => ⟨β', fun i hi => g1 i (macH_born hi), ?_, ?_, ?_⟩
          · rw [cond_true, ← hw]; exact g2
          · rw [cond_true, ← hval, ← hw]; exact g3
          · rw [← hval]; exact g4
      · cases hs
    · cases hs
  · cases hs
abbrev RF := Sta → Evi → Ins → Option (Prop × SV)
def rS (F : RF) : Spec := fun args h m => match args with
  | [.ptr g []] => match macP h g with
    | some (s, v, x, c, k, ok) => match F s v x with
      | some (cond, val) => some (ok ∧ cond, val, [g, c, k], [])
      | none => none
    | none => none
  | _ => none
theorem rS_ok {f : FuncId} {F : RF} (hf : named Tryz.prog f = true)
    (H : ∀ s v x cond val, F s v x = some (cond, val) → cond → (∀ ρ, val.ren ρ = val) ∧ (∀ h : HM, Stable h val) ∧
      LitOk Tryz.prog f [.ptr 1 []] [.gone, .ro (macS s v x 2 3), .gone, .gone] val [.gone, .gone, .gone, .gone]) : CallOk Tryz.prog f (rS F) := by
  refine ⟨named_spec hf, fun args h m c v rd wr hs hm hc w0 M β h' w R hrd hwr hst => ?_⟩
  unfold rS at hs
  split at hs
  · rename_i g
    split at hs
    · rename_i s v x c k ok hmp
      split at hs
      · rename_i cond val hF
        simp only [Option.some.injEq, Prod.mk.injEq] at hs
        obtain ⟨rfl, rfl, rfl, rfl⟩ := hs
        obtain ⟨hok, hcond⟩ := hc
        obtain ⟨q1, q2, hl⟩ := H s v x _ _ hF hcond
        obtain ⟨l, cf, sf, hg, hgl, hcc, _, hk, _⟩ := mac_val hmp hok
        have hfit : FitL (rhoL [0, g, c, k] m) h' [.gone, .ro (macS s v x 2 3), .gone, .gone] [0, g, c, k] := by
          refine ⟨.gone ?_, .ro (u := .agg l) (by rw [hrd g (by simp), hg]; rfl) (fun β => by rw [macS_ren]; exact hgl β) (fun n k f e => by rw [macS_ren] at e; cases e), .gone (by rw [hrd c (by simp), hcc]; rfl), .gone (by rw [hrd k (by simp), hk]; rfl), trivial⟩
          rw [R.nil0]; rfl
        have C := callG (h := h) (m := m) [0, g, c, k] hl R rfl (by simp) rfl rfl rfl hfit hm (fun p hp => by cases hp) (by simp)
          (by simp [StableH, HB.stable, macS, stS, evS, insS, Stable, StableL, hp, HB.born]) ⟨rfl, trivial⟩ trivial (q2 _)
        refine C.mono fun e w' ⟨β', g1, g2, g3, g4⟩ => ⟨β', g1, g2, q2 _, by rw [← q1 (rhoL [0, g, c, k] m)]; exact g4⟩
      · cases hs
    · cases hs
  · cases hs
end Go.Proofs.YtjliakjbdcplcaaGreat.Vm
end

section
namespace Go.Proofs.YtjliakjbdcplcaaGreat.Vm
open Go.RowKit
attribute [local push_cast] runR opG gtmp gval gus opX tmpsOf tm tmO tmP restr look look2 tab tys zs ets eqB eqBL allB numOf ieq Int.cast_ofNat_Int Int.ofNat_zero beq_true beq_false frameOf ev evL ofV opV loadV noW pushF wrsL setH allBorn allGone HB.born HB.isGone HB.val SV.plain dstOk hp nav fitsT SV.size sizeL SV.isAgg TK.size TK.agg bin binE binN binI arN arI cmpN cmpI keq kn narrow callV storeV setp fillV buildV buildSliceV makeV sliceV appendV appendFV slice3V copyV List.isEmpty_nil srcV evO asN ite_t ite_f ite_bool ite_int ite_nat maxV v_beq v_ble v_blt cond_true cond_false List.getElem?_cons_zero List.getElem?_cons_succ List.getD_cons_zero List.getD_cons_succ List.getD_nil List.length_cons List.length_nil List.take_succ_cons List.take_zero List.set_cons_zero List.set_cons_succ List.cons_append List.nil_append List.append_assoc List.replicate_succ List.replicate_zero Nat.zero_add Nat.add_zero decide_true decide_false Bool.true_and Bool.and_true Bool.false_and Bool.and_false Bool.true_or Bool.or_true Bool.false_or Bool.or_false beq_self_eq_true Bool.or_self Nat.lt_irrefl Nat.not_lt_zero Nat.le_refl Option.getD_some Option.getD_none BEq.rfl Bool.not_true Bool.not_false Bool.cond_true_left Bool.cond_false_right prS sndsS i64S nav_ins nav_ins0 nav_ins1 nav_ins2 nav_ins3 nav_ins4 nav_snd nav_snd0 nav_snd1 nav_snd2 isIns_insS insOf_insS isSnd_sndS sndOf_sndS isI_int isI_nat iOf
set_option linter.unusedVariables false
set_option linter.unusedSimpArgs false
set_option maxRecDepth 100000
set_option maxHeartbeats 4000000
theorem ls_i64S2 (l : List Int) : ls iOf l.length (fun q => .int .i64 (l.getD q 0)) = l := ls_i64S l
theorem ls_sndsS2 (l : List Snd) : ls sndOf l.length (fun q => sndS (l.getD q ⟨0, 0, 0⟩)) = l := ls_sndsS l
theorem ls_prS2 (l : List Ins) : ls insOf l.length (fun q => insS (l.getD q ⟨0, 0, 0, 0, 0⟩)) = l := ls_prS l
def cM0 : FuncId → Option Spec := look2 []
theorem cM0_ok : ∀ f S, cM0 f = some S → CallOk Tryz.prog f S := fun f S h => by cases h
def aF : RF := fun s v x => some (0 ≤ x.a ∧ x.a < 8, .int .i64 (s.regs x.a.toNat))
def bF : RF := fun s v x => some (0 ≤ x.b ∧ x.b < 8, .int .i64 (s.regs x.b.toNat))
def cF : RF := fun s v x => some (0 ≤ x.c ∧ x.c < 8, .int .i64 (s.regs x.c.toNat))
theorem a_ok : CallOk Tryz.prog 177 (rS aF) := rS_ok (by kernel_rfl) fun s v x cond val hF hc => by
  cases hF
  obtain ⟨h0, h8⟩ := hc
  have hn : x.a.toNat < 8 := by omega
  refine ⟨fun _ => rfl, fun _ => trivial, ?_⟩
  refine litOkM (fn := Tryz.f177) 4 14 0 rfl rfl rfl rfl rfl (by simp only [StableL, Stable, hp, i64S, prS, insS, sndsS, sndS, stS, evS, macS]; simp [HB.born, mB, cB, sB]) rfl fun w0 M E hro => ?_
  repeat' (first | refine Ctl.h ?_ | ((with_reducible intro hif); first | (focus (cases hif; done)) | (simp only [JH] at hif; try (exfalso; omega)) | (try (exfalso; omega))) | ((first | ((with_reducible apply J22 cM0_ok tab_ok); (· rfl)) | ((with_reducible apply J23 fol cM0_ok tab_ok); (· rfl)) | with_reducible apply J24); (· exact Vm.b21); (try kernel_rfl); (try exact Vm.b20)) | fail)
  apply At.endsRet tab_ok (fn := Tryz.f177) (rs := [.tmp 2]) Anc.refl hro (Nat.le_of_ble_eq_true rfl) rfl
  · exact Vm.b18
  · exact Vm.b7
  · exact Vm.b8
  · rfl
  · exact Vm.b19
  · exact Vm.b10
  · exact fun β => rfl
  · exact Vm.b19
theorem b_ok : CallOk Tryz.prog 175 (rS bF) := rS_ok (by kernel_rfl) fun s v x cond val hF hc => by
  cases hF
  obtain ⟨h0, h8⟩ := hc
  have hn : x.b.toNat < 8 := by omega
  refine ⟨fun _ => rfl, fun _ => trivial, ?_⟩
  refine litOkM (fn := Tryz.f175) 4 14 0 rfl rfl rfl rfl rfl (by simp only [StableL, Stable, hp, i64S, prS, insS, sndsS, sndS, stS, evS, macS]; simp [HB.born, mB, cB, sB]) rfl fun w0 M E hro => ?_
  repeat' (first | refine Ctl.h ?_ | ((with_reducible intro hif); first | (focus (cases hif; done)) | (simp only [JH] at hif; try (exfalso; omega)) | (try (exfalso; omega))) | ((first | ((with_reducible apply J22 cM0_ok tab_ok); (· rfl)) | ((with_reducible apply J23 fol cM0_ok tab_ok); (· rfl)) | with_reducible apply J24); (· exact Vm.b21); (try kernel_rfl); (try exact Vm.b20)) | fail)
  apply At.endsRet tab_ok (fn := Tryz.f175) (rs := [.tmp 2]) Anc.refl hro (Nat.le_of_ble_eq_true rfl) rfl
  · exact Vm.b18
  · exact Vm.b7
  · exact Vm.b8
  · rfl
  · exact Vm.b19
  · exact Vm.b10
  · exact fun β => rfl
  · exact Vm.b19
theorem c_ok : CallOk Tryz.prog 181 (rS cF) := rS_ok (by kernel_rfl) fun s v x cond val hF hc => by
  cases hF
  obtain ⟨h0, h8⟩ := hc
  have hn : x.c.toNat < 8 := by omega
  refine ⟨fun _ => rfl, fun _ => trivial, ?_⟩
  refine litOkM (fn := Tryz.f181) 4 14 0 rfl rfl rfl rfl rfl (by simp only [StableL, Stable, hp, i64S, prS, insS, sndsS, sndS, stS, evS, macS]; simp [HB.born, mB, cB, sB]) rfl fun w0 M E hro => ?_
  repeat' (first | refine Ctl.h ?_ | ((with_reducible intro hif); first | (focus (cases hif; done)) | (simp only [JH] at hif; try (exfalso; omega)) | (try (exfalso; omega))) | ((first | ((with_reducible apply J22 cM0_ok tab_ok); (· rfl)) | ((with_reducible apply J23 fol cM0_ok tab_ok); (· rfl)) | with_reducible apply J24); (· exact Vm.b21); (try kernel_rfl); (try exact Vm.b20)) | fail)
  apply At.endsRet tab_ok (fn := Tryz.f181) (rs := [.tmp 2]) Anc.refl hro (Nat.le_of_ble_eq_true rfl) rfl
  · exact Vm.b18
  · exact Vm.b7
  · exact Vm.b8
  · rfl
  · exact Vm.b19
  · exact Vm.b10
  · exact fun β => rfl
  · exact Vm.b19
def putF : MF := fun ar s v x => match ar with
  | [.int .i64 n] => some (0 ≤ x.a ∧ x.a < 8 ∧ 0 ≤ s.at_ ∧ s.at_ ≤ 256, fun _ => .int .i64 0, s.put x.a.toNat n, x, false)
  | _ => none
theorem put_ok : CallOk Tryz.prog 174 (mS putF) := mS_ok (by kernel_rfl) fun ar s v x cond val s' x' mv hF hc => by
  unfold putF at hF
  split at hF
  · cases hF
    obtain ⟨h0, h8, a0, a1⟩ := hc
    have hn : x.a.toNat < 8 := by omega
    refine ⟨fun _ => rfl, fun _ => ⟨trivial, trivial⟩, fun _ _ => rfl, fun _ _ _ => trivial, ?_⟩
    refine litOkM (fn := Tryz.f174) 4 25 0 rfl rfl rfl rfl rfl (by simp only [StableL, Stable, hp, i64S, prS, insS, sndsS, sndS, stS, evS, macS]; simp [HB.born, mB, cB, sB]) rfl fun w0 M E hro => ?_
    repeat' (first | refine Ctl.h ?_ | ((with_reducible intro hif); first | (focus (cases hif; done)) | (simp only [JH] at hif; try (exfalso; omega)) | (try (exfalso; omega))) | ((first | ((with_reducible apply J22 cM0_ok tab_ok); (· rfl)) | ((with_reducible apply J23 fol cM0_ok tab_ok); (· rfl)) | with_reducible apply J24); (· exact Vm.b23); (try kernel_rfl); (try exact Vm.b22)) | fail)
    apply At.endsRet tab_ok (fn := Tryz.f174) (rs := [.tmp 4]) Anc.refl hro (Nat.le_of_ble_eq_true rfl) rfl
    · exact Vm.b18
    · exact Vm.b7
    · exact Vm.b8
    · rfl
    · exact Vm.b19
    · exact Vm.b10
    · exact fun β => rfl
    · exact Vm.b19
  · cases hF
def jumpIfF : MF := fun ar s v x => match ar with
  | [.bool is] => some (0 ≤ s.at_ ∧ s.at_ ≤ 256 ∧ 0 ≤ x.n ∧ x.n < 256, fun _ => .int .i64 0, { s with at_ := if is = true then x.n else s.at_ + 1 }, x, false)
  | _ => none
theorem jumpIf_ok : CallOk Tryz.prog 179 (mS jumpIfF) := mS_ok (by kernel_rfl) fun ar s v x cond val s' x' mv hF hc => by
  unfold jumpIfF at hF
  split at hF
  · rename_i is
    cases hF
    obtain ⟨a0, a1, n0, n1⟩ := hc
    refine ⟨fun _ => rfl, fun _ => ⟨trivial, trivial⟩, fun _ _ => rfl, fun _ _ _ => trivial, ?_⟩
    cases is
    · refine litOkM (fn := Tryz.f179) 4 24 0 rfl rfl rfl rfl rfl (by simp only [StableL, Stable, hp, i64S, prS, insS, sndsS, sndS, stS, evS, macS]; simp [HB.born, mB, cB, sB]) rfl fun w0 M E hro => ?_
      repeat' (first | refine Ctl.h ?_ | ((with_reducible intro hif); first | (focus (cases hif; done)) | (simp only [JH] at hif; try (exfalso; omega)) | (try (exfalso; omega))) | ((first | ((with_reducible apply J22 cM0_ok tab_ok); (· rfl)) | ((with_reducible apply J23 fol cM0_ok tab_ok); (· rfl)) | with_reducible apply J24); (· exact Vm.b23); (try kernel_rfl); (try exact Vm.b22)) | fail)
      apply At.endsRet tab_ok (fn := Tryz.f179) (rs := [.tmp 4]) Anc.refl hro (Nat.le_of_ble_eq_true rfl) rfl
      · exact Vm.b18
      · exact Vm.b7
      · exact Vm.b8
      · rfl
      · exact Vm.b19
      · exact Vm.b10
      · exact fun β => rfl
      · exact Vm.b19
    · refine litOkM (fn := Tryz.f179) 4 24 0 rfl rfl rfl rfl rfl (by simp only [StableL, Stable, hp, i64S, prS, insS, sndsS, sndS, stS, evS, macS]; simp [HB.born, mB, cB, sB]) rfl fun w0 M E hro => ?_
      repeat' (first | refine Ctl.h ?_ | ((with_reducible intro hif); first | (focus (cases hif; done)) | (simp only [JH] at hif; try (exfalso; omega)) | (try (exfalso; omega))) | ((first | ((with_reducible apply J22 cM0_ok tab_ok); (· rfl)) | ((with_reducible apply J23 fol cM0_ok tab_ok); (· rfl)) | with_reducible apply J24); (· exact Vm.b23); (try kernel_rfl); (try exact Vm.b22)) | fail)
      apply At.endsRet tab_ok (fn := Tryz.f179) (rs := [.tmp 4]) Anc.refl hro (Nat.le_of_ble_eq_true rfl) rfl
      · exact Vm.b18
      · exact Vm.b7
      · exact Vm.b8
      · rfl
      · exact Vm.b19
      · exact Vm.b10
      · exact fun β => rfl
      · exact Vm.b19
  · cases hF
end Go.Proofs.YtjliakjbdcplcaaGreat.Vm
end
