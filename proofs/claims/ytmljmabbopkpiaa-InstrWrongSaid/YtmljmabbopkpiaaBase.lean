/- Words for memory and for data: nothing here speaks of the program. -/
import Derived.WalkKit
import Derived.WalkSpells
import Derived.WalkLawsBesides
import Derived.Lib.Hide
import Derived.Deep.QuietTactic
import Derived.BigQuiet
import Derived.Deep.Draws
import Derived.Deep.AppendLies
import Derived.Maps.AppendAt
namespace Go.Proofs.Ytmljmabbopkpiaa
set_option linter.unusedVariables false
set_option linter.unusedSimpArgs false
open Go.RowKit

/-! ### instructions -/
structure Ins where
  op : Int
  a : Int
  b : Int
  c : Int
  n : Int
deriving DecidableEq

def Ins.cells (i : Ins) : List Value := [.int .u8 i.op, .int .u8 i.a, .int .u8 i.b, .int .u8 i.c, .int .i64 i.n]
def Ins.v (i : Ins) : Value := .agg #[.int .u8 i.op, .int .u8 i.a, .int .u8 i.b, .int .u8 i.c, .int .i64 i.n]
structure Ins.ok (i : Ins) : Prop where
  op0 : 0 ≤ i.op
  op1 : i.op ≤ 255
  a0 : 0 ≤ i.a
  a1 : i.a ≤ 255
  b0 : 0 ≤ i.b
  b1 : i.b ≤ 255
  c0 : 0 ≤ i.c
  c1 : i.c ≤ 255
  n0 : -9223372036854775808 ≤ i.n
  n1 : i.n ≤ 9223372036854775807

/-- the class of an Op: its form -/
def formC (op : Int) : Nat :=
  if 32 < op ∧ op ≤ 49 then 1
  else if op = 1 ∨ op = 2 then 2
  else if op = 3 then 3
  else if 4 ≤ op ∧ op ≤ 7 then 4
  else if op = 8 then 5
  else if op = 9 then 6
  else if op = 10 ∨ op = 11 then 7
  else 0
def formS : Nat → ByteArray
  | 1 => ⟨#[114, 114, 114]⟩
  | 3 => ⟨#[114, 110]⟩
  | 4 => ⟨#[114, 114]⟩
  | 5 => ⟨#[114, 114, 112]⟩
  | 6 => ⟨#[116]⟩
  | 7 => ⟨#[114, 116]⟩
  | _ => ⟨#[]⟩
/-- what is right of an instruction's operands, by its class -/
def fitsC (k : Nat) (a b c n : Int) : Prop :=
  match k with
  | 1 => a < 8 ∧ b < 8 ∧ c < 8 ∧ n = 0
  | 2 => a = 0 ∧ b = 0 ∧ c = 0 ∧ n = 0
  | 3 => a < 8 ∧ b = 0 ∧ c = 0
  | 4 => a < 8 ∧ b < 8 ∧ c = 0 ∧ n = 0
  | 5 => a < 8 ∧ b < 8 ∧ c = 0 ∧ 0 ≤ n ∧ n < 16
  | 6 => a = 0 ∧ b = 0 ∧ c = 0 ∧ 0 ≤ n ∧ n < 256
  | 7 => a < 8 ∧ b = 0 ∧ c = 0 ∧ 0 ≤ n ∧ n < 256
  | _ => False
instance (k : Nat) (a b c n : Int) : Decidable (fitsC k a b c n) := by
  unfold fitsC; split <;> infer_instance
def oneK (k : Nat) (a b c n : Int) : Int := if fitsC k a b c n then 0 else 141
theorem oneK_pos {k : Nat} {a b c n : Int} (h : fitsC k a b c n) : oneK k a b c n = 0 := if_pos h
theorem oneK_neg {k : Nat} {a b c n : Int} (h : ¬ fitsC k a b c n) : oneK k a b c n = 141 := if_neg h
theorem ret_i64 {a b : Int} (h : a = b) : Ending.returned (.int .i64 a) = .returned (.int .i64 b) := by rw [h]
def oneE (i : Ins) : Int := if formC i.op = 0 then 140 else oneK (formC i.op) i.a i.b i.c i.n


/-! ### what a drawn region keeps: below w1's size all is as w1 had it -/
section
variable {w1 W W' : World}
theorem preD : Below w1.heap.size w1 w1.drew ∧ ∀ b o, b < w1.heap.size → w1.drew.cell? ⟨b, o, none⟩ = w1.cell? ⟨b, o, none⟩ := ⟨(Below.refl _ _).drew, fun _ _ _ => rfl⟩
theorem preR : Below w1.heap.size w1 w1 ∧ ∀ b o, b < w1.heap.size → w1.cell? ⟨b, o, none⟩ = w1.cell? ⟨b, o, none⟩ := ⟨Below.refl _ _, fun _ _ _ => rfl⟩
theorem preE (h : Below w1.heap.size w1 W ∧ ∀ b o, b < w1.heap.size → W.cell? ⟨b, o, none⟩ = w1.cell? ⟨b, o, none⟩) : Below w1.heap.size w1 W.drew ∧ ∀ b o, b < w1.heap.size → W.drew.cell? ⟨b, o, none⟩ = w1.cell? ⟨b, o, none⟩ := ⟨h.1.drew, h.2⟩
theorem preOf (h : Below w1.heap.size w1 W) : Below w1.heap.size w1 W ∧ ∀ b o, b < w1.heap.size → W.cell? ⟨b, o, none⟩ = w1.cell? ⟨b, o, none⟩ := ⟨h, fun b o hb => h.cell (p := ⟨b, o, none⟩) hb⟩
theorem preA (h : Below w1.heap.size w1 W ∧ ∀ b o, b < w1.heap.size → W.cell? ⟨b, o, none⟩ = w1.cell? ⟨b, o, none⟩) (x : Obj) : Below w1.heap.size w1 (W.alloc x) ∧ ∀ b o, b < w1.heap.size → (W.alloc x).cell? ⟨b, o, none⟩ = w1.cell? ⟨b, o, none⟩ := preOf (h.1.alloc h.1.size x)
theorem preA2 {x : Obj} (h : Below w1.heap.size w1 (W.alloc x) ∧ ∀ b o, b < w1.heap.size → (W.alloc x).cell? ⟨b, o, none⟩ = w1.cell? ⟨b, o, none⟩) (hs : w1.heap.size ≤ W.heap.size) (y : Obj) : Below w1.heap.size w1 (W.alloc y) ∧ ∀ b o, b < w1.heap.size → (W.alloc y).cell? ⟨b, o, none⟩ = w1.cell? ⟨b, o, none⟩ := by
  refine preOf ⟨h.1.os, h.1.tape, h.1.output, by simp; omega, fun k hk => ?_⟩
  rw [Below.heap_alloc W y k (by omega), ← Below.heap_alloc W x k (by omega)]
  exact h.1.block k hk
theorem preS (h : Below w1.heap.size w1 W ∧ ∀ b o, b < w1.heap.size → W.cell? ⟨b, o, none⟩ = w1.cell? ⟨b, o, none⟩) {q : Addr} (hq : w1.heap.size ≤ q.block) (v : Value) : Below w1.heap.size w1 (W.setCell q v) ∧ ∀ b o, b < w1.heap.size → (W.setCell q v).cell? ⟨b, o, none⟩ = w1.cell? ⟨b, o, none⟩ := preOf (h.1.setCell hq v)
theorem preB (h : Below w1.heap.size w1 W ∧ ∀ b o, b < w1.heap.size → W.cell? ⟨b, o, none⟩ = w1.cell? ⟨b, o, none⟩) (hb : Below W.heap.size W W') : Below w1.heap.size w1 W' ∧ ∀ b o, b < w1.heap.size → W'.cell? ⟨b, o, none⟩ = w1.cell? ⟨b, o, none⟩ := preOf (h.1.trans (hb.mono h.1.size))
end
/-- all old cells and all old marks read as before -/
theorem bcell {W w1 : World} (hb : Below W.heap.size W w1) : (∀ b o, b < W.heap.size → w1.cell? ⟨b, o, none⟩ = W.cell? ⟨b, o, none⟩) ∧ (∀ b o, b < W.heap.size → w1.frozen? ⟨b, o, none⟩ = W.frozen? ⟨b, o, none⟩) :=
  ⟨fun b o h => hb.cell (p := ⟨b, o, none⟩) h, fun b o h => hb.frozen (p := ⟨b, o, none⟩) h⟩

/-! ### a range over a string whose bytes are known, beside stores into a block that lay ahead of it -/
section
variable {P : Program}
theorem iter_setCell (W : World) (s : ByteArray) (p g i : Nat) (v : Value) (h : g < W.heap.size) : (W.iter s p).setCell ⟨g, i, none⟩ v = (W.setCell ⟨g, i, none⟩ v).iter s p := World.setCell_alloc_past _ _ _ _ h
theorem iter_cell (W : World) (s : ByteArray) (p g i : Nat) (h : g < W.heap.size) : (W.iter s p).cell? ⟨g, i, none⟩ = W.cell? ⟨g, i, none⟩ := World.cell?_alloc_past _ _ _ h
theorem iter_frozen (W : World) (s : ByteArray) (p g i : Nat) (h : g < W.heap.size) : (W.iter s p).frozen? ⟨g, i, none⟩ = W.frozen? ⟨g, i, none⟩ := World.frozen?_alloc_past _ _ _ h
theorem next_at (W : World) (s : ByteArray) (p q n : Nat) (z : Int) (ty : TypeId) (hn : n = W.heap.size) (h : p < s.size) (ha : (s[p]'h).toNat < 128) (hz : ((s[p]'h).toNat : Int) = z) (hq : q = p + 1) :
    (Instr.next (.pointer (some ⟨n, 0, none⟩)) true ty).run P (W.iter s p) = .ok (.tuple #[.bool true, .int .i64 p, .int .i32 z]) (W.iter s q) := by
  subst hn; subst hz; subst hq; exact run_next_ascii W s p ty h ha
theorem next_end (W : World) (s : ByteArray) (p n : Nat) (ty : TypeId) (hn : n = W.heap.size) (h : ¬ p < s.size) :
    (Instr.next (.pointer (some ⟨n, 0, none⟩)) true ty).run P (W.iter s p) = .ok (.tuple #[.bool false]) (W.iter s p) := by
  subst hn; exact run_next_end W s p ty h
end

theorem ite_okB (x a : Int) (r : Bool) (w : World) : (if x = a then Result.ok r w else Result.ok false w) = Result.ok (x == a && r) w := by
  by_cases h : x = a <;> simp [h]

theorem below_setRow {B : Nat} {a w : World} (h : Below B a w) {g : Nat} (hg : B ≤ g) (cs : Array Value) : Below B a (w.setRow g cs) :=
  h.trans ⟨rfl, rfl, rfl, by simp, fun k hk => by
    simp only [World.setRow, Array.getElem?_modify]
    rw [if_neg (by omega)]⟩

end Go.Proofs.Ytmljmabbopkpiaa
