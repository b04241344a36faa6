/- Words for slices of numbers, of instructions, of what is sent. -/
import Derived.Test.YtmljmabbopkpiaaMem
namespace Go.Proofs.Ytmljmabbopkpiaa
open Go.RowKit
set_option linter.unusedVariables false
set_option linter.unusedSimpArgs false

theorem flat_at {α : Type} (f : α → List Value) (k : Nat) (hf : ∀ x, (f x).length = k) : ∀ (l : List α) (i j : Nat) (x : α), l[i]? = some x → j < k → (l.flatMap f)[i * k + j]? = (f x)[j]? := by
  intro l
  induction l with
  | nil => intro i j x h; simp at h
  | cons y l ih =>
    intro i j x h hj
    rw [List.flatMap_cons]
    cases i with
    | zero =>
      simp at h; subst h
      rw [List.getElem?_append_left (by rw [hf]; omega)]
      simp
    | succ i =>
      rw [List.getElem?_append_right (by rw [hf, Nat.succ_mul]; omega), hf, show (i + 1) * k + j - k = i * k + j by rw [Nat.succ_mul]; omega]
      exact ih i j x (by simpa using h) hj
theorem flat_len {α : Type} (f : α → List Value) (k : Nat) (hf : ∀ x, (f x).length = k) (l : List α) : (l.flatMap f).length = l.length * k := by
  induction l with
  | nil => simp
  | cons y l ih => rw [List.flatMap_cons, List.length_append, hf, ih, List.length_cons, Nat.succ_mul]; omega
theorem Reads.form {w : World} {B k n : Nat} {A : Option Addr} {xs : List Value} (h : Reads w B k A n xs) (hn : 0 < n) (hk : 0 < k) : ∃ b off, A = some ⟨b, off, none⟩ ∧ b < B ∧ ∀ j u, xs[j]? = some u → w.cell? ⟨b, off + j, none⟩ = some u := by
  obtain ⟨ad, rfl, hb, hc⟩ := h.2 hn
  have hl : 0 < xs.length := by rw [h.1]; exact Nat.mul_pos hn hk
  have h0 := hc 0 _ (List.getElem?_eq_getElem hl)
  obtain ⟨b, off, sp⟩ := ad
  have hs : sp = none := by
    cases sp with
    | none => rfl
    | some q => simp [Addr.add, World.cell?] at h0; split at h0 <;> simp at h0
  subst hs
  refine ⟨b, off, rfl, hb, fun j u hu => ?_⟩
  rw [← hc j u hu, Addr.add_lit]

def int64s (xs : List Int) : List Value := xs.map (Value.int .i64)
theorem Reads.i64_at {w : World} {B n : Nat} {A : Option Addr} {xs : List Int} {k : Nat} (h : Reads w B 1 A n (int64s xs)) (hk : k < n) : ∃ ad x, A = some ad ∧ ad.block < B ∧ xs[k]? = some x ∧ w.cell? (ad.add k) = some (.int .i64 x) := by
  obtain ⟨ad, u, e, hb, hx, hc⟩ := h.at_ hk
  have hl : k < xs.length := by have := h.1; simp [int64s] at this; omega
  refine ⟨ad, xs[k], e, hb, List.getElem?_eq_getElem hl, ?_⟩
  rw [hc, ← hx]
  simp [int64s, hl]
theorem Reads.i64_len {w : World} {B n : Nat} {A : Option Addr} {xs : List Int} (h : Reads w B 1 A n (int64s xs)) : xs.length = n := by have := h.1; simpa [int64s] using this
theorem take_succ_eq {α : Type} {xs ys : List α} {j : Nat} {x : α} (h : xs.take j = ys.take j) (hx : xs[j]? = some x) (hy : ys[j]? = some x) : xs.take (j + 1) = ys.take (j + 1) := by
  rw [List.take_add_one, List.take_add_one, h, hx, hy]
theorem take_all_eq {α : Type} {xs ys : List α} {j : Nat} (h : xs.take j = ys.take j) (hx : xs.length ≤ j) (hy : ys.length ≤ j) : xs = ys := by
  rwa [List.take_of_length_le hx, List.take_of_length_le hy] at h
theorem ne_of_at {α : Type} {xs ys : List α} {j : Nat} {x y : α} (hx : xs[j]? = some x) (hy : ys[j]? = some y) (h : x ≠ y) : xs ≠ ys := by
  rintro rfl; rw [hx] at hy; exact h (by cases hy; rfl)


structure Snd where
  port : Int
  delay : Int
  value : Int
deriving DecidableEq
def Snd.cells (s : Snd) : List Value := [.int .i64 s.port, .int .i64 s.delay, .int .i64 s.value]
def Snd.v (s : Snd) : Value := .agg #[.int .i64 s.port, .int .i64 s.delay, .int .i64 s.value]
def sndsV (l : List Snd) : List Value := l.flatMap Snd.cells
def insV (l : List Ins) : List Value := l.flatMap Ins.cells
theorem sndsV_len (l : List Snd) : (sndsV l).length = l.length * 3 := flat_len Snd.cells 3 (fun _ => rfl) l
theorem insV_len (l : List Ins) : (insV l).length = l.length * 5 := flat_len Ins.cells 5 (fun _ => rfl) l
theorem Reads.snds_len {w : World} {B n : Nat} {A : Option Addr} {l : List Snd} (h : Reads w B 3 A n (sndsV l)) : l.length = n := by have := h.1; rw [sndsV_len] at this; omega
theorem Reads.ins_len {w : World} {B n : Nat} {A : Option Addr} {l : List Ins} (h : Reads w B 5 A n (insV l)) : l.length = n := by have := h.1; rw [insV_len] at this; omega
theorem Reads.snds_at {w : World} {B n : Nat} {A : Option Addr} {l : List Snd} {k : Nat} (h : Reads w B 3 A n (sndsV l)) (hk : k < n) : ∃ b off s, A = some ⟨b, off, none⟩ ∧ b < B ∧ l[k]? = some s ∧
    w.cell? ⟨b, off + k * 3, none⟩ = some (.int .i64 s.port) ∧ w.cell? ⟨b, off + k * 3 + 1, none⟩ = some (.int .i64 s.delay) ∧ w.cell? ⟨b, off + k * 3 + 2, none⟩ = some (.int .i64 s.value) := by
  obtain ⟨b, off, rfl, hb, hc⟩ := h.form (by omega) (by omega)
  have hl : k < l.length := by rw [h.snds_len]; exact hk
  have hx := List.getElem?_eq_getElem hl
  exact ⟨b, off, l[k], rfl, hb, hx, hc (k * 3 + 0) _ (flat_at Snd.cells 3 (fun _ => rfl) l k 0 _ hx (by omega)),
    hc (k * 3 + 1) _ (flat_at Snd.cells 3 (fun _ => rfl) l k 1 _ hx (by omega)), hc (k * 3 + 2) _ (flat_at Snd.cells 3 (fun _ => rfl) l k 2 _ hx (by omega))⟩
theorem Reads.ins_at {w : World} {B n : Nat} {A : Option Addr} {l : List Ins} {k : Nat} (h : Reads w B 5 A n (insV l)) (hk : k < n) : ∃ b off s, A = some ⟨b, off, none⟩ ∧ b < B ∧ l[k]? = some s ∧
    w.cell? ⟨b, off + k * 5, none⟩ = some (.int .u8 s.op) ∧ w.cell? ⟨b, off + k * 5 + 1, none⟩ = some (.int .u8 s.a) ∧ w.cell? ⟨b, off + k * 5 + 2, none⟩ = some (.int .u8 s.b) ∧ w.cell? ⟨b, off + k * 5 + 3, none⟩ = some (.int .u8 s.c) ∧ w.cell? ⟨b, off + k * 5 + 4, none⟩ = some (.int .i64 s.n) := by
  obtain ⟨b, off, rfl, hb, hc⟩ := h.form (by omega) (by omega)
  have hl : k < l.length := by rw [h.ins_len]; exact hk
  have hx := List.getElem?_eq_getElem hl
  exact ⟨b, off, l[k], rfl, hb, hx, hc (k * 5 + 0) _ (flat_at Ins.cells 5 (fun _ => rfl) l k 0 _ hx (by omega)),
    hc (k * 5 + 1) _ (flat_at Ins.cells 5 (fun _ => rfl) l k 1 _ hx (by omega)), hc (k * 5 + 2) _ (flat_at Ins.cells 5 (fun _ => rfl) l k 2 _ hx (by omega)),
    hc (k * 5 + 3) _ (flat_at Ins.cells 5 (fun _ => rfl) l k 3 _ hx (by omega)), hc (k * 5 + 4) _ (flat_at Ins.cells 5 (fun _ => rfl) l k 4 _ hx (by omega))⟩
theorem ones_i64 (l : List Int) : ∀ u ∈ int64s l, u.oneCell' = true := by
  intro u hu; simp [int64s] at hu; obtain ⟨x, _, rfl⟩ := hu; rfl
theorem ones_snds (l : List Snd) : ∀ u ∈ sndsV l, u.oneCell' = true := by
  intro u hu; simp [sndsV, Snd.cells] at hu; obtain ⟨x, _, h⟩ := hu; rcases h with rfl | rfl | rfl <;> rfl
theorem ones_ins (l : List Ins) : ∀ u ∈ insV l, u.oneCell' = true := by
  intro u hu; simp [insV, Ins.cells] at hu; obtain ⟨x, _, h⟩ := hu; rcases h with rfl | rfl | rfl | rfl | rfl <;> rfl

end Go.Proofs.Ytmljmabbopkpiaa
