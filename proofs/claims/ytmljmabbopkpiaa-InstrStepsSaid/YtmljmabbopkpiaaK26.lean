import Derived.Test.YtmljmabbopkpiaaK1
import Derived.Test.YtmljmabbopkpiaaK8
import Derived.Test.YtmljmabbopkpiaaK25
import Derived.Test.YtmljmabbopkpiaaChecked
import Derived.ProofKit
import Derived.Deep.Slices
set_option linter.unusedSimpArgs false
set_option linter.unusedVariables false
section
namespace Go.Proofs.Ytmljmabbopkpiaa
open Go.ChangeShapes Go.WideShapes Go.ChangeAt Go.RowKit Go.Deep
theorem cell_lt17 {w : World} {p : Addr} {v : Value} (h : w.cell? p = some v) : p.block < w.heap.size := by
 rcases Nat.lt_or_ge p.block w.heap.size with hl | hg
 ·exact hl
 ·unfold World.cell? at h
  rw [Array.getElem?_eq_none hg] at h
  cases h
theorem zt_ {H : Type} {enc : TypeId × Value → H} {w : World} {base : Nat} {spare : Nat → Bool} {held : Bool} {n : Nat} {v : Value} {x : DataW H × List MemPlace} {t : TypeId} {k : IntKind} (ht : Try.prog.underlying t = some (.int k)) (h : DataW.trod enc Try.prog w base spare held n t [v] = some x) : ∃ a, v = .int k a ∧ (Lit.int k a).wf = true := by
 obtain ⟨a, e0, _, b⟩ := DataW.trod_int ht h
 exact ⟨a, (List.cons.inj e0).1, b⟩
set_option maxRecDepth 100000 in
theorem open_prog18 {H : Type} {enc : TypeId × Value → H} {w : World} {n : Nat} {v : Value} {x : DataW H × List MemPlace} (h : DataW.trod enc Try.prog w 0 (fun _ => true) true n 25 [v] = some x) :
  ∃ A l c xs, v = .slice A l c ∧ l ≤ c ∧ c ≤ 9223372036854775807 ∧ (∀ i ∈ xs, Ins.ok i) ∧ yn_ w w.heap.size 5 A l (insV xs) := by
 have h5 : Try.prog.cellsOf 28 = 5 := by kernel_rfl
 have hc1 : Try.prog.cellsOf 5 = 1 := by kernel_rfl
 have hc2 : Try.prog.cellsOf 2 = 1 := by kernel_rfl
 rcases open_slice Try.underlying25 h with ⟨h0, _⟩ | ⟨a, len, cap, m, k, D, Pl, h0, _, hl, hm, hmm, _, hx⟩
 ·exact ⟨none, 0, 0, [], (List.cons.inj h0).1, by omega, by omega, (fun _ h => by cases h), yn_.none_⟩
 ·have hmc : m = cap := hmm.trans (if_pos rfl)
  have each : ∀ i, i < len → ∃ y : Ins, y.ok ∧ ∀ j u, y.cells[j]? = some u → w.cell? (a.add (i * 5 + j)) = some u := by
   intro i hi
   obtain ⟨cs', h1, h2⟩ := hx i (by omega)
   rw [h5] at h1
   obtain ⟨_, hlen, hcell⟩ := World.cells?_some h1
   obtain ⟨ys, q, _, _, _, hyl, hf⟩ := DataW.trod_struct Try.underlying28 h2
   match ys, hyl, cs', hlen with
   | [y0, y1, y2, y3, y4], _, [c0, c1, c2, c3, c4], _ =>
    have g0 : DataW.trod enc Try.prog w 0 (fun _ => true) true q 5 [c0] = some y0 := by simpa [hc1, hc2] using hf 0 _ rfl
    have g1 : DataW.trod enc Try.prog w 0 (fun _ => true) true q 5 [c1] = some y1 := by simpa [hc1, hc2] using hf 1 _ rfl
    have g2 : DataW.trod enc Try.prog w 0 (fun _ => true) true q 5 [c2] = some y2 := by simpa [hc1, hc2] using hf 2 _ rfl
    have g3 : DataW.trod enc Try.prog w 0 (fun _ => true) true q 5 [c3] = some y3 := by simpa [hc1, hc2] using hf 3 _ rfl
    have g4 : DataW.trod enc Try.prog w 0 (fun _ => true) true q 2 [c4] = some y4 := by simpa [hc1, hc2] using hf 4 _ rfl
    obtain ⟨a0, rfl, b0⟩ := zt_ Try.underlying5 g0
    obtain ⟨a1, rfl, b1⟩ := zt_ Try.underlying5 g1
    obtain ⟨a2, rfl, b2⟩ := zt_ Try.underlying5 g2
    obtain ⟨a3, rfl, b3⟩ := zt_ Try.underlying5 g3
    obtain ⟨a4, rfl, b4⟩ := zt_ Try.underlying2 g4
    simp [Lit.wf, IntKind.min, IntKind.max, IntKind.signed, IntKind.bits] at b0 b1 b2 b3 b4
    refine ⟨⟨a0, a1, a2, a3, a4⟩, ⟨b0.1, b0.2, b1.1, b1.2, b2.1, b2.2, b3.1, b3.2, b4.1, b4.2⟩, fun j u hj => ?_⟩
    have hj5 : j < 5 := (List.getElem?_eq_some_iff.1 hj).1
    have := hcell j hj5
    rw [Vm.add_add] at this
    rw [this]
    exact hj
  have : Inhabited Ins := ⟨⟨0, 0, 0, 0, 0⟩⟩
  obtain ⟨f, hf⟩ := choose_lt (n := len) (p := fun i (y : Ins) => y.ok ∧ ∀ j u, y.cells[j]? = some u → w.cell? (a.add (i * 5 + j)) = some u) each
  refine ⟨some a, len, cap, (List.range len).map f, (List.cons.inj h0).1, hl, by unfold maxLen at hm; omega, fun i hi => ?_, by rw [insV_len]; simp, fun hn => ⟨a, rfl, ?_, fun j u hu => ?_⟩⟩
  ·obtain ⟨q, hq, rfl⟩ := List.mem_map.1 hi
   exact (hf q (List.mem_range.1 hq)).1
  ·have := cell_lt17 ((hf 0 hn).2 0 _ rfl)
   rwa [block_of_add] at this
  ·have hj := (List.getElem?_eq_some_iff.1 hu).1
   rw [insV_len] at hj
   simp at hj
   obtain ⟨q, r, hr5, rfl⟩ : ∃ q r, r < 5 ∧ j = q * 5 + r := ⟨j / 5, j % 5, by omega, by omega⟩
   have hq : q < len := by omega
   refine (hf q hq).2 r u ?_
   have hfl := flat_at Ins.cells 5 (fun _ => rfl) ((List.range len).map f) q r (f q) (by simp [hq]) hr5
   rw [← hfl]
   exact hu
theorem r64_of {a : Int} (h : (Lit.int .i64 a).wf = true) : Vm.R64 a := by
 simp [Lit.wf, IntKind.min, IntKind.max, IntKind.signed, IntKind.bits] at h
 exact ⟨by omega, by omega⟩
theorem open_wordsR {H : Type} {enc : TypeId × Value → H} {w : World} {base : Nat} {n : Nat} {v : Value} {x : DataW H × List MemPlace} (h : DataW.trod enc Try.prog w base (fun _ => true) true n 47 [v] = some x) :
  ∃ A l c xs, v = .slice A l c ∧ l ≤ c ∧ c ≤ 9223372036854775807 ∧ (∀ k, Vm.R64 (List.getD xs k 0)) ∧ yn_ w w.heap.size 1 A l (int64s xs) := by
 rcases open_slice1 Try.underlying47 (by kernel_rfl) h with ⟨h0, _⟩ | ⟨a, len, cap, m, k, V, D, Pl, h0, _, hl, hm, hmm, _, hx⟩
 ·exact ⟨none, 0, 0, [], (List.cons.inj h0).1, by omega, by omega, fun k => Vm.zero_R, yn_.none_⟩
 ·have hmc : m = cap := hmm.trans (if_pos rfl)
  obtain ⟨f, hf⟩ := choose_lt (n := len) (p := fun i (z : Int) => V i = .int .i64 z ∧ Vm.R64 z) (fun i hi => by
   obtain ⟨z, hz, hb⟩ := zt_ Try.underlying2 (hx i (by omega)).2
   exact ⟨z, hz, r64_of hb⟩)
  refine ⟨some a, len, cap, (List.range len).map f, (List.cons.inj h0).1, hl, by unfold maxLen at hm; omega, fun q => ?_, by simp [int64s], fun hn => ⟨a, rfl, ?_, fun j u hu => ?_⟩⟩
  ·by_cases hq : q < len
   ·rw [show List.getD ((List.range len).map f) q 0 = f q by simp [List.getD_eq_getElem?_getD, hq]]
    exact (hf q hq).2
   ·rw [show List.getD ((List.range len).map f) q 0 = 0 by simp [List.getD_eq_getElem?_getD, hq]]
    exact Vm.zero_R
  ·have := cell_lt17 (hx 0 (by omega)).1
   rwa [block_of_add] at this
  ·have hj : j < len := by
    have := (List.getElem?_eq_some_iff.1 hu).1
    simpa [int64s] using this
   rw [(hx j (by omega)).1, ← hu, (hf j hj).1]
   simp [int64s, hj]
set_option maxRecDepth 100000 in
theorem open_sends18 {H : Type} {enc : TypeId × Value → H} {w : World} {n : Nat} {v : Value} {x : DataW H × List MemPlace} (h : DataW.trod enc Try.prog w 0 (fun _ => true) true n 51 [v] = some x) :
  ∃ A l c xs, v = .slice A l c ∧ l ≤ c ∧ c ≤ 9223372036854775807 ∧ yn_ w w.heap.size 3 A l (sndsV xs) := by
 have h5 : Try.prog.cellsOf 64 = 3 := by kernel_rfl
 have hc1 : Try.prog.cellsOf 3 = 1 := by kernel_rfl
 have hc2 : Try.prog.cellsOf 2 = 1 := by kernel_rfl
 rcases open_slice Try.underlying51 h with ⟨h0, _⟩ | ⟨a, len, cap, m, k, D, Pl, h0, _, hl, hm, hmm, _, hx⟩
 ·exact ⟨none, 0, 0, [], (List.cons.inj h0).1, by omega, by omega, yn_.none_⟩
 ·have hmc : m = cap := hmm.trans (if_pos rfl)
  have each : ∀ i, i < len → ∃ y : Snd, ∀ j u, y.cells[j]? = some u → w.cell? (a.add (i * 3 + j)) = some u := by
   intro i hi
   obtain ⟨cs', h1, h2⟩ := hx i (by omega)
   rw [h5] at h1
   obtain ⟨_, hlen, hcell⟩ := World.cells?_some h1
   obtain ⟨ys, q, _, _, _, hyl, hf⟩ := DataW.trod_struct Try.underlying64 h2
   match ys, hyl, cs', hlen with
   | [y0, y1, y2], _, [c0, c1, c2], _ =>
    have g0 : DataW.trod enc Try.prog w 0 (fun _ => true) true q 3 [c0] = some y0 := by simpa [hc1, hc2] using hf 0 _ rfl
    have g1 : DataW.trod enc Try.prog w 0 (fun _ => true) true q 2 [c1] = some y1 := by simpa [hc1, hc2] using hf 1 _ rfl
    have g2 : DataW.trod enc Try.prog w 0 (fun _ => true) true q 2 [c2] = some y2 := by simpa [hc1, hc2] using hf 2 _ rfl
    obtain ⟨a0, rfl, b0⟩ := zt_ Try.underlying3 g0
    obtain ⟨a1, rfl, b1⟩ := zt_ Try.underlying2 g1
    obtain ⟨a2, rfl, b2⟩ := zt_ Try.underlying2 g2
    refine ⟨⟨a0, a1, a2⟩, fun j u hj => ?_⟩
    have hj5 : j < 3 := (List.getElem?_eq_some_iff.1 hj).1
    have := hcell j hj5
    rw [Vm.add_add] at this
    rw [this]
    exact hj
  have : Inhabited Snd := ⟨⟨0, 0, 0⟩⟩
  obtain ⟨f, hf⟩ := choose_lt (n := len) (p := fun i (y : Snd) => ∀ j u, y.cells[j]? = some u → w.cell? (a.add (i * 3 + j)) = some u) each
  refine ⟨some a, len, cap, (List.range len).map f, (List.cons.inj h0).1, hl, by unfold maxLen at hm; omega, by rw [sndsV_len]; simp, fun hn => ⟨a, rfl, ?_, fun j u hu => ?_⟩⟩
  ·have := cell_lt17 (hf 0 hn 0 _ rfl)
   rwa [block_of_add] at this
  ·have hj := (List.getElem?_eq_some_iff.1 hu).1
   rw [sndsV_len] at hj
   simp at hj
   obtain ⟨q, r, hr5, rfl⟩ : ∃ q r, r < 3 ∧ j = q * 3 + r := ⟨j / 3, j % 3, by omega, by omega⟩
   have hq : q < len := by omega
   refine hf q hq r u ?_
   have hfl := flat_at Snd.cells 3 (fun _ => rfl) ((List.range len).map f) q r (f q) (by simp [hq]) hr5
   rw [← hfl]
   exact hu
def staV (s : Vm.Sta) (A B : Value) : Array Value := #[.int .i64 s.at_, .bool s.ended, .int .i64 (s.regs 0), .int .i64 (s.regs 1), .int .i64 (s.regs 2), .int .i64 (s.regs 3), .int .i64 (s.regs 4), .int .i64 (s.regs 5), .int .i64 (s.regs 6), .int .i64 (s.regs 7), A, .int .i64 s.draws, B]
structure St18 (w : World) (s : Vm.Sta) (A : Option Addr) (l c : Nat) (B : Option Addr) (l2 c2 : Nat) : Prop where
 g : ∀ q, Vm.R64 (s.regs q)
 cw : Vm.CR s
 lc : l ≤ c
 cm : c ≤ 9223372036854775807
 lc2 : l2 ≤ c2
 cm2 : c2 ≤ 9223372036854775807
 rA : yn_ w w.heap.size 1 A l (int64s s.cells)
 rB : yn_ w w.heap.size 3 B l2 (sndsV s.sends)
set_option maxRecDepth 100000 in
set_option maxHeartbeats 2000000 in
theorem open_state18 {H : Type} {enc : TypeId × Value → H} {w : World} {b0 : Nat} {r : Reach} {v : Value} {d : DataW H} {p : List MemPlace} (hv : Value.okWide Try.prog w r b0 53 v) (h : DataW.Trod enc Try.prog w 0 (fun _ => true) true 53 v d p) :
  ∃ (s : Vm.Sta) (A : Option Addr) (l c : Nat) (B : Option Addr) (l2 c2 : Nat), v = .agg (staV s (.slice A l c) (.slice B l2 c2)) ∧ St18 w s A l c B l2 c2 := by
 obtain ⟨cs, rfl, hsz⟩ := okWide_struct Try.underlying53 hv
 obtain ⟨l⟩ := cs
 have k0 : Try.prog.cellsOf 53 = 13 := by kernel_rfl
 have k2 : Try.prog.cellsOf 46 = 8 := by kernel_rfl
 have k3 : Try.prog.cellsOf 47 = 1 := by kernel_rfl
 have k5 : Try.prog.cellsOf 51 = 1 := by kernel_rfl
 have k6 : Try.prog.cellsOf 4 = 1 := by kernel_rfl
 have k9 : Try.prog.cellsOf 3 = 1 := by kernel_rfl
 have k10 : Try.prog.cellsOf 2 = 1 := by kernel_rfl
 match l, hsz.trans k0 with
 | [c0, c1, c2, c3, c4, c5, c6, c7, c8, c9, c10, c11, c12], _ =>
  obtain ⟨fuel, hf⟩ := h
  obtain ⟨xs, n, _, _, _, hlen, hg⟩ := DataW.trod_struct Try.underlying53 hf
  match xs, hlen with
  | [y0, y1, y2, y3, y4, y5], _ =>
   have g0 : DataW.trod enc Try.prog w 0 (fun _ => true) true n 3 [c0] = some y0 := by simpa [Value.cells, k2, k3, k5, k6, k9, k10] using hg 0 _ rfl
   have g1 : DataW.trod enc Try.prog w 0 (fun _ => true) true n 4 [c1] = some y1 := by simpa [Value.cells, k2, k3, k5, k6, k9, k10] using hg 1 _ rfl
   have g2 : DataW.trod enc Try.prog w 0 (fun _ => true) true n 46 [c2, c3, c4, c5, c6, c7, c8, c9] = some y2 := by simpa [Value.cells, k2, k3, k5, k6, k9, k10] using hg 2 _ rfl
   have g3 : DataW.trod enc Try.prog w 0 (fun _ => true) true n 47 [c10] = some y3 := by simpa [Value.cells, k2, k3, k5, k6, k9, k10] using hg 3 _ rfl
   have g4 : DataW.trod enc Try.prog w 0 (fun _ => true) true n 3 [c11] = some y4 := by simpa [Value.cells, k2, k3, k5, k6, k9, k10] using hg 4 _ rfl
   have g5 : DataW.trod enc Try.prog w 0 (fun _ => true) true n 51 [c12] = some y5 := by simpa [Value.cells, k2, k3, k5, k6, k9, k10] using hg 5 _ rfl
   obtain ⟨at0, rfl, _⟩ := zt_ Try.underlying3 g0
   obtain ⟨en, e1, _⟩ := DataW.trod_bool Try.underlying4 g1
   obtain rfl := (List.cons.inj e1).1
   obtain ⟨A, l1, c1', ws, rfl, f1, f2, f3, f4⟩ := open_wordsR g3
   obtain ⟨dr, rfl, _⟩ := zt_ Try.underlying3 g4
   obtain ⟨B, l2, c2', ss, rfl, h1, h2, h3⟩ := open_sends18 g5
   obtain ⟨ts, k, _, _, _, tlen, ht⟩ := DataW.trod_array Try.underlying46 g2
   match ts, tlen with
   | [t0, t1, t2, t3, t4, t5, t6, t7], _ =>
    have v0 : DataW.trod enc Try.prog w 0 (fun _ => true) true k 2 [c2] = some t0 := by simpa [k10] using ht 0 (by decide)
    obtain ⟨r0, rfl, s0⟩ := zt_ Try.underlying2 v0
    have v1 : DataW.trod enc Try.prog w 0 (fun _ => true) true k 2 [c3] = some t1 := by simpa [k10] using ht 1 (by decide)
    obtain ⟨r1, rfl, s1⟩ := zt_ Try.underlying2 v1
    have v2 : DataW.trod enc Try.prog w 0 (fun _ => true) true k 2 [c4] = some t2 := by simpa [k10] using ht 2 (by decide)
    obtain ⟨r2, rfl, s2⟩ := zt_ Try.underlying2 v2
    have v3 : DataW.trod enc Try.prog w 0 (fun _ => true) true k 2 [c5] = some t3 := by simpa [k10] using ht 3 (by decide)
    obtain ⟨r3, rfl, s3⟩ := zt_ Try.underlying2 v3
    have v4 : DataW.trod enc Try.prog w 0 (fun _ => true) true k 2 [c6] = some t4 := by simpa [k10] using ht 4 (by decide)
    obtain ⟨r4, rfl, s4⟩ := zt_ Try.underlying2 v4
    have v5 : DataW.trod enc Try.prog w 0 (fun _ => true) true k 2 [c7] = some t5 := by simpa [k10] using ht 5 (by decide)
    obtain ⟨r5, rfl, s5⟩ := zt_ Try.underlying2 v5
    have v6 : DataW.trod enc Try.prog w 0 (fun _ => true) true k 2 [c8] = some t6 := by simpa [k10] using ht 6 (by decide)
    obtain ⟨r6, rfl, s6⟩ := zt_ Try.underlying2 v6
    have v7 : DataW.trod enc Try.prog w 0 (fun _ => true) true k 2 [c9] = some t7 := by simpa [k10] using ht 7 (by decide)
    obtain ⟨r7, rfl, s7⟩ := zt_ Try.underlying2 v7
    exact ⟨⟨at0, en, fun j => match j with | 0 => r0 | 1 => r1 | 2 => r2 | 3 => r3 | 4 => r4 | 5 => r5 | 6 => r6 | _ => r7, ws, dr, ss⟩, A, l1, c1', B, l2, c2', rfl, ⟨fun q => by rcases q with _ | _ | _ | _ | _ | _ | _ | q <;> (first | exact r64_of s0 | exact r64_of s1 | exact r64_of s2 | exact r64_of s3 | exact r64_of s4 | exact r64_of s5 | exact r64_of s6 | exact r64_of s7), f3, f1, f2, h1, h2, f4, h3⟩⟩
set_option maxRecDepth 100000 in
theorem open_env18 {H : Type} {enc : TypeId × Value → H} {w : World} {b0 : Nat} {r : Reach} {v : Value} {d : DataW H} {p : List MemPlace} (hv : Value.okWide Try.prog w r b0 56 v) (h : DataW.Trod enc Try.prog w 0 (fun _ => true) true 56 v d p) :
  ∃ v' : Vm.Evi, v = .agg #[.int .u64 v'.seed, .int .i64 v'.process, .int .i64 v'.ports, .int .i64 v'.look, .int .i64 v'.now] := by
 obtain ⟨cs, rfl, hsz⟩ := okWide_struct Try.underlying56 hv
 obtain ⟨l⟩ := cs
 have k0 : Try.prog.cellsOf 56 = 5 := by kernel_rfl
 have k1 : Try.prog.cellsOf 3 = 1 := by kernel_rfl
 have k2 : Try.prog.cellsOf 29 = 1 := by kernel_rfl
 match l, hsz.trans k0 with
 | [c0, c1, c2, c3, c4], _ =>
  obtain ⟨fuel, hf⟩ := h
  obtain ⟨xs, n, _, _, _, hlen, hg⟩ := DataW.trod_struct Try.underlying56 hf
  match xs, hlen with
  | [y0, y1, y2, y3, y4], _ =>
   have g0 : DataW.trod enc Try.prog w 0 (fun _ => true) true n 29 [c0] = some y0 := by simpa [Value.cells, k1, k2] using hg 0 _ rfl
   obtain ⟨o0, rfl, _⟩ := zt_ Try.underlying29 g0
   have g1 : DataW.trod enc Try.prog w 0 (fun _ => true) true n 3 [c1] = some y1 := by simpa [Value.cells, k1, k2] using hg 1 _ rfl
   obtain ⟨o1, rfl, _⟩ := zt_ Try.underlying3 g1
   have g2 : DataW.trod enc Try.prog w 0 (fun _ => true) true n 3 [c2] = some y2 := by simpa [Value.cells, k1, k2] using hg 2 _ rfl
   obtain ⟨o2, rfl, _⟩ := zt_ Try.underlying3 g2
   have g3 : DataW.trod enc Try.prog w 0 (fun _ => true) true n 3 [c3] = some y3 := by simpa [Value.cells, k1, k2] using hg 3 _ rfl
   obtain ⟨o3, rfl, _⟩ := zt_ Try.underlying3 g3
   have g4 : DataW.trod enc Try.prog w 0 (fun _ => true) true n 3 [c4] = some y4 := by simpa [Value.cells, k1, k2] using hg 4 _ rfl
   obtain ⟨o4, rfl, _⟩ := zt_ Try.underlying3 g4
   exact ⟨⟨o0, o1, o2, o3, o4⟩, rfl⟩
namespace Vm
theorem den_sta {β : Env} (s : Sta) (a b c d p1 p2 : Nat) : (SV.agg [.int .i64 s.at_, .bool s.ended, .arr 8 1 (fun q => .int .i64 (s.regs q)), .sl a b [] 1 0 s.cells.length (some p1), .int .i64 s.draws, .sl c d [] 3 0 s.sends.length (some p2)]).den β = .agg (staV s ((SV.sl a b [] 1 0 s.cells.length (some p1)).den β) ((SV.sl c d [] 3 0 s.sends.length (some p2)).den β)) := by
 have h8 : (SV.arr 8 1 (fun q => .int .i64 (s.regs q))).cl β = int64s (ls iOf 8 (fun q => .int .i64 (s.regs q))) := by rw [cl_arr', elems_i64 (fun q _ => rfl)]
 rw [den_agg rfl, cl_agg]
 simp only [clL_cons, clL_nil, h8]
 rfl
theorem viewP {w : World} {A : Option Addr} {cap : Nat} {P : List Ins} (h : yn_ w w.heap.size 5 A P.length (insV P)) (hc : P.length ≤ cap) : (View.mk 5 P.length (prS P) A cap).Ok w := ⟨fun β => by rw [elems_prS]; exact h, hc, fun h q => prS_stable q, Nat.succ_pos _⟩
theorem viewC {w : World} {A : Option Addr} {cap : Nat} {l : List Int} (h : yn_ w w.heap.size 1 A l.length (int64s l)) (hc : l.length ≤ cap) : (View.mk 1 l.length (i64S l) A cap).Ok w := ⟨fun β => by rw [elems_i64S]; exact h, hc, fun h q => i64S_stable q, Nat.succ_pos _⟩
theorem viewS {w : World} {A : Option Addr} {cap : Nat} {l : List Snd} (h : yn_ w w.heap.size 3 A l.length (sndsV l)) (hc : l.length ≤ cap) : (View.mk 3 l.length (sndsS l) A cap).Ok w := ⟨fun β => by rw [elems_sndsS]; exact h, hc, fun h q => sndsS_stable q, Nat.succ_pos _⟩
end Vm
namespace Vm
theorem law_of_lit17 {f : FuncId} {args : List SV} {L0 L1 : List HB} {W : World} {β : Env} (H : zo_ Try.prog f args L0 (.bool true) L1) (R : Rep W (fun _ => False) β (hp L0) W) :
  Calls Try.prog f (denL β args).toArray W fun e W' => e = .returned (.bool true) ∧ Below W.heap.size W W' :=
 (H W _ β W R).mono fun e W' ⟨β', _, R', _, he⟩ => ⟨he, R'.os, R'.tape, R'.output, R'.size, fun k hk => R'.frame k hk id⟩
end Vm
end Go.Proofs.Ytmljmabbopkpiaa
end
