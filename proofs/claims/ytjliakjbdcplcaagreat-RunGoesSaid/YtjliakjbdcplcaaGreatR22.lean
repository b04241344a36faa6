import Derived.Test.YtjliakjbdcplcaaGreatR1
import Derived.Test.YtjliakjbdcplcaaGreatR9
import Derived.Test.YtjliakjbdcplcaaGreatR10
import Derived.Test.YtjliakjbdcplcaaGreatR11
import Derived.Test.YtjliakjbdcplcaaGreatR21
set_option linter.unusedSimpArgs false
set_option linter.unusedVariables false
set_option maxRecDepth 100000
set_option maxHeartbeats 4000000
section
namespace Go.Proofs.YtjliakjbdcplcaaGreat
open Go.ChangeShapes Go.WideShapes Go.ChangeAt Go.RowKit Go.Deep
set_option maxRecDepth 100000 in
theorem open_prog28 {H : Type} {enc : TypeId × Value → H} {w : World} {n : Nat} {v : Value} {x : DataW H × List MemPlace} (h : DataW.trod enc Tryz.prog w 0 (fun _ => true) true n 22 [v] = some x) :
  ∃ A l c xs, v = .slice A l c ∧ l ≤ c ∧ c ≤ 9223372036854775807 ∧ (∀ i ∈ xs, Ins.ok i) ∧ yu_ w w.heap.size 5 A l (insV xs) := by
 have h5 : Tryz.prog.cellsOf 38 = 5 := by kernel_rfl
 have hc1 : Tryz.prog.cellsOf 5 = 1 := by kernel_rfl
 have hc2 : Tryz.prog.cellsOf 2 = 1 := by kernel_rfl
 rcases open_slice Tryz.underlying22 h with ⟨h0, _⟩ | ⟨a, len, cap, m, k, D, Pl, h0, _, hl, hm, hmm, _, hx⟩
 ·exact ⟨none, 0, 0, [], (List.cons.inj h0).1, by omega, by omega, (fun _ h => by cases h), yu_.none_⟩
 ·have hmc : m = cap := hmm.trans (if_pos rfl)
  have each : ∀ i, i < len → ∃ y : Ins, y.ok ∧ ∀ j u, y.cells[j]? = some u → w.cell? (a.add (i * 5 + j)) = some u := by
   intro i hi
   obtain ⟨cs', h1, h2⟩ := hx i (by omega)
   rw [h5] at h1
   obtain ⟨_, hlen, hcell⟩ := World.cells?_some h1
   obtain ⟨ys, q, _, _, _, hyl, hf⟩ := DataW.trod_struct Tryz.underlying38 h2
   match ys, hyl, cs', hlen with
   | [y0, y1, y2, y3, y4], _, [c0, c1, c2, c3, c4], _ =>
    have g0 : DataW.trod enc Tryz.prog w 0 (fun _ => true) true q 5 [c0] = some y0 := by simpa [hc1, hc2] using hf 0 _ rfl
    have g1 : DataW.trod enc Tryz.prog w 0 (fun _ => true) true q 5 [c1] = some y1 := by simpa [hc1, hc2] using hf 1 _ rfl
    have g2 : DataW.trod enc Tryz.prog w 0 (fun _ => true) true q 5 [c2] = some y2 := by simpa [hc1, hc2] using hf 2 _ rfl
    have g3 : DataW.trod enc Tryz.prog w 0 (fun _ => true) true q 5 [c3] = some y3 := by simpa [hc1, hc2] using hf 3 _ rfl
    have g4 : DataW.trod enc Tryz.prog w 0 (fun _ => true) true q 2 [c4] = some y4 := by simpa [hc1, hc2] using hf 4 _ rfl
    obtain ⟨a0, rfl, b0⟩ := z6_ Tryz.underlying5 g0
    obtain ⟨a1, rfl, b1⟩ := z6_ Tryz.underlying5 g1
    obtain ⟨a2, rfl, b2⟩ := z6_ Tryz.underlying5 g2
    obtain ⟨a3, rfl, b3⟩ := z6_ Tryz.underlying5 g3
    obtain ⟨a4, rfl, b4⟩ := z6_ Tryz.underlying2 g4
    simp [Lit.wf, IntKind.min, IntKind.max, IntKind.signed, IntKind.bits] at b0 b1 b2 b3 b4
    refine ⟨⟨a0, a1, a2, a3, a4⟩, ⟨b0.1, b0.2, b1.1, b1.2, b2.1, b2.2, b3.1, b3.2, b4.1, b4.2⟩, fun j u hj => ?_⟩
    have hj5 : j < 5 := (List.getElem?_eq_some_iff.1 hj).1
    have := hcell j hj5
    rw [Vm.add_add] at this
    rw [this]
    exact hj
  have : Inhabited Ins := ⟨⟨0, 0, 0, 0, 0⟩⟩
  obtain ⟨f, hf⟩ := choose_lt (n := len) (p := fun i (y : Ins) => y.ok ∧ ∀ j u, y.cells[j]? = some u → w.cell? (a.add (i * 5 + j)) = some u) each
  refine ⟨some a, len, cap, (List.range len).map f, (List.cons.inj h0).1, hl, by unfold maxLen at hm; omega, fun i hi => ?_, by rw [insV_len]; simp, fun hn => ⟨a, rfl, ?_, fun j u hu => ?_⟩⟩
  ·obtain ⟨q, hq, rfl⟩ := List.mem_map.1 hi
   exact (hf q (List.mem_range.1 hq)).1
  ·have := cell_lt17 ((hf 0 hn).2 0 _ rfl)
   rwa [block_of_add] at this
  ·have hj := (List.getElem?_eq_some_iff.1 hu).1
   rw [insV_len] at hj
   simp at hj
   obtain ⟨q, r, hr5, rfl⟩ : ∃ q r, r < 5 ∧ j = q * 5 + r := ⟨j / 5, j % 5, by omega, by omega⟩
   have hq : q < len := by omega
   refine (hf q hq).2 r u ?_
   have hfl := flat_at Ins.cells 5 (fun _ => rfl) ((List.range len).map f) q r (f q) (by simp [hq]) hr5
   rw [← hfl]
   exact hu
theorem r64_of {a : Int} (h : (Lit.int .i64 a).wf = true) : Vm.R64 a := by
 simp [Lit.wf, IntKind.min, IntKind.max, IntKind.signed, IntKind.bits] at h
 exact ⟨by omega, by omega⟩
theorem open_wordsR {H : Type} {enc : TypeId × Value → H} {w : World} {base : Nat} {n : Nat} {v : Value} {x : DataW H × List MemPlace} (h : DataW.trod enc Tryz.prog w base (fun _ => true) true n 30 [v] = some x) :
  ∃ A l c xs, v = .slice A l c ∧ l ≤ c ∧ c ≤ 9223372036854775807 ∧ (∀ k, Vm.R64 (List.getD xs k 0)) ∧ yu_ w w.heap.size 1 A l (int64s xs) := by
 rcases open_slice1 Tryz.underlying30 (by kernel_rfl) h with ⟨h0, _⟩ | ⟨a, len, cap, m, k, V, D, Pl, h0, _, hl, hm, hmm, _, hx⟩
 ·exact ⟨none, 0, 0, [], (List.cons.inj h0).1, by omega, by omega, fun k => Vm.zero_R, yu_.none_⟩
 ·have hmc : m = cap := hmm.trans (if_pos rfl)
  obtain ⟨f, hf⟩ := choose_lt (n := len) (p := fun i (z : Int) => V i = .int .i64 z ∧ Vm.R64 z) (fun i hi => by
   obtain ⟨z, hz, hb⟩ := z6_ Tryz.underlying2 (hx i (by omega)).2
   exact ⟨z, hz, r64_of hb⟩)
  refine ⟨some a, len, cap, (List.range len).map f, (List.cons.inj h0).1, hl, by unfold maxLen at hm; omega, fun q => ?_, by simp [int64s], fun hn => ⟨a, rfl, ?_, fun j u hu => ?_⟩⟩
  ·exact Vm.d34_
  ·have := cell_lt17 (hx 0 (by omega)).1
   rwa [block_of_add] at this
  ·exact Vm.d35_
structure C19 where
 xs : List Ins
 v : Vm.Evi
 t : Int
 s : Int
 q : Int
 o : Int
 y : Int
 cs : List Int
 d : Int
 f : Int
structure C19.ok (y : C19) : Prop where
 x : ∀ i ∈ y.xs, i.ok
 w : ∀ k, Vm.R64 (y.cs.getD k 0)
 t : Vm.R64 y.t
 s : Vm.R64 y.s
 y : Vm.R64 y.y
def C19.cells (y : C19) (A B : Value) : Array Value := #[A, .int .u64 y.v.seed, .int .i64 y.v.process, .int .i64 y.v.ports, .int .i64 y.v.look, .int .i64 y.v.now, .int .i64 y.t, .int .i64 y.s, .int .i64 y.q, .int .i64 y.o, .int .i64 y.y, B, .int .i64 y.d, .int .i64 y.f]
set_option maxRecDepth 100000 in
set_option maxHeartbeats 2000000 in
theorem open_case19 {H : Type} {enc : TypeId × Value → H} {w : World} {b0 : Nat} {r : Reach} {v : Value} {d : DataW H} {p : List MemPlace} (hv : Value.okWide Tryz.prog w r b0 32 v) (h : DataW.Trod enc Tryz.prog w 0 (fun _ => true) true 32 v d p) :
  ∃ (y : C19) (A : Option Addr) (l c : Nat) (B : Option Addr) (l2 c2 : Nat), v = .agg (y.cells (.slice A l c) (.slice B l2 c2)) ∧ y.ok ∧ l ≤ c ∧ c ≤ 9223372036854775807 ∧ l2 ≤ c2 ∧ c2 ≤ 9223372036854775807 ∧ yu_ w w.heap.size 5 A l (insV y.xs) ∧ yu_ w w.heap.size 1 B l2 (int64s y.cs) := by
 obtain ⟨cs, rfl, hsz⟩ := okWide_struct Tryz.underlying32 hv
 obtain ⟨l⟩ := cs
 have k0 : Tryz.prog.cellsOf 32 = 14 := by kernel_rfl
 have k3 : Tryz.prog.cellsOf 30 = 1 := by kernel_rfl
 have k5 : Tryz.prog.cellsOf 22 = 1 := by kernel_rfl
 have k6 : Tryz.prog.cellsOf 29 = 5 := by kernel_rfl
 have k11 : Tryz.prog.cellsOf 27 = 3 := by kernel_rfl
 have k7 : Tryz.prog.cellsOf 25 = 5 := by kernel_rfl
 have k8 : Tryz.prog.cellsOf 23 = 1 := by kernel_rfl
 have k9 : Tryz.prog.cellsOf 3 = 1 := by kernel_rfl
 have k10 : Tryz.prog.cellsOf 2 = 1 := by kernel_rfl
 match l, hsz.trans k0 with
 | [c0, c1, c2, c3, c4, c5, c6, c7, c8, c9, c10, c11, c12, c13], _ =>
  obtain ⟨fuel, hf⟩ := h
  obtain ⟨xs, n, _, _, _, hlen, hg⟩ := DataW.trod_struct Tryz.underlying32 hf
  match xs, hlen with
  | [y0, y1, y2, y3, y4, y5], _ =>
   have g0 : DataW.trod enc Tryz.prog w 0 (fun _ => true) true n 22 [c0] = some y0 := by simpa [Value.cells, k3, k5, k6, k11, k7, k8, k9, k10] using hg 0 _ rfl
   have g1 : DataW.trod enc Tryz.prog w 0 (fun _ => true) true n 25 [c1, c2, c3, c4, c5] = some y1 := by simpa [Value.cells, k3, k5, k6, k11, k7, k8, k9, k10] using hg 1 _ rfl
   have g2 : DataW.trod enc Tryz.prog w 0 (fun _ => true) true n 29 [c6, c7, c8, c9, c10] = some y2 := by simpa [Value.cells, k3, k5, k6, k11, k7, k8, k9, k10] using hg 2 _ rfl
   have g3 : DataW.trod enc Tryz.prog w 0 (fun _ => true) true n 30 [c11] = some y3 := by simpa [Value.cells, k3, k5, k6, k11, k7, k8, k9, k10] using hg 3 _ rfl
   have g4 : DataW.trod enc Tryz.prog w 0 (fun _ => true) true n 3 [c12] = some y4 := by simpa [Value.cells, k3, k5, k6, k11, k7, k8, k9, k10] using hg 4 _ rfl
   have g5 : DataW.trod enc Tryz.prog w 0 (fun _ => true) true n 3 [c13] = some y5 := by simpa [Value.cells, k3, k5, k6, k11, k7, k8, k9, k10] using hg 5 _ rfl
   obtain ⟨A, l, c, zs, rfl, e1, e2, e3, e4⟩ := open_prog28 g0
   obtain ⟨B, l2, c2', ws, rfl, f1, f2, f3, f4⟩ := open_wordsR g3
   obtain ⟨dr, rfl, _⟩ := z6_ Tryz.underlying3 g4
   obtain ⟨fu, rfl, _⟩ := z6_ Tryz.underlying3 g5
   obtain ⟨vs, n2, _, _, _, vlen, hvv⟩ := DataW.trod_struct Tryz.underlying25 g1
   match vs, vlen with
   | [w0, w1, w2, w3, w4], _ =>
    have p0 : DataW.trod enc Tryz.prog w 0 (fun _ => true) true n2 23 [c1] = some w0 := by simpa [Value.cells, k3, k5, k6, k11, k7, k8, k9, k10] using hvv 0 _ rfl
    obtain ⟨o0, rfl, _⟩ := z6_ Tryz.underlying23 p0
    have p1 : DataW.trod enc Tryz.prog w 0 (fun _ => true) true n2 3 [c2] = some w1 := by simpa [Value.cells, k3, k5, k6, k11, k7, k8, k9, k10] using hvv 1 _ rfl
    obtain ⟨o1, rfl, _⟩ := z6_ Tryz.underlying3 p1
    have p2 : DataW.trod enc Tryz.prog w 0 (fun _ => true) true n2 3 [c3] = some w2 := by simpa [Value.cells, k3, k5, k6, k11, k7, k8, k9, k10] using hvv 2 _ rfl
    obtain ⟨o2, rfl, _⟩ := z6_ Tryz.underlying3 p2
    have p3 : DataW.trod enc Tryz.prog w 0 (fun _ => true) true n2 3 [c4] = some w3 := by simpa [Value.cells, k3, k5, k6, k11, k7, k8, k9, k10] using hvv 3 _ rfl
    obtain ⟨o3, rfl, _⟩ := z6_ Tryz.underlying3 p3
    have p4 : DataW.trod enc Tryz.prog w 0 (fun _ => true) true n2 3 [c5] = some w4 := by simpa [Value.cells, k3, k5, k6, k11, k7, k8, k9, k10] using hvv 4 _ rfl
    obtain ⟨o4, rfl, _⟩ := z6_ Tryz.underlying3 p4
    obtain ⟨us, n3, _, _, _, ulen, hu⟩ := DataW.trod_struct Tryz.underlying29 g2
    match us, ulen with
    | [u0, u1, u2], _ =>
     have q0 : DataW.trod enc Tryz.prog w 0 (fun _ => true) true n3 27 [c6, c7, c8] = some u0 := by simpa [Value.cells, k3, k5, k6, k11, k7, k8, k9, k10] using hu 0 _ rfl
     have q1 : DataW.trod enc Tryz.prog w 0 (fun _ => true) true n3 3 [c9] = some u1 := by simpa [Value.cells, k3, k5, k6, k11, k7, k8, k9, k10] using hu 1 _ rfl
     have q2 : DataW.trod enc Tryz.prog w 0 (fun _ => true) true n3 2 [c10] = some u2 := by simpa [Value.cells, k3, k5, k6, k11, k7, k8, k9, k10] using hu 2 _ rfl
     obtain ⟨eto, rfl, _⟩ := z6_ Tryz.underlying3 q1
     obtain ⟨eva, rfl, b3⟩ := z6_ Tryz.underlying2 q2
     obtain ⟨ks, n4, _, _, _, klen, hk⟩ := DataW.trod_struct Tryz.underlying27 q0
     match ks, klen with
     | [x0, x1, x2], _ =>
      have s0 : DataW.trod enc Tryz.prog w 0 (fun _ => true) true n4 3 [c6] = some x0 := by simpa [Value.cells, k3, k5, k6, k11, k7, k8, k9, k10] using hk 0 _ rfl
      obtain ⟨r0, rfl, b0⟩ := z6_ Tryz.underlying3 s0
      have s1 : DataW.trod enc Tryz.prog w 0 (fun _ => true) true n4 3 [c7] = some x1 := by simpa [Value.cells, k3, k5, k6, k11, k7, k8, k9, k10] using hk 1 _ rfl
      obtain ⟨r1, rfl, b1⟩ := z6_ Tryz.underlying3 s1
      have s2 : DataW.trod enc Tryz.prog w 0 (fun _ => true) true n4 3 [c8] = some x2 := by simpa [Value.cells, k3, k5, k6, k11, k7, k8, k9, k10] using hk 2 _ rfl
      obtain ⟨r2, rfl, b2⟩ := z6_ Tryz.underlying3 s2
      exact ⟨⟨zs, ⟨o0, o1, o2, o3, o4⟩, r0, r1, r2, eto, eva, ws, dr, fu⟩, A, l, c, B, l2, c2', rfl, ⟨e3, f3, r64_of b0, r64_of b1, r64_of b3⟩, e1, e2, f1, f2, e4, f4⟩
namespace Vm
theorem den_c19 {β : Env} (y : C19) (p1 p2 : Nat) : (SV.agg [.sl 1 2 [] 5 0 y.xs.length (some p1), .agg [.int .u64 y.v.seed, .int .i64 y.v.process, .int .i64 y.v.ports, .int .i64 y.v.look, .int .i64 y.v.now], .agg [.agg [.int .i64 y.t, .int .i64 y.s, .int .i64 y.q], .int .i64 y.o, .int .i64 y.y], .sl 3 4 [] 1 0 y.cs.length (some p2), .int .i64 y.d, .int .i64 y.f]).den β = .agg (y.cells ((SV.sl 1 2 [] 5 0 y.xs.length (some p1)).den β) ((SV.sl 3 4 [] 1 0 y.cs.length (some p2)).den β)) := by
 rw [den_agg rfl, cl_agg]
 simp only [xy_, clL_nil, cl_agg]
 rfl
end Vm
end Go.Proofs.YtjliakjbdcplcaaGreat
end
section
namespace Go.Proofs.YtjliakjbdcplcaaGreat.Vm
open Go.RowKit
theorem strDen {β : Env} {s : ByteArray} : (SV.str s).den β = .string s := rfl
def cntB (s : ByteArray) (c : Int) : Nat → Nat
 | 0 => 0
 | j + 1 => cntB s c j + if bat s j = c then 1 else 0
theorem cntB_le (s : ByteArray) (c : Int) : ∀ j, cntB s c j ≤ j
 | 0 => Nat.le_refl 0
 | j + 1 => by
  have := cntB_le s c j
  unfold cntB
  split <;> omega
theorem cnt_lit (s : ByteArray) (c : Int) (hs : s.size ≤ 1000000) : zp_ Tryz.prog 141 [.str s, .int .u8 c] [.gone] (.nat .i64 (cntB s c s.size)) [.gone] := by
 refine ze_ (fn := Tryz.f141) 1 21 0 rfl rfl rfl rfl rfl u6_ rfl fun w0 M E hro => ?_
 repeat' (first | refine Ctl.h ?_ | ((with_reducible intro hif); first | (focus (cases hif; done)) | ((try simp only [JH] at hif); try (exfalso; omega))) | ((with_reducible first | apply J22 zs_ za_ | apply J23 fol zs_ za_ | apply J24); (·rfl); (· exact k15_); (try kernel_rfl); try exact y5_) | fail)
 refine WF.loopAt (fun (j : Nat) => j ≤ s.size) (fun (j : Nat) => [(0, .str s), (1, .int .u8 c), (5, .nat .i64 (cntB s c j)), (6, .nat .i64 j)]) (fun (j : Nat) => [.gone]) (fun (j : Nat) => s.size - j) 0 (Nat.zero_le _) ?_ ?_ rfl ?_ ?_ rfl ?_
 ·exact k5_
 ·exact k6_
 ·exact k65_
 ·exact k65_
 intro j hj
 have hcj := cntB_le s c j
 by_cases hjl : j < s.size
 ·by_cases hc : bat s j = c
  ·have e : cntB s c (j + 1) = cntB s c j + 1 := by rw [cntB, if_pos hc]
   repeat' (first | refine Ctl.h ?_ | ((with_reducible intro hif); first | (focus (cases hif; done)) | ((try simp only [JH] at hif); try (exfalso; omega))) | ((with_reducible first | apply J22 zs_ za_ | apply J23 fol zs_ za_ | apply J24); (·rfl); (· exact k66_); (try kernel_rfl); try exact k25_) | fail)
   refine At.next (j + 1) ?_ ?_ ?_ rfl ?_ ?_ rfl
   ·exact ⟨hjl, by omega⟩
   ·((repeat' (first | exact trivial | apply And.intro)) <;> (first | rfl | (rw [e]; rfl)))
   ·exact k6_
   ·exact k65_
   ·exact k65_
  ·have e : cntB s c (j + 1) = cntB s c j := by rw [cntB, if_neg hc]; rfl
   repeat' (first | refine Ctl.h ?_ | ((with_reducible intro hif); first | (focus (cases hif; done)) | ((try simp only [JH] at hif); try (exfalso; omega))) | ((with_reducible first | apply J22 zs_ za_ | apply J23 fol zs_ za_ | apply J24); (·rfl); (· exact k66_); (try kernel_rfl); try exact k25_) | fail)
   refine At.next (j + 1) ?_ ?_ ?_ rfl ?_ ?_ rfl
   ·exact ⟨hjl, by omega⟩
   ·((repeat' (first | exact trivial | apply And.intro)) <;> (first | rfl | (rw [e]; rfl)))
   ·exact k6_
   ·exact k65_
   ·exact k65_
 ·obtain rfl : j = s.size := by omega
  repeat' (first | refine Ctl.h ?_ | ((with_reducible intro hif); first | (focus (cases hif; done)) | ((try simp only [JH] at hif); try (exfalso; omega))) | ((with_reducible first | apply J22 zs_ za_ | apply J23 fol zs_ za_ | apply J24); (·rfl); (· exact k17_); (try kernel_rfl); try exact y5_) | fail)
  apply At.endsRet za_ (fn := Tryz.f141) (rs := [.tmp 4]) Anc.refl hro (lb_ rfl) rfl
  ·exact k11_
  ·exact ys_
  ·exact k6_
  ·rfl
  ·exact k65_
  ·exact zx_
  ·exact fun β => rfl
  ·exact k65_
def sRCnt : yt_ := fun args h m => match args with
 | [.str v1, v2] => bif isI .u8 v2 then some ((v1.size ≤ 1000000), .nat .i64 (cntB v1 (iOf v2) v1.size), [], []) else none
 | _ => none
theorem sRCnt_ok : zh_ Tryz.prog 141 sRCnt := by
 refine ⟨zf_ (by kernel_rfl), fun args h m c v rd wr hs hm hc w0 M β h' w R hrd hwr hst => ?_⟩
 unfold sRCnt at hs
 split at hs
 ·rename_i v1 v2
  obtain ⟨hb, hs⟩ := zj_ hs
  simp only [Option.some.injEq, Prod.mk.injEq] at hs
  obtain ⟨rfl, rfl, rfl, rfl⟩ := hs
  have b2 := hb
  have y1 := hc
  refine ym_ (views := []) (cnt_lit v1 (iOf v2) y1) ?_ R hm hwr ?_ ?_ ?_
  ·intro x hx; cases hx
  ·intro β1 hv
   simp only [denL, yh_, yg_, yf_, zv_, zb_, strDen, zc_ b2]
  ·exact k65_
  ·exact k65_
 ·cases hs
theorem formC_cases (op : Int) : (32 < op ∧ op ≤ 49 ∧ xo_ op = 1) ∨ ((op = 1 ∨ op = 2) ∧ xo_ op = 2) ∨ (op = 3 ∧ xo_ op = 3) ∨ (4 ≤ op ∧ op ≤ 7 ∧ xo_ op = 4) ∨ (op = 8 ∧ xo_ op = 5) ∨ (op = 9 ∧ xo_ op = 6) ∨ ((op = 10 ∨ op = 11) ∧ xo_ op = 7) ∨ (¬ (32 < op ∧ op ≤ 49) ∧ ¬ (1 ≤ op ∧ op ≤ 11) ∧ xo_ op = 0) := by
 unfold xo_
 repeat' split
 all_goals omega
theorem rform_lit (op : Int) (h0 : 0 ≤ op ∧ op ≤ 255) : zp_ Tryz.prog 140 [.int .u8 op] [.gone] (.tup [.str (y9_ (xo_ op)), .bool (decide (xo_ op ≠ 0))]) [.gone] := by
 rcases formC_cases op with ⟨h1, h2, hk⟩ | ⟨h1, hk⟩ | ⟨h1, hk⟩ | ⟨h1, h2, hk⟩ | ⟨h1, hk⟩ | ⟨h1, hk⟩ | ⟨h1, hk⟩ | ⟨h1, h2, hk⟩
 all_goals
  rw [hk]
  refine ze_ (fn := Tryz.f140) 1 28 0 rfl rfl rfl rfl rfl u6_ rfl fun w0 M E hro => ?_
  repeat' (first | refine Ctl.h ?_ | ((with_reducible intro hif); first | (focus (cases hif; done)) | ((try simp only [JH] at hif); try (exfalso; omega))) | ((with_reducible first | apply J22 zs_ za_ | apply J23 fol zs_ za_ | apply J24); (·rfl); (· exact k15_); (try kernel_rfl); try exact y5_) | fail)
 all_goals
  apply At.endsRet za_ (fn := Tryz.f140) (rs := [.tmp 2, .tmp 3]) Anc.refl hro (lb_ rfl) rfl
  ·exact k11_
  ·exact ys_
  ·exact k6_
  ·rfl
  ·exact k65_
  ·exact zx_
  ·(intro β; first | rfl | (exfalso; simp only [Bool.and_eq_false_iff, decide_eq_false_iff_not] at hif; omega))
  ·exact k65_
def sRForm : yt_ := fun args h m => match args with
 | [v1] => bif isI .u8 v1 then some ((0 ≤ (iOf v1) ∧ (iOf v1) ≤ 255), .tup [.str (y9_ (xo_ (iOf v1))), .bool (decide (xo_ (iOf v1) ≠ 0))], [], []) else none
 | _ => none
theorem sRForm_ok : zh_ Tryz.prog 140 sRForm := by
 refine ⟨zf_ (by kernel_rfl), fun args h m c v rd wr hs hm hc w0 M β h' w R hrd hwr hst => ?_⟩
 unfold sRForm at hs
 split at hs
 ·rename_i v1
  obtain ⟨hb, hs⟩ := zj_ hs
  simp only [Option.some.injEq, Prod.mk.injEq] at hs
  obtain ⟨rfl, rfl, rfl, rfl⟩ := hs
  have b1 := hb
  have y1 := hc
  refine ym_ (views := []) (rform_lit (iOf v1) y1) ?_ R hm hwr ?_ ?_ ?_
  ·intro x hx; cases hx
  ·exact d25_
  ·exact k65_
  ·exact k65_
 ·cases hs
end Go.Proofs.YtjliakjbdcplcaaGreat.Vm
end
