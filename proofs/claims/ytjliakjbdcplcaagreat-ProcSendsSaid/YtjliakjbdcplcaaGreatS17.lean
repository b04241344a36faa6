import Derived.Test.YtjliakjbdcplcaaGreatS6
import Derived.Test.YtjliakjbdcplcaaGreatS7
import Derived.Test.YtjliakjbdcplcaaGreatS8
import Derived.Test.YtjliakjbdcplcaaGreatS12
import Derived.Test.YtjliakjbdcplcaaGreatS15
import Derived.Test.YtjliakjbdcplcaaGreatS16
section
namespace Go.Proofs.YtjliakjbdcplcaaGreat.Vm
theorem b127 {P : Prop} (h : P := by (repeat' (first | exact trivial | exact rfl | assumption | apply Stable.ite | apply And.intro | intro _ | (simp only [Stable, StableL]; done)))) : P := h
theorem b128 {P : Prop} (h : P := by (first | exact True.intro | ((try simp only [JS, implies_true, forall_const, shaped, shapedL, kndOf, ls_prS, ls_prS', ls_i64S', ls_i64S, ls_evtsS', ls_evtsS, ls_length, prc_eta, iOf]); (repeat' (first | exact True.intro | assumption | omega | apply And.intro | rfl | decide | intro _)); done) | ((try simp only [JS, implies_true, forall_const, shaped, shapedL, kndOf, inR, inN]); (repeat' (first | assumption | exact True.intro | omega | apply And.intro)); done))) : P := h
theorem b129 {P : Prop} (h : P := by (simp only [push_cast, ↓JP, Nat.reduceAdd, Nat.reduceEqDiff, Nat.reduceLT, Nat.reduceMul, Nat.reduceLeDiff, reduceCtorEq, reduceIte, ↓JK, JE, prc_eta, cEq28, sPSame, sSev, isEvt_evtS, ls_evtsS, ls_evtsS', ls_evtsS2, evtsS, inR, inN, q1, q2]; rfl)) : P := h
end Go.Proofs.YtjliakjbdcplcaaGreat.Vm
end
section
namespace Go.Proofs.YtjliakjbdcplcaaGreat.Vm
open Go.RowKit
set_option linter.unusedVariables false
set_option linter.unusedSimpArgs false
set_option maxRecDepth 100000
set_option maxHeartbeats 4000000
theorem capB_max {v : SV} {β : Env} {A : Option Addr} {n m p : Nat} (h : capB v) (d : v.den β = .slice A n p) (hn : m ≤ p) : max m p ≤ 9223372036854775807 := by
  have := capB_le h d
  omega
def esOf : SV → ESm
  | .agg [a, b, c] => ⟨iOf a, iOf b, iOf c⟩
  | _ => ⟨0, 0, 0⟩
def isEs : SV → Bool
  | .agg [a, b, c] => isI .u8 a && isI .u8 b && isI .i64 c
  | _ => false
theorem isEs_cl {v : SV} {β : Env} (h : isEs v = true) : v.cl β = (esOf v).cells := by
  unfold isEs at h
  split at h
  · rename_i a b c
    simp only [Bool.and_eq_true] at h
    obtain ⟨⟨h1, h2⟩, h3⟩ := h
    rw [cl_agg]
    simp only [clL_cons, clL_nil, isI_cl h1, isI_cl h2, isI_cl h3, esOf, ESm.cells, List.cons_append, List.nil_append]
  · cases h
theorem elems_es {β : Env} {n : Nat} {f : Nat → SV} (hf : ∀ q, q < n → isEs (f q) = true) : elems β 3 n f = esV (ls esOf n f) := elems_ls isEs_cl (fun _ => rfl) hf
theorem viewEs {w : World} {β : Env} {A : Option Addr} {n cap : Nat} {f : Nat → SV} (hr : Reads w w.heap.size 3 A n (elems β 3 n f)) (hn : n ≤ cap) (hf : ∀ q, q < n → isEs (f q) = true) : (View.mk 3 (ls esOf n f).length (esS (ls esOf n f)) A cap).Ok w :=
  ⟨fun β' => by rw [elems_esS, ls_length]; rwa [elems_es hf] at hr, by rw [ls_length]; exact hn, fun h q => esS_stable q, Nat.succ_pos _⟩
theorem elems_u8 {β : Env} {n : Nat} {f : Nat → SV} (hf : ∀ q, q < n → isI .u8 (f q) = true) : elems β 1 n f = u8V (ls iOf n f) := by
  rw [elems_ls (cells := fun x => [.int .u8 x]) isI_cl (fun _ => rfl) hf]
  unfold u8V
  rw [List.flatMap_def]
  induction ls iOf n f with
  | nil => rfl
  | cons x l ih => simp [ih]
theorem viewU8 {w : World} {β : Env} {A : Option Addr} {n cap : Nat} {f : Nat → SV} (hr : Reads w w.heap.size 1 A n (elems β 1 n f)) (hn : n ≤ cap) (hf : ∀ q, q < n → isI .u8 (f q) = true) : (View.mk 1 (ls iOf n f).length (u8S (ls iOf n f)) A cap).Ok w :=
  ⟨fun β' => by rw [elems_u8S, ls_length]; rwa [elems_u8 hf] at hr, by rw [ls_length]; exact hn, fun h q => u8S_stable q, Nat.succ_pos _⟩
theorem ls_u8S (l : List Int) : ls iOf l.length (u8S l) = l := ls_of (g := iOf) (e := fun x => .int .u8 x) (fun _ => rfl) l 0
theorem ls_u8S' (l : List Int) : ls iOf l.length (fun q => u8S l q) = l := ls_u8S l
theorem ls_esS (l : List ESm) : ls esOf l.length (esS l) = l := ls_of (g := esOf) (e := esA) (fun _ => rfl) l _
theorem ls_esS' (l : List ESm) : ls esOf l.length (fun q => esS l q) = l := ls_esS l
def sMd28 : Spec := fun args h m => match args with
  | [.agg [v1, .agg [v2, .arr 8 1 v3, v4, v5, v6], v7, v8, v9, v10, v11, v12, v13]] => match srcV h 5 (.tup []) v1, srcV h 1 (.tup []) v4, srcV h 1 (.tup []) v12, srcV h 3 (.tup []) v13 with
    | some (c1, n1, f1, r1), some (c4, n4, f4, r4), some (c12, n12, f12, r12), some (c13, n13, f13, r13) => bif isI .u8 v2 && isI .u32 v5 && isI .u8 v6 && isI .u64 v7 && isI .u8 v8 && isI .u8 v9 && isI .u16 v10 && isI .u16 v11 then some (c1 ∧ c4 ∧ c12 ∧ c13 ∧ (∀ q, q < n1 → isIns (f1 q) = true) ∧ (∀ q, q < n4 → isI .i64 (f4 q) = true) ∧ (∀ q, q < n12 → isI .u8 (f12 q) = true) ∧ (∀ q, q < n13 → isEs (f13 q) = true) ∧ (∀ q, q < 8 → isI .i64 (v3 q) = true) ∧ ((∀ x ∈ (ls insOf n1 f1), x.ok)) ∧ (capB v1) ∧ (0 ≤ (iOf v2) ∧ (iOf v2) ≤ 255) ∧ (0 ≤ (iOf v5) ∧ (iOf v5) ≤ 4294967295) ∧ (0 ≤ (iOf v6) ∧ (iOf v6) ≤ 255) ∧ (0 ≤ (iOf v8) ∧ (iOf v8) ≤ 255) ∧ (0 ≤ (iOf v9) ∧ (iOf v9) ≤ 255) ∧ (0 ≤ (iOf v10) ∧ (iOf v10) ≤ 65535) ∧ (0 ≤ (iOf v11) ∧ (iOf v11) ≤ 65535) ∧ ((∀ q, 0 ≤ (ls iOf n12 f12).getD q 0 ∧ (ls iOf n12 f12).getD q 0 ≤ 255)) ∧ (capB v12) ∧ ((∀ e ∈ (ls esOf n13 f13), e.ok)) ∧ (capB v13), .tup [.agg [.int .u64 (iOf v7), .int .i64 (1 + (iOf v9).tmod 5), .int .i64 ((iOf v10).tmod 300)], pcS (⟨1 + (iOf v8).tmod 16, made14 (ls insOf n1 f1), (ls iOf n4 f4).take 12, (iOf v5), (iOf v11), mPorts ((ls iOf n12 f12).take 16)⟩ : Prc) m (m + 1) (m + 2), .sl (m + 3) (m + 3) [] 5 0 (mEv (1 + (iOf v8).tmod 16) ((ls esOf n13 f13).take 10)).2.length none], r1 ++ r4 ++ r12 ++ r13, [(m, prO (made14 (ls insOf n1 f1))), (m + 1, i64O ((ls iOf n4 f4).take 12)), (m + 2, inO (mPorts ((ls iOf n12 f12).take 16))), (m + 3, .own 29 (.arr (mEv (1 + (iOf v8).tmod 16) ((ls esOf n13 f13).take 10)).2.length 5 (evtsS (mEv (1 + (iOf v8).tmod 16) ((ls esOf n13 f13).take 10)).2)) false)]) else none
    | _, _, _, _ => none
  | _ => none
theorem sMd28_ok : CallOk Tryz.prog 23 sMd28 := by
  refine ⟨named_spec (by kernel_rfl), fun args h m c v rd wr hs hm hc w0 M β h' w R hrd hwr hst => ?_⟩
  unfold sMd28 at hs
  split at hs
  · rename_i v1 v2 v3 v4 v5 v6 v7 v8 v9 v10 v11 v12 v13
    split at hs
    · rename_i c1 n1 f1 r1 c4 n4 f4 r4 c12 n12 f12 r12 c13 n13 f13 r13 a1 a4 a12 a13
      obtain ⟨hb, hs⟩ := bif_some hs
      simp only [Option.some.injEq, Prod.mk.injEq] at hs
      obtain ⟨rfl, rfl, rfl, rfl⟩ := hs
      simp only [Bool.and_eq_true] at hb
      obtain ⟨⟨⟨⟨⟨⟨⟨b2, b5⟩, b6⟩, b7⟩, b8⟩, b9⟩, b10⟩, b11⟩ := hb
      obtain ⟨k1, k4, k12, k13, g1, g4, g12, g13, g3, y1, y2, y3, y4, y5, y6, y7, y8, y9, y10, y11, y12, y13⟩ := hc
      obtain ⟨A1, p1, d1, e1, t1⟩ := reads_src R a1 k1 (fun i hi => hrd i (List.mem_append_left _ (List.mem_append_left _ (List.mem_append_left _ hi)))) (by omega)
      obtain ⟨A4, p4, d4, e4, t4⟩ := reads_src R a4 k4 (fun i hi => hrd i (List.mem_append_left _ (List.mem_append_left _ (List.mem_append_right _ hi)))) (by omega)
      obtain ⟨A12, p12, d12, e12, t12⟩ := reads_src R a12 k12 (fun i hi => hrd i (List.mem_append_left _ (List.mem_append_right _ hi))) (by omega)
      obtain ⟨A13, p13, d13, e13, t13⟩ := reads_src R a13 k13 (fun i hi => hrd i (List.mem_append_right _ hi)) (by omega)
      refine callRo (views := [⟨5, (ls insOf n1 f1).length, prS (ls insOf n1 f1), A1, p1⟩, ⟨1, (ls iOf n4 f4).length, i64S (ls iOf n4 f4), A4, p4⟩, ⟨1, (ls iOf n12 f12).length, u8S (ls iOf n12 f12), A12, p12⟩, ⟨3, (ls esOf n13 f13).length, esS (ls esOf n13 f13), A13, p13⟩]) (made28 (ls insOf n1 f1) (iOf v2) (iOf v5) (iOf v6) (iOf v7) (iOf v8) (iOf v9) (iOf v10) (iOf v11) (fun q => iOf (v3 q)) (ls iOf n4 f4) (ls iOf n12 f12) (ls esOf n13 f13) p1 p4 p12 p13 y1 (capB_max y2 d1 (by rw [ls_length]; exact e1)) (by rw [ls_length]; exact e4) y3 y4 y5 y6 y7 y8 y9 y10 (by rw [ls_length]; exact e12) (capB_le y11 d12) y12 (by rw [ls_length]; exact e13) (capB_le y13 d13)) ?_ R hm hwr ?_ ?_ ?_
      · intro x hx
        simp only [List.mem_cons, List.not_mem_nil, or_false] at hx
        rcases hx with rfl | rfl | rfl | rfl
        · exact viewIns t1 e1 g1
        · exact viewI64 t4 e4 g4
        · exact viewU8 t12 e12 g12
        · exact viewEs t13 e13 g13
      · intro β1 hv
        simp only [Vd, ls_length, and_true] at hv
        obtain ⟨z1, z4, z12, z13⟩ := hv
        simp only [denL, aggDen, intDen, natDen, boolDen, ls_length, z1, z4, z12, z13, d1, d4, d12, d13, isI_den b2, isI_den b5, isI_den b6, isI_den b7, isI_den b8, isI_den b9, isI_den b10, isI_den b11, ← r8Den (β := β) (β1 := β1) g3]
      · exact Vm.b127
      · exact Vm.b127
    · cases hs
  · cases hs
end Go.Proofs.YtjliakjbdcplcaaGreat.Vm
end

section
namespace Go.Proofs.YtjliakjbdcplcaaGreat
open Go.ChangeShapes Go.WideShapes Go.ChangeAt Go.RowKit Go.Deep
set_option linter.unusedVariables false
set_option linter.unusedSimpArgs false
namespace Vm
theorem esV_len (l : List ESm) : (esV l).length = l.length * 3 := flat_len ESm.cells 3 (fun _ => rfl) l
end Vm
theorem es_len {w : World} {B n : Nat} {A : Option Addr} {l : List Vm.ESm} (h : Reads w B 3 A n (Vm.esV l)) : l.length = n := by have := h.1; rw [Vm.esV_len] at this; omega
set_option maxRecDepth 100000 in
theorem open_events28 {H : Type} {enc : TypeId × Value → H} {w : World} {n : Nat} {v : Value} {x : DataW H × List MemPlace} (h : DataW.trod enc Tryz.prog w 0 (fun _ => true) true n 76 [v] = some x) :
    ∃ A l c xs, v = .slice A l c ∧ l ≤ c ∧ c ≤ 9223372036854775807 ∧ (∀ i ∈ xs, Vm.ESm.ok i) ∧ Reads w w.heap.size 3 A l (Vm.esV xs) := by
  have h3 : Tryz.prog.cellsOf 156 = 3 := by kernel_rfl
  have hc1 : Tryz.prog.cellsOf 5 = 1 := by kernel_rfl
  have hc2 : Tryz.prog.cellsOf 2 = 1 := by kernel_rfl
  rcases open_slice Tryz.underlying76 h with ⟨h0, _⟩ | ⟨a, len, cap, m, k, D, Pl, h0, _, hl, hm, hmm, _, hx⟩
  · exact Vm.b5
  · have hmc : m = cap := hmm.trans (if_pos rfl)
    have each : ∀ i, i < len → ∃ y : Vm.ESm, y.ok ∧ ∀ j u, y.cells[j]? = some u → w.cell? (a.add (i * 3 + j)) = some u := by
      intro i hi
      obtain ⟨cs', h1, h2⟩ := hx i (by omega)
      rw [h3] at h1
      obtain ⟨_, hlen, hcell⟩ := World.cells?_some h1
      obtain ⟨ys, q, _, _, _, hyl, hf⟩ := DataW.trod_struct Tryz.underlying156 h2
      match ys, hyl, cs', hlen with
      | [y0, y1, y2], _, [c0, c1, c2], _ =>
        have g0 : DataW.trod enc Tryz.prog w 0 (fun _ => true) true q 5 [c0] = some y0 := by simpa [hc1, hc2] using hf 0 _ rfl
        have g1 : DataW.trod enc Tryz.prog w 0 (fun _ => true) true q 5 [c1] = some y1 := by simpa [hc1, hc2] using hf 1 _ rfl
        have g2 : DataW.trod enc Tryz.prog w 0 (fun _ => true) true q 2 [c2] = some y2 := by simpa [hc1, hc2] using hf 2 _ rfl
        obtain ⟨a0, rfl, b0⟩ := trod_int_at17 Tryz.underlying5 g0
        obtain ⟨a1, rfl, b1⟩ := trod_int_at17 Tryz.underlying5 g1
        obtain ⟨a2, rfl, b2⟩ := trod_int_at17 Tryz.underlying2 g2
        simp [Lit.wf, IntKind.min, IntKind.max, IntKind.signed, IntKind.bits] at b0 b1 b2
        refine ⟨⟨a0, a1, a2⟩, ⟨b0.1, b0.2, b1.1, b1.2⟩, fun j u hj => ?_⟩
        have hj5 : j < 3 := (List.getElem?_eq_some_iff.1 hj).1
        have := hcell j hj5
        rw [Vm.add_add] at this
        rw [this]
        exact hj
    have : Inhabited Vm.ESm := ⟨⟨0, 0, 0⟩⟩
    obtain ⟨f, hf⟩ := choose_lt (n := len) (p := fun i (y : Vm.ESm) => y.ok ∧ ∀ j u, y.cells[j]? = some u → w.cell? (a.add (i * 3 + j)) = some u) each
    refine ⟨some a, len, cap, (List.range len).map f, (List.cons.inj h0).1, hl, by unfold maxLen at hm; omega, fun i hi => ?_, by rw [Vm.esV_len]; simp, fun hn => ⟨a, rfl, ?_, fun j u hu => ?_⟩⟩
    · obtain ⟨q, hq, rfl⟩ := List.mem_map.1 hi
      exact (hf q (List.mem_range.1 hq)).1
    · have := cell_lt17 ((hf 0 hn).2 0 _ rfl)
      rwa [block_of_add] at this
    · have hj := (List.getElem?_eq_some_iff.1 hu).1
      rw [Vm.esV_len] at hj
      simp at hj
      obtain ⟨q, r, hr5, rfl⟩ : ∃ q r, r < 3 ∧ j = q * 3 + r := ⟨j / 3, j % 3, by omega, by omega⟩
      have hq : q < len := by omega
      refine (hf q hq).2 r u ?_
      have hfl := flat_at Vm.ESm.cells 3 (fun _ => rfl) ((List.range len).map f) q r (f q) (by simp [hq]) hr5
      rw [← hfl]
      exact hu
structure S28 where
  xs : List Ins
  a : Int
  d : Int
  sn : Int
  seed : Int
  id : Int
  ahead : Int
  fuel : Int
  sq : Int
  rg : Nat → Int
  cs : List Int
  ps : List Int
  es : List Vm.ESm
structure S28.ok (y : S28) : Prop where
  x : ∀ i ∈ y.xs, i.ok
  a : 0 ≤ y.a ∧ y.a ≤ 255
  d : 0 ≤ y.d ∧ y.d ≤ 4294967295
  sn : 0 ≤ y.sn ∧ y.sn ≤ 255
  id : 0 ≤ y.id ∧ y.id ≤ 255
  ahead : 0 ≤ y.ahead ∧ y.ahead ≤ 255
  fuel : 0 ≤ y.fuel ∧ y.fuel ≤ 65535
  sq : 0 ≤ y.sq ∧ y.sq ≤ 65535
  ps : ∀ q, 0 ≤ y.ps.getD q 0 ∧ y.ps.getD q 0 ≤ 255
  es : ∀ e ∈ y.es, e.ok
def S28.cells (y : S28) (A B C D : Value) : Array Value := #[A, .int .u8 y.a, .int .i64 (y.rg 0), .int .i64 (y.rg 1), .int .i64 (y.rg 2), .int .i64 (y.rg 3), .int .i64 (y.rg 4), .int .i64 (y.rg 5), .int .i64 (y.rg 6), .int .i64 (y.rg 7), B, .int .u32 y.d, .int .u8 y.sn, .int .u64 y.seed, .int .u8 y.id, .int .u8 y.ahead, .int .u16 y.fuel, .int .u16 y.sq, C, D]
structure L28 where
  A : Option Addr
  n1 : Nat
  p1 : Nat
  B : Option Addr
  n2 : Nat
  p2 : Nat
  C : Option Addr
  n3 : Nat
  p3 : Nat
  D : Option Addr
  n4 : Nat
  p4 : Nat
structure L28.ok (z : L28) (w : World) (y : S28) : Prop where
  h1 : z.n1 ≤ z.p1
  c1 : z.p1 ≤ 9223372036854775807
  h2 : z.n2 ≤ z.p2
  c2 : z.p2 ≤ 9223372036854775807
  h3 : z.n3 ≤ z.p3
  c3 : z.p3 ≤ 9223372036854775807
  h4 : z.n4 ≤ z.p4
  c4 : z.p4 ≤ 9223372036854775807
  rA : Reads w w.heap.size 5 z.A z.n1 (insV y.xs)
  rB : Reads w w.heap.size 1 z.B z.n2 (int64s y.cs)
  rC : Reads w w.heap.size 1 z.C z.n3 (Vm.u8V y.ps)
  lC : y.ps.length = z.n3
  rD : Reads w w.heap.size 3 z.D z.n4 (Vm.esV y.es)
def L28.v (z : L28) (y : S28) : Value := .agg (y.cells (.slice z.A z.n1 z.p1) (.slice z.B z.n2 z.p2) (.slice z.C z.n3 z.p3) (.slice z.D z.n4 z.p4))
set_option maxRecDepth 100000 in
set_option maxHeartbeats 2000000 in
theorem open_small28 {H : Type} {enc : TypeId × Value → H} {w : World} {b0 : Nat} {r : Reach} {v : Value} {d : DataW H} {p : List MemPlace} (hv : Value.okWide Tryz.prog w r b0 78 v) (h : DataW.Trod enc Tryz.prog w 0 (fun _ => true) true 78 v d p) :
    ∃ (y : S28) (z : L28), v = z.v y ∧ y.ok ∧ z.ok w y := by
  obtain ⟨cs, rfl, hsz⟩ := okWide_struct Tryz.underlying78 hv
  obtain ⟨l⟩ := cs
  have k0 : Tryz.prog.cellsOf 78 = 20 := by kernel_rfl
  have k1 : Tryz.prog.cellsOf 5 = 1 := by kernel_rfl
  have k2 : Tryz.prog.cellsOf 58 = 8 := by kernel_rfl
  have k3 : Tryz.prog.cellsOf 30 = 1 := by kernel_rfl
  have k4 : Tryz.prog.cellsOf 71 = 1 := by kernel_rfl
  have k5 : Tryz.prog.cellsOf 70 = 1 := by kernel_rfl
  have k6 : Tryz.prog.cellsOf 73 = 12 := by kernel_rfl
  have k7 : Tryz.prog.cellsOf 75 = 1 := by kernel_rfl
  have k8 : Tryz.prog.cellsOf 23 = 1 := by kernel_rfl
  have k9 : Tryz.prog.cellsOf 76 = 1 := by kernel_rfl
  have k10 : Tryz.prog.cellsOf 2 = 1 := by kernel_rfl
  have k11 : Tryz.prog.cellsOf 74 = 1 := by kernel_rfl
  match l, hsz.trans k0 with
  | [c0, c1, c2, c3, c4, c5, c6, c7, c8, c9, c10, c11, c12, c13, c14, c15, c16, c17, c18, c19], _ =>
    obtain ⟨fuel, hf⟩ := h
    obtain ⟨xs, n, _, _, _, hlen, hg⟩ := DataW.trod_struct Tryz.underlying78 hf
    match xs, hlen with
    | [y0, y1, y2, y3, y4, y5, y6, y7, y8], _ =>
      have g0 : DataW.trod enc Tryz.prog w 0 (fun _ => true) true n 70 [c0] = some y0 := by simpa [Value.cells, k1, k2, k3, k4, k5, k6, k7, k8, k9, k10, k11] using hg 0 _ rfl
      have g1 : DataW.trod enc Tryz.prog w 0 (fun _ => true) true n 73 [c1, c2, c3, c4, c5, c6, c7, c8, c9, c10, c11, c12] = some y1 := by simpa [Value.cells, k1, k2, k3, k4, k5, k6, k7, k8, k9, k10, k11] using hg 1 _ rfl
      have g2 : DataW.trod enc Tryz.prog w 0 (fun _ => true) true n 23 [c13] = some y2 := by simpa [Value.cells, k1, k2, k3, k4, k5, k6, k7, k8, k9, k10, k11] using hg 2 _ rfl
      have g3 : DataW.trod enc Tryz.prog w 0 (fun _ => true) true n 5 [c14] = some y3 := by simpa [Value.cells, k1, k2, k3, k4, k5, k6, k7, k8, k9, k10, k11] using hg 3 _ rfl
      have g4 : DataW.trod enc Tryz.prog w 0 (fun _ => true) true n 5 [c15] = some y4 := by simpa [Value.cells, k1, k2, k3, k4, k5, k6, k7, k8, k9, k10, k11] using hg 4 _ rfl
      have g5 : DataW.trod enc Tryz.prog w 0 (fun _ => true) true n 74 [c16] = some y5 := by simpa [Value.cells, k1, k2, k3, k4, k5, k6, k7, k8, k9, k10, k11] using hg 5 _ rfl
      have g6 : DataW.trod enc Tryz.prog w 0 (fun _ => true) true n 74 [c17] = some y6 := by simpa [Value.cells, k1, k2, k3, k4, k5, k6, k7, k8, k9, k10, k11] using hg 6 _ rfl
      have g7 : DataW.trod enc Tryz.prog w 0 (fun _ => true) true n 75 [c18] = some y7 := by simpa [Value.cells, k1, k2, k3, k4, k5, k6, k7, k8, k9, k10, k11] using hg 7 _ rfl
      have g8 : DataW.trod enc Tryz.prog w 0 (fun _ => true) true n 76 [c19] = some y8 := by simpa [Value.cells, k1, k2, k3, k4, k5, k6, k7, k8, k9, k10, k11] using hg 8 _ rfl
      obtain ⟨seed, rfl, b2⟩ := trod_int_at17 Tryz.underlying23 g2
      obtain ⟨id, rfl, b3⟩ := trod_int_at17 Tryz.underlying5 g3
      obtain ⟨ahead, rfl, b4⟩ := trod_int_at17 Tryz.underlying5 g4
      obtain ⟨fl, rfl, b5⟩ := trod_int_at17 Tryz.underlying74 g5
      obtain ⟨sq, rfl, b6⟩ := trod_int_at17 Tryz.underlying74 g6
      obtain ⟨A, l, c, zs, rfl, e1, e2, e3, e4⟩ := open_small17s g0
      obtain ⟨P, l3, c3', ps, rfl, p1, p2, p3, p4, p5⟩ := open_bytes19 g7
      obtain ⟨Q, l4, c4', es, rfl, q1, q2, q3, q4⟩ := open_events28 g8
      obtain ⟨us, n1, _, _, _, ulen, hu⟩ := DataW.trod_struct Tryz.underlying73 g1
      match us, ulen with
      | [u0, u1, u2, u3, u4], _ =>
        have x0 : DataW.trod enc Tryz.prog w 0 (fun _ => true) true n1 5 [c1] = some u0 := by simpa [Value.cells, k1, k2, k3, k4, k5, k6, k7, k8, k9, k10, k11] using hu 0 _ rfl
        have x1 : DataW.trod enc Tryz.prog w 0 (fun _ => true) true n1 58 [c2, c3, c4, c5, c6, c7, c8, c9] = some u1 := by simpa [Value.cells, k1, k2, k3, k4, k5, k6, k7, k8, k9, k10, k11] using hu 1 _ rfl
        have x2 : DataW.trod enc Tryz.prog w 0 (fun _ => true) true n1 30 [c10] = some u2 := by simpa [Value.cells, k1, k2, k3, k4, k5, k6, k7, k8, k9, k10, k11] using hu 2 _ rfl
        have x3 : DataW.trod enc Tryz.prog w 0 (fun _ => true) true n1 71 [c11] = some u3 := by simpa [Value.cells, k1, k2, k3, k4, k5, k6, k7, k8, k9, k10, k11] using hu 3 _ rfl
        have x4 : DataW.trod enc Tryz.prog w 0 (fun _ => true) true n1 5 [c12] = some u4 := by simpa [Value.cells, k1, k2, k3, k4, k5, k6, k7, k8, k9, k10, k11] using hu 4 _ rfl
        obtain ⟨a0, rfl, d0⟩ := trod_int_at17 Tryz.underlying5 x0
        obtain ⟨a3, rfl, d3⟩ := trod_int_at17 Tryz.underlying71 x3
        obtain ⟨a4, rfl, d4⟩ := trod_int_at17 Tryz.underlying5 x4
        obtain ⟨B, l2, c2', ys, rfl, f1, f2, f3⟩ := open_words19 x2
        obtain ⟨ts, k, _, _, _, tlen, ht⟩ := DataW.trod_array Tryz.underlying58 x1
        match ts, tlen with
        | [t0, t1, t2, t3, t4, t5, t6, t7], _ =>
          have v0 : DataW.trod enc Tryz.prog w 0 (fun _ => true) true k 2 [c2] = some t0 := by simpa [k10] using ht 0 (by decide)
          obtain ⟨r0, rfl, s0⟩ := trod_int_at17 Tryz.underlying2 v0
          have v1 : DataW.trod enc Tryz.prog w 0 (fun _ => true) true k 2 [c3] = some t1 := by simpa [k10] using ht 1 (by decide)
          obtain ⟨r1, rfl, s1⟩ := trod_int_at17 Tryz.underlying2 v1
          have v2 : DataW.trod enc Tryz.prog w 0 (fun _ => true) true k 2 [c4] = some t2 := by simpa [k10] using ht 2 (by decide)
          obtain ⟨r2, rfl, s2⟩ := trod_int_at17 Tryz.underlying2 v2
          have v3 : DataW.trod enc Tryz.prog w 0 (fun _ => true) true k 2 [c5] = some t3 := by simpa [k10] using ht 3 (by decide)
          obtain ⟨r3, rfl, s3⟩ := trod_int_at17 Tryz.underlying2 v3
          have v4 : DataW.trod enc Tryz.prog w 0 (fun _ => true) true k 2 [c6] = some t4 := by simpa [k10] using ht 4 (by decide)
          obtain ⟨r4, rfl, s4⟩ := trod_int_at17 Tryz.underlying2 v4
          have v5 : DataW.trod enc Tryz.prog w 0 (fun _ => true) true k 2 [c7] = some t5 := by simpa [k10] using ht 5 (by decide)
          obtain ⟨r5, rfl, s5⟩ := trod_int_at17 Tryz.underlying2 v5
          have v6 : DataW.trod enc Tryz.prog w 0 (fun _ => true) true k 2 [c8] = some t6 := by simpa [k10] using ht 6 (by decide)
          obtain ⟨r6, rfl, s6⟩ := trod_int_at17 Tryz.underlying2 v6
          have v7 : DataW.trod enc Tryz.prog w 0 (fun _ => true) true k 2 [c9] = some t7 := by simpa [k10] using ht 7 (by decide)
          obtain ⟨r7, rfl, s7⟩ := trod_int_at17 Tryz.underlying2 v7
          simp [Lit.wf, IntKind.min, IntKind.max, IntKind.signed, IntKind.bits] at b3 b4 b5 b6 d0 d3 d4
          exact ⟨⟨zs, a0, a3, a4, seed, id, ahead, fl, sq, fun j => match j with | 0 => r0 | 1 => r1 | 2 => r2 | 3 => r3 | 4 => r4 | 5 => r5 | 6 => r6 | _ => r7, ys, ps, es⟩, ⟨A, l, c, B, l2, c2', P, l3, c3', Q, l4, c4'⟩, rfl, ⟨e3, d0, d3, d4, b3, b4, b5, b6, p3, q3⟩, ⟨e1, e2, f1, f2, p1, p2, q1, q2, e4, f3, p4, p5, q4⟩⟩
namespace Vm
theorem den_s28 {β : Env} (y : S28) (p1 p2 p3 p4 : Nat) : (SV.agg [.sl 1 2 [] 5 0 y.xs.length (some p1), .agg [.int .u8 y.a, .arr 8 1 (fun q => .int .i64 (y.rg q)), .sl 3 4 [] 1 0 y.cs.length (some p2), .int .u32 y.d, .int .u8 y.sn], .int .u64 y.seed, .int .u8 y.id, .int .u8 y.ahead, .int .u16 y.fuel, .int .u16 y.sq, .sl 5 6 [] 1 0 y.ps.length (some p3), .sl 7 8 [] 3 0 y.es.length (some p4)]).den β = .agg (y.cells ((Vm.SV.sl 1 2 [] 5 0 y.xs.length (some p1)).den β) ((Vm.SV.sl 3 4 [] 1 0 y.cs.length (some p2)).den β) ((Vm.SV.sl 5 6 [] 1 0 y.ps.length (some p3)).den β) ((Vm.SV.sl 7 8 [] 3 0 y.es.length (some p4)).den β)) := by
  rw [den_agg rfl, cl_agg]
  have h8 : (SV.arr 8 1 (fun q => .int .i64 (y.rg q))).cl β = int64s (ls iOf 8 (fun q => .int .i64 (y.rg q))) := by rw [cl_arr', elems_i64 (fun q _ => rfl)]
  simp only [clL_cons, clL_nil, cl_agg, h8]
  rfl
end Vm
theorem mem28 (y : S28) (z : L28) (W : World) (hz : z.ok W y) :
    ∃ β, Vm.Rep W (fun _ => False) β (Vm.hp [.gone, .gone, .ro (.arr y.xs.length 5 (Vm.prS y.xs)), .gone, .ro (.arr y.cs.length 1 (Vm.i64S y.cs)), .gone, .ro (.arr y.ps.length 1 (Vm.u8S y.ps)), .gone, .ro (.arr y.es.length 3 (Vm.esS y.es))]) W ∧ (Vm.SV.agg [.sl 1 2 [] 5 0 y.xs.length (some z.p1), .agg [.int .u8 y.a, .arr 8 1 (fun q => .int .i64 (y.rg q)), .sl 3 4 [] 1 0 y.cs.length (some z.p2), .int .u32 y.d, .int .u8 y.sn], .int .u64 y.seed, .int .u8 y.id, .int .u8 y.ahead, .int .u16 y.fuel, .int .u16 y.sq, .sl 5 6 [] 1 0 y.ps.length (some z.p3), .sl 7 8 [] 3 0 y.es.length (some z.p4)]).den β = z.v y := by
  have hl1 := hz.rA.ins_len
  have hl2 := hz.rB.i64_len
  have hl3 := hz.lC
  have hl4 := es_len hz.rD
  have h1 := hz.h1
  have h2 := hz.h2
  have h3 := hz.h3
  have h4 := hz.h4
  obtain ⟨A, n1, p1, B, n2, p2, C, n3, p3, D, n4, p4⟩ := z
  dsimp only at hl1 hl2 hl3 hl4 h1 h2 h3 h4
  subst hl1 hl2 hl3 hl4
  obtain ⟨z, hzz⟩ : ∃ z : L28, z = ⟨A, y.xs.length, p1, B, y.cs.length, p2, C, y.ps.length, p3, D, y.es.length, p4⟩ := ⟨_, rfl⟩
  rw [← hzz] at hz ⊢
  have e1 : z.n1 = y.xs.length := by rw [hzz]
  have e2 : z.n2 = y.cs.length := by rw [hzz]
  have e3 : z.n3 = y.ps.length := by rw [hzz]
  have e4 : z.n4 = y.es.length := by rw [hzz]
  have h1 := hz.h1
  have h2 := hz.h2
  have h3 := hz.h3
  have h4 := hz.h4
  have rA := hz.rA
  have rB := hz.rB
  have rC := hz.rC
  have rD := hz.rD
  rw [e1] at h1 rA
  rw [e2] at h2 rB
  rw [e3] at h3 rC
  rw [e4] at h4 rD
  obtain ⟨β1, a1, R1, d1⟩ := (Vm.start W).handed (A := z.A) (n := y.xs.length) (cap := z.p1) (k := 5) (f := Vm.prS y.xs) 1 rfl (by rw [Vm.elems_prS]; exact rA) h1 Vm.prS_stable (by omega)
  obtain ⟨β2, a2, R2, d2⟩ := R1.handed (A := z.B) (n := y.cs.length) (cap := z.p2) (k := 1) (f := Vm.i64S y.cs) 3 rfl (by rw [Vm.elems_i64S]; exact rB) h2 Vm.i64S_stable (by omega)
  obtain ⟨β3, a3, R3, d3⟩ := R2.handed (A := z.C) (n := y.ps.length) (cap := z.p3) (k := 1) (f := Vm.u8S y.ps) 5 rfl (by rw [Vm.elems_u8S]; exact rC) h3 Vm.u8S_stable (by omega)
  obtain ⟨β4, a4, R4, d4⟩ := R3.handed (A := z.D) (n := y.es.length) (cap := z.p4) (k := 3) (f := Vm.esS y.es) 7 rfl (by rw [Vm.elems_esS]; exact rD) h4 Vm.esS_stable (by omega)
  have d1_1 : (Vm.SV.sl 1 2 [] 5 0 y.xs.length (some z.p1)).den β2 = .slice z.A y.xs.length z.p1 := by
    rw [← d1]
    exact (Vm.Stable.den (h := Vm.hp [.gone, .gone, .ro (.arr y.xs.length 5 (Vm.prS y.xs))]) a2 (by simp [Vm.Stable, Vm.hp, Vm.HB.born])).symm
  have d1_2 : (Vm.SV.sl 1 2 [] 5 0 y.xs.length (some z.p1)).den β3 = .slice z.A y.xs.length z.p1 := by
    rw [← d1_1]
    exact (Vm.Stable.den (h := Vm.hp [.gone, .gone, .ro (.arr y.xs.length 5 (Vm.prS y.xs)), .gone, .ro (.arr y.cs.length 1 (Vm.i64S y.cs))]) a3 (by simp [Vm.Stable, Vm.hp, Vm.HB.born])).symm
  have d1_3 : (Vm.SV.sl 1 2 [] 5 0 y.xs.length (some z.p1)).den β4 = .slice z.A y.xs.length z.p1 := by
    rw [← d1_2]
    exact (Vm.Stable.den (h := Vm.hp [.gone, .gone, .ro (.arr y.xs.length 5 (Vm.prS y.xs)), .gone, .ro (.arr y.cs.length 1 (Vm.i64S y.cs)), .gone, .ro (.arr y.ps.length 1 (Vm.u8S y.ps))]) a4 (by simp [Vm.Stable, Vm.hp, Vm.HB.born])).symm
  have f1 := d1_3
  have d2_2 : (Vm.SV.sl 3 4 [] 1 0 y.cs.length (some z.p2)).den β3 = .slice z.B y.cs.length z.p2 := by
    rw [← d2]
    exact (Vm.Stable.den (h := Vm.hp [.gone, .gone, .ro (.arr y.xs.length 5 (Vm.prS y.xs)), .gone, .ro (.arr y.cs.length 1 (Vm.i64S y.cs))]) a3 (by simp [Vm.Stable, Vm.hp, Vm.HB.born])).symm
  have d2_3 : (Vm.SV.sl 3 4 [] 1 0 y.cs.length (some z.p2)).den β4 = .slice z.B y.cs.length z.p2 := by
    rw [← d2_2]
    exact (Vm.Stable.den (h := Vm.hp [.gone, .gone, .ro (.arr y.xs.length 5 (Vm.prS y.xs)), .gone, .ro (.arr y.cs.length 1 (Vm.i64S y.cs)), .gone, .ro (.arr y.ps.length 1 (Vm.u8S y.ps))]) a4 (by simp [Vm.Stable, Vm.hp, Vm.HB.born])).symm
  have f2 := d2_3
  have d3_3 : (Vm.SV.sl 5 6 [] 1 0 y.ps.length (some z.p3)).den β4 = .slice z.C y.ps.length z.p3 := by
    rw [← d3]
    exact (Vm.Stable.den (h := Vm.hp [.gone, .gone, .ro (.arr y.xs.length 5 (Vm.prS y.xs)), .gone, .ro (.arr y.cs.length 1 (Vm.i64S y.cs)), .gone, .ro (.arr y.ps.length 1 (Vm.u8S y.ps))]) a4 (by simp [Vm.Stable, Vm.hp, Vm.HB.born])).symm
  have f3 := d3_3
  have f4 := d4
  refine ⟨β4, R4, ?_⟩
  rw [Vm.den_s28 y z.p1 z.p2 z.p3 z.p4, f1, f2, f3, f4]
  unfold L28.v
  rw [e1, e2, e3, e4]
end Go.Proofs.YtjliakjbdcplcaaGreat
end

section
namespace Go.Proofs.YtjliakjbdcplcaaGreat.Vm
end Go.Proofs.YtjliakjbdcplcaaGreat.Vm
end

section
namespace Go.Proofs.YtjliakjbdcplcaaGreat.Vm
open Go.RowKit
set_option linter.unusedVariables false
set_option linter.unusedSimpArgs false
theorem mPorts_no {l : List Int} (h : ∀ x ∈ l, 0 ≤ x) : (mPorts l).any noPort = false := by
  rw [List.any_eq_false]
  intro x hx
  obtain ⟨y, hy, rfl⟩ := List.mem_map.1 hx
  have a := Int.tmod_nonneg 17 (h y hy)
  have b := Int.tmod_lt_of_pos y (show (0 : Int) < 17 by decide)
  unfold noPort isB
  by_cases h0 : y.tmod 17 = 0
  · simp [h0]
  · have e : decide (1 ≤ y.tmod 17 ∧ y.tmod 17 ≤ 16) = true := decide_eq_true (by omega)
    rw [e]; simp
theorem made28_proc (xs : List Ins) {id ahead fuel sq d seed : Int} {cs ps : List Int} (hid : 0 ≤ id) (hah : 0 ≤ ahead) (hf : 0 ≤ fuel) (hsq : 0 ≤ sq ∧ sq ≤ 65535) (hd : 0 ≤ d ∧ d ≤ 4294967295) (hps : ∀ q, 0 ≤ ps.getD q 0 ∧ ps.getD q 0 ≤ 255) :
    procE ⟨seed, 1 + ahead.tmod 5, fuel.tmod 300⟩ ⟨1 + id.tmod 16, made14 xs, cs.take 12, d, sq, mPorts (ps.take 16)⟩ = 0 := by
  have y0 := Int.tmod_nonneg 16 hid
  have y1 := Int.tmod_lt_of_pos id (show (0 : Int) < 16 by decide)
  have y2 := Int.tmod_nonneg 5 hah
  have y3 := Int.tmod_lt_of_pos ahead (show (0 : Int) < 5 by decide)
  have y4 := Int.tmod_nonneg 300 hf
  have y5 := Int.tmod_lt_of_pos fuel (show (0 : Int) < 300 by decide)
  have hr : (⟨seed, 1 + ahead.tmod 5, fuel.tmod 300⟩ : Rul).rightB = true := decide_eq_true (by dsimp only; omega)
  have hp : (⟨1 + id.tmod 16, made14 xs, cs.take 12, d, sq, mPorts (ps.take 16)⟩ : Prc).rightB = true := by
    refine rightB_iff.2 ⟨made14_right xs, by dsimp only; omega, by rw [List.length_take]; omega, hd.1, by dsimp only; omega, hsq.1, by dsimp only; omega, by simp [mPorts]; omega, mPorts_no fun x hx => ?_⟩
    obtain ⟨i, hi, rfl⟩ := List.mem_iff_getElem.1 (List.mem_of_mem_take hx)
    have := (hps i).1
    rwa [List.getD_eq_getElem?_getD, List.getElem?_eq_getElem hi] at this
  unfold procE
  rw [if_neg (by rw [hr]; exact Bool.noConfusion), if_neg (by rw [hp]; exact Bool.noConfusion)]
theorem sentL_getD (p : Prc) (t : Int) : ∀ (l : List Snd) (q : Int) (i : Nat), i < l.length → (sentL p t q l).getD i ⟨0, 0, 0, 0, 0⟩ = ⟨t + (l.getD i ⟨0, 0, 0⟩).delay, p.id, q + (i : Int), p.ports.getD (l.getD i ⟨0, 0, 0⟩).port.toNat 0, (l.getD i ⟨0, 0, 0⟩).value⟩
  | [], _, i, hi => absurd hi (Nat.not_lt_zero i)
  | s :: l, q, 0, _ => by simp [sentL]
  | s :: l, q, i + 1, hi => by
    have := sentL_getD p t l (q + 1) i (by simp at hi; omega)
    simp only [sentL, List.getD_cons_succ, this]
    congr 1
    omega
end Go.Proofs.YtjliakjbdcplcaaGreat.Vm
end

section
namespace Go.Proofs.YtjliakjbdcplcaaGreat.Vm
open Go.RowKit
set_option linter.unusedVariables false
set_option linter.unusedSimpArgs false
end Go.Proofs.YtjliakjbdcplcaaGreat.Vm
end

section
open Go.Proofs.YtjliakjbdcplcaaGreat.Vm Go.RowKit
attribute [local push_cast] runR opG gtmp gval gus opX tmpsOf tm tmO tmP restr look look2 tab tys zs ets eqB eqBL allB numOf ieq Int.cast_ofNat_Int Int.ofNat_zero beq_true beq_false frameOf ev evL ofV opV loadV noW pushF wrsL setH allBorn allGone HB.born HB.isGone HB.val SV.plain dstOk hp nav fitsT SV.size sizeL SV.isAgg TK.size TK.agg bin binE binN binI arN arI cmpN cmpI keq kn narrow callV storeV setp fillV buildV buildSliceV makeV sliceV appendV appendFV slice3V copyV List.isEmpty_nil srcV evO asN ite_t ite_f ite_bool ite_int ite_nat maxV v_beq v_ble v_blt cond_true cond_false List.getElem?_cons_zero List.getElem?_cons_succ List.getD_cons_zero List.getD_cons_succ List.getD_nil List.length_cons List.length_nil List.take_succ_cons List.take_zero List.set_cons_zero List.set_cons_succ List.cons_append List.nil_append List.append_assoc List.replicate_succ List.replicate_zero Nat.zero_add Nat.add_zero decide_true decide_false Bool.true_and Bool.and_true Bool.false_and Bool.and_false Bool.true_or Bool.or_true Bool.false_or Bool.or_false beq_self_eq_true Bool.or_self Nat.lt_irrefl Nat.not_lt_zero Nat.le_refl Option.getD_some Option.getD_none BEq.rfl Bool.not_true Bool.not_false Bool.cond_true_left Bool.cond_false_right
section
namespace Go.Proofs.YtjliakjbdcplcaaGreat.Vm
open Go.RowKit
set_option linter.unusedVariables false
set_option linter.unusedSimpArgs false
set_option maxRecDepth 100000
set_option maxHeartbeats 4000000
theorem smEvt_lit (xs ys : List Evt) (p1 p2 : Nat) (hx : xs.length ≤ 281474976710656) : LitOk Tryz.prog 107 [.sl 1 2 [] 5 0 xs.length (some p1), .sl 3 4 [] 5 0 ys.length (some p2)] [.gone, .gone, .ro (.arr xs.length 5 (evtsS xs)), .gone, .ro (.arr ys.length 5 (evtsS ys))] (.bool (eqL xs ys)) [.gone] := by
  refine litOkM (fn := Tryz.f107) 5 26 0 rfl rfl rfl rfl rfl (by simp only [StableL, Stable, hp]; simp [HB.born]) rfl fun w0 M E hro => ?_
  repeat' (first | refine Ctl.h ?_ | ((with_reducible intro hif); first | (focus (cases hif; done)) | (simp only [JH] at hif; try (exfalso; omega)) | (try (exfalso; omega))) | ((first | ((with_reducible apply J22 c1_ok tab_ok); (· rfl)) | ((with_reducible apply J23 fol c1_ok tab_ok); (· rfl)) | with_reducible apply J24); (· exact Vm.b14); (try kernel_rfl); (try exact Vm.b13)) | fail)
  · have hne : xs ≠ ys := fun e => hif (by rw [e])
    apply At.endsRet tab_ok (fn := Tryz.f107) (rs := [.tmp 4]) Anc.refl hro (Nat.le_of_ble_eq_true rfl) rfl
    · exact Vm.b6
    · exact Vm.b7
    · exact Vm.b8
    · rfl
    · exact Vm.b26
    · exact Vm.b10
    · rw [eqL_false hne]; exact fun β => rfl
    · exact Vm.b26
  · refine WF.loopAt (fun j => j ≤ xs.length ∧ ∀ q, q < j → xs.getD q ⟨0, 0, 0, 0, 0⟩ = ys.getD q ⟨0, 0, 0, 0, 0⟩) (fun j => [(0, .sl 1 2 [] 5 0 xs.length (some p1)), (1, .sl 3 4 [] 5 0 ys.length (some p2)), (12, .nat .i64 xs.length), (13, .nat .i64 j)]) (fun j => [.gone, .gone, .ro (.arr xs.length 5 (evtsS xs)), .gone, .ro (.arr ys.length 5 (evtsS ys))]) (fun j => xs.length - j) 0 ⟨Nat.zero_le _, fun q hq => absurd hq (Nat.not_lt_zero q)⟩ ?_ ?_ rfl ?_ ?_ rfl ?_
    · exact Vm.b11
    · exact Vm.b8
    · exact Vm.b26
    · exact Vm.b26
    have hlen := hif
    rintro j ⟨hj, heq⟩
    repeat' (first | refine Ctl.h ?_ | ((with_reducible intro hif); first | (focus (cases hif; done)) | (simp only [JH] at hif; try (exfalso; omega)) | (try (exfalso; omega))) | ((first | ((with_reducible apply J22 c1_ok tab_ok); (· rfl)) | ((with_reducible apply J23 fol c1_ok tab_ok); (· rfl)) | with_reducible apply J24); (· exact Vm.b78); (try kernel_rfl); (try exact Vm.b15)) | fail)
    · have hne : xs ≠ ys := by rintro rfl; simp at hif
      apply At.endsRet tab_ok (fn := Tryz.f107) (rs := [.tmp 4]) Anc.refl hro (Nat.le_of_ble_eq_true rfl) rfl
      · exact Vm.b6
      · exact Vm.b7
      · exact Vm.b8
      · rfl
      · exact Vm.b26
      · exact Vm.b10
      · rw [eqL_false hne]; exact fun β => rfl
      · exact Vm.b26
    · have hq : xs.getD j ⟨0, 0, 0, 0, 0⟩ = ys.getD j ⟨0, 0, 0, 0, 0⟩ := evt_ext (of_decide_eq_true hif.1.1) (of_decide_eq_true hif.1.2.1) (of_decide_eq_true hif.1.2.2) (of_decide_eq_true hif.2.1) (of_decide_eq_true hif.2.2)
      refine At.next (j + 1) ?_ ?_ ?_ rfl ?_ ?_ rfl
      · exact Vm.b12
      · exact Vm.b11
      · exact Vm.b8
      · exact Vm.b26
      · exact Vm.b26
    · have hjn : j = xs.length := by omega
      subst hjn
      have he : xs = ys := ext_getD ⟨0, 0, 0, 0, 0⟩ hlen heq
      apply At.endsRet tab_ok (fn := Tryz.f107) (rs := [.tmp 4]) Anc.refl hro (Nat.le_of_ble_eq_true rfl) rfl
      · exact Vm.b6
      · exact Vm.b7
      · exact Vm.b8
      · rfl
      · exact Vm.b26
      · exact Vm.b10
      · rw [eqL_true he]; exact fun β => rfl
      · exact Vm.b26
def sSmEvt : Spec := fun args h m => match args with
  | [v1, v2] => match srcV h 5 (.tup []) v1, srcV h 5 (.tup []) v2 with
    | some (c1, n1, f1, r1), some (c2, n2, f2, r2) => some (c1 ∧ c2 ∧ (∀ q, q < n1 → isEvt (f1 q) = true) ∧ (∀ q, q < n2 → isEvt (f2 q) = true) ∧ ((ls evtOf n1 f1).length ≤ 281474976710656), .bool (eqL (ls evtOf n1 f1) (ls evtOf n2 f2)), r1 ++ r2, [])
    | _, _ => none
  | _ => none
theorem sSmEvt_ok : CallOk Tryz.prog 107 sSmEvt := by
  refine ⟨named_spec (by kernel_rfl), fun args h m c v rd wr hs hm hc w0 M β h' w R hrd hwr hst => ?_⟩
  unfold sSmEvt at hs
  split at hs
  · rename_i v1 v2
    split at hs
    · rename_i c1 n1 f1 r1 c2 n2 f2 r2 a1 a2
      simp only [Option.some.injEq, Prod.mk.injEq] at hs
      obtain ⟨rfl, rfl, rfl, rfl⟩ := hs
      obtain ⟨k1, k2, g1, g2, y1⟩ := hc
      obtain ⟨A1, p1, d1, e1, t1⟩ := reads_src R a1 k1 (fun i hi => hrd i (List.mem_append_left _ hi)) (by omega)
      obtain ⟨A2, p2, d2, e2, t2⟩ := reads_src R a2 k2 (fun i hi => hrd i (List.mem_append_right _ hi)) (by omega)
      refine callRo (views := [⟨5, (ls evtOf n1 f1).length, evtsS (ls evtOf n1 f1), A1, p1⟩, ⟨5, (ls evtOf n2 f2).length, evtsS (ls evtOf n2 f2), A2, p2⟩]) (smEvt_lit (ls evtOf n1 f1) (ls evtOf n2 f2) p1 p2 y1) ?_ R hm hwr ?_ ?_ ?_
      · intro x hx
        simp only [List.mem_cons, List.not_mem_nil, or_false] at hx
        rcases hx with rfl | rfl
        · exact viewEvt t1 e1 g1
        · exact viewEvt t2 e2 g2
      · intro β1 hv
        simp only [Vd, ls_length, and_true] at hv
        obtain ⟨z1, z2⟩ := hv
        simp only [denL, aggDen, intDen, natDen, boolDen, ls_length, z1, z2, d1, d2]
      · exact Vm.b26
      · exact Vm.b26
    · cases hs
  · cases hs
end Go.Proofs.YtjliakjbdcplcaaGreat.Vm
end

section
namespace Go.Proofs.YtjliakjbdcplcaaGreat.Vm
open Go.RowKit
attribute [local push_cast] runR opG gtmp gval gus opX tmpsOf tm tmO tmP restr look look2 tab tys zs ets eqB eqBL allB numOf ieq Int.cast_ofNat_Int Int.ofNat_zero beq_true beq_false frameOf ev evL ofV opV loadV noW pushF wrsL setH allBorn allGone HB.born HB.isGone HB.val SV.plain dstOk hp nav fitsT SV.size sizeL SV.isAgg TK.size TK.agg bin binE binN binI arN arI cmpN cmpI keq kn narrow callV storeV setp fillV buildV buildSliceV makeV sliceV appendV appendFV slice3V copyV List.isEmpty_nil srcV evO asN ite_t ite_f ite_bool ite_int ite_nat maxV v_beq v_ble v_blt cond_true cond_false List.getElem?_cons_zero List.getElem?_cons_succ List.getD_cons_zero List.getD_cons_succ List.getD_nil List.length_cons List.length_nil List.take_succ_cons List.take_zero List.set_cons_zero List.set_cons_succ List.cons_append List.nil_append List.append_assoc List.replicate_succ List.replicate_zero Nat.zero_add Nat.add_zero decide_true decide_false Bool.true_and Bool.and_true Bool.false_and Bool.and_false Bool.true_or Bool.or_true Bool.false_or Bool.or_false beq_self_eq_true Bool.or_self Nat.lt_irrefl Nat.not_lt_zero Nat.le_refl Option.getD_some Option.getD_none BEq.rfl Bool.not_true Bool.not_false Bool.cond_true_left Bool.cond_false_right prS sndsS i64S nav_ins nav_ins0 nav_ins1 nav_ins2 nav_ins3 nav_ins4 nav_snd nav_snd0 nav_snd1 nav_snd2 isIns_insS insOf_insS isSnd_sndS sndOf_sndS isI_int isI_nat iOf
set_option linter.unusedVariables false
set_option linter.unusedSimpArgs false
set_option maxRecDepth 100000
set_option maxHeartbeats 4000000
def sAllB (i : Nat) : Spec := fun args h m => match args with
  | [.agg [v1, v2, v3], .agg [v4, v5, v6, v7, v8, v9], v10] => match srcV h 5 (.tup []) v5, srcV h 1 (.tup []) v6, srcV h 1 (.tup []) v9, srcV h 5 (.tup []) v10 with
    | some (c5, n5, f5, r5), some (c6, n6, f6, r6), some (c9, n9, f9, r9), some (c10, n10, f10, r10) => bif isI .u64 v1 && isI .i64 v2 && isI .i64 v3 && isI .i64 v4 && isI .i64 v7 && isI .i64 v8 then some (c5 ∧ c6 ∧ c9 ∧ c10 ∧ (∀ q, q < n5 → isIns (f5 q) = true) ∧ (∀ q, q < n6 → isI .i64 (f6 q) = true) ∧ (∀ q, q < n9 → isI .i64 (f9 q) = true) ∧ (∀ q, q < n10 → isEvt (f10 q) = true) ∧ ((∀ x ∈ (ls insOf n5 f5), x.ok)) ∧ (n5 ≤ 1000000) ∧ (n6 ≤ 1000000) ∧ (n9 ≤ 1000000) ∧ (n10 ≤ 200) ∧ (i < (ls evtOf n10 f10).length) ∧ (procE ⟨(iOf v1), (iOf v2), (iOf v3)⟩ ⟨(iOf v4), (ls insOf n5 f5), (ls iOf n6 f6), (iOf v7), (iOf v8), (ls iOf n9 f9)⟩ = 0) ∧ ((∀ q, q < i → badAt ⟨(iOf v4), (ls insOf n5 f5), (ls iOf n6 f6), (iOf v7), (iOf v8), (ls iOf n9 f9)⟩ (ls evtOf n10 f10) q = 0)) ∧ (badAt ⟨(iOf v4), (ls insOf n5 f5), (ls iOf n6 f6), (iOf v7), (iOf v8), (ls iOf n9 f9)⟩ (ls evtOf n10 f10) i ≠ 0), .tup [dn0, .nat .i64 i, .int .i64 (badAt ⟨(iOf v4), (ls insOf n5 f5), (ls iOf n6 f6), (iOf v7), (iOf v8), (ls iOf n9 f9)⟩ (ls evtOf n10 f10) i)], r5 ++ r6 ++ r9 ++ r10, []) else none
    | _, _, _, _ => none
  | _ => none
theorem sAllB_ok (i : Nat) : CallOk Tryz.prog 24 (sAllB i) := by
  refine ⟨named_spec (by kernel_rfl), fun args h m c v rd wr hs hm hc w0 M β h' w R hrd hwr hst => ?_⟩
  unfold sAllB at hs
  split at hs
  · rename_i v1 v2 v3 v4 v5 v6 v7 v8 v9 v10
    split at hs
    · rename_i c5 n5 f5 r5 c6 n6 f6 r6 c9 n9 f9 r9 c10 n10 f10 r10 a5 a6 a9 a10
      obtain ⟨hb, hs⟩ := bif_some hs
      simp only [Option.some.injEq, Prod.mk.injEq] at hs
      obtain ⟨rfl, rfl, rfl, rfl⟩ := hs
      simp only [Bool.and_eq_true] at hb
      obtain ⟨⟨⟨⟨⟨b1, b2⟩, b3⟩, b4⟩, b7⟩, b8⟩ := hb
      obtain ⟨k5, k6, k9, k10, g5, g6, g9, g10, y1, y2, y3, y4, y5, y6, y7, y8, y9⟩ := hc
      obtain ⟨A5, p5, d5, e5, t5⟩ := reads_src R a5 k5 (fun i hi => hrd i (List.mem_append_left _ (List.mem_append_left _ (List.mem_append_left _ hi)))) (by omega)
      obtain ⟨A6, p6, d6, e6, t6⟩ := reads_src R a6 k6 (fun i hi => hrd i (List.mem_append_left _ (List.mem_append_left _ (List.mem_append_right _ hi)))) (by omega)
      obtain ⟨A9, p9, d9, e9, t9⟩ := reads_src R a9 k9 (fun i hi => hrd i (List.mem_append_left _ (List.mem_append_right _ hi))) (by omega)
      obtain ⟨A10, p10, d10, e10, t10⟩ := reads_src R a10 k10 (fun i hi => hrd i (List.mem_append_right _ hi)) (by omega)
      refine callRo (views := [⟨5, (ls insOf n5 f5).length, prS (ls insOf n5 f5), A5, p5⟩, ⟨1, (ls iOf n6 f6).length, i64S (ls iOf n6 f6), A6, p6⟩, ⟨1, (ls iOf n9 f9).length, i64S (ls iOf n9 f9), A9, p9⟩, ⟨5, (ls evtOf n10 f10).length, evtsS (ls evtOf n10 f10), A10, p10⟩]) (all_bad ⟨(iOf v1), (iOf v2), (iOf v3)⟩ ⟨(iOf v4), (ls insOf n5 f5), (ls iOf n6 f6), (iOf v7), (iOf v8), (ls iOf n9 f9)⟩ (ls evtOf n10 f10) p5 p6 p9 p10 y1 (by rw [ls_length]; exact y2) (by rw [ls_length]; exact y3) (by rw [ls_length]; exact y4) (by rw [ls_length]; exact y5) i y6 y7 y8 y9) ?_ R hm hwr ?_ ?_ ?_
      · intro x hx
        simp only [List.mem_cons, List.not_mem_nil, or_false] at hx
        rcases hx with rfl | rfl | rfl | rfl
        · exact viewIns t5 e5 g5
        · exact viewI64 t6 e6 g6
        · exact viewI64 t9 e9 g9
        · exact viewEvt t10 e10 g10
      · intro β1 hv
        simp only [Vd, ls_length, and_true] at hv
        obtain ⟨z5, z6, z9, z10⟩ := hv
        simp only [denL, aggDen, intDen, natDen, boolDen, ls_length, z5, z6, z9, z10, d5, d6, d9, d10, isI_den b1, isI_den b2, isI_den b3, isI_den b4, isI_den b7, isI_den b8]
      · exact Vm.b105
      · exact Vm.b105
    · cases hs
  · cases hs
def sAllF (i : Nat) : Spec := fun args h m => match args with
  | [.agg [v1, v2, v3], .agg [v4, v5, v6, v7, v8, v9], v10] => match srcV h 5 (.tup []) v5, srcV h 1 (.tup []) v6, srcV h 1 (.tup []) v9, srcV h 5 (.tup []) v10 with
    | some (c5, n5, f5, r5), some (c6, n6, f6, r6), some (c9, n9, f9, r9), some (c10, n10, f10, r10) => bif isI .u64 v1 && isI .i64 v2 && isI .i64 v3 && isI .i64 v4 && isI .i64 v7 && isI .i64 v8 then some (c5 ∧ c6 ∧ c9 ∧ c10 ∧ (∀ q, q < n5 → isIns (f5 q) = true) ∧ (∀ q, q < n6 → isI .i64 (f6 q) = true) ∧ (∀ q, q < n9 → isI .i64 (f9 q) = true) ∧ (∀ q, q < n10 → isEvt (f10 q) = true) ∧ ((∀ x ∈ (ls insOf n5 f5), x.ok)) ∧ (n5 ≤ 1000000) ∧ (n6 ≤ 1000000) ∧ (n9 ≤ 1000000) ∧ (n10 ≤ 200) ∧ (i < (ls evtOf n10 f10).length) ∧ (procE ⟨(iOf v1), (iOf v2), (iOf v3)⟩ ⟨(iOf v4), (ls insOf n5 f5), (ls iOf n6 f6), (iOf v7), (iOf v8), (ls iOf n9 f9)⟩ = 0) ∧ ((∀ q, q < (ls evtOf n10 f10).length → badAt ⟨(iOf v4), (ls insOf n5 f5), (ls iOf n6 f6), (iOf v7), (iOf v8), (ls iOf n9 f9)⟩ (ls evtOf n10 f10) q = 0)) ∧ (AllK ⟨(iOf v1), (iOf v2), (iOf v3)⟩ ⟨⟨(iOf v4), (ls insOf n5 f5), (ls iOf n6 f6), (iOf v7), (iOf v8), (ls iOf n9 f9)⟩, [], 0⟩ (ls evtOf n10 f10) i) ∧ (hE ⟨(iOf v1), (iOf v2), (iOf v3)⟩ (foldD ⟨(iOf v1), (iOf v2), (iOf v3)⟩ ⟨⟨(iOf v4), (ls insOf n5 f5), (ls iOf n6 f6), (iOf v7), (iOf v8), (ls iOf n9 f9)⟩, [], 0⟩ ((ls evtOf n10 f10).take i)).p ((ls evtOf n10 f10).getD i ⟨0, 0, 0, 0, 0⟩) ≠ 0), .tup [dn0, .nat .i64 i, .int .i64 (hE ⟨(iOf v1), (iOf v2), (iOf v3)⟩ (foldD ⟨(iOf v1), (iOf v2), (iOf v3)⟩ ⟨⟨(iOf v4), (ls insOf n5 f5), (ls iOf n6 f6), (iOf v7), (iOf v8), (ls iOf n9 f9)⟩, [], 0⟩ ((ls evtOf n10 f10).take i)).p ((ls evtOf n10 f10).getD i ⟨0, 0, 0, 0, 0⟩))], r5 ++ r6 ++ r9 ++ r10, []) else none
    | _, _, _, _ => none
  | _ => none
theorem sAllF_ok (i : Nat) : CallOk Tryz.prog 24 (sAllF i) := by
  refine ⟨named_spec (by kernel_rfl), fun args h m c v rd wr hs hm hc w0 M β h' w R hrd hwr hst => ?_⟩
  unfold sAllF at hs
  split at hs
  · rename_i v1 v2 v3 v4 v5 v6 v7 v8 v9 v10
    split at hs
    · rename_i c5 n5 f5 r5 c6 n6 f6 r6 c9 n9 f9 r9 c10 n10 f10 r10 a5 a6 a9 a10
      obtain ⟨hb, hs⟩ := bif_some hs
      simp only [Option.some.injEq, Prod.mk.injEq] at hs
      obtain ⟨rfl, rfl, rfl, rfl⟩ := hs
      simp only [Bool.and_eq_true] at hb
      obtain ⟨⟨⟨⟨⟨b1, b2⟩, b3⟩, b4⟩, b7⟩, b8⟩ := hb
      obtain ⟨k5, k6, k9, k10, g5, g6, g9, g10, y1, y2, y3, y4, y5, y6, y7, y8, y9, y10⟩ := hc
      obtain ⟨A5, p5, d5, e5, t5⟩ := reads_src R a5 k5 (fun i hi => hrd i (List.mem_append_left _ (List.mem_append_left _ (List.mem_append_left _ hi)))) (by omega)
      obtain ⟨A6, p6, d6, e6, t6⟩ := reads_src R a6 k6 (fun i hi => hrd i (List.mem_append_left _ (List.mem_append_left _ (List.mem_append_right _ hi)))) (by omega)
      obtain ⟨A9, p9, d9, e9, t9⟩ := reads_src R a9 k9 (fun i hi => hrd i (List.mem_append_left _ (List.mem_append_right _ hi))) (by omega)
      obtain ⟨A10, p10, d10, e10, t10⟩ := reads_src R a10 k10 (fun i hi => hrd i (List.mem_append_right _ hi)) (by omega)
      refine callRo (views := [⟨5, (ls insOf n5 f5).length, prS (ls insOf n5 f5), A5, p5⟩, ⟨1, (ls iOf n6 f6).length, i64S (ls iOf n6 f6), A6, p6⟩, ⟨1, (ls iOf n9 f9).length, i64S (ls iOf n9 f9), A9, p9⟩, ⟨5, (ls evtOf n10 f10).length, evtsS (ls evtOf n10 f10), A10, p10⟩]) (all_fail ⟨(iOf v1), (iOf v2), (iOf v3)⟩ ⟨(iOf v4), (ls insOf n5 f5), (ls iOf n6 f6), (iOf v7), (iOf v8), (ls iOf n9 f9)⟩ (ls evtOf n10 f10) p5 p6 p9 p10 y1 (by rw [ls_length]; exact y2) (by rw [ls_length]; exact y3) (by rw [ls_length]; exact y4) (by rw [ls_length]; exact y5) y7 y8 i y6 y9 y10) ?_ R hm hwr ?_ ?_ ?_
      · intro x hx
        simp only [List.mem_cons, List.not_mem_nil, or_false] at hx
        rcases hx with rfl | rfl | rfl | rfl
        · exact viewIns t5 e5 g5
        · exact viewI64 t6 e6 g6
        · exact viewI64 t9 e9 g9
        · exact viewEvt t10 e10 g10
      · intro β1 hv
        simp only [Vd, ls_length, and_true] at hv
        obtain ⟨z5, z6, z9, z10⟩ := hv
        simp only [denL, aggDen, intDen, natDen, boolDen, ls_length, z5, z6, z9, z10, d5, d6, d9, d10, isI_den b1, isI_den b2, isI_den b3, isI_den b4, isI_den b7, isI_den b8]
      · exact Vm.b105
      · exact Vm.b105
    · cases hs
  · cases hs
def sAllG : Spec := fun args h m => match args with
  | [.agg [v1, v2, v3], .agg [v4, v5, v6, v7, v8, v9], v10] => match srcV h 5 (.tup []) v5, srcV h 1 (.tup []) v6, srcV h 1 (.tup []) v9, srcV h 5 (.tup []) v10 with
    | some (c5, n5, f5, r5), some (c6, n6, f6, r6), some (c9, n9, f9, r9), some (c10, n10, f10, r10) => bif isI .u64 v1 && isI .i64 v2 && isI .i64 v3 && isI .i64 v4 && isI .i64 v7 && isI .i64 v8 then some (c5 ∧ c6 ∧ c9 ∧ c10 ∧ (∀ q, q < n5 → isIns (f5 q) = true) ∧ (∀ q, q < n6 → isI .i64 (f6 q) = true) ∧ (∀ q, q < n9 → isI .i64 (f9 q) = true) ∧ (∀ q, q < n10 → isEvt (f10 q) = true) ∧ ((∀ x ∈ (ls insOf n5 f5), x.ok)) ∧ (n5 ≤ 1000000) ∧ (n6 ≤ 1000000) ∧ (n9 ≤ 1000000) ∧ (n10 ≤ 200) ∧ (procE ⟨(iOf v1), (iOf v2), (iOf v3)⟩ ⟨(iOf v4), (ls insOf n5 f5), (ls iOf n6 f6), (iOf v7), (iOf v8), (ls iOf n9 f9)⟩ = 0) ∧ ((∀ q, q < (ls evtOf n10 f10).length → badAt ⟨(iOf v4), (ls insOf n5 f5), (ls iOf n6 f6), (iOf v7), (iOf v8), (ls iOf n9 f9)⟩ (ls evtOf n10 f10) q = 0)) ∧ (AllK ⟨(iOf v1), (iOf v2), (iOf v3)⟩ ⟨⟨(iOf v4), (ls insOf n5 f5), (ls iOf n6 f6), (iOf v7), (iOf v8), (ls iOf n9 f9)⟩, [], 0⟩ (ls evtOf n10 f10) (ls evtOf n10 f10).length), .tup [dnS (foldD ⟨(iOf v1), (iOf v2), (iOf v3)⟩ ⟨⟨(iOf v4), (ls insOf n5 f5), (ls iOf n6 f6), (iOf v7), (iOf v8), (ls iOf n9 f9)⟩, [], 0⟩ (ls evtOf n10 f10)) m (m + 1) (m + 2) (m + 3), .int .i64 (-1), .int .i64 0], r5 ++ r6 ++ r9 ++ r10, [(m, prO (foldD ⟨(iOf v1), (iOf v2), (iOf v3)⟩ ⟨⟨(iOf v4), (ls insOf n5 f5), (ls iOf n6 f6), (iOf v7), (iOf v8), (ls iOf n9 f9)⟩, [], 0⟩ (ls evtOf n10 f10)).p.P), (m + 1, i64O (foldD ⟨(iOf v1), (iOf v2), (iOf v3)⟩ ⟨⟨(iOf v4), (ls insOf n5 f5), (ls iOf n6 f6), (iOf v7), (iOf v8), (ls iOf n9 f9)⟩, [], 0⟩ (ls evtOf n10 f10)).p.cells), (m + 2, inO (foldD ⟨(iOf v1), (iOf v2), (iOf v3)⟩ ⟨⟨(iOf v4), (ls insOf n5 f5), (ls iOf n6 f6), (iOf v7), (iOf v8), (ls iOf n9 f9)⟩, [], 0⟩ (ls evtOf n10 f10)).p.ports), (m + 3, evO_ (foldD ⟨(iOf v1), (iOf v2), (iOf v3)⟩ ⟨⟨(iOf v4), (ls insOf n5 f5), (ls iOf n6 f6), (iOf v7), (iOf v8), (ls iOf n9 f9)⟩, [], 0⟩ (ls evtOf n10 f10)).sent)]) else none
    | _, _, _, _ => none
  | _ => none
theorem sAllG_ok : CallOk Tryz.prog 24 sAllG := by
  refine ⟨named_spec (by kernel_rfl), fun args h m c v rd wr hs hm hc w0 M β h' w R hrd hwr hst => ?_⟩
  unfold sAllG at hs
  split at hs
  · rename_i v1 v2 v3 v4 v5 v6 v7 v8 v9 v10
    split at hs
    · rename_i c5 n5 f5 r5 c6 n6 f6 r6 c9 n9 f9 r9 c10 n10 f10 r10 a5 a6 a9 a10
      obtain ⟨hb, hs⟩ := bif_some hs
      simp only [Option.some.injEq, Prod.mk.injEq] at hs
      obtain ⟨rfl, rfl, rfl, rfl⟩ := hs
      simp only [Bool.and_eq_true] at hb
      obtain ⟨⟨⟨⟨⟨b1, b2⟩, b3⟩, b4⟩, b7⟩, b8⟩ := hb
      obtain ⟨k5, k6, k9, k10, g5, g6, g9, g10, y1, y2, y3, y4, y5, y6, y7, y8⟩ := hc
      obtain ⟨A5, p5, d5, e5, t5⟩ := reads_src R a5 k5 (fun i hi => hrd i (List.mem_append_left _ (List.mem_append_left _ (List.mem_append_left _ hi)))) (by omega)
      obtain ⟨A6, p6, d6, e6, t6⟩ := reads_src R a6 k6 (fun i hi => hrd i (List.mem_append_left _ (List.mem_append_left _ (List.mem_append_right _ hi)))) (by omega)
      obtain ⟨A9, p9, d9, e9, t9⟩ := reads_src R a9 k9 (fun i hi => hrd i (List.mem_append_left _ (List.mem_append_right _ hi))) (by omega)
      obtain ⟨A10, p10, d10, e10, t10⟩ := reads_src R a10 k10 (fun i hi => hrd i (List.mem_append_right _ hi)) (by omega)
      refine callRo (views := [⟨5, (ls insOf n5 f5).length, prS (ls insOf n5 f5), A5, p5⟩, ⟨1, (ls iOf n6 f6).length, i64S (ls iOf n6 f6), A6, p6⟩, ⟨1, (ls iOf n9 f9).length, i64S (ls iOf n9 f9), A9, p9⟩, ⟨5, (ls evtOf n10 f10).length, evtsS (ls evtOf n10 f10), A10, p10⟩]) (all_ok ⟨(iOf v1), (iOf v2), (iOf v3)⟩ ⟨(iOf v4), (ls insOf n5 f5), (ls iOf n6 f6), (iOf v7), (iOf v8), (ls iOf n9 f9)⟩ (ls evtOf n10 f10) p5 p6 p9 p10 y1 (by rw [ls_length]; exact y2) (by rw [ls_length]; exact y3) (by rw [ls_length]; exact y4) (by rw [ls_length]; exact y5) y6 y7 y8) ?_ R hm hwr ?_ ?_ ?_
      · intro x hx
        simp only [List.mem_cons, List.not_mem_nil, or_false] at hx
        rcases hx with rfl | rfl | rfl | rfl
        · exact viewIns t5 e5 g5
        · exact viewI64 t6 e6 g6
        · exact viewI64 t9 e9 g9
        · exact viewEvt t10 e10 g10
      · intro β1 hv
        simp only [Vd, ls_length, and_true] at hv
        obtain ⟨z5, z6, z9, z10⟩ := hv
        simp only [denL, aggDen, intDen, natDen, boolDen, ls_length, z5, z6, z9, z10, d5, d6, d9, d10, isI_den b1, isI_den b2, isI_den b3, isI_den b4, isI_den b7, isI_den b8]
      · exact Vm.b105
      · exact Vm.b105
    · cases hs
  · cases hs
def cNw28 : FuncId → Option Spec := look2 [(34, sClI), (54, sClN), (80, sPRight)]
theorem cNw28_ok : ∀ f S, cNw28 f = some S → CallOk Tryz.prog f S := allOk_spec ⟨sClI_ok, sClN_ok, sPRight_ok, trivial⟩
def newP (id : Int) (P : List Ins) (c : Nat) (ps : List Int) : Prc := ⟨id, P, List.replicate c 0, 0, 0, ps⟩
def pc0 : SV := .agg [.nat .i64 0, .sl 0 0 [] 0 0 0 (some 0), .sl 0 0 [] 0 0 0 (some 0), .nat .i64 0, .nat .i64 0, .sl 0 0 [] 0 0 0 (some 0)]
theorem ls_zero_rep (n : Nat) : ls iOf n (fun _ => SV.nat .i64 0) = List.replicate n 0 := by
  unfold ls
  simp [iOf, List.map_const']
theorem less_rep {t n : Nat} {σ : Nat → Nat} : Less (.own t (.arr n 1 fun _ => .nat .i64 0) false) ((HB.own t (.arr (List.replicate n (0 : Int)).length 1 (i64S (List.replicate n 0))) false).ren σ) := by
  rw [List.length_replicate]
  have e : (HB.own t (.arr n 1 (i64S (List.replicate n 0))) false).ren σ = .own t (.arr n 1 (i64S (List.replicate n 0))) false := rfl
  rw [e]
  exact .val (fun β => arrCl fun q hq => by
      unfold i64S
      rw [List.getD_eq_getElem?_getD, List.getElem?_eq_getElem (by simpa using hq)]
      simp; rfl) (fun n1 k1 f1 e => by injection e with e1 e2 e3; subst e1 e2; exact ⟨_, rfl⟩) (fun n1 k1 f1 e => by injection e with e1 e2 e3; subst e1 e2; exact ⟨_, rfl⟩)
theorem new_ok (id : Int) (c : Nat) (P : List Ins) (ps : List Int) (p1 p2 : Nat) (hok : ∀ x ∈ P, x.ok) (hn : P.length ≤ 1000000) (hpo : ps.length ≤ 1000000) (c1 : c ≤ 1024) (hr : (newP id P c ps).rightB = true) : LitOk Tryz.prog 55 [.int .i64 id, .sl 1 2 [] 5 0 P.length (some p1), .nat .i64 c, .sl 3 4 [] 1 0 ps.length (some p2)] [.gone, .gone, .ro (.arr P.length 5 (prS P)), .gone, .ro (.arr ps.length 1 (i64S ps))] (.tup [pcS (newP id P c ps) 5 6 7, .int .i64 0]) [.gone, .gone, .gone, .gone, .gone, prO P, i64O (newP id P c ps).cells, inO ps] := by
  have h2 : ¬ 1024 < c := by omega
  have hr' : Prc.rightB ⟨id, P, List.replicate c 0, 0, 0, ps⟩ = true := hr
  refine litOkM (fn := Tryz.f55) 5 31 0 rfl rfl rfl rfl rfl (by simp only [StableL, Stable, hp, pcS, dnB, DnI.at_, dnS, dnR, i64S, prS, insS, sndsS, sndS, evtsS, evtS, prO, i64O, inO, evO_, cB, sB, HB.stable]; simp [HB.born]) rfl fun w0 M E hro => ?_
  repeat' (first | refine Ctl.h ?_ | ((with_reducible intro hif); first | (focus (cases hif; done)) | (simp only [JH] at hif; try (exfalso; omega)) | (try (exfalso; omega))) | ((first | ((with_reducible apply J22 cNw28_ok tab_ok); (· rfl)) | ((with_reducible apply J23 fol cNw28_ok tab_ok); (· rfl)) | with_reducible apply J24); (· (simp only [push_cast, ↓JP, Nat.reduceAdd, Nat.reduceEqDiff, Nat.reduceLT, Nat.reduceMul, Nat.reduceLeDiff, reduceCtorEq, reduceIte, ↓JK, JE, prc_eta, cNw28, sClI, sClN, sPRight, inR, inN, ls_zero_rep, prO, i64O, inO, pc0, h2, hr']; rfl)); (try kernel_rfl); (try (focus (first | exact True.intro | ((try simp only [JS, implies_true, forall_const, shaped, shapedL, kndOf, ls_prS, ls_prS', ls_i64S', ls_i64S, ls_length, prc_eta, iOf]); (repeat' (first | exact True.intro | assumption | omega | apply And.intro | rfl | decide | intro _)); done) | ((try simp only [JS, implies_true, forall_const, shaped, shapedL, kndOf, inR, inN]); (repeat' (first | assumption | exact True.intro | omega | apply And.intro)); done))))) | fail)
  refine At.put 7 (.own 2 (.arr c 1 fun _ => .nat .i64 0) false) .loose (fun q => trivial) rfl rfl ?_
  simp only [setH]
  apply At.endsPick [0, 1, 2, 3, 4, 6, 7, 8] tab_ok (fn := Tryz.f55) (rs := [.cell 8 67, .tmp 9]) Anc.refl hro (Nat.le_of_ble_eq_true rfl) rfl
  · exact Vm.b18
  · exact Vm.b24
  · rfl
  · rfl
  · rfl
  · (repeat' (first | exact trivial | exact .inl rfl | exact .inr (.same _) | exact .inr .loose | exact .inr (.arr (by assumption)) | apply And.intro | exact .inr less_rep))
  · rfl
  · exact Vm.b105
  · exact Vm.b10
  · intro β; simp only [pcS, newP, List.length_replicate]; rfl
  · exact Vm.b105
def sNewPG : Spec := fun args h m => match args with
  | [v1, v2, .nat q3 v3, v4] => match srcV h 5 (.tup []) v2, srcV h 1 (.tup []) v4 with
    | some (c2, n2, f2, r2), some (c4, n4, f4, r4) => bif isI .i64 v1 && keq q3 .i64 then some (c2 ∧ c4 ∧ (∀ q, q < n2 → isIns (f2 q) = true) ∧ (∀ q, q < n4 → isI .i64 (f4 q) = true) ∧ ((∀ x ∈ (ls insOf n2 f2), x.ok)) ∧ (n2 ≤ 1000000) ∧ (n4 ≤ 1000000) ∧ (v3 ≤ 1024) ∧ ((newP (iOf v1) (ls insOf n2 f2) v3 (ls iOf n4 f4)).rightB = true), .tup [pcS (newP (iOf v1) (ls insOf n2 f2) v3 (ls iOf n4 f4)) m (m + 1) (m + 2), .int .i64 0], r2 ++ r4, [(m, prO (ls insOf n2 f2)), (m + 1, i64O (newP (iOf v1) (ls insOf n2 f2) v3 (ls iOf n4 f4)).cells), (m + 2, inO (ls iOf n4 f4))]) else none
    | _, _ => none
  | _ => none
theorem sNewPG_ok : CallOk Tryz.prog 55 sNewPG := by
  refine ⟨named_spec (by kernel_rfl), fun args h m c v rd wr hs hm hc w0 M β h' w R hrd hwr hst => ?_⟩
  unfold sNewPG at hs
  split at hs
  · rename_i v1 v2 q3 v3 v4
    split at hs
    · rename_i c2 n2 f2 r2 c4 n4 f4 r4 a2 a4
      obtain ⟨hb, hs⟩ := bif_some hs
      simp only [Option.some.injEq, Prod.mk.injEq] at hs
      obtain ⟨rfl, rfl, rfl, rfl⟩ := hs
      simp only [Bool.and_eq_true] at hb
      obtain ⟨b1, b3⟩ := hb
      have w3 := keq_eq b3
      subst w3
      obtain ⟨k2, k4, g2, g4, y1, y2, y3, y4, y5⟩ := hc
      obtain ⟨A2, p2, d2, e2, t2⟩ := reads_src R a2 k2 (fun i hi => hrd i (List.mem_append_left _ hi)) (by omega)
      obtain ⟨A4, p4, d4, e4, t4⟩ := reads_src R a4 k4 (fun i hi => hrd i (List.mem_append_right _ hi)) (by omega)
      refine callRo (views := [⟨5, (ls insOf n2 f2).length, prS (ls insOf n2 f2), A2, p2⟩, ⟨1, (ls iOf n4 f4).length, i64S (ls iOf n4 f4), A4, p4⟩]) (new_ok (iOf v1) v3 (ls insOf n2 f2) (ls iOf n4 f4) p2 p4 y1 (by rw [ls_length]; exact y2) (by rw [ls_length]; exact y3) y4 y5) ?_ R hm hwr ?_ ?_ ?_
      · intro x hx
        simp only [List.mem_cons, List.not_mem_nil, or_false] at hx
        rcases hx with rfl | rfl
        · exact viewIns t2 e2 g2
        · exact viewI64 t4 e4 g4
      · intro β1 hv
        simp only [Vd, ls_length, and_true] at hv
        obtain ⟨z2, z4⟩ := hv
        simp only [denL, aggDen, intDen, natDen, boolDen, ls_length, z2, z4, d2, d4, isI_den b1]
      · exact Vm.b105
      · exact Vm.b105
    · cases hs
  · cases hs
theorem ls_evtsS2 (l : List Evt) : ls evtOf l.length (fun q => evtS (l.getD q ⟨0, 0, 0, 0, 0⟩)) = l := ls_evtsS l
def cSev : FuncId → Option Spec := look2 [(107, sSmEvt)]
theorem cSev_ok : ∀ f S, cSev f = some S → CallOk Tryz.prog f S := allOk_spec ⟨sSmEvt_ok, trivial⟩
theorem sev_lit (xs ys : List Evt) (p1 p2 : Nat) (hx : xs.length ≤ 281474976710656) : LitOk Tryz.prog 77 [.sl 1 2 [] 5 0 xs.length (some p1), .sl 3 4 [] 5 0 ys.length (some p2)] [.gone, .gone, .ro (.arr xs.length 5 (evtsS xs)), .gone, .ro (.arr ys.length 5 (evtsS ys))] (.bool (eqL xs ys)) [.gone] := by
  refine litOkM (fn := Tryz.f77) 5 8 0 rfl rfl rfl rfl rfl (by simp only [StableL, Stable, hp, pcS, dnB, DnI.at_, dnS, dnR, i64S, prS, insS, sndsS, sndS, evtsS, evtS, prO, i64O, inO, evO_, cB, sB, HB.stable]; simp [HB.born]) rfl fun w0 M E hro => ?_
  repeat' (first | refine Ctl.h ?_ | ((with_reducible intro hif); first | (focus (cases hif; done)) | (simp only [JH] at hif; try (exfalso; omega)) | (try (exfalso; omega))) | ((first | ((with_reducible apply J22 cSev_ok tab_ok); (· rfl)) | ((with_reducible apply J23 fol cSev_ok tab_ok); (· rfl)) | with_reducible apply J24); (· (simp only [push_cast, ↓JP, Nat.reduceAdd, Nat.reduceEqDiff, Nat.reduceLT, Nat.reduceMul, Nat.reduceLeDiff, reduceCtorEq, reduceIte, ↓JK, cSev, sSmEvt, isEvt_evtS, ls_evtsS, ls_evtsS', ls_evtsS2, evtsS, inR, inN]; rfl)); (try kernel_rfl); (try (focus (first | exact True.intro | ((try simp only [JS, implies_true, ls_evtsS, ls_evtsS', ls_length]); (repeat' (first | exact True.intro | assumption | omega | apply And.intro | rfl | intro _)); done) | ((try simp only [JS, implies_true, forall_const, shaped, shapedL, kndOf, inR, inN]); (repeat' (first | assumption | exact True.intro | omega | apply And.intro)); done))))) | fail)
  apply At.endsRet tab_ok (fn := Tryz.f77) (rs := [.tmp 4]) Anc.refl hro (Nat.le_of_ble_eq_true rfl) rfl
  · exact Vm.b18
  · exact Vm.b7
  · exact Vm.b8
  · rfl
  · exact Vm.b105
  · exact Vm.b10
  · exact fun β => rfl
  · exact Vm.b105
def sSev : Spec := fun args h m => match args with
  | [v1, v2] => match srcV h 5 (.tup []) v1, srcV h 5 (.tup []) v2 with
    | some (c1, n1, f1, r1), some (c2, n2, f2, r2) => some (c1 ∧ c2 ∧ (∀ q, q < n1 → isEvt (f1 q) = true) ∧ (∀ q, q < n2 → isEvt (f2 q) = true) ∧ ((ls evtOf n1 f1).length ≤ 281474976710656), .bool (eqL (ls evtOf n1 f1) (ls evtOf n2 f2)), r1 ++ r2, [])
    | _, _ => none
  | _ => none
theorem sSev_ok : CallOk Tryz.prog 77 sSev := by
  refine ⟨named_spec (by kernel_rfl), fun args h m c v rd wr hs hm hc w0 M β h' w R hrd hwr hst => ?_⟩
  unfold sSev at hs
  split at hs
  · rename_i v1 v2
    split at hs
    · rename_i c1 n1 f1 r1 c2 n2 f2 r2 a1 a2
      simp only [Option.some.injEq, Prod.mk.injEq] at hs
      obtain ⟨rfl, rfl, rfl, rfl⟩ := hs
      obtain ⟨k1, k2, g1, g2, y1⟩ := hc
      obtain ⟨A1, p1, d1, e1, t1⟩ := reads_src R a1 k1 (fun i hi => hrd i (List.mem_append_left _ hi)) (by omega)
      obtain ⟨A2, p2, d2, e2, t2⟩ := reads_src R a2 k2 (fun i hi => hrd i (List.mem_append_right _ hi)) (by omega)
      refine callRo (views := [⟨5, (ls evtOf n1 f1).length, evtsS (ls evtOf n1 f1), A1, p1⟩, ⟨5, (ls evtOf n2 f2).length, evtsS (ls evtOf n2 f2), A2, p2⟩]) (sev_lit (ls evtOf n1 f1) (ls evtOf n2 f2) p1 p2 y1) ?_ R hm hwr ?_ ?_ ?_
      · intro x hx
        simp only [List.mem_cons, List.not_mem_nil, or_false] at hx
        rcases hx with rfl | rfl
        · exact viewEvt t1 e1 g1
        · exact viewEvt t2 e2 g2
      · intro β1 hv
        simp only [Vd, ls_length, and_true] at hv
        obtain ⟨z1, z2⟩ := hv
        simp only [denL, aggDen, intDen, natDen, boolDen, ls_length, z1, z2, d1, d2]
      · exact Vm.b105
      · exact Vm.b105
    · cases hs
  · cases hs
def cEq28 : FuncId → Option Spec := look2 [(67, sPSame), (77, sSev)]
theorem cEq28_ok : ∀ f S, cEq28 f = some S → CallOk Tryz.prog f S := allOk_spec ⟨sPSame_ok, sSev_ok, trivial⟩
def eqD (a : Prc) (as_ : List Evt) (au : Int) (b : Prc) (bs : List Evt) (bu : Int) : Bool := eqP a b && (eqL as_ bs && decide (au = bu))
theorem eq28_lit (a b : Prc) (as_ bs : List Evt) (au bu : Int) (p1 p2 p3 p4 q1 q2 q3 q4 : Nat) (hn : a.P.length ≤ 1000000) (hc : a.cells.length ≤ 1000000) (hpo : a.ports.length ≤ 1000000) (hs : as_.length ≤ 1000000) : LitOk Tryz.prog 25 [.agg [.agg [.int .i64 a.id, .sl 1 2 [] 5 0 a.P.length (some p1), .sl 3 4 [] 1 0 a.cells.length (some p2), .int .i64 a.draws, .int .i64 a.seq, .sl 5 6 [] 1 0 a.ports.length (some p3)], .sl 7 8 [] 5 0 as_.length (some p4), .int .i64 au], .agg [.agg [.int .i64 b.id, .sl 9 10 [] 5 0 b.P.length (some q1), .sl 11 12 [] 1 0 b.cells.length (some q2), .int .i64 b.draws, .int .i64 b.seq, .sl 13 14 [] 1 0 b.ports.length (some q3)], .sl 15 16 [] 5 0 bs.length (some q4), .int .i64 bu]]
    [.gone, .gone, .ro (.arr a.P.length 5 (prS a.P)), .gone, .ro (.arr a.cells.length 1 (i64S a.cells)), .gone, .ro (.arr a.ports.length 1 (i64S a.ports)), .gone, .ro (.arr as_.length 5 (evtsS as_)), .gone, .ro (.arr b.P.length 5 (prS b.P)), .gone, .ro (.arr b.cells.length 1 (i64S b.cells)), .gone, .ro (.arr b.ports.length 1 (i64S b.ports)), .gone, .ro (.arr bs.length 5 (evtsS bs))] (.bool (eqD a as_ au b bs bu)) [.gone] := by
  have hs2 : as_.length ≤ 281474976710656 := by omega
  cases q1 : eqP a b
  · skip
    have e : eqD a as_ au b bs bu = false := by simp [eqD, q1]
    rw [e]
    refine litOkM (fn := Tryz.f25) 17 24 0 rfl rfl rfl rfl rfl (by simp only [StableL, Stable, hp, pcS, dnB, DnI.at_, dnS, dnR, i64S, prS, insS, sndsS, sndS, evtsS, evtS, prO, i64O, inO, evO_, cB, sB, HB.stable]; simp [HB.born]) rfl fun w0 M E hro => ?_
    repeat' (first | refine Ctl.h ?_ | ((with_reducible intro hif); first | (focus (cases hif; done)) | (simp only [JH] at hif; try (exfalso; omega)) | (try (exfalso; omega))) | ((first | ((with_reducible apply J22 cEq28_ok tab_ok); (· rfl)) | ((with_reducible apply J23 fol cEq28_ok tab_ok); (· rfl)) | with_reducible apply J24); (· (simp only [push_cast, ↓JP, Nat.reduceAdd, Nat.reduceEqDiff, Nat.reduceLT, Nat.reduceMul, Nat.reduceLeDiff, reduceCtorEq, reduceIte, ↓JK, JE, prc_eta, cEq28, sPSame, sSev, isEvt_evtS, ls_evtsS, ls_evtsS', ls_evtsS2, evtsS, inR, inN, q1]; rfl)); (try kernel_rfl); (try exact Vm.b128)) | fail)
    apply At.endsRet tab_ok (fn := Tryz.f25) (rs := [.tmp 4]) Anc.refl hro (Nat.le_of_ble_eq_true rfl) rfl
    · exact Vm.b18
    · exact Vm.b7
    · exact Vm.b8
    · rfl
    · exact Vm.b105
    · exact Vm.b10
    · exact fun β => rfl
    · exact Vm.b105
  · cases q2 : eqL as_ bs
    · skip
      have e : eqD a as_ au b bs bu = false := by simp [eqD, q1, q2]
      rw [e]
      refine litOkM (fn := Tryz.f25) 17 24 0 rfl rfl rfl rfl rfl (by simp only [StableL, Stable, hp, pcS, dnB, DnI.at_, dnS, dnR, i64S, prS, insS, sndsS, sndS, evtsS, evtS, prO, i64O, inO, evO_, cB, sB, HB.stable]; simp [HB.born]) rfl fun w0 M E hro => ?_
      repeat' (first | refine Ctl.h ?_ | ((with_reducible intro hif); first | (focus (cases hif; done)) | (simp only [JH] at hif; try (exfalso; omega)) | (try (exfalso; omega))) | ((first | ((with_reducible apply J22 cEq28_ok tab_ok); (· rfl)) | ((with_reducible apply J23 fol cEq28_ok tab_ok); (· rfl)) | with_reducible apply J24); (· exact Vm.b129); (try kernel_rfl); (try exact Vm.b128)) | fail)
      apply At.endsRet tab_ok (fn := Tryz.f25) (rs := [.tmp 4]) Anc.refl hro (Nat.le_of_ble_eq_true rfl) rfl
      · exact Vm.b18
      · exact Vm.b7
      · exact Vm.b8
      · rfl
      · exact Vm.b105
      · exact Vm.b10
      · exact fun β => rfl
      · exact Vm.b105
    · skip
      have e : eqD a as_ au b bs bu = decide (au = bu) := by simp [eqD, q1, q2]
      rw [e]
      refine litOkM (fn := Tryz.f25) 17 24 0 rfl rfl rfl rfl rfl (by simp only [StableL, Stable, hp, pcS, dnB, DnI.at_, dnS, dnR, i64S, prS, insS, sndsS, sndS, evtsS, evtS, prO, i64O, inO, evO_, cB, sB, HB.stable]; simp [HB.born]) rfl fun w0 M E hro => ?_
      repeat' (first | refine Ctl.h ?_ | ((with_reducible intro hif); first | (focus (cases hif; done)) | (simp only [JH] at hif; try (exfalso; omega)) | (try (exfalso; omega))) | ((first | ((with_reducible apply J22 cEq28_ok tab_ok); (· rfl)) | ((with_reducible apply J23 fol cEq28_ok tab_ok); (· rfl)) | with_reducible apply J24); (· exact Vm.b129); (try kernel_rfl); (try exact Vm.b128)) | fail)
      apply At.endsRet tab_ok (fn := Tryz.f25) (rs := [.tmp 4]) Anc.refl hro (Nat.le_of_ble_eq_true rfl) rfl
      · exact Vm.b18
      · exact Vm.b7
      · exact Vm.b8
      · rfl
      · exact Vm.b105
      · exact Vm.b10
      · exact fun β => rfl
      · exact Vm.b105
def sEq28 : Spec := fun args h m => match args with
  | [.agg [.agg [v1, v2, v3, v4, v5, v6], v7, v8], .agg [.agg [v9, v10, v11, v12, v13, v14], v15, v16]] => match srcV h 5 (.tup []) v2, srcV h 1 (.tup []) v3, srcV h 1 (.tup []) v6, srcV h 5 (.tup []) v7, srcV h 5 (.tup []) v10, srcV h 1 (.tup []) v11, srcV h 1 (.tup []) v14, srcV h 5 (.tup []) v15 with
    | some (c2, n2, f2, r2), some (c3, n3, f3, r3), some (c6, n6, f6, r6), some (c7, n7, f7, r7), some (c10, n10, f10, r10), some (c11, n11, f11, r11), some (c14, n14, f14, r14), some (c15, n15, f15, r15) => bif isI .i64 v1 && isI .i64 v4 && isI .i64 v5 && isI .i64 v8 && isI .i64 v9 && isI .i64 v12 && isI .i64 v13 && isI .i64 v16 then some (c2 ∧ c3 ∧ c6 ∧ c7 ∧ c10 ∧ c11 ∧ c14 ∧ c15 ∧ (∀ q, q < n2 → isIns (f2 q) = true) ∧ (∀ q, q < n3 → isI .i64 (f3 q) = true) ∧ (∀ q, q < n6 → isI .i64 (f6 q) = true) ∧ (∀ q, q < n7 → isEvt (f7 q) = true) ∧ (∀ q, q < n10 → isIns (f10 q) = true) ∧ (∀ q, q < n11 → isI .i64 (f11 q) = true) ∧ (∀ q, q < n14 → isI .i64 (f14 q) = true) ∧ (∀ q, q < n15 → isEvt (f15 q) = true) ∧ (n2 ≤ 1000000) ∧ (n3 ≤ 1000000) ∧ (n6 ≤ 1000000) ∧ (n7 ≤ 1000000), .bool (eqD ⟨(iOf v1), (ls insOf n2 f2), (ls iOf n3 f3), (iOf v4), (iOf v5), (ls iOf n6 f6)⟩ (ls evtOf n7 f7) (iOf v8) ⟨(iOf v9), (ls insOf n10 f10), (ls iOf n11 f11), (iOf v12), (iOf v13), (ls iOf n14 f14)⟩ (ls evtOf n15 f15) (iOf v16)), r2 ++ r3 ++ r6 ++ r7 ++ r10 ++ r11 ++ r14 ++ r15, []) else none
    | _, _, _, _, _, _, _, _ => none
  | _ => none
theorem sEq28_ok : CallOk Tryz.prog 25 sEq28 := by
  refine ⟨named_spec (by kernel_rfl), fun args h m c v rd wr hs hm hc w0 M β h' w R hrd hwr hst => ?_⟩
  unfold sEq28 at hs
  split at hs
  · rename_i v1 v2 v3 v4 v5 v6 v7 v8 v9 v10 v11 v12 v13 v14 v15 v16
    split at hs
    · rename_i c2 n2 f2 r2 c3 n3 f3 r3 c6 n6 f6 r6 c7 n7 f7 r7 c10 n10 f10 r10 c11 n11 f11 r11 c14 n14 f14 r14 c15 n15 f15 r15 a2 a3 a6 a7 a10 a11 a14 a15
      obtain ⟨hb, hs⟩ := bif_some hs
      simp only [Option.some.injEq, Prod.mk.injEq] at hs
      obtain ⟨rfl, rfl, rfl, rfl⟩ := hs
      simp only [Bool.and_eq_true] at hb
      obtain ⟨⟨⟨⟨⟨⟨⟨b1, b4⟩, b5⟩, b8⟩, b9⟩, b12⟩, b13⟩, b16⟩ := hb
      obtain ⟨k2, k3, k6, k7, k10, k11, k14, k15, g2, g3, g6, g7, g10, g11, g14, g15, y1, y2, y3, y4⟩ := hc
      obtain ⟨A2, p2, d2, e2, t2⟩ := reads_src R a2 k2 (fun i hi => hrd i (List.mem_append_left _ (List.mem_append_left _ (List.mem_append_left _ (List.mem_append_left _ (List.mem_append_left _ (List.mem_append_left _ (List.mem_append_left _ hi)))))))) (by omega)
      obtain ⟨A3, p3, d3, e3, t3⟩ := reads_src R a3 k3 (fun i hi => hrd i (List.mem_append_left _ (List.mem_append_left _ (List.mem_append_left _ (List.mem_append_left _ (List.mem_append_left _ (List.mem_append_left _ (List.mem_append_right _ hi)))))))) (by omega)
      obtain ⟨A6, p6, d6, e6, t6⟩ := reads_src R a6 k6 (fun i hi => hrd i (List.mem_append_left _ (List.mem_append_left _ (List.mem_append_left _ (List.mem_append_left _ (List.mem_append_left _ (List.mem_append_right _ hi))))))) (by omega)
      obtain ⟨A7, p7, d7, e7, t7⟩ := reads_src R a7 k7 (fun i hi => hrd i (List.mem_append_left _ (List.mem_append_left _ (List.mem_append_left _ (List.mem_append_left _ (List.mem_append_right _ hi)))))) (by omega)
      obtain ⟨A10, p10, d10, e10, t10⟩ := reads_src R a10 k10 (fun i hi => hrd i (List.mem_append_left _ (List.mem_append_left _ (List.mem_append_left _ (List.mem_append_right _ hi))))) (by omega)
      obtain ⟨A11, p11, d11, e11, t11⟩ := reads_src R a11 k11 (fun i hi => hrd i (List.mem_append_left _ (List.mem_append_left _ (List.mem_append_right _ hi)))) (by omega)
      obtain ⟨A14, p14, d14, e14, t14⟩ := reads_src R a14 k14 (fun i hi => hrd i (List.mem_append_left _ (List.mem_append_right _ hi))) (by omega)
      obtain ⟨A15, p15, d15, e15, t15⟩ := reads_src R a15 k15 (fun i hi => hrd i (List.mem_append_right _ hi)) (by omega)
      refine callRo (views := [⟨5, (ls insOf n2 f2).length, prS (ls insOf n2 f2), A2, p2⟩, ⟨1, (ls iOf n3 f3).length, i64S (ls iOf n3 f3), A3, p3⟩, ⟨1, (ls iOf n6 f6).length, i64S (ls iOf n6 f6), A6, p6⟩, ⟨5, (ls evtOf n7 f7).length, evtsS (ls evtOf n7 f7), A7, p7⟩, ⟨5, (ls insOf n10 f10).length, prS (ls insOf n10 f10), A10, p10⟩, ⟨1, (ls iOf n11 f11).length, i64S (ls iOf n11 f11), A11, p11⟩, ⟨1, (ls iOf n14 f14).length, i64S (ls iOf n14 f14), A14, p14⟩, ⟨5, (ls evtOf n15 f15).length, evtsS (ls evtOf n15 f15), A15, p15⟩]) (eq28_lit ⟨(iOf v1), (ls insOf n2 f2), (ls iOf n3 f3), (iOf v4), (iOf v5), (ls iOf n6 f6)⟩ ⟨(iOf v9), (ls insOf n10 f10), (ls iOf n11 f11), (iOf v12), (iOf v13), (ls iOf n14 f14)⟩ (ls evtOf n7 f7) (ls evtOf n15 f15) (iOf v8) (iOf v16) p2 p3 p6 p7 p10 p11 p14 p15 (by rw [ls_length]; exact y1) (by rw [ls_length]; exact y2) (by rw [ls_length]; exact y3) (by rw [ls_length]; exact y4)) ?_ R hm hwr ?_ ?_ ?_
      · intro x hx
        simp only [List.mem_cons, List.not_mem_nil, or_false] at hx
        rcases hx with rfl | rfl | rfl | rfl | rfl | rfl | rfl | rfl
        · exact viewIns t2 e2 g2
        · exact viewI64 t3 e3 g3
        · exact viewI64 t6 e6 g6
        · exact viewEvt t7 e7 g7
        · exact viewIns t10 e10 g10
        · exact viewI64 t11 e11 g11
        · exact viewI64 t14 e14 g14
        · exact viewEvt t15 e15 g15
      · intro β1 hv
        simp only [Vd, ls_length, and_true] at hv
        obtain ⟨z2, z3, z6, z7, z10, z11, z14, z15⟩ := hv
        simp only [denL, aggDen, intDen, natDen, boolDen, ls_length, z2, z3, z6, z7, z10, z11, z14, z15, d2, d3, d6, d7, d10, d11, d14, d15, isI_den b1, isI_den b4, isI_den b5, isI_den b8, isI_den b9, isI_den b12, isI_den b13, isI_den b16]
      · exact Vm.b105
      · exact Vm.b105
    · cases hs
  · cases hs
end Go.Proofs.YtjliakjbdcplcaaGreat.Vm
end

section
namespace Go.Proofs.YtjliakjbdcplcaaGreat.Vm
open Go.RowKit
set_option linter.unusedVariables false
set_option linter.unusedSimpArgs false
theorem all_or (r : Rul) (D : Dn) (l : List Evt) : ∀ n, AllK r D l n ∨ ∃ k, k < n ∧ AllK r D l k ∧ hE r (foldD r D (l.take k)).p (l.getD k ⟨0, 0, 0, 0, 0⟩) ≠ 0
  | 0 => .inl fun i hi => absurd hi (Nat.not_lt_zero i)
  | n + 1 => by
    rcases all_or r D l n with h | ⟨k, hk, h1, h2⟩
    · by_cases h0 : hE r (foldD r D (l.take n)).p (l.getD n ⟨0, 0, 0, 0, 0⟩) = 0
      · refine .inl fun i hi => ?_
        rcases Nat.lt_succ_iff_lt_or_eq.1 hi with h3 | rfl
        · exact h i h3
        · exact h0
      · exact .inr ⟨n, Nat.lt_succ_self n, h, h0⟩
    · exact .inr ⟨k, by omega, h1, h2⟩
end Go.Proofs.YtjliakjbdcplcaaGreat.Vm
end

section
namespace Go.Proofs.YtjliakjbdcplcaaGreat.Vm
open Go.RowKit
set_option linter.unusedVariables false
set_option linter.unusedSimpArgs false
theorem kcmp_time {a b c d e f : Int} (h : ¬ 0 ≤ (kcmp a b c d e f).1) : a ≤ d := by
  unfold kcmp at h
  split at h
  · exact absurd (Int.le_refl 0) h
  · split at h
    · unfold icmp at h
      dsimp only at h
      repeat' split at h
      all_goals omega
    · rename_i h2; omega
theorem time_up {p : Prc} {l : List Evt} (hB : ∀ q, q < l.length → badAt p l q = 0) : ∀ k, k < l.length → (l.getD 0 ⟨0, 0, 0, 0, 0⟩).time ≤ (l.getD k ⟨0, 0, 0, 0, 0⟩).time
  | 0, _ => Int.le_refl _
  | k + 1, hk => by
    have ih := time_up hB k (by omega)
    have h := hB (k + 1) hk
    unfold badAt at h
    cases ht : takesB p (l.getD (k + 1) ⟨0, 0, 0, 0, 0⟩)
    · rw [if_pos ht] at h; cases h
    · rw [if_neg (by rw [ht]; exact Bool.noConfusion)] at h
      by_cases hc : 0 ≤ (kcE (l.getD (k + 1 - 1) ⟨0, 0, 0, 0, 0⟩) (l.getD (k + 1) ⟨0, 0, 0, 0, 0⟩)).1
      · rw [if_pos ⟨by omega, hc⟩] at h; cases h
      · exact Int.le_trans ih (kcmp_time hc)
theorem getD_app_ge {α : Type} {l m : List α} {j : Nat} {d : α} : (l ++ m).getD (l.length + j) d = m.getD j d := by
  rw [List.getD_eq_getElem?_getD, List.getD_eq_getElem?_getD, List.getElem?_append_right (Nat.le_add_right _ _), Nat.add_sub_cancel_left]
structure SentOk (r : Rul) (p : Prc) (t : Int) (i : Nat) (e : Evt) : Prop where
  k : keyB e.time e.source e.seq = true
  s : e.source = p.id
  q : e.seq = p.seq + (i : Int)
  t : t + r.ahead ≤ e.time
  p : p.ports.contains e.to_ = true
  z : e.to_ ≠ 0
structure SN (r : Rul) (p : Prc) (l : List Evt) (k : Nat) (D : Dn) : Prop where
  u : k ≤ D.used
  e : ∀ i, i < D.sent.length → SentOk r p (l.getD 0 ⟨0, 0, 0, 0, 0⟩).time i (D.sent.getD i ⟨0, 0, 0, 0, 0⟩)
theorem SN.step {r : Rul} {p : Prc} {l : List Evt} {k : Nat} {D : Dn} (F : FI r p l k D) (S : SN r p l k D) (hr : r.rightB = true) (hok : ∀ x ∈ p.P, x.ok) {e : Evt} (ht : takesB p e = true) (h0 : hE r D.p e = 0) (htm : (l.getD 0 ⟨0, 0, 0, 0, 0⟩).time ≤ e.time) : SN r p l (k + 1) (hS r D e) := by
  have G := F.hg hr hok ht
  obtain ⟨hb, hg, hq⟩ := hE_zero h0
  obtain ⟨hI, _⟩ := G.si hb
  have hf := of_decide_eq_true (show decide _ = true from hr)
  obtain ⟨g1, ⟨g2, g3⟩, g4, g5, g6, g7, g8, g9, g10⟩ := rightB_iff.1 F.hp
  have t0 := G.t0
  refine ⟨?_, fun i hi => ?_⟩
  · have hO := proc_open (e := e) G.hr G.hp ⟨G.t0, G.t1⟩
    have e1 : hR r D.p e = runA D.p.P (hV r D.p e.time) r.fuel.toNat (hB D.p e) Ins0 [] 0 := runO_of hO hf.2.2.1 hf.2.2.2
    have hm : 0 < r.fuel.toNat := by
      rcases Nat.eq_zero_or_pos r.fuel.toNat with h | h
      · rw [e1, h] at hb; cases hb
      · exact h
    have h1 : (0 : Nat) < (hR r D.p e).tr.length := by rw [e1]; exact runA_more (tr := []) rfl hm
    show k + 1 ≤ D.used + (hR r D.p e).tr.length
    have := S.u
    omega
  · have hs : (hS r D e).sent = D.sent ++ sentL D.p e.time D.p.seq (hR r D.p e).s.sends := rfl
    rw [hs] at hi ⊢
    rw [List.length_append, sentL_len] at hi
    by_cases h : i < D.sent.length
    · rw [getD_app_lt h]; exact S.e i h
    · obtain ⟨j, rfl⟩ : ∃ j, i = D.sent.length + j := ⟨i - D.sent.length, by omega⟩
      have hj : j < (hR r D.p e).s.sends.length := by omega
      rw [getD_app_ge, sentL_getD _ _ _ _ _ hj]
      obtain ⟨y, hy⟩ : ∃ y, (hR r D.p e).s.sends.getD j ⟨0, 0, 0⟩ = y := ⟨_, rfl⟩
      have hym : y ∈ (hR r D.p e).s.sends := by
        rw [← hy, List.getD_eq_getElem?_getD, List.getElem?_eq_getElem hj]; exact List.getElem_mem _
      rw [hy]
      obtain ⟨s1, s2, s3, s4⟩ := hI.s y hym
      have s2' : y.port < (D.p.ports.length : Int) := s2
      have s3' : r.ahead ≤ y.delay := s3
      have s4' : y.delay ≤ 281474976710656 - e.time := s4
      have hsq := F.sq
      have hid := F.id
      have hpo := F.po
      have hpt : y.port.toNat < D.p.ports.length := by omega
      have hz := List.any_eq_false.1 hg y hym
      refine ⟨decide_eq_true ⟨by dsimp only; omega, by dsimp only; omega, by dsimp only; omega, by dsimp only; omega, by dsimp only; omega, by dsimp only; omega⟩, hid, by dsimp only; omega, by dsimp only; omega, ?_, fun hc => hz ?_⟩
      · rw [List.contains_iff_mem, ← hpo, List.getD_eq_getElem?_getD, List.getElem?_eq_getElem hpt]
        exact List.getElem_mem _
      · exact decide_eq_true hc
theorem sn_all {r : Rul} {p : Prc} {l : List Evt} (hE0 : procE r p = 0) (hok : ∀ x ∈ p.P, x.ok) (hB : ∀ q, q < l.length → badAt p l q = 0) : ∀ k, k ≤ l.length → AllK r ⟨p, [], 0⟩ l k → SN r p l k (foldD r ⟨p, [], 0⟩ (l.take k))
  | 0, _, _ => ⟨Nat.zero_le _, fun i hi => absurd hi (Nat.not_lt_zero i)⟩
  | k + 1, hk, hA => by
    have ih := sn_all hE0 hok hB k (by omega) (fun i hi => hA i (by omega))
    have F := fi_all hE0 hok hB k (by omega) (fun i hi => hA i (by omega))
    rw [take_snoc ⟨0, 0, 0, 0, 0⟩ (by omega), foldD_snoc]
    exact SN.step F ih (procE_zero hE0).1 hok (badAt_takes (hB k (by omega))) (hA k (by omega)) (time_up hB k (by omega))
end Go.Proofs.YtjliakjbdcplcaaGreat.Vm
end

section
namespace Go.Proofs.YtjliakjbdcplcaaGreat.Vm
open Go.RowKit
set_option linter.unusedVariables false
set_option linter.unusedSimpArgs false
set_option maxRecDepth 100000
set_option maxHeartbeats 4000000
def idxI (xs : List Int) (v : Int) : Int := if v ∈ xs then (xs.idxOf v : Int) else -1
theorem idx_at {xs : List Int} {v : Int} {j : Nat} (hj : j < xs.length) (h : ∀ q, q < j → xs.getD q 0 ≠ v) (hv : v = xs.getD j 0) : idxI xs v = j := by
  have hm : v ∈ xs := by rw [hv, List.getD_eq_getElem?_getD, List.getElem?_eq_getElem hj]; exact List.getElem_mem hj
  unfold idxI
  rw [if_pos hm]
  congr 1
  have key : ∀ (l : List Int) (j : Nat), j < l.length → (∀ q, q < j → l.getD q 0 ≠ v) → v = l.getD j 0 → l.idxOf v = j := by
    intro l
    induction l with
    | nil => intro j hj; simp at hj
    | cons a l ih =>
      intro j hj hne he
      cases j with
      | zero => simp at he; simp [he]
      | succ j =>
        have h0 := hne 0 (by omega)
        simp at h0
        rw [List.idxOf_cons]
        have : (a == v) = false := by simpa using h0
        rw [this, cond_false, ih j (by simpa using hj) (fun q hq => by simpa using hne (q + 1) (by omega)) (by simpa using he)]
  exact key xs j hj h hv
theorem idx_none {xs : List Int} {v : Int} (h : ∀ q, q < xs.length → xs.getD q 0 ≠ v) : idxI xs v = -1 := by
  unfold idxI
  rw [if_neg]
  intro hm
  obtain ⟨q, hq, e⟩ := List.getElem_of_mem hm
  exact h q hq (by rw [List.getD_eq_getElem?_getD, List.getElem?_eq_getElem hq]; exact e)
theorem idx_nonneg {xs : List Int} {v : Int} : 0 ≤ idxI xs v ↔ v ∈ xs := by
  unfold idxI
  split
  · rename_i h; exact ⟨fun _ => h, fun _ => by omega⟩
  · rename_i h; exact ⟨fun h' => by omega, fun h' => absurd h' h⟩
theorem idx_lit (xs : List Int) (v : Int) (p1 : Nat) (hx : xs.length ≤ 281474976710656) : LitOk Tryz.prog 79 [.sl 1 2 [] 1 0 xs.length (some p1), .int .i64 v] [.gone, .gone, .ro (.arr xs.length 1 (i64S xs))] (.int .i64 (idxI xs v)) [.gone] := by
  refine litOkM (fn := Tryz.f79) 3 19 0 rfl rfl rfl rfl rfl (by simp only [StableL, Stable, hp]; simp [HB.born]) rfl fun w0 M E hro => ?_
  repeat' (first | refine Ctl.h ?_ | ((with_reducible intro hif); first | (focus (cases hif; done)) | (simp only [JH] at hif; try (exfalso; omega)) | (try (exfalso; omega))) | ((first | ((with_reducible apply J22 c1_ok tab_ok); (· rfl)) | ((with_reducible apply J23 fol c1_ok tab_ok); (· rfl)) | with_reducible apply J24); (· exact Vm.b14); (try kernel_rfl); (try exact Vm.b13)) | fail)
  refine WF.loopAt (fun j => j ≤ xs.length ∧ ∀ q, q < j → xs.getD q 0 ≠ v) (fun j => [(0, .sl 1 2 [] 1 0 xs.length (some p1)), (1, .int .i64 v), (7, .nat .i64 xs.length), (8, .nat .i64 j)]) (fun j => [.gone, .gone, .ro (.arr xs.length 1 (i64S xs))]) (fun j => xs.length - j) 0 ⟨Nat.zero_le _, fun q hq => absurd hq (Nat.not_lt_zero q)⟩ ?_ ?_ rfl ?_ ?_ rfl ?_
  · exact Vm.b11
  · exact Vm.b8
  · exact Vm.b9
  · exact Vm.b9
  rintro j ⟨hj, heq⟩
  repeat' (first | refine Ctl.h ?_ | ((with_reducible intro hif); first | (focus (cases hif; done)) | (simp only [JH] at hif; try (exfalso; omega)) | (try (exfalso; omega))) | ((first | ((with_reducible apply J22 c1_ok tab_ok); (· rfl)) | ((with_reducible apply J23 fol c1_ok tab_ok); (· rfl)) | with_reducible apply J24); (· exact Vm.b77); (try kernel_rfl); (try exact Vm.b15)) | fail)
  · rename_i hjl
    apply At.endsRet tab_ok (fn := Tryz.f79) (rs := [.tmp 4]) Anc.refl hro (Nat.le_of_ble_eq_true rfl) rfl
    · exact Vm.b6
    · exact Vm.b7
    · exact Vm.b8
    · rfl
    · exact Vm.b9
    · exact Vm.b10
    · rw [idx_at hjl heq hif]; exact fun β => rfl
    · exact Vm.b9
  · refine At.next (j + 1) ?_ ?_ ?_ rfl ?_ ?_ rfl
    · refine ⟨⟨by omega, fun q hq' => ?_⟩, by omega⟩; by_cases e : q = j; (rw [e]; exact fun e => hif e.symm); exact heq q (by omega)
    · exact Vm.b11
    · exact Vm.b8
    · exact Vm.b9
    · exact Vm.b9
  · have hjn : j = xs.length := by omega
    subst hjn
    apply At.endsRet tab_ok (fn := Tryz.f79) (rs := [.tmp 4]) Anc.refl hro (Nat.le_of_ble_eq_true rfl) rfl
    · exact Vm.b6
    · exact Vm.b7
    · exact Vm.b8
    · rfl
    · exact Vm.b9
    · exact Vm.b10
    · rw [idx_none heq]; exact fun β => rfl
    · exact Vm.b9
def sIdx : Spec := fun args h m => match args with
  | [v1, v2] => match srcV h 1 (.tup []) v1 with
    | some (c1, n1, f1, r1) => bif isI .i64 v2 then some (c1 ∧ (∀ q, q < n1 → isI .i64 (f1 q) = true) ∧ ((ls iOf n1 f1).length ≤ 281474976710656), .int .i64 (idxI (ls iOf n1 f1) (iOf v2)), r1, []) else none
    | _ => none
  | _ => none
theorem sIdx_ok : CallOk Tryz.prog 79 sIdx := by
  refine ⟨named_spec (by kernel_rfl), fun args h m c v rd wr hs hm hc w0 M β h' w R hrd hwr hst => ?_⟩
  unfold sIdx at hs
  split at hs
  · rename_i v1 v2
    split at hs
    · rename_i c1 n1 f1 r1 a1
      obtain ⟨hb, hs⟩ := bif_some hs
      simp only [Option.some.injEq, Prod.mk.injEq] at hs
      obtain ⟨rfl, rfl, rfl, rfl⟩ := hs
      have b2 := hb
      obtain ⟨k1, g1, y1⟩ := hc
      obtain ⟨A1, p1, d1, e1, t1⟩ := reads_src R a1 k1 (fun i hi => hrd i hi) (by omega)
      refine callRo (views := [⟨1, (ls iOf n1 f1).length, i64S (ls iOf n1 f1), A1, p1⟩]) (idx_lit (ls iOf n1 f1) (iOf v2) p1 y1) ?_ R hm hwr ?_ ?_ ?_
      · intro x hx
        simp only [List.mem_cons, List.not_mem_nil, or_false] at hx
        subst hx
        · exact viewI64 t1 e1 g1
      · intro β1 hv
        simp only [Vd, ls_length, and_true] at hv
        have z1 := hv
        simp only [denL, aggDen, intDen, natDen, boolDen, ls_length, z1, d1, isI_den b2]
      · exact Vm.b9
      · exact Vm.b9
    · cases hs
  · cases hs
def cIdx : FuncId → Option Spec := look2 [(79, sIdx)]
theorem cIdx_ok : ∀ f S, cIdx f = some S → CallOk Tryz.prog f S := allOk_spec ⟨sIdx_ok, trivial⟩
theorem cont_lit (xs : List Int) (v : Int) (p1 : Nat) (hx : xs.length ≤ 281474976710656) : LitOk Tryz.prog 27 [.sl 1 2 [] 1 0 xs.length (some p1), .int .i64 v] [.gone, .gone, .ro (.arr xs.length 1 (i64S xs))] (.bool (decide (v ∈ xs))) [.gone] := by
  refine litOkM (fn := Tryz.f27) 3 9 0 rfl rfl rfl rfl rfl (by simp only [StableL, Stable, hp]; simp [HB.born]) rfl fun w0 M E hro => ?_
  repeat' (first | refine Ctl.h ?_ | ((with_reducible intro hif); first | (focus (cases hif; done)) | (simp only [JH] at hif; try (exfalso; omega)) | (try (exfalso; omega))) | ((first | ((with_reducible apply J22 cIdx_ok tab_ok); (· rfl)) | ((with_reducible apply J23 fol cIdx_ok tab_ok); (· rfl)) | with_reducible apply J24); (· (simp only [push_cast, ↓JP, Nat.reduceAdd, Nat.reduceEqDiff, Nat.reduceLT, Nat.reduceMul, Nat.reduceLeDiff, reduceCtorEq, reduceIte, cIdx, sIdx, isI_int, isI_nat, iOf, ls_i64S, ls_i64S']; rfl)); (try kernel_rfl); (try (focus (first | exact True.intro | ((try simp only [JS, implies_true, forall_const, shaped, shapedL, kndOf]); (first | exact ⟨fun q _ => rfl, hx⟩ | (repeat' (first | assumption | exact True.intro | omega | apply And.intro))); done))))) | fail)
  apply At.endsRet tab_ok (fn := Tryz.f27) (rs := [.tmp 4]) Anc.refl hro (Nat.le_of_ble_eq_true rfl) rfl
  · exact Vm.b6
  · exact Vm.b7
  · exact Vm.b8
  · rfl
  · exact Vm.b9
  · exact Vm.b10
  · intro β; simp [resS, SV.den, idx_nonneg]
  · exact Vm.b9
def sCont : Spec := fun args h m => match args with
  | [v1, v2] => match srcV h 1 (.tup []) v1 with
    | some (c1, n1, f1, r1) => bif isI .i64 v2 then some (c1 ∧ (∀ q, q < n1 → isI .i64 (f1 q) = true) ∧ ((ls iOf n1 f1).length ≤ 281474976710656), .bool (decide ((iOf v2) ∈ (ls iOf n1 f1))), r1, []) else none
    | _ => none
  | _ => none
theorem sCont_ok : CallOk Tryz.prog 27 sCont := by
  refine ⟨named_spec (by kernel_rfl), fun args h m c v rd wr hs hm hc w0 M β h' w R hrd hwr hst => ?_⟩
  unfold sCont at hs
  split at hs
  · rename_i v1 v2
    split at hs
    · rename_i c1 n1 f1 r1 a1
      obtain ⟨hb, hs⟩ := bif_some hs
      simp only [Option.some.injEq, Prod.mk.injEq] at hs
      obtain ⟨rfl, rfl, rfl, rfl⟩ := hs
      have b2 := hb
      obtain ⟨k1, g1, y1⟩ := hc
      obtain ⟨A1, p1, d1, e1, t1⟩ := reads_src R a1 k1 (fun i hi => hrd i hi) (by omega)
      refine callRo (views := [⟨1, (ls iOf n1 f1).length, i64S (ls iOf n1 f1), A1, p1⟩]) (cont_lit (ls iOf n1 f1) (iOf v2) p1 y1) ?_ R hm hwr ?_ ?_ ?_
      · intro x hx
        simp only [List.mem_cons, List.not_mem_nil, or_false] at hx
        subst hx
        · exact viewI64 t1 e1 g1
      · intro β1 hv
        simp only [Vd, ls_length, and_true] at hv
        have z1 := hv
        simp only [denL, aggDen, intDen, natDen, boolDen, ls_length, z1, d1, isI_den b2]
      · exact Vm.b9
      · exact Vm.b9
    · cases hs
  · cases hs
end Go.Proofs.YtjliakjbdcplcaaGreat.Vm
end
end

section
namespace Go.Proofs.YtjliakjbdcplcaaGreat.Vm
open Go.RowKit
attribute [local push_cast] runR opG gtmp gval gus opX tmpsOf tm tmO tmP restr look look2 tab tys zs ets eqB eqBL allB numOf ieq Int.cast_ofNat_Int Int.ofNat_zero beq_true beq_false frameOf ev evL ofV opV loadV noW pushF wrsL setH allBorn allGone HB.born HB.isGone HB.val SV.plain dstOk hp nav fitsT SV.size sizeL SV.isAgg TK.size TK.agg bin binE binN binI arN arI cmpN cmpI keq kn narrow callV storeV setp fillV buildV buildSliceV makeV sliceV appendV appendFV slice3V copyV List.isEmpty_nil srcV evO asN ite_t ite_f ite_bool ite_int ite_nat maxV v_beq v_ble v_blt cond_true cond_false List.getElem?_cons_zero List.getElem?_cons_succ List.getD_cons_zero List.getD_cons_succ List.getD_nil List.length_cons List.length_nil List.take_succ_cons List.take_zero List.set_cons_zero List.set_cons_succ List.cons_append List.nil_append List.append_assoc List.replicate_succ List.replicate_zero Nat.zero_add Nat.add_zero decide_true decide_false Bool.true_and Bool.and_true Bool.false_and Bool.and_false Bool.true_or Bool.or_true Bool.false_or Bool.or_false beq_self_eq_true Bool.or_self Nat.lt_irrefl Nat.not_lt_zero Nat.le_refl Option.getD_some Option.getD_none BEq.rfl Bool.not_true Bool.not_false Bool.cond_true_left Bool.cond_false_right prS sndsS i64S nav_ins nav_ins0 nav_ins1 nav_ins2 nav_ins3 nav_ins4 nav_snd nav_snd0 nav_snd1 nav_snd2 isIns_insS insOf_insS isSnd_sndS sndOf_sndS isI_int isI_nat iOf
set_option linter.unusedVariables false
set_option linter.unusedSimpArgs false
set_option maxRecDepth 100000
set_option maxHeartbeats 4000000
def sOneX : Spec := fun args h m => match args with
  | [.agg [_, _, .nat .i64 10], .agg [_, _, _, _, _, .sl 5 5 [] 1 0 1 none], .agg [.agg [.nat .i64 7, _, _], .nat .i64 3, _]] => sOneG args h m
  | _ => sOneB args h m
theorem sOneX_ok : CallOk Tryz.prog 59 sOneX := by
  refine ⟨named_spec (by kernel_rfl), fun args h m c v rd wr hs hm hc w0 M β h' w R hrd hwr hst => ?_⟩
  unfold sOneX at hs
  split at hs
  · exact sOneG_ok.2 _ h m c v rd wr hs hm hc w0 M β h' w R hrd hwr hst
  · exact sOneB_ok.2 _ h m c v rd wr hs hm hc w0 M β h' w R hrd hwr hst
theorem ls_one {α : Type} (g : SV → α) (f : Nat → SV) : ls g 1 f = [g (f 0)] := rfl
theorem ls_two {α : Type} (g : SV → α) (f : Nat → SV) : ls g 2 f = [g (f 0), g (f 1)] := rfl
theorem nat_zero_int : ((0 : Nat) : Int) = 0 := rfl
theorem nat_one_int : ((1 : Nat) : Int) = 1 := rfl
theorem insOf_agg (a b c d e : SV) : insOf (.agg [a, b, c, d, e]) = ⟨iOf a, iOf b, iOf c, iOf d, iOf e⟩ := rfl
theorem evtOf_agg (a b c d e : SV) : evtOf (.agg [.agg [a, b, c], d, e]) = ⟨iOf a, iOf b, iOf c, iOf d, iOf e⟩ := rfl
theorem isEvt_agg (a b c d e : SV) : isEvt (.agg [.agg [a, b, c], d, e]) = (isI .i64 a && isI .i64 b && isI .i64 c && isI .i64 d && isI .i64 e) := rfl
def cAw28 : FuncId → Option Spec := look2 [(55, sNewPG), (59, sOneX), (24, (sAllB 1)), (60, sEqEvt)]
theorem cAw28_ok : ∀ f S, cAw28 f = some S → CallOk Tryz.prog f S := allOk_spec ⟨sNewPG_ok, sOneX_ok, sAllB_ok 1, sEqEvt_ok, trivial⟩
theorem awake28_lit : LitOk Tryz.prog 21 [] [.gone] (.bool true) [.gone] := by
  have k1 : ∀ x ∈ ([⟨8, 1, 0, 0, 0⟩, ⟨1, 0, 0, 0, 0⟩] : List Ins), x.ok := by intro x hx; simp only [List.mem_cons, List.not_mem_nil, or_false] at hx; rcases hx with rfl | rfl <;> (refine ⟨?_, ?_, ?_, ?_, ?_, ?_, ?_, ?_, ?_, ?_⟩ <;> decide)
  have r1 : (newP 3 [⟨8, 1, 0, 0, 0⟩, ⟨1, 0, 0, 0, 0⟩] 0 [5]).rightB = true := by kernel_rfl
  have f1 : oneE ⟨0, 2, 10⟩ ⟨3, [⟨8, 1, 0, 0, 0⟩, ⟨1, 0, 0, 0, 0⟩], [], 0, 0, [5]⟩ ⟨7, 0, 4, 3, 9⟩ = 0 := by kernel_rfl
  have f2 : oneE ⟨0, 2, 10⟩ ⟨3, [⟨8, 1, 0, 0, 0⟩, ⟨1, 0, 0, 0, 0⟩], [], 0, 0, [5]⟩ ⟨1, 0, 1, 3, 0⟩ = 189 := by kernel_rfl
  have n2 : oneE ⟨0, 2, 10⟩ ⟨3, [⟨8, 1, 0, 0, 0⟩, ⟨1, 0, 0, 0, 0⟩], [], 0, 0, [5]⟩ ⟨1, 0, 1, 3, 0⟩ ≠ 0 := by rw [f2]; decide
  have f3 : oneE ⟨0, 2, 10⟩ ⟨3, [⟨8, 1, 0, 0, 0⟩, ⟨1, 0, 0, 0, 0⟩], [], 0, 0, [5]⟩ ⟨7, 0, 4, 4, 9⟩ = 282 := by kernel_rfl
  have n3 : oneE ⟨0, 2, 10⟩ ⟨3, [⟨8, 1, 0, 0, 0⟩, ⟨1, 0, 0, 0, 0⟩], [], 0, 0, [5]⟩ ⟨7, 0, 4, 4, 9⟩ ≠ 0 := by rw [f3]; decide
  have f4 : oneE ⟨0, 2, 1⟩ ⟨3, [⟨8, 1, 0, 0, 0⟩, ⟨1, 0, 0, 0, 0⟩], [], 0, 0, [5]⟩ ⟨7, 0, 4, 3, 9⟩ = 190 := by kernel_rfl
  have n4 : oneE ⟨0, 2, 1⟩ ⟨3, [⟨8, 1, 0, 0, 0⟩, ⟨1, 0, 0, 0, 0⟩], [], 0, 0, [5]⟩ ⟨7, 0, 4, 3, 9⟩ ≠ 0 := by rw [f4]; decide
  have f6 : oneE ⟨0, 2, 10⟩ ⟨3, [⟨8, 1, 0, 0, 0⟩, ⟨1, 0, 0, 0, 0⟩], [], 0, 0, [0]⟩ ⟨7, 0, 4, 3, 9⟩ = 285 := by kernel_rfl
  have n6 : oneE ⟨0, 2, 10⟩ ⟨3, [⟨8, 1, 0, 0, 0⟩, ⟨1, 0, 0, 0, 0⟩], [], 0, 0, [0]⟩ ⟨7, 0, 4, 3, 9⟩ ≠ 0 := by rw [f6]; decide
  have f5 : badAt ⟨3, [⟨8, 1, 0, 0, 0⟩, ⟨1, 0, 0, 0, 0⟩], [], 0, 0, [5]⟩ [⟨7, 0, 4, 3, 9⟩, ⟨7, 0, 4, 3, 9⟩] 1 = 283 := by kernel_rfl
  have n5 : badAt ⟨3, [⟨8, 1, 0, 0, 0⟩, ⟨1, 0, 0, 0, 0⟩], [], 0, 0, [5]⟩ [⟨7, 0, 4, 3, 9⟩, ⟨7, 0, 4, 3, 9⟩] 1 ≠ 0 := by rw [f5]; decide
  have g5 : ∀ q, q < 1 → badAt ⟨3, [⟨8, 1, 0, 0, 0⟩, ⟨1, 0, 0, 0, 0⟩], [], 0, 0, [5]⟩ [⟨7, 0, 4, 3, 9⟩, ⟨7, 0, 4, 3, 9⟩] q = 0 := by intro q hq; obtain rfl : q = 0 := (by omega); kernel_rfl
  have p5 : procE ⟨0, 2, 10⟩ ⟨3, [⟨8, 1, 0, 0, 0⟩, ⟨1, 0, 0, 0, 0⟩], [], 0, 0, [5]⟩ = 0 := by kernel_rfl
  have h1 : (hS ⟨0, 2, 10⟩ ⟨⟨3, [⟨8, 1, 0, 0, 0⟩, ⟨1, 0, 0, 0, 0⟩], [], 0, 0, [5]⟩, [], 0⟩ ⟨7, 0, 4, 3, 9⟩).sent = [⟨14, 3, 0, 5, 9⟩] := by kernel_rfl
  have h2 : (hS ⟨0, 2, 10⟩ ⟨⟨3, [⟨8, 1, 0, 0, 0⟩, ⟨1, 0, 0, 0, 0⟩], [], 0, 0, [5]⟩, [], 0⟩ ⟨7, 0, 4, 3, 9⟩).used = 2 := by kernel_rfl
  have h3 : (hS ⟨0, 2, 10⟩ ⟨⟨3, [⟨8, 1, 0, 0, 0⟩, ⟨1, 0, 0, 0, 0⟩], [], 0, 0, [5]⟩, [], 0⟩ ⟨7, 0, 4, 3, 9⟩).p.seq = 1 := by kernel_rfl
  have z1 : eqL ([⟨14, 3, 0, 5, 9⟩] : List Evt) [⟨14, 3, 0, 5, 9⟩] = true := by exact eqL_true rfl
  refine litOkM (fn := Tryz.f21) 1 126 0 rfl rfl rfl rfl rfl trivial rfl fun w0 M E hro => ?_
  repeat' (first | refine Ctl.h ?_ | ((with_reducible intro hif); first | (focus (cases hif; done)) | (simp only [JH] at hif; try (exfalso; omega)) | (try (exfalso; omega))) | ((first | ((with_reducible apply J22 cAw28_ok tab_ok); (· rfl)) | ((with_reducible apply J23 fol cAw28_ok tab_ok); (· rfl)) | with_reducible apply J24); (· (simp only [push_cast, ↓JP, Nat.reduceAdd, Nat.reduceEqDiff, Nat.reduceLT, Nat.reduceMul, Nat.reduceLeDiff, reduceCtorEq, reduceIte, ↓JK, JE, JB, prc_eta, rul_eta, dnn_eta, cAw28, sNewPG, sOneX, sOneG, sOneB, sAllB, sEqEvt, pcS, prO, i64O, inO, evO_, dnS, dnR, dn0, newP, ls_one, ls_two, ls_zero, insOf_agg, evtOf_agg, isEvt_agg, nat_zero_int, nat_one_int, ls_evtsS, ls_evtsS', ls_evtsS2, evtsS, isEvt_evtS, evtOf_evtS, inR, inN, f1, f2, f3, f4, f6, f5, h1, h2, h3, z1]; rfl)); (try kernel_rfl); (try (focus (first | exact True.intro | ((try simp only [JS, implies_true, forall_const, shaped, shapedL, kndOf, iOf, newP, ls_one, ls_two, ls_zero, insOf_agg, evtOf_agg, isEvt_agg, nat_zero_int, nat_one_int, Nat.zero_add, List.getD_cons_zero, List.getD_cons_succ, Int.cast_ofNat_Int, List.replicate_zero, List.length_cons, List.length_nil]); (repeat' (first | exact True.intro | assumption | apply And.intro | decide | (intro q hq; first | rfl | exact hq.elim | exact k1 q hq | exact g5 q hq | ((rcases q with _ | _ | _ | q) <;> first | rfl | (exfalso; revert hq; simp; done))))); done) | ((try simp only [JS, implies_true, forall_const, shaped, shapedL, kndOf, inR, inN]); (repeat' (first | assumption | exact True.intro | omega | apply And.intro)); done))))) | fail)
  apply At.endsRet tab_ok (fn := Tryz.f21) (rs := [.tmp 0]) Anc.refl hro (Nat.le_of_ble_eq_true rfl) rfl
  · simp only [push_cast, ↓JP, Nat.reduceAdd, Nat.reduceEqDiff, Nat.reduceLT, Nat.reduceMul, Nat.reduceLeDiff, reduceCtorEq, reduceIte, ↓JK, resV, resV1, newP, ls_one, ls_two, ls_zero, insOf_agg, evtOf_agg, isEvt_agg, nat_zero_int, nat_one_int]; rfl
  · exact Vm.b7
  · exact Vm.b8
  · rfl
  · exact Vm.b105
  · exact Vm.b10
  · first | exact fun β => rfl | (intro β; kernel_rfl)
  · exact Vm.b105
def sAw28 : Spec := fun args h m => match args with
  | [] => some (True, .bool true, [], [])
  | _ => none
theorem sAw28_ok : CallOk Tryz.prog 21 sAw28 := by
  refine ⟨named_spec (by kernel_rfl), fun args h m c v rd wr hs hm hc w0 M β h' w R hrd hwr hst => ?_⟩
  unfold sAw28 at hs
  split at hs
  · skip
    simp only [Option.some.injEq, Prod.mk.injEq] at hs
    obtain ⟨rfl, rfl, rfl, rfl⟩ := hs
    refine callRo (views := []) (awake28_lit) ?_ R hm hwr ?_ ?_ ?_
    · intro x hx; cases hx
    · intro β1 hv
      simp only [denL, aggDen, intDen, natDen, boolDen, ls_length]
    · exact Vm.b105
    · exact Vm.b105
  · cases hs
end Go.Proofs.YtjliakjbdcplcaaGreat.Vm
end
