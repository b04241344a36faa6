import Derived.Test.YtmljmabbopkpiaaU8
import Derived.Test.YtmljmabbopkpiaaU24
set_option linter.unusedSimpArgs false
set_option linter.unusedVariables false
section
namespace Go.Proofs.Ytmljmabbopkpiaa
open Go.ChangeShapes Go.WideShapes Go.ChangeAt Go.RowKit Go.Deep
theorem r64_of {a : Int} (h : (Lit.int .i64 a).wf = true) : Vm.R64 a := by
 simp [Lit.wf, IntKind.min, IntKind.max, IntKind.signed, IntKind.bits] at h
 exact ⟨by omega, by omega⟩
theorem open_wordsR {H : Type} {enc : TypeId × Value → H} {w : World} {base : Nat} {n : Nat} {v : Value} {x : DataW H × List MemPlace} (h : DataW.trod enc Try.prog w base (fun _ => true) true n 47 [v] = some x) :
  ∃ A l c xs, v = .slice A l c ∧ l ≤ c ∧ c ≤ 9223372036854775807 ∧ (∀ k, Vm.R64 (List.getD xs k 0)) ∧ z8_ w w.heap.size 1 A l (int64s xs) := by
 rcases open_slice1 Try.underlying47 (by kernel_rfl) h with ⟨h0, _⟩ | ⟨a, len, cap, m, k, V, D, Pl, h0, _, hl, hm, hmm, _, hx⟩
 ·exact ⟨none, 0, 0, [], (List.cons.inj h0).1, by omega, by omega, fun k => Vm.zero_R, z8_.none_⟩
 ·have hmc : m = cap := hmm.trans (if_pos rfl)
  obtain ⟨f, hf⟩ := choose_lt (n := len) (p := fun i (z : Int) => V i = .int .i64 z ∧ Vm.R64 z) (fun i hi => by
   obtain ⟨z, hz, hb⟩ := trod_int_at17 Try.underlying2 (hx i (by omega)).2
   exact ⟨z, hz, r64_of hb⟩)
  refine ⟨some a, len, cap, (List.range len).map f, (List.cons.inj h0).1, hl, by unfold maxLen at hm; omega, fun q => ?_, by simp [int64s], fun hn => ⟨a, rfl, ?_, fun j u hu => ?_⟩⟩
  ·by_cases hq : q < len
   ·rw [show List.getD ((List.range len).map f) q 0 = f q by simp [List.getD_eq_getElem?_getD, hq]]
    exact (hf q hq).2
   ·rw [show List.getD ((List.range len).map f) q 0 = 0 by simp [List.getD_eq_getElem?_getD, hq]]
    exact Vm.zero_R
  ·have := cell_lt17 (hx 0 (by omega)).1
   rwa [block_of_add] at this
  ·have hj : j < len := by
    have := (List.getElem?_eq_some_iff.1 hu).1
    simpa [int64s] using this
   rw [(hx j (by omega)).1, ← hu, (hf j hj).1]
   simp [int64s, hj]
namespace Vm
theorem viewP {w : World} {A : Option Addr} {cap : Nat} {P : List Ins} (h : z8_ w w.heap.size 5 A P.length (insV P)) (hc : P.length ≤ cap) : (View.mk 5 P.length (prS P) A cap).Ok w := ⟨fun β => by rw [elems_prS]; exact h, hc, fun h q => prS_stable q, Nat.succ_pos _⟩
theorem viewC {w : World} {A : Option Addr} {cap : Nat} {l : List Int} (h : z8_ w w.heap.size 1 A l.length (int64s l)) (hc : l.length ≤ cap) : (View.mk 1 l.length (i64S l) A cap).Ok w := ⟨fun β => by rw [elems_i64S]; exact h, hc, fun h q => i64S_stable q, Nat.succ_pos _⟩
end Vm
theorem okWide_array_ {P : Program} {w : World} {r : Reach} {base n : Nat} {t e : TypeId} {v : Value} (ht : P.underlying t = some (.array n e)) (h : Value.okWide P w r base t v) : ∃ cs, v = .agg cs ∧ cs.size = P.cellsOf t := by
 simp only [Value.okWide, ht] at h
 obtain ⟨cs, h1, h2, _⟩ := h
 exact ⟨cs, h1, h2⟩
def arr3 (a : Nat → Int) : Value := .agg #[.int .i64 (a 0), .int .i64 (a 1), .int .i64 (a 2)]
set_option maxRecDepth 100000 in
theorem open_arr3 {H : Type} {enc : TypeId × Value → H} {w : World} {base b0 : Nat} {r : Reach} {spare : Nat → Bool} {held : Bool} {v : Value} {d : DataW H} {p : List MemPlace} (hv : Value.okWide Try.prog w r b0 87 v) (h : DataW.Trod enc Try.prog w base spare held 87 v d p) :
  ∃ a : Nat → Int, v = arr3 a ∧ ∀ q, Vm.R64 (a q) := by
 obtain ⟨cs, rfl, hsz⟩ := okWide_array_ Try.underlying87 hv
 obtain ⟨l⟩ := cs
 have h5 : Try.prog.cellsOf 87 = 3 := by kernel_rfl
 have h6 : Try.prog.cellsOf 2 = 1 := by kernel_rfl
 match l, hsz.trans h5 with
 | [c0, c1, c2], _ =>
  obtain ⟨fuel, hf⟩ := h
  obtain ⟨zs, k, _, _, _, zlen, hz⟩ := DataW.trod_array Try.underlying87 hf
  match zs, zlen with
  | [z0, z1, z2], _ =>
   have u0 : DataW.trod enc Try.prog w base spare held k 2 [c0] = some z0 := by simpa [Value.cells, h6] using hz 0 (by decide)
   have u1 : DataW.trod enc Try.prog w base spare held k 2 [c1] = some z1 := by simpa [Value.cells, h6] using hz 1 (by decide)
   have u2 : DataW.trod enc Try.prog w base spare held k 2 [c2] = some z2 := by simpa [Value.cells, h6] using hz 2 (by decide)
   obtain ⟨a0, e0, _, s0⟩ := DataW.trod_int Try.underlying2 u0
   obtain rfl := (List.cons.inj e0).1
   obtain ⟨a1, e1, _, s1⟩ := DataW.trod_int Try.underlying2 u1
   obtain rfl := (List.cons.inj e1).1
   obtain ⟨a2, e2, _, s2⟩ := DataW.trod_int Try.underlying2 u2
   obtain rfl := (List.cons.inj e2).1
   simp [Lit.wf, IntKind.min, IntKind.max, IntKind.signed, IntKind.bits] at s0 s1 s2
   refine ⟨fun j => match j with | 0 => a0 | 1 => a1 | _ => a2, rfl, fun q => ?_⟩
   match q with
   | 0 => exact s0
   | 1 => exact s1
   | q + 2 => exact s2
theorem den_arr3 {β : Vm.Env} (a : Nat → Int) : (Vm.SV.arr 3 1 fun q => .int .i64 (a q)).den β = arr3 a := rfl
theorem checkSound_walk (xs : List Ins) (hx : ∀ x ∈ xs, x.ok) (A : Option Addr) (n cap : Nat) (hn : n ≤ cap) (hcap : cap ≤ 9223372036854775807) (ev : Nat → Int) (he : ∀ q, Vm.R64 (ev q)) (os : List Int) (B : Option Addr) (n2 cap2 : Nat) (hn2 : n2 ≤ cap2) (hcap2 : cap2 ≤ 9223372036854775807) (ho : ∀ q, Vm.R64 (os.getD q 0)) (a b d : Int) (ha : 0 ≤ a ∧ a ≤ 255) (hb : 0 ≤ b ∧ b ≤ 255) (hd : 0 ≤ d ∧ d ≤ 255) (W : World) (hA : z8_ W W.heap.size 5 A n (insV xs)) (hB : z8_ W W.heap.size 1 B n2 (int64s os)) :
  Calls Try.prog 12 #[.slice A n cap, arr3 ev, .slice B n2 cap2, .int .u8 a, .int .u8 b, .int .u8 d] W fun e W' => e = .returned (.bool true) ∧ Below W.heap.size W W' := by
 have hnl := hA.ins_len
 subst hnl
 have hnl2 := hB.i64_len
 subst hnl2
 obtain ⟨β, _, R, hv⟩ := Vm.handedAll (W := W) [⟨5, xs.length, Vm.prS xs, A, cap⟩, ⟨1, os.length, Vm.i64S os, B, cap2⟩] (fun x hx => by
  simp only [List.mem_cons, List.not_mem_nil, or_false] at hx
  rcases hx with rfl | rfl
  ·exact Vm.viewP hA hn
  ·exact Vm.viewC hB hn2) (Vm.start W)
 simp only [Vm.Vd, and_true] at hv
 obtain ⟨z0, z1⟩ := hv
 have z0 : (Vm.SV.sl 1 2 [] 5 0 xs.length (some cap)).den β = .slice A xs.length cap := z0
 have z1 : (Vm.SV.sl 3 4 [] 1 0 os.length (some cap2)).den β = .slice B os.length cap2 := z1
 have := Vm.law_of_lit17 (Vm.sound_lit17 xs os cap cap2 ev a b d hx (by omega) (by omega) ho he ha hb hd) R
 simp only [Vm.denL, z0, z1, den_arr3] at this
 exact this
set_option maxRecDepth 100000 in
set_option maxHeartbeats 1000000 in
theorem checkSound_lifted (os : Os) (started : os.Started) (H : Type) (enc : TypeId × Value → H) :
  ReturnsInHanded {} Try.checked os 12 .any (Rows.checkSoundSpec.pre6 enc Try.prog Try.f12 Rows.checkSoundRow.domain false) (Rows.checkSoundSpec.post enc Try.prog Try.f12 false true false false) := by
 refine returnsInHanded_of_change (C := Try.checked) ownKnob_ started (by kernel_rfl) Try.func12
  (ChangeSpec.witness6 (enc := enc) (C := Try.checked) false ⟨#[], #[.slice none 0 0, .agg #[.int .i64 0, .int .i64 0, .int .i64 0], .slice none 0 0, .int .u8 0, .int .u8 0, .int .u8 0], []⟩ 8 (by kernel_rfl) (by kernel_rfl) (by kernel_rfl) (by kernel_rfl)) ?_
 intro W base args ds gs before hval0 hW _ _
 have hval : ∀ (j : Nat) t v, Try.f12.params[j]? = some t → args[j]? = some v → Value.okWide Try.prog W .any base t v := hval0
 have hW' := hW
 obtain ⟨p, q, hA0, hV, rfl, hfz, hnd⟩ := hW
 have hA : DataW.TrodAll enc Try.prog W 0 (fun _ => true) true Try.f12.params.toList args.toList ds p := hA0
 obtain ⟨rfl, rfl⟩ := trodVars_none hV
 rw [Try.params12] at hA hval
 obtain ⟨v0, vs0, d0, ds0, p0, q0, hargs, rfl, rfl, h0, r0⟩ := trodAll_cons hA
 obtain ⟨v1, vs1, d1, ds1, p1, q1, rfl, rfl, rfl, h1, r1⟩ := trodAll_cons r0
 obtain ⟨v2, vs2, d2, ds2, p2, q2, rfl, rfl, rfl, h2, r2⟩ := trodAll_cons r1
 obtain ⟨v3, vs3, d3, ds3, p3, q3, rfl, rfl, rfl, h3, r3⟩ := trodAll_cons r2
 obtain ⟨v4, vs4, d4, ds4, p4, q4, rfl, rfl, rfl, h4, r4⟩ := trodAll_cons r3
 obtain ⟨v5, vs5, d5, ds5, p5, q5, rfl, rfl, rfl, h5, r5⟩ := trodAll_cons r4
 obtain ⟨rfl, rfl, rfl⟩ := trodAll_nil r5
 obtain rfl : args = #[v0, v1, v2, v3, v4, v5] := by cases args; simp_all
 have hc0 : v0.cells.toList = [v0] := by
  obtain ⟨_, _, _, e⟩ := okWide_slice Try.underlying22 (hval 0 22 v0 rfl rfl)
  subst e
  rfl
 have hc2 : v2.cells.toList = [v2] := by
  obtain ⟨_, _, _, e⟩ := okWide_slice Try.underlying47 (hval 2 47 v2 rfl rfl)
  subst e
  rfl
 obtain ⟨fu, g0⟩ := h0
 rw [hc0] at g0
 obtain ⟨A, l, c, xs, rfl, b1, b2, b3, b4⟩ := open_small17s g0
 obtain ⟨ev, rfl, he⟩ := open_arr3 (hval 1 87 v1 rfl rfl) h1
 obtain ⟨fu2, g2⟩ := h2
 rw [hc2] at g2
 obtain ⟨B, l2, c2, os, rfl, e1, e2, e3, e4⟩ := open_wordsR g2
 obtain ⟨x3, rfl, _, _, w3⟩ := open_int Try.underlying5 (hval 3 5 v3 rfl rfl) h3
 obtain ⟨x4, rfl, _, _, w4⟩ := open_int Try.underlying5 (hval 4 5 v4 rfl rfl) h4
 obtain ⟨x5, rfl, _, _, w5⟩ := open_int Try.underlying5 (hval 5 5 v5 rfl rfl) h5
 refine (checkSound_walk xs b3 A l c b1 b2 ev he os B l2 c2 e1 e2 e3 x3 x4 x5 (by simpa [Lit.wf, IntKind.min, IntKind.max, IntKind.signed, IntKind.bits] using w3) (by simpa [Lit.wf, IntKind.min, IntKind.max, IntKind.signed, IntKind.bits] using w4) (by simpa [Lit.wf, IntKind.min, IntKind.max, IntKind.signed, IntKind.bits] using w5) W b4 e4).mono fun e W' ⟨he, hb⟩ => ?_
 subst he
 exact ⟨_, rfl, law_post hW' rfl (by kernel_rfl) (by decide +kernel) ⟨rfl, rfl, rfl⟩ hb⟩
theorem checkSound_over : Rows.checkSoundRow.holds Try.pinned (OpenSpec.ofChange Rows.checkSoundSpec) :=
 OpenClaim.holds_of_wide 12 Try.f12 rfl rfl rfl rfl rfl rfl rfl ⟨rfl, rfl, rfl, rfl, rfl⟩ rfl rfl rfl rfl rfl (by kernel_rfl) Try.func12 (by kernel_rfl)
  (of_decide_eq_true (by kernel_rfl)) (by unfold Func.isWrapper; first | (rw [if_pos (by decide +kernel)]; kernel_rfl) | (rw [if_neg (by decide +kernel)]; exact ⟨rfl, rfl⟩))
  (fun os started H enc _ => checkSound_lifted os started H enc)
theorem checkSound_proved : Rows.CheckSoundSaid := checkSound_over
end Go.Proofs.Ytmljmabbopkpiaa
end
