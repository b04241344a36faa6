import Derived.Test.YtjliakjbdcplcaaGreatN1
import Derived.Test.YtjliakjbdcplcaaGreatN4
import Derived.Test.YtjliakjbdcplcaaGreatN5
import Derived.Test.YtjliakjbdcplcaaGreatProg
import Derived.Test.YtjliakjbdcplcaaGreatChecked
import Derived.ProofKit
import Derived.Deep.Slices
import Derived.Scope
section
namespace Go.Proofs.YtjliakjbdcplcaaGreat.Vm
theorem b3 {P : Prop} (h : P := by rename_i q; intro hf hc; obtain ⟨q1, q2, q3, q4⟩ := hc; exact ⟨by omega, by omega, by omega, fun t => by omega, by omega⟩) : P := h
theorem b4 {P : Prop} (h : P := by rename_i q; intro hf hc; obtain ⟨q1, q2, q3, q4, q5⟩ := hc; exact ⟨by omega, by omega, by omega, fun t => by omega, by omega⟩) : P := h
theorem b5 {P : Prop} (h : P := by ((repeat' (first | exact trivial | apply And.intro)) <;> (first | rfl | (simp only [look, cond_true, cond_false]; done)))) : P := h
theorem b6 {P : Prop} (h : P := by (repeat' (first | exact trivial | exact .same _ | exact .dead _ | exact .gone rfl | exact .loose | assumption | exact .arr (by assumption) | apply And.intro))) : P := h
theorem b7 {P : Prop} (h : P := by (repeat' (first | exact trivial | exact rfl | assumption | apply Stable.ite | apply And.intro | intro _ | (simp only [Stable, StableL, i64S, prS, insS, sndsS, sndS]; done)))) : P := h
theorem b8 {P : Prop} (h : P := by simp only [push_cast, ↓JP, Nat.reduceAdd, Nat.reduceEqDiff, Nat.reduceLT, Nat.reduceMul, Nat.reduceLeDiff, reduceCtorEq, reduceIte, resV, resV1]; rfl) : P := h
theorem b9 {P : Prop} (h : P := by (first | trivial | (simp only [and_self]; done))) : P := h
theorem b10 {P : Prop} (h : P := by (repeat' (first | exact trivial | exact .inl rfl | exact .inr rfl | exact rfl | apply And.intro))) : P := h
theorem b11 {P : Prop} (h : P := by simp only [push_cast, ↓JP, Nat.reduceAdd, Nat.reduceEqDiff, Nat.reduceLT, Nat.reduceMul, Nat.reduceLeDiff, reduceCtorEq, reduceIte, ↓JK, resV, resV1]; rfl) : P := h
theorem b12 {P : Prop} (h : P := by (first | exact True.intro | ((try simp only [JS, implies_true, forall_const, shaped, shapedL, kndOf]); (repeat' (first | assumption | exact True.intro | omega | apply And.intro)); done))) : P := h
theorem b13 {P : Prop} (h : P := by (simp only [push_cast, ↓JP, Nat.reduceAdd, Nat.reduceEqDiff, Nat.reduceLT, Nat.reduceMul, Nat.reduceLeDiff, reduceCtorEq, reduceIte]; rfl)) : P := h
theorem b14 {P : Prop} (h : P := by (first | exact True.intro | ((try simp only [JS, implies_true, forall_const, shaped, shapedL, kndOf, inR, inN]); (repeat' (first | assumption | exact True.intro | omega | apply And.intro)); done))) : P := h
theorem b15 {P : Prop} (h : P := by (simp only [push_cast, ↓JP, Nat.reduceAdd, Nat.reduceEqDiff, Nat.reduceLT, Nat.reduceMul, Nat.reduceLeDiff, reduceCtorEq, reduceIte, hjl, hc, inR, inN]; rfl)) : P := h
end Go.Proofs.YtjliakjbdcplcaaGreat.Vm
end
section
namespace Go.Proofs.YtjliakjbdcplcaaGreat
open Go.RowKit
set_option linter.unusedVariables false
set_option linter.unusedSimpArgs false

def badAt (n : Int) (i : Ins) : Int := if oneE i ≠ 0 then oneE i else if targB i = true ∧ n ≤ targV i then 142 else 0
def checkK (p : List Ins) : Int × Int :=
  match p.findIdx? (fun i => badAt p.length i != 0) with
  | some k => (k, badAt p.length (p.getD k ⟨0, 0, 0, 0, 0⟩))
  | none => if goesB (p.getD (p.length - 1) ⟨0, 0, 0, 0, 0⟩) then ((p.length : Int) - 1, 143) else (-1, 0)
def checkI (p : List Ins) : Int × Int := if p.length = 0 then (-1, 6) else if 256 < p.length then (-1, 5) else checkK p

theorem checkK_bad {p : List Ins} {j : Nat} {x : Ins} {v : Int} (h : ∀ i, i < j → ∀ y, p[i]? = some y → badAt p.length y = 0) (hx : p[j]? = some x) (hv : badAt p.length x = v) (hn : v ≠ 0) : checkK p = ((j : Int), v) := by
  have hj : j < p.length := (List.getElem?_eq_some_iff.1 hx).1
  have hf : p.findIdx? (fun i => badAt p.length i != 0) = some j := by
    rw [List.findIdx?_eq_some_iff_getElem]
    refine ⟨hj, ?_, fun i hi => ?_⟩
    · have : p[j] = x := (List.getElem?_eq_some_iff.1 hx).2
      rw [this, hv]; simpa using hn
    · simp [h i hi _ (List.getElem?_eq_getElem (by omega))]
  unfold checkK
  rw [hf]
  simp [List.getD, hx, hv]
theorem checkK_none {p : List Ins} (h : ∀ i, i < p.length → ∀ y, p[i]? = some y → badAt p.length y = 0) : checkK p = if goesB (p.getD (p.length - 1) ⟨0, 0, 0, 0, 0⟩) then ((p.length : Int) - 1, 143) else (-1, 0) := by
  have hf : p.findIdx? (fun i => badAt p.length i != 0) = none := by
    rw [List.findIdx?_eq_none_iff]
    intro x hx
    obtain ⟨i, hi, rfl⟩ := List.getElem_of_mem hx
    simp [h i hi _ (List.getElem?_eq_getElem hi)]
  unfold checkK
  rw [hf]

set_option maxRecDepth 100000 in
set_option maxHeartbeats 2000000 in
theorem check_mid (A : Option Addr) (n c : Nat) (p : List Ins) (hok : ∀ i ∈ p, i.ok) (w : World) (h : Reads w w.heap.size 5 A n (insV p)) (h0 : ((n : Int) == 0) = false) (h0' : 0 < n) (h1 : n ≤ 256) :
    Calls Tryz.prog 109 #[.slice A n c] w fun e w' => e = .returned (.tuple #[.int .i64 (checkK p).1, .int .i64 (checkK p).2]) ∧ Below w.heap.size w w' := by
  have hpl := h.ins_len
  have HL := Lib.hid hpl
  clear hpl
  go_enter Tryz.func109, Tryz.ntmps109
  go_wp2
  go_loopw [4, 5, 6, 7, 8, 20] (fun _ _ _ _ _ k wr => ∃ j : Nat, k = .int .i64 j ∧ j ≤ n ∧ (∀ i, i < j → ∀ y, p[i]? = some y → badAt n y = 0) ∧ Below w.heap.size w wr) (fun _ _ _ _ _ k _ => n - (intOf k).toNat)
  case atStart => exact ⟨0, rfl, by omega, fun i hi => by omega, Below.refl _ _⟩
  case round =>
    obtain ⟨j, rfl, hj, hbad, hb⟩ := hrel
    have HBad := Lib.hid hbad
    clear hbad
    by_cases hlt : j < n
    · obtain ⟨b, o, x, rfl, hl1, hx, hc0, hc1, hc2, hc3, hc4⟩ := (h.below hb).ins_at hlt
      have hxok := hok x (List.mem_of_getElem? hx)
      obtain ⟨op, a, b', c', m⟩ := x
      have HX := Lib.hid hx
      have HO := Lib.hid hxok
      have HB := Lib.hid hb
      have hz := hb.size
      clear hb hx h hxok hok
      dsimp only at hc0 hc1 hc2 hc3 hc4
      obtain ⟨I, hI⟩ : ∃ I : Ins, I = ⟨op, a, b', c', m⟩ := ⟨_, rfl⟩
      rw [← hI] at HO HX
      have HI := Lib.hid hI
      clear hI
      have h1 : ∀ w, Calls Tryz.prog 134 #[.agg #[.int .u8 op, .int .u8 a, .int .u8 b', .int .u8 c', .int .i64 m]] w fun e w' => e = .returned (.int .i64 (oneE I)) ∧ Below w.heap.size w w' := fun w => by
        have := one_c I HO.out w; rw [HI.out] at this ⊢; exact this
      have h2 : ∀ w, Calls Tryz.prog 135 #[.agg #[.int .u8 op, .int .u8 a, .int .u8 b', .int .u8 c', .int .i64 m]] w fun e w' => e = .returned (.tuple #[.int .i64 (targV I), .bool (targB I)]) ∧ Below w.heap.size w w' := fun w => by
        have := target_c I HO.out w; rw [HI.out] at this ⊢; exact this
      have hbadE : badAt n I = if oneE I ≠ 0 then oneE I else if targB I = true ∧ (n : Int) ≤ targV I then 142 else 0 := rfl
      obtain ⟨V, hV⟩ : ∃ V, V = targV I := ⟨_, rfl⟩
      obtain ⟨T, hT⟩ : ∃ T, T = targB I := ⟨_, rfl⟩
      obtain ⟨E, hE⟩ : ∃ E, E = oneE I := ⟨_, rfl⟩
      rw [← hE] at h1 hbadE
      rw [← hV, ← hT] at h2 hbadE
      have H1 := Lib.hid h1
      have H2 := Lib.hid h2
      have HE := Lib.hid hbadE
      clear h1 h2 hbadE hV hT hE
      go_wp2_with fail
      refine (H1.out _).mono ?_
      rintro e w2 ⟨rfl, hb2⟩
      have hz2 := hb2.size
      simp at hz2
      have q : ∀ k u, #[Value.int .u8 op, .int .u8 a, .int .u8 b', .int .u8 c', .int .i64 m][k]? = some u → w2.cell? ⟨wr.heap.size, k, none⟩ = some u := fun k u hu => by
        rw [hb2.cell (p := ⟨wr.heap.size, k, none⟩) (by simp), cell_of_row _ _ _ _ _ _ (heap_alloc_new wr _)]; exact hu
      have q0 := q 0 _ rfl
      have q1 := q 1 _ rfl
      have q2 := q 2 _ rfl
      have q3 := q 3 _ rfl
      have q4 := q 4 _ rfl
      have HB2 := Lib.hid ((HB.out.alloc hz _).trans (hb2.mono (by simp; omega)))
      clear q hb2
      by_cases hE0 : E = 0
      · subst hE0
        go_wp2_with fail
        refine (H2.out _).mono ?_
        rintro e w3 ⟨rfl, hb3⟩
        have hz3 := hb3.size
        have HB3 := Lib.hid (HB2.out.trans (hb3.mono (by omega)))
        clear hb3
        by_cases hbad : T = true ∧ (n : Int) ≤ V
        · obtain ⟨rfl, hnV⟩ := hbad
          go_wp2
          go_ret2
          refine ⟨?_, HB3.out⟩
          have hv : badAt p.length I = 142 := by rw [HL.out, HE.out]; simp [hnV]
          rw [checkK_bad (by rw [HL.out]; exact HBad.out) HX.out hv (by decide)]
          rfl
        · cases T with
          | false =>
            go_wp2
            go_roundw
            case rel => 
              refine ⟨j + 1, by go_num, by omega, fun i hi y hy => ?_, HB3.out⟩
              by_cases hij : i < j
              · exact HBad.out i hij y hy
              · obtain rfl : i = j := by omega
                rw [HX.out] at hy
                obtain rfl : I = y := by cases hy; rfl
                rw [HE.out]; simp
            case measure => simp [intOf]; omega
          | true =>
            have hV : V < (n : Int) := by simp at hbad; omega
            clear hbad
            go_wp2
            go_roundw
            case rel => 
              refine ⟨j + 1, by go_num, by omega, fun i hi y hy => ?_, HB3.out⟩
              by_cases hij : i < j
              · exact HBad.out i hij y hy
              · obtain rfl : i = j := by omega
                rw [HX.out] at hy
                obtain rfl : I = y := by cases hy; rfl
                rw [HE.out]; simp; omega
            case measure => simp [intOf]; omega
      · have hE1 : (E != 0) = true := by rw [bne_iff_ne]; exact hE0
        have HE0 := Lib.hid hE0
        clear hE0
        go_wp2
        go_ret2
        refine ⟨?_, HB2.out⟩
        have hv : badAt p.length I = E := by rw [HL.out, HE.out, if_pos HE0.out]
        rw [checkK_bad (by rw [HL.out]; exact HBad.out) HX.out hv HE0.out]
        rfl
    · obtain rfl : j = n := by omega
      have hk := checkK_none (p := p) (by rw [HL.out]; exact HBad.out)
      obtain ⟨b, o, x, rfl, hl1, hx, hc0, hc1, hc2, hc3, hc4⟩ := (h.below hb).ins_at (k := j - 1) (by omega)
      have hxok := hok x (List.mem_of_getElem? hx)
      have hg : p.getD (p.length - 1) ⟨0, 0, 0, 0, 0⟩ = x := by rw [HL.out]; simp [List.getD, hx]
      rw [hg, HL.out] at hk
      have hi : (((j : Int) - 1).toNat) = j - 1 := by omega
      have hs1 : (0 : Int) ≤ (j : Int) - 1 := by omega
      have hg1 := fun w => goes_c x hxok w
      obtain ⟨G, hG⟩ : ∃ G, G = goesB x := ⟨_, rfl⟩
      rw [← hG] at hk hg1
      have HK := Lib.hid hk
      have HB := Lib.hid hb
      have HG := Lib.hid hg1
      obtain ⟨op, a, b', c', m⟩ := x
      dsimp only at hc0 hc1 hc2 hc3 hc4
      clear hk hb h hok hx hxok hg hG hg1 hi
      go_wp2_with fail
      refine (HG.out _).mono ?_
      rintro e w2 ⟨rfl, hb2⟩
      have HB2 := Lib.hid (HB.out.trans (hb2.mono HB.out.size))
      clear hb2
      cases G with
      | false =>
        go_wp2
        go_ret2
        refine ⟨?_, HB2.out⟩
        rw [HK.out]
        rfl
      | true =>
        go_wp2
        go_ret2
        refine ⟨?_, HB2.out⟩
        rw [HK.out]
        rfl

set_option maxRecDepth 100000 in
set_option maxHeartbeats 2000000 in
theorem check_c (A : Option Addr) (n c : Nat) (hn : n < 2^62) (p : List Ins) (hok : ∀ i ∈ p, i.ok) (w : World) (h : Reads w w.heap.size 5 A n (insV p)) :
    Calls Tryz.prog 109 #[.slice A n c] w fun e w' => e = .returned (.tuple #[.int .i64 (checkI p).1, .int .i64 (checkI p).2]) ∧ Below w.heap.size w w' := by
  have hpl := h.ins_len
  unfold checkI
  rw [hpl]
  by_cases h0 : n = 0
  · subst h0
    go_enter Tryz.func109, Tryz.ntmps109
    go_wp2
    go_ret2
    exact ⟨rfl, Below.refl _ _⟩
  · rw [if_neg h0]
    by_cases h1 : 256 < n
    · rw [if_pos h1]
      have h0' : ((n : Int) == 0) = false := by simp; exact h0
      have h1' : (256 : Int) < n := by omega
      clear h h0 hok hpl
      go_enter Tryz.func109, Tryz.ntmps109
      go_wp2
      go_ret2
      exact ⟨rfl, Below.refl _ _⟩
    · rw [if_neg h1]
      exact check_mid A n c p hok w h (by simp; exact h0) (by omega) (by omega)
end Go.Proofs.YtjliakjbdcplcaaGreat
end

section
namespace Go.Proofs.YtjliakjbdcplcaaGreat
open Go.RowKit
set_option linter.unusedVariables false
set_option linter.unusedSimpArgs false

def wrongE (op b : Int) : Int := if op < 1 ∨ 17 < op then 130 else if b = 0 ∧ 4 ≤ op ∧ op ≤ 6 then 131 else 0

def allL : List Value := [.string ⟨#[]⟩, .bool false, .string ⟨#[97, 100, 100]⟩, .bool false, .string ⟨#[115, 117, 98]⟩, .bool false, .string ⟨#[109, 117, 108]⟩, .bool false,
  .string ⟨#[100, 105, 118]⟩, .bool true, .string ⟨#[114, 101, 109]⟩, .bool true, .string ⟨#[109, 111, 100]⟩, .bool true, .string ⟨#[97, 110, 100]⟩, .bool false, .string ⟨#[111, 114]⟩, .bool false,
  .string ⟨#[120, 111, 114]⟩, .bool false, .string ⟨#[115, 104, 108]⟩, .bool false, .string ⟨#[115, 104, 114]⟩, .bool false, .string ⟨#[115, 97, 114]⟩, .bool false, .string ⟨#[108, 101, 115, 115]⟩, .bool false,
  .string ⟨#[98, 101, 108, 111, 119]⟩, .bool false, .string ⟨#[101, 113, 117, 97, 108]⟩, .bool false, .string ⟨#[109, 105, 110]⟩, .bool false, .string ⟨#[109, 97, 120]⟩, .bool false]

theorem truth_t (w : World) : Calls Tryz.prog 186 #[.bool true] w fun e w' => e = .returned (.int .i64 1) ∧ w = w' := by
  go_enter Tryz.func186, Tryz.ntmps186
  go_wp2
  go_ret
  exact ⟨rfl, rfl⟩
theorem truth_f (w : World) : Calls Tryz.prog 186 #[.bool false] w fun e w' => e = .returned (.int .i64 0) ∧ w = w' := by
  go_enter Tryz.func186, Tryz.ntmps186
  go_wp2
  go_ret
  exact ⟨rfl, rfl⟩
def truthI (b : Bool) : Int := if b then 1 else 0
theorem truth_c (b : Bool) (w : World) : Calls Tryz.prog 186 #[.bool b] w fun e w' => e = .returned (.int .i64 (truthI b)) ∧ w = w' := by
  cases b
  · exact truth_f w
  · exact truth_t w

def modI (a b : Int) : Int := if 0 ≤ a.tmod b then a.tmod b else if b < 0 then wrap64 (a.tmod b - b) else wrap64 (a.tmod b + b)
theorem mod_c (a b : Int) (w : World) (hb : b ≠ 0) : Calls Tryz.prog 185 #[.int .i64 a, .int .i64 b] w fun e w' => e = .returned (.int .i64 (modI a b)) ∧ w = w' := by
  go_enter Tryz.func185, Tryz.ntmps185
  go_wp2
  all_goals go_ret
  all_goals refine ⟨ret_i64 ?_, rfl⟩
  · rw [modI, if_pos (by assumption)]
  · rw [modI, if_neg (by omega), if_pos (by assumption)]
  · rw [modI, if_neg (by omega), if_neg (by omega)]

set_option maxRecDepth 100000 in
set_option maxHeartbeats 4000000 in
theorem all_c (w : World) : Calls Tryz.prog 190 #[] w fun e w' => e = .returned (.agg allL.toArray) ∧ Below w.heap.size w w' := by
  go_enter Tryz.func190, Tryz.ntmps190
  go_wp2_with (refine wpList_store_row rfl 276 (.tmp 0) (.tmp 19) rfl w.heap.size allL.toArray rfl rfl 276 _ (heap_alloc_new w _) (by kernel_rfl) rfl (by kernel_rfl) ?_)
  exact bodyPost_ret (v := .agg allL.toArray) (results_cell_row (P := Tryz.prog) (p := 0) (ty := 276) rfl _ _ w.heap.size 276 allL.toArray (0, 0) _ rfl (setRow_heap _ _ _ _ _ _ (heap_alloc_new w _)) Tryz.underlying276 rfl (by kernel_rfl)) rfl
    ⟨rfl, below_setRow ((Below.refl _ _).alloc (Nat.le_refl _) _) (Nat.le_refl _) _⟩

def nmB : Value → ByteArray
  | .string s => s
  | _ => ⟨#[]⟩
def nm (op : Int) : ByteArray := nmB (allL.getD (2 * op).toNat undef)
theorem allIx1 (w : World) : (Instr.index 276 (.agg allL.toArray) (.int .u8 1)).run Tryz.prog w = .ok (.agg #[.string (nm 1), .bool (decide ((4:Int) ≤ 1 ∧ (1:Int) ≤ 6))]) w := by kernel_rfl
theorem allIx2 (w : World) : (Instr.index 276 (.agg allL.toArray) (.int .u8 2)).run Tryz.prog w = .ok (.agg #[.string (nm 2), .bool (decide ((4:Int) ≤ 2 ∧ (2:Int) ≤ 6))]) w := by kernel_rfl
theorem allIx3 (w : World) : (Instr.index 276 (.agg allL.toArray) (.int .u8 3)).run Tryz.prog w = .ok (.agg #[.string (nm 3), .bool (decide ((4:Int) ≤ 3 ∧ (3:Int) ≤ 6))]) w := by kernel_rfl
theorem allIx4 (w : World) : (Instr.index 276 (.agg allL.toArray) (.int .u8 4)).run Tryz.prog w = .ok (.agg #[.string (nm 4), .bool (decide ((4:Int) ≤ 4 ∧ (4:Int) ≤ 6))]) w := by kernel_rfl
theorem allIx5 (w : World) : (Instr.index 276 (.agg allL.toArray) (.int .u8 5)).run Tryz.prog w = .ok (.agg #[.string (nm 5), .bool (decide ((4:Int) ≤ 5 ∧ (5:Int) ≤ 6))]) w := by kernel_rfl
theorem allIx6 (w : World) : (Instr.index 276 (.agg allL.toArray) (.int .u8 6)).run Tryz.prog w = .ok (.agg #[.string (nm 6), .bool (decide ((4:Int) ≤ 6 ∧ (6:Int) ≤ 6))]) w := by kernel_rfl
theorem allIx7 (w : World) : (Instr.index 276 (.agg allL.toArray) (.int .u8 7)).run Tryz.prog w = .ok (.agg #[.string (nm 7), .bool (decide ((4:Int) ≤ 7 ∧ (7:Int) ≤ 6))]) w := by kernel_rfl
theorem allIx8 (w : World) : (Instr.index 276 (.agg allL.toArray) (.int .u8 8)).run Tryz.prog w = .ok (.agg #[.string (nm 8), .bool (decide ((4:Int) ≤ 8 ∧ (8:Int) ≤ 6))]) w := by kernel_rfl
theorem allIx9 (w : World) : (Instr.index 276 (.agg allL.toArray) (.int .u8 9)).run Tryz.prog w = .ok (.agg #[.string (nm 9), .bool (decide ((4:Int) ≤ 9 ∧ (9:Int) ≤ 6))]) w := by kernel_rfl
theorem allIx10 (w : World) : (Instr.index 276 (.agg allL.toArray) (.int .u8 10)).run Tryz.prog w = .ok (.agg #[.string (nm 10), .bool (decide ((4:Int) ≤ 10 ∧ (10:Int) ≤ 6))]) w := by kernel_rfl
theorem allIx11 (w : World) : (Instr.index 276 (.agg allL.toArray) (.int .u8 11)).run Tryz.prog w = .ok (.agg #[.string (nm 11), .bool (decide ((4:Int) ≤ 11 ∧ (11:Int) ≤ 6))]) w := by kernel_rfl
theorem allIx12 (w : World) : (Instr.index 276 (.agg allL.toArray) (.int .u8 12)).run Tryz.prog w = .ok (.agg #[.string (nm 12), .bool (decide ((4:Int) ≤ 12 ∧ (12:Int) ≤ 6))]) w := by kernel_rfl
theorem allIx13 (w : World) : (Instr.index 276 (.agg allL.toArray) (.int .u8 13)).run Tryz.prog w = .ok (.agg #[.string (nm 13), .bool (decide ((4:Int) ≤ 13 ∧ (13:Int) ≤ 6))]) w := by kernel_rfl
theorem allIx14 (w : World) : (Instr.index 276 (.agg allL.toArray) (.int .u8 14)).run Tryz.prog w = .ok (.agg #[.string (nm 14), .bool (decide ((4:Int) ≤ 14 ∧ (14:Int) ≤ 6))]) w := by kernel_rfl
theorem allIx15 (w : World) : (Instr.index 276 (.agg allL.toArray) (.int .u8 15)).run Tryz.prog w = .ok (.agg #[.string (nm 15), .bool (decide ((4:Int) ≤ 15 ∧ (15:Int) ≤ 6))]) w := by kernel_rfl
theorem allIx16 (w : World) : (Instr.index 276 (.agg allL.toArray) (.int .u8 16)).run Tryz.prog w = .ok (.agg #[.string (nm 16), .bool (decide ((4:Int) ≤ 16 ∧ (16:Int) ≤ 6))]) w := by kernel_rfl
theorem allIx17 (w : World) : (Instr.index 276 (.agg allL.toArray) (.int .u8 17)).run Tryz.prog w = .ok (.agg #[.string (nm 17), .bool (decide ((4:Int) ≤ 17 ∧ (17:Int) ≤ 6))]) w := by kernel_rfl
theorem allIxAt (op : Int) (h1 : 1 ≤ op) (h2 : op ≤ 17) (w : World) : (Instr.index 276 (.agg allL.toArray) (.int .u8 op)).run Tryz.prog w = .ok (.agg #[.string (nm op), .bool (decide (4 ≤ op ∧ op ≤ 6))]) w := by
  have h : op = 1 ∨ op = 2 ∨ op = 3 ∨ op = 4 ∨ op = 5 ∨ op = 6 ∨ op = 7 ∨ op = 8 ∨ op = 9 ∨ op = 10 ∨ op = 11 ∨ op = 12 ∨ op = 13 ∨ op = 14 ∨ op = 15 ∨ op = 16 ∨ op = 17 := by omega
  rcases h with h | h | h | h | h | h | h | h | h | h | h | h | h | h | h | h | h <;> subst h
  · exact allIx1 w
  · exact allIx2 w
  · exact allIx3 w
  · exact allIx4 w
  · exact allIx5 w
  · exact allIx6 w
  · exact allIx7 w
  · exact allIx8 w
  · exact allIx9 w
  · exact allIx10 w
  · exact allIx11 w
  · exact allIx12 w
  · exact allIx13 w
  · exact allIx14 w
  · exact allIx15 w
  · exact allIx16 w
  · exact allIx17 w

set_option maxHeartbeats 1000000 in
theorem wrong_bad (op b : Int) (w : World) (h : op < 1 ∨ 17 < op) : Calls Tryz.prog 184 #[.int .u8 op, .int .i64 b] w fun e w' => e = .returned (.int .i64 130) ∧ w = w' := by
  rcases h with h | h
  · go_enter Tryz.func184, Tryz.ntmps184
    go_wp2
    go_ret
    exact ⟨rfl, rfl⟩
  · have h' : ¬ op < 1 := by omega
    go_enter Tryz.func184, Tryz.ntmps184
    go_wp2
    go_ret
    exact ⟨rfl, rfl⟩
set_option maxHeartbeats 1000000 in
theorem wrong_ok (op b : Int) (w : World) (h1 : 1 ≤ op) (h2 : op ≤ 17) (hb : (b == 0) = false) : Calls Tryz.prog 184 #[.int .u8 op, .int .i64 b] w fun e w' => e = .returned (.int .i64 0) ∧ w = w' := by
  go_enter Tryz.func184, Tryz.ntmps184
  go_wp2
  go_ret
  exact ⟨rfl, rfl⟩
set_option maxRecDepth 100000 in
set_option maxHeartbeats 1000000 in
theorem wrong_z (op : Int) (w : World) (h1 : 1 ≤ op) (h2 : op ≤ 17) : Calls Tryz.prog 184 #[.int .u8 op, .int .i64 0] w fun e w' => e = .returned (.int .i64 (if 4 ≤ op ∧ op ≤ 6 then 131 else 0)) ∧ Below w.heap.size w w' := by
  have hs := allIxAt op h1 h2
  obtain ⟨V, hV⟩ : ∃ V, V = allL.toArray := ⟨_, rfl⟩
  have ha : ∀ w, Calls Tryz.prog 190 #[] w fun e w' => e = .returned (.agg V) ∧ Below w.heap.size w w' := hV ▸ all_c
  rw [← hV] at hs
  have HA := Lib.hid ha
  clear ha hV
  have hfl : ∀ (w : World) (s : ByteArray) (b : Bool), (Instr.field 275 (.agg #[.string s, .bool b]) 1).run Tryz.prog w = .ok (.bool b) w := fun w s b => by kernel_rfl
  go_enter Tryz.func184, Tryz.ntmps184
  go_wp2_with fail
  refine (HA.out _).mono ?_
  rintro e w' ⟨rfl, hb⟩
  go_wp2
  all_goals go_ret
  all_goals exact ⟨rfl, hb⟩

theorem wrong_c (op b : Int) (w : World) : Calls Tryz.prog 184 #[.int .u8 op, .int .i64 b] w fun e w' => e = .returned (.int .i64 (wrongE op b)) ∧ Below w.heap.size w w' := by
  by_cases h : op < 1 ∨ 17 < op
  · refine (wrong_bad op b w h).mono ?_
    rintro e w' ⟨rfl, rfl⟩
    exact ⟨ret_i64 (by rw [wrongE, if_pos h]), Below.refl _ _⟩
  · by_cases hb : b = 0
    · subst hb
      refine (wrong_z op w (by omega) (by omega)).mono ?_
      rintro e w' ⟨rfl, hB⟩
      refine ⟨ret_i64 ?_, hB⟩
      rw [wrongE, if_neg h]
      simp
    · refine (wrong_ok op b w (by omega) (by omega) (by simpa using hb)).mono ?_
      rintro e w' ⟨rfl, rfl⟩
      exact ⟨ret_i64 (by rw [wrongE, if_neg h, if_neg (fun x => hb x.1)]), Below.refl _ _⟩

set_option maxRecDepth 100000 in
set_option maxHeartbeats 1000000 in
theorem apply_bad (op a b : Int) (w : World) (h : (wrongE op b != 0) = true) : Calls Tryz.prog 180 #[.int .u8 op, .int .i64 a, .int .i64 b] w fun e w' => e = .returned (.tuple #[.int .i64 0, .int .i64 (wrongE op b)]) ∧ Below w.heap.size w w' := by
  have HW := Lib.hid (fun w => wrong_c op b w)
  obtain ⟨E, hE⟩ : ∃ E, E = wrongE op b := ⟨_, rfl⟩
  rw [← hE] at HW h ⊢
  clear hE
  go_enter Tryz.func180, Tryz.ntmps180
  go_wp2_with fail
  refine (HW.out _).mono ?_
  rintro e w' ⟨rfl, hb⟩
  go_wp2
  go_ret2
  exact ⟨rfl, hb⟩


def shB (b : Int) : Int := bits BinOp.and IntKind.u64 (IntKind.u64.wrap b) 63
theorem u64_wrap_bd (b : Int) : 0 ≤ IntKind.u64.wrap b ∧ IntKind.u64.wrap b < 18446744073709551616 := by
  simp only [IntKind.wrap, IntKind.bits, IntKind.signed]
  simp
  omega
theorem shB_eq (b : Int) : shB b = IntKind.u64.wrap b % 64 := by
  have hb := u64_wrap_bd b
  unfold shB
  rw [u64_and _ _ hb.1 hb.2 (by decide) (by decide)]
  have h63 : (63 : Int).toNat = 2 ^ 6 - 1 := by decide
  rw [h63, Nat.and_two_pow_sub_one_eq_mod]
  omega
theorem shB_bd (b : Int) : 0 ≤ shB b ∧ shB b ≤ 63 := by rw [shB_eq]; omega

def applyI (op a b : Int) : Int :=
  if op = 1 then wrap64 (a + b) else if op = 2 then wrap64 (a - b) else if op = 3 then wrap64 (a * b)
  else if op = 4 then wrap64 (a.tdiv b) else if op = 5 then a.tmod b else if op = 6 then modI a b
  else if op = 7 then bits .and .i64 a b else if op = 8 then bits .or .i64 a b else if op = 9 then bits .xor .i64 a b
  else if op = 10 then wrap64 (a * 2 ^ (shB b).toNat) else if op = 11 then wrap64 (IntKind.u64.wrap a / 2 ^ (shB b).toNat) else if op = 12 then a / 2 ^ (shB b).toNat
  else if op = 13 then truthI (decide (a < b)) else if op = 14 then truthI (decide (IntKind.u64.wrap a < IntKind.u64.wrap b)) else if op = 15 then truthI (a == b)
  else if op = 16 then (if b < a then b else a) else (if a < b then b else a)

end Go.Proofs.YtjliakjbdcplcaaGreat
end

section
namespace Go.Proofs.YtjliakjbdcplcaaGreat
open Go.RowKit
set_option linter.unusedVariables false
set_option linter.unusedSimpArgs false

set_option maxRecDepth 100000 in
set_option maxHeartbeats 4000000 in
theorem apply_1 (a b : Int) (w : World)
  (hw : ∀ w, Calls Tryz.prog 184 #[.int .u8 1, .int .i64 b] w fun e w' => e = .returned (.int .i64 0) ∧ Below w.heap.size w w') : Calls Tryz.prog 180 #[.int .u8 1, .int .i64 a, .int .i64 b] w fun e w' => e = .returned (.tuple #[.int .i64 (applyI 1 a b), .int .i64 0]) ∧ Below w.heap.size w w' := by
  have HW := Lib.hid hw
  clear hw
  go_enter Tryz.func180, Tryz.ntmps180
  go_wp2_with fail
  refine (HW.out _).mono ?_
  rintro e w' ⟨rfl, hb⟩
  go_wp2_with (first
    | (go_at_call 186; refine (truth_c _ _).mono ?_; rintro e w' ⟨rfl, rfl⟩)
    | (go_at_call 185; refine (mod_c _ _ _ (by assumption)).mono ?_; rintro e w' ⟨rfl, rfl⟩))
  all_goals (go_ret2; refine ⟨?_, hb⟩)
  all_goals first | rfl | (show Ending.returned (.tuple #[.int .i64 _, _]) = .returned (.tuple #[.int .i64 _, _]); congr 4; simp [applyI]; done) | (show Ending.returned (.tuple #[.int .i64 _, _]) = .returned (.tuple #[.int .i64 _, _]); congr 4; simp [applyI]; omega)

set_option maxRecDepth 100000 in
set_option maxHeartbeats 4000000 in
theorem apply_2 (a b : Int) (w : World)
  (hw : ∀ w, Calls Tryz.prog 184 #[.int .u8 2, .int .i64 b] w fun e w' => e = .returned (.int .i64 0) ∧ Below w.heap.size w w') : Calls Tryz.prog 180 #[.int .u8 2, .int .i64 a, .int .i64 b] w fun e w' => e = .returned (.tuple #[.int .i64 (applyI 2 a b), .int .i64 0]) ∧ Below w.heap.size w w' := by
  have HW := Lib.hid hw
  clear hw
  go_enter Tryz.func180, Tryz.ntmps180
  go_wp2_with fail
  refine (HW.out _).mono ?_
  rintro e w' ⟨rfl, hb⟩
  go_wp2_with (first
    | (go_at_call 186; refine (truth_c _ _).mono ?_; rintro e w' ⟨rfl, rfl⟩)
    | (go_at_call 185; refine (mod_c _ _ _ (by assumption)).mono ?_; rintro e w' ⟨rfl, rfl⟩))
  all_goals (go_ret2; refine ⟨?_, hb⟩)
  all_goals first | rfl | (show Ending.returned (.tuple #[.int .i64 _, _]) = .returned (.tuple #[.int .i64 _, _]); congr 4; simp [applyI]; done) | (show Ending.returned (.tuple #[.int .i64 _, _]) = .returned (.tuple #[.int .i64 _, _]); congr 4; simp [applyI]; omega)

set_option maxRecDepth 100000 in
set_option maxHeartbeats 4000000 in
theorem apply_3 (a b : Int) (w : World)
  (hw : ∀ w, Calls Tryz.prog 184 #[.int .u8 3, .int .i64 b] w fun e w' => e = .returned (.int .i64 0) ∧ Below w.heap.size w w') : Calls Tryz.prog 180 #[.int .u8 3, .int .i64 a, .int .i64 b] w fun e w' => e = .returned (.tuple #[.int .i64 (applyI 3 a b), .int .i64 0]) ∧ Below w.heap.size w w' := by
  have HW := Lib.hid hw
  clear hw
  go_enter Tryz.func180, Tryz.ntmps180
  go_wp2_with fail
  refine (HW.out _).mono ?_
  rintro e w' ⟨rfl, hb⟩
  go_wp2_with (first
    | (go_at_call 186; refine (truth_c _ _).mono ?_; rintro e w' ⟨rfl, rfl⟩)
    | (go_at_call 185; refine (mod_c _ _ _ (by assumption)).mono ?_; rintro e w' ⟨rfl, rfl⟩))
  all_goals (go_ret2; refine ⟨?_, hb⟩)
  all_goals first | rfl | (show Ending.returned (.tuple #[.int .i64 _, _]) = .returned (.tuple #[.int .i64 _, _]); congr 4; simp [applyI]; done) | (show Ending.returned (.tuple #[.int .i64 _, _]) = .returned (.tuple #[.int .i64 _, _]); congr 4; simp [applyI]; omega)

set_option maxRecDepth 100000 in
set_option maxHeartbeats 4000000 in
theorem apply_4 (a b : Int) (w : World) (hb0 : b ≠ 0)
  (hw : ∀ w, Calls Tryz.prog 184 #[.int .u8 4, .int .i64 b] w fun e w' => e = .returned (.int .i64 0) ∧ Below w.heap.size w w') : Calls Tryz.prog 180 #[.int .u8 4, .int .i64 a, .int .i64 b] w fun e w' => e = .returned (.tuple #[.int .i64 (applyI 4 a b), .int .i64 0]) ∧ Below w.heap.size w w' := by
  have HW := Lib.hid hw
  clear hw
  go_enter Tryz.func180, Tryz.ntmps180
  go_wp2_with fail
  refine (HW.out _).mono ?_
  rintro e w' ⟨rfl, hb⟩
  go_wp2_with (first
    | (go_at_call 186; refine (truth_c _ _).mono ?_; rintro e w' ⟨rfl, rfl⟩)
    | (go_at_call 185; refine (mod_c _ _ _ (by assumption)).mono ?_; rintro e w' ⟨rfl, rfl⟩))
  all_goals (go_ret2; refine ⟨?_, hb⟩)
  all_goals first | rfl | (show Ending.returned (.tuple #[.int .i64 _, _]) = .returned (.tuple #[.int .i64 _, _]); congr 4; simp [applyI]; done) | (show Ending.returned (.tuple #[.int .i64 _, _]) = .returned (.tuple #[.int .i64 _, _]); congr 4; simp [applyI]; omega)

set_option maxRecDepth 100000 in
set_option maxHeartbeats 4000000 in
theorem apply_5 (a b : Int) (w : World) (hb0 : b ≠ 0)
  (hw : ∀ w, Calls Tryz.prog 184 #[.int .u8 5, .int .i64 b] w fun e w' => e = .returned (.int .i64 0) ∧ Below w.heap.size w w') : Calls Tryz.prog 180 #[.int .u8 5, .int .i64 a, .int .i64 b] w fun e w' => e = .returned (.tuple #[.int .i64 (applyI 5 a b), .int .i64 0]) ∧ Below w.heap.size w w' := by
  have HW := Lib.hid hw
  clear hw
  go_enter Tryz.func180, Tryz.ntmps180
  go_wp2_with fail
  refine (HW.out _).mono ?_
  rintro e w' ⟨rfl, hb⟩
  go_wp2_with (first
    | (go_at_call 186; refine (truth_c _ _).mono ?_; rintro e w' ⟨rfl, rfl⟩)
    | (go_at_call 185; refine (mod_c _ _ _ (by assumption)).mono ?_; rintro e w' ⟨rfl, rfl⟩))
  all_goals (go_ret2; refine ⟨?_, hb⟩)
  all_goals first | rfl | (show Ending.returned (.tuple #[.int .i64 _, _]) = .returned (.tuple #[.int .i64 _, _]); congr 4; simp [applyI]; done) | (show Ending.returned (.tuple #[.int .i64 _, _]) = .returned (.tuple #[.int .i64 _, _]); congr 4; simp [applyI]; omega)

set_option maxRecDepth 100000 in
set_option maxHeartbeats 4000000 in
theorem apply_6 (a b : Int) (w : World) (hb0 : b ≠ 0)
  (hw : ∀ w, Calls Tryz.prog 184 #[.int .u8 6, .int .i64 b] w fun e w' => e = .returned (.int .i64 0) ∧ Below w.heap.size w w') : Calls Tryz.prog 180 #[.int .u8 6, .int .i64 a, .int .i64 b] w fun e w' => e = .returned (.tuple #[.int .i64 (applyI 6 a b), .int .i64 0]) ∧ Below w.heap.size w w' := by
  have HW := Lib.hid hw
  clear hw
  go_enter Tryz.func180, Tryz.ntmps180
  go_wp2_with fail
  refine (HW.out _).mono ?_
  rintro e w' ⟨rfl, hb⟩
  go_wp2_with (first
    | (go_at_call 186; refine (truth_c _ _).mono ?_; rintro e w' ⟨rfl, rfl⟩)
    | (go_at_call 185; refine (mod_c _ _ _ (by assumption)).mono ?_; rintro e w' ⟨rfl, rfl⟩))
  all_goals (go_ret2; refine ⟨?_, hb⟩)
  all_goals first | rfl | (show Ending.returned (.tuple #[.int .i64 _, _]) = .returned (.tuple #[.int .i64 _, _]); congr 4; simp [applyI]; done) | (show Ending.returned (.tuple #[.int .i64 _, _]) = .returned (.tuple #[.int .i64 _, _]); congr 4; simp [applyI]; omega)

set_option maxRecDepth 100000 in
set_option maxHeartbeats 4000000 in
theorem apply_7 (a b : Int) (w : World)
  (hw : ∀ w, Calls Tryz.prog 184 #[.int .u8 7, .int .i64 b] w fun e w' => e = .returned (.int .i64 0) ∧ Below w.heap.size w w') : Calls Tryz.prog 180 #[.int .u8 7, .int .i64 a, .int .i64 b] w fun e w' => e = .returned (.tuple #[.int .i64 (applyI 7 a b), .int .i64 0]) ∧ Below w.heap.size w w' := by
  have HW := Lib.hid hw
  clear hw
  go_enter Tryz.func180, Tryz.ntmps180
  go_wp2_with fail
  refine (HW.out _).mono ?_
  rintro e w' ⟨rfl, hb⟩
  go_wp2_with (first
    | (go_at_call 186; refine (truth_c _ _).mono ?_; rintro e w' ⟨rfl, rfl⟩)
    | (go_at_call 185; refine (mod_c _ _ _ (by assumption)).mono ?_; rintro e w' ⟨rfl, rfl⟩))
  all_goals (go_ret2; refine ⟨?_, hb⟩)
  all_goals first | rfl | (show Ending.returned (.tuple #[.int .i64 _, _]) = .returned (.tuple #[.int .i64 _, _]); congr 4; simp [applyI]; done) | (show Ending.returned (.tuple #[.int .i64 _, _]) = .returned (.tuple #[.int .i64 _, _]); congr 4; simp [applyI]; omega)

set_option maxRecDepth 100000 in
set_option maxHeartbeats 4000000 in
theorem apply_8 (a b : Int) (w : World)
  (hw : ∀ w, Calls Tryz.prog 184 #[.int .u8 8, .int .i64 b] w fun e w' => e = .returned (.int .i64 0) ∧ Below w.heap.size w w') : Calls Tryz.prog 180 #[.int .u8 8, .int .i64 a, .int .i64 b] w fun e w' => e = .returned (.tuple #[.int .i64 (applyI 8 a b), .int .i64 0]) ∧ Below w.heap.size w w' := by
  have HW := Lib.hid hw
  clear hw
  go_enter Tryz.func180, Tryz.ntmps180
  go_wp2_with fail
  refine (HW.out _).mono ?_
  rintro e w' ⟨rfl, hb⟩
  go_wp2_with (first
    | (go_at_call 186; refine (truth_c _ _).mono ?_; rintro e w' ⟨rfl, rfl⟩)
    | (go_at_call 185; refine (mod_c _ _ _ (by assumption)).mono ?_; rintro e w' ⟨rfl, rfl⟩))
  all_goals (go_ret2; refine ⟨?_, hb⟩)
  all_goals first | rfl | (show Ending.returned (.tuple #[.int .i64 _, _]) = .returned (.tuple #[.int .i64 _, _]); congr 4; simp [applyI]; done) | (show Ending.returned (.tuple #[.int .i64 _, _]) = .returned (.tuple #[.int .i64 _, _]); congr 4; simp [applyI]; omega)

set_option maxRecDepth 100000 in
set_option maxHeartbeats 4000000 in
theorem apply_9 (a b : Int) (w : World)
  (hw : ∀ w, Calls Tryz.prog 184 #[.int .u8 9, .int .i64 b] w fun e w' => e = .returned (.int .i64 0) ∧ Below w.heap.size w w') : Calls Tryz.prog 180 #[.int .u8 9, .int .i64 a, .int .i64 b] w fun e w' => e = .returned (.tuple #[.int .i64 (applyI 9 a b), .int .i64 0]) ∧ Below w.heap.size w w' := by
  have HW := Lib.hid hw
  clear hw
  go_enter Tryz.func180, Tryz.ntmps180
  go_wp2_with fail
  refine (HW.out _).mono ?_
  rintro e w' ⟨rfl, hb⟩
  go_wp2_with (first
    | (go_at_call 186; refine (truth_c _ _).mono ?_; rintro e w' ⟨rfl, rfl⟩)
    | (go_at_call 185; refine (mod_c _ _ _ (by assumption)).mono ?_; rintro e w' ⟨rfl, rfl⟩))
  all_goals (go_ret2; refine ⟨?_, hb⟩)
  all_goals first | rfl | (show Ending.returned (.tuple #[.int .i64 _, _]) = .returned (.tuple #[.int .i64 _, _]); congr 4; simp [applyI]; done) | (show Ending.returned (.tuple #[.int .i64 _, _]) = .returned (.tuple #[.int .i64 _, _]); congr 4; simp [applyI]; omega)

set_option maxRecDepth 100000 in
set_option maxHeartbeats 4000000 in
theorem apply_10 (a b : Int) (w : World)
  (hw : ∀ w, Calls Tryz.prog 184 #[.int .u8 10, .int .i64 b] w fun e w' => e = .returned (.int .i64 0) ∧ Below w.heap.size w w') : Calls Tryz.prog 180 #[.int .u8 10, .int .i64 a, .int .i64 b] w fun e w' => e = .returned (.tuple #[.int .i64 (applyI 10 a b), .int .i64 0]) ∧ Below w.heap.size w w' := by
  have HW := Lib.hid hw
  clear hw
  have hs := shB_bd b
  have hs0 : 0 ≤ bits BinOp.and IntKind.u64 (IntKind.u64.wrap b) 63 := hs.1
  have hs1 : bits BinOp.and IntKind.u64 (IntKind.u64.wrap b) 63 ≤ 64 := Int.le_trans hs.2 (by decide)
  clear hs
  go_enter Tryz.func180, Tryz.ntmps180
  go_wp2_with fail
  refine (HW.out _).mono ?_
  rintro e w' ⟨rfl, hb⟩
  go_wp2_with (first
    | (go_at_call 186; refine (truth_c _ _).mono ?_; rintro e w' ⟨rfl, rfl⟩)
    | (go_at_call 185; refine (mod_c _ _ _ (by assumption)).mono ?_; rintro e w' ⟨rfl, rfl⟩))
  all_goals (go_ret2; refine ⟨?_, hb⟩)
  all_goals first | rfl | (show Ending.returned (.tuple #[.int .i64 _, _]) = .returned (.tuple #[.int .i64 _, _]); congr 4; simp [applyI]; done) | (show Ending.returned (.tuple #[.int .i64 _, _]) = .returned (.tuple #[.int .i64 _, _]); congr 4; simp [applyI]; omega)

set_option maxRecDepth 100000 in
set_option maxHeartbeats 4000000 in
theorem apply_11 (a b : Int) (w : World)
  (hw : ∀ w, Calls Tryz.prog 184 #[.int .u8 11, .int .i64 b] w fun e w' => e = .returned (.int .i64 0) ∧ Below w.heap.size w w') : Calls Tryz.prog 180 #[.int .u8 11, .int .i64 a, .int .i64 b] w fun e w' => e = .returned (.tuple #[.int .i64 (applyI 11 a b), .int .i64 0]) ∧ Below w.heap.size w w' := by
  have HW := Lib.hid hw
  clear hw
  have hs := shB_bd b
  have hs0 : 0 ≤ bits BinOp.and IntKind.u64 (IntKind.u64.wrap b) 63 := hs.1
  have hs1 : bits BinOp.and IntKind.u64 (IntKind.u64.wrap b) 63 ≤ 64 := Int.le_trans hs.2 (by decide)
  clear hs
  go_enter Tryz.func180, Tryz.ntmps180
  go_wp2_with fail
  refine (HW.out _).mono ?_
  rintro e w' ⟨rfl, hb⟩
  go_wp2_with (first
    | (go_at_call 186; refine (truth_c _ _).mono ?_; rintro e w' ⟨rfl, rfl⟩)
    | (go_at_call 185; refine (mod_c _ _ _ (by assumption)).mono ?_; rintro e w' ⟨rfl, rfl⟩))
  all_goals (go_ret2; refine ⟨?_, hb⟩)
  all_goals first | rfl | (show Ending.returned (.tuple #[.int .i64 _, _]) = .returned (.tuple #[.int .i64 _, _]); congr 4; simp [applyI]; done) | (show Ending.returned (.tuple #[.int .i64 _, _]) = .returned (.tuple #[.int .i64 _, _]); congr 4; simp [applyI]; omega)

set_option maxRecDepth 100000 in
set_option maxHeartbeats 4000000 in
theorem apply_12 (a b : Int) (w : World)
  (hw : ∀ w, Calls Tryz.prog 184 #[.int .u8 12, .int .i64 b] w fun e w' => e = .returned (.int .i64 0) ∧ Below w.heap.size w w') : Calls Tryz.prog 180 #[.int .u8 12, .int .i64 a, .int .i64 b] w fun e w' => e = .returned (.tuple #[.int .i64 (applyI 12 a b), .int .i64 0]) ∧ Below w.heap.size w w' := by
  have HW := Lib.hid hw
  clear hw
  have hs := shB_bd b
  have hs0 : 0 ≤ bits BinOp.and IntKind.u64 (IntKind.u64.wrap b) 63 := hs.1
  have hs1 : bits BinOp.and IntKind.u64 (IntKind.u64.wrap b) 63 ≤ 64 := Int.le_trans hs.2 (by decide)
  clear hs
  go_enter Tryz.func180, Tryz.ntmps180
  go_wp2_with fail
  refine (HW.out _).mono ?_
  rintro e w' ⟨rfl, hb⟩
  go_wp2_with (first
    | (go_at_call 186; refine (truth_c _ _).mono ?_; rintro e w' ⟨rfl, rfl⟩)
    | (go_at_call 185; refine (mod_c _ _ _ (by assumption)).mono ?_; rintro e w' ⟨rfl, rfl⟩))
  all_goals (go_ret2; refine ⟨?_, hb⟩)
  all_goals first | rfl | (show Ending.returned (.tuple #[.int .i64 _, _]) = .returned (.tuple #[.int .i64 _, _]); congr 4; simp [applyI]; done) | (show Ending.returned (.tuple #[.int .i64 _, _]) = .returned (.tuple #[.int .i64 _, _]); congr 4; simp [applyI]; omega)

set_option maxRecDepth 100000 in
set_option maxHeartbeats 4000000 in
theorem apply_13 (a b : Int) (w : World)
  (hw : ∀ w, Calls Tryz.prog 184 #[.int .u8 13, .int .i64 b] w fun e w' => e = .returned (.int .i64 0) ∧ Below w.heap.size w w') : Calls Tryz.prog 180 #[.int .u8 13, .int .i64 a, .int .i64 b] w fun e w' => e = .returned (.tuple #[.int .i64 (applyI 13 a b), .int .i64 0]) ∧ Below w.heap.size w w' := by
  have HW := Lib.hid hw
  clear hw
  go_enter Tryz.func180, Tryz.ntmps180
  go_wp2_with fail
  refine (HW.out _).mono ?_
  rintro e w' ⟨rfl, hb⟩
  go_wp2_with (first
    | (go_at_call 186; refine (truth_c _ _).mono ?_; rintro e w' ⟨rfl, rfl⟩)
    | (go_at_call 185; refine (mod_c _ _ _ (by assumption)).mono ?_; rintro e w' ⟨rfl, rfl⟩))
  all_goals (go_ret2; refine ⟨?_, hb⟩)
  all_goals first | rfl | (show Ending.returned (.tuple #[.int .i64 _, _]) = .returned (.tuple #[.int .i64 _, _]); congr 4; simp [applyI]; done) | (show Ending.returned (.tuple #[.int .i64 _, _]) = .returned (.tuple #[.int .i64 _, _]); congr 4; simp [applyI]; omega)

set_option maxRecDepth 100000 in
set_option maxHeartbeats 4000000 in
theorem apply_14 (a b : Int) (w : World)
  (hw : ∀ w, Calls Tryz.prog 184 #[.int .u8 14, .int .i64 b] w fun e w' => e = .returned (.int .i64 0) ∧ Below w.heap.size w w') : Calls Tryz.prog 180 #[.int .u8 14, .int .i64 a, .int .i64 b] w fun e w' => e = .returned (.tuple #[.int .i64 (applyI 14 a b), .int .i64 0]) ∧ Below w.heap.size w w' := by
  have HW := Lib.hid hw
  clear hw
  go_enter Tryz.func180, Tryz.ntmps180
  go_wp2_with fail
  refine (HW.out _).mono ?_
  rintro e w' ⟨rfl, hb⟩
  go_wp2_with (first
    | (go_at_call 186; refine (truth_c _ _).mono ?_; rintro e w' ⟨rfl, rfl⟩)
    | (go_at_call 185; refine (mod_c _ _ _ (by assumption)).mono ?_; rintro e w' ⟨rfl, rfl⟩))
  all_goals (go_ret2; refine ⟨?_, hb⟩)
  all_goals first | rfl | (show Ending.returned (.tuple #[.int .i64 _, _]) = .returned (.tuple #[.int .i64 _, _]); congr 4; simp [applyI]; done) | (show Ending.returned (.tuple #[.int .i64 _, _]) = .returned (.tuple #[.int .i64 _, _]); congr 4; simp [applyI]; omega)

set_option maxRecDepth 100000 in
set_option maxHeartbeats 4000000 in
theorem apply_15 (a b : Int) (w : World)
  (hw : ∀ w, Calls Tryz.prog 184 #[.int .u8 15, .int .i64 b] w fun e w' => e = .returned (.int .i64 0) ∧ Below w.heap.size w w') : Calls Tryz.prog 180 #[.int .u8 15, .int .i64 a, .int .i64 b] w fun e w' => e = .returned (.tuple #[.int .i64 (applyI 15 a b), .int .i64 0]) ∧ Below w.heap.size w w' := by
  have HW := Lib.hid hw
  clear hw
  go_enter Tryz.func180, Tryz.ntmps180
  go_wp2_with fail
  refine (HW.out _).mono ?_
  rintro e w' ⟨rfl, hb⟩
  go_wp2_with (first
    | (go_at_call 186; refine (truth_c _ _).mono ?_; rintro e w' ⟨rfl, rfl⟩)
    | (go_at_call 185; refine (mod_c _ _ _ (by assumption)).mono ?_; rintro e w' ⟨rfl, rfl⟩))
  all_goals (go_ret2; refine ⟨?_, hb⟩)
  all_goals first | rfl | (show Ending.returned (.tuple #[.int .i64 _, _]) = .returned (.tuple #[.int .i64 _, _]); congr 4; simp [applyI]; done) | (show Ending.returned (.tuple #[.int .i64 _, _]) = .returned (.tuple #[.int .i64 _, _]); congr 4; simp [applyI]; omega)

set_option maxRecDepth 100000 in
set_option maxHeartbeats 4000000 in
theorem apply_16 (a b : Int) (w : World)
  (hw : ∀ w, Calls Tryz.prog 184 #[.int .u8 16, .int .i64 b] w fun e w' => e = .returned (.int .i64 0) ∧ Below w.heap.size w w') : Calls Tryz.prog 180 #[.int .u8 16, .int .i64 a, .int .i64 b] w fun e w' => e = .returned (.tuple #[.int .i64 (applyI 16 a b), .int .i64 0]) ∧ Below w.heap.size w w' := by
  have HW := Lib.hid hw
  clear hw
  go_enter Tryz.func180, Tryz.ntmps180
  go_wp2_with fail
  refine (HW.out _).mono ?_
  rintro e w' ⟨rfl, hb⟩
  go_wp2_with (first
    | (go_at_call 186; refine (truth_c _ _).mono ?_; rintro e w' ⟨rfl, rfl⟩)
    | (go_at_call 185; refine (mod_c _ _ _ (by assumption)).mono ?_; rintro e w' ⟨rfl, rfl⟩))
  all_goals (go_ret2; refine ⟨?_, hb⟩)
  all_goals first | rfl | (show Ending.returned (.tuple #[.int .i64 _, _]) = .returned (.tuple #[.int .i64 _, _]); congr 4; simp [applyI]; done) | (show Ending.returned (.tuple #[.int .i64 _, _]) = .returned (.tuple #[.int .i64 _, _]); congr 4; simp [applyI]; omega)

set_option maxRecDepth 100000 in
set_option maxHeartbeats 4000000 in
theorem apply_17 (a b : Int) (w : World)
  (hw : ∀ w, Calls Tryz.prog 184 #[.int .u8 17, .int .i64 b] w fun e w' => e = .returned (.int .i64 0) ∧ Below w.heap.size w w') : Calls Tryz.prog 180 #[.int .u8 17, .int .i64 a, .int .i64 b] w fun e w' => e = .returned (.tuple #[.int .i64 (applyI 17 a b), .int .i64 0]) ∧ Below w.heap.size w w' := by
  have HW := Lib.hid hw
  clear hw
  go_enter Tryz.func180, Tryz.ntmps180
  go_wp2_with fail
  refine (HW.out _).mono ?_
  rintro e w' ⟨rfl, hb⟩
  go_wp2_with (first
    | (go_at_call 186; refine (truth_c _ _).mono ?_; rintro e w' ⟨rfl, rfl⟩)
    | (go_at_call 185; refine (mod_c _ _ _ (by assumption)).mono ?_; rintro e w' ⟨rfl, rfl⟩))
  all_goals (go_ret2; refine ⟨?_, hb⟩)
  all_goals first | rfl | (show Ending.returned (.tuple #[.int .i64 _, _]) = .returned (.tuple #[.int .i64 _, _]); congr 4; simp [applyI]; done) | (show Ending.returned (.tuple #[.int .i64 _, _]) = .returned (.tuple #[.int .i64 _, _]); congr 4; simp [applyI]; omega)

def applyV (op a b : Int) : Int := if wrongE op b = 0 then applyI op a b else 0

theorem apply_c (op a b : Int) (w : World) : Calls Tryz.prog 180 #[.int .u8 op, .int .i64 a, .int .i64 b] w fun e w' => e = .returned (.tuple #[.int .i64 (applyV op a b), .int .i64 (wrongE op b)]) ∧ Below w.heap.size w w' := by
  by_cases h : wrongE op b = 0
  · have hw : ∀ w, Calls Tryz.prog 184 #[.int .u8 op, .int .i64 b] w fun e w' => e = .returned (.int .i64 0) ∧ Below w.heap.size w w' := by rw [← h]; exact wrong_c op b
    have hz : 4 ≤ op → op ≤ 6 → b ≠ 0 := by
      intro x y z
      rw [wrongE, if_neg (by omega), if_pos ⟨z, x, y⟩] at h
      exact absurd h (by decide)
    have hop : 1 ≤ op ∧ op ≤ 17 := by
      refine ⟨?_, ?_⟩
      · by_cases q : op < 1
        · rw [wrongE, if_pos (.inl q)] at h; exact absurd h (by decide)
        · omega
      · by_cases q : 17 < op
        · rw [wrongE, if_pos (.inr q)] at h; exact absurd h (by decide)
        · omega
    rw [applyV, if_pos h, h]
    have h : op = 1 ∨ op = 2 ∨ op = 3 ∨ op = 4 ∨ op = 5 ∨ op = 6 ∨ op = 7 ∨ op = 8 ∨ op = 9 ∨ op = 10 ∨ op = 11 ∨ op = 12 ∨ op = 13 ∨ op = 14 ∨ op = 15 ∨ op = 16 ∨ op = 17 := by omega
    rcases h with h | h | h | h | h | h | h | h | h | h | h | h | h | h | h | h | h <;> subst h
    · exact apply_1 a b w hw
    · exact apply_2 a b w hw
    · exact apply_3 a b w hw
    · exact apply_4 a b w (hz (by decide) (by decide)) hw
    · exact apply_5 a b w (hz (by decide) (by decide)) hw
    · exact apply_6 a b w (hz (by decide) (by decide)) hw
    · exact apply_7 a b w hw
    · exact apply_8 a b w hw
    · exact apply_9 a b w hw
    · exact apply_10 a b w hw
    · exact apply_11 a b w hw
    · exact apply_12 a b w hw
    · exact apply_13 a b w hw
    · exact apply_14 a b w hw
    · exact apply_15 a b w hw
    · exact apply_16 a b w hw
    · exact apply_17 a b w hw
  · rw [applyV, if_neg h]
    exact apply_bad op a b w (by rw [bne_iff_ne]; exact h)
end Go.Proofs.YtjliakjbdcplcaaGreat
end

section
namespace Go.Proofs.YtjliakjbdcplcaaGreat
set_option linter.unusedVariables false
set_option linter.unusedSimpArgs false
theorem right_last' {p : List Ins} (h : (checkI p).2 = 0) : 0 < p.length ∧ p.length ≤ 256 ∧ goesB (p.getD (p.length - 1) ⟨0, 0, 0, 0, 0⟩) = false ∧ ∀ k, k < p.length → badAt p.length (p.getD k ⟨0, 0, 0, 0, 0⟩) = 0 := by
  unfold checkI at h
  by_cases h0 : p.length = 0
  · rw [if_pos h0] at h; cases h
  · by_cases h1 : 256 < p.length
    · rw [if_neg h0, if_pos h1] at h; cases h
    · rw [if_neg h0, if_neg h1] at h
      refine ⟨by omega, by omega, ?_⟩
      unfold checkK at h
      cases hf : p.findIdx? (fun i => badAt p.length i != 0) with
      | some k =>
        rw [hf] at h
        obtain ⟨hk, hb, _⟩ := List.findIdx?_eq_some_iff_getElem.1 hf
        exfalso
        have hg : p.getD k ⟨0, 0, 0, 0, 0⟩ = p[k] := by simp [List.getD, hk]
        dsimp only at h
        rw [hg] at h
        simp [h] at hb
      | none =>
        rw [hf] at h
        rw [List.findIdx?_eq_none_iff] at hf
        dsimp only at h
        refine ⟨?_, fun k hk => ?_⟩
        · by_cases hg : goesB (p.getD (p.length - 1) ⟨0, 0, 0, 0, 0⟩) = true
          · rw [if_pos hg] at h; cases h
          · simpa using hg
        · have := hf (p.getD k ⟨0, 0, 0, 0, 0⟩) (by
            rw [List.getD_eq_getElem?_getD, List.getElem?_eq_getElem hk]; exact List.getElem_mem hk)
          simpa using this
structure RightI (n k : Nat) (x : Ins) : Prop where
  ok : x.ok
  one : oneE x = 0
  a : x.a < 8
  b : x.b < 8
  c : x.c < 8
  targ : targB x = true → 0 ≤ targV x ∧ targV x < n
  goes : goesB x = true → k + 1 < n
  cls : x.op = 1 ∨ x.op = 2 ∨ x.op = 3 ∨ x.op = 4 ∨ x.op = 5 ∨ x.op = 6 ∨ x.op = 7 ∨ x.op = 8 ∨ x.op = 9 ∨ x.op = 10 ∨ x.op = 11 ∨ (33 ≤ x.op ∧ x.op ≤ 49)
theorem one_regs {x : Ins} (h : oneE x = 0) : x.a < 8 ∧ x.b < 8 ∧ x.c < 8 ∧ (targB x = true → 0 ≤ x.n) ∧ (x.op = 1 ∨ x.op = 2 ∨ x.op = 3 ∨ x.op = 4 ∨ x.op = 5 ∨ x.op = 6 ∨ x.op = 7 ∨ x.op = 8 ∨ x.op = 9 ∨ x.op = 10 ∨ x.op = 11 ∨ (33 ≤ x.op ∧ x.op ≤ 49)) := by
  have h0 := h
  unfold oneE at h
  have hf : formC x.op ≠ 0 := fun e => by rw [if_pos e] at h; cases h
  rw [if_neg hf] at h
  have hc : fitsC (formC x.op) x.a x.b x.c x.n := by
    by_cases q : fitsC (formC x.op) x.a x.b x.c x.n
    · exact q
    · rw [oneK_neg q] at h; cases h
  have ht : targB x = true → x.op = 9 ∨ x.op = 10 ∨ x.op = 11 := fun ht => by
    unfold targB at ht
    simp at ht
    exact ht.2
  revert hc hf
  unfold formC
  split
  · rename_i q; intro hf hc; obtain ⟨q1, q2, q3, q4⟩ := hc; exact ⟨q1, q2, q3, fun t => by omega, by omega⟩
  split
  · exact Vm.b3
  split
  · rename_i q; intro hf hc; obtain ⟨q1, q2, q3⟩ := hc; exact ⟨by omega, by omega, by omega, fun t => by have := ht t; omega, by omega⟩
  split
  · exact Vm.b3
  split
  · exact Vm.b4
  split
  · exact Vm.b4
  split
  · exact Vm.b4
  · intro hf; exact absurd rfl hf
theorem right_at {p : List Ins} (hok : ∀ x ∈ p, x.ok) (h : (checkI p).2 = 0) {k : Nat} (hk : k < p.length) : RightI p.length k (p.getD k ⟨0, 0, 0, 0, 0⟩) := by
  obtain ⟨h0, h1, h2, h3⟩ := right_last' h
  have hb := h3 k hk
  unfold badAt at hb
  have h4 : oneE (p.getD k ⟨0, 0, 0, 0, 0⟩) = 0 := by
    by_cases q : oneE (p.getD k ⟨0, 0, 0, 0, 0⟩) = 0
    · exact q
    · rw [if_pos q] at hb; exact absurd hb q
  rw [if_neg (by omega)] at hb
  obtain ⟨ra, rb, rc, rt, rcl⟩ := one_regs h4
  refine ⟨hok _ (by rw [List.getD_eq_getElem?_getD, List.getElem?_eq_getElem hk]; exact List.getElem_mem hk), h4, ra, rb, rc, fun ht => ?_, fun hg => ?_, rcl⟩
  · refine ⟨by unfold targV; rw [if_pos ht]; exact rt ht, ?_⟩
    by_cases q : (p.length : Int) ≤ targV (p.getD k ⟨0, 0, 0, 0, 0⟩)
    · rw [if_pos ⟨ht, q⟩] at hb; cases hb
    · omega
  · by_cases q : k + 1 < p.length
    · exact q
    · have : k = p.length - 1 := by omega
      subst this
      rw [h2] at hg; cases hg
theorem goesB_of {x : Ins} (h : oneE x = 0) : goesB x = (x.op != 1 && (x.op != 2 && x.op != 9)) := by unfold goesB; rw [h]; rfl
theorem targB_of {x : Ins} (h : oneE x = 0) : targB x = (x.op == 9 || (x.op == 10 || x.op == 11)) := by unfold targB; rw [h]; rfl
end Go.Proofs.YtjliakjbdcplcaaGreat
end

section
namespace Go.Proofs.YtjliakjbdcplcaaGreat
open Go.RowKit
set_option linter.unusedVariables false
set_option linter.unusedSimpArgs false

def foldI (x n : Int) : Int := bits .xor .u64 x (x / 2 ^ n.toNat)
theorem fold_c (x n : Int) (w : World) (h0 : 0 ≤ n) (h1 : n ≤ 64) : Calls Tryz.prog 193 #[.int .u64 x, .int .i64 n] w fun e w' => e = .returned (.int .u64 (foldI x n)) ∧ w = w' := by
  go_enter Tryz.func193, Tryz.ntmps193
  go_wp2
  go_ret
  exact ⟨rfl, rfl⟩

def mixI (x : Int) : Int := foldI (IntKind.u64.wrap (foldI (IntKind.u64.wrap (foldI x 30 * 13787848793156543929)) 27 * 10723151780598845931)) 31
theorem mix_c (x : Int) (w : World) : Calls Tryz.prog 192 #[.int .u64 x] w fun e w' => e = .returned (.int .u64 (mixI x)) ∧ w = w' := by
  go_enter Tryz.func192, Tryz.ntmps192
  go_wp2_with (go_at_call 193; refine (fold_c _ _ _ (by omega) (by omega)).mono ?_; rintro e w' ⟨rfl, rfl⟩)
  go_ret
  exact ⟨rfl, rfl⟩

def atI (key index : Int) : Int := mixI (IntKind.u64.wrap (key + IntKind.u64.wrap (IntKind.u64.wrap (IntKind.u64.wrap index + 1) * 11400714819323198485)))
theorem at_c (key index : Int) (w : World) : Calls Tryz.prog 188 #[.int .u64 key, .int .i64 index] w fun e w' => e = .returned (.int .u64 (atI key index)) ∧ w = w' := by
  go_enter Tryz.func188, Tryz.ntmps188
  go_wp2_with (go_at_call 192; refine (mix_c _ _).mono ?_; rintro e w' ⟨rfl, rfl⟩)
  go_ret
  exact ⟨rfl, rfl⟩

def lo32 (z : Int) : Int := bits .and .u64 z 4294967295
def upP (v n : Int) : Int := IntKind.u64.wrap (lo32 v * lo32 n)
def upQ (v n : Int) : Int := IntKind.u64.wrap (IntKind.u64.wrap (v / 4294967296 * lo32 n) + upP v n / 4294967296)
def upR (v n : Int) : Int := IntKind.u64.wrap (IntKind.u64.wrap (lo32 v * (n / 4294967296)) + lo32 (upQ v n))
def upperI (v n : Int) : Int := IntKind.u64.wrap (IntKind.u64.wrap (IntKind.u64.wrap (v / 4294967296 * (n / 4294967296)) + upQ v n / 4294967296) + upR v n / 4294967296)
theorem upper_c (v n : Int) (w : World) : Calls Tryz.prog 189 #[.int .u64 v, .int .u64 n] w fun e w' => e = .returned (.int .u64 (upperI v n)) ∧ w = w' := by
  go_enter Tryz.func189, Tryz.ntmps189
  go_wp2
  go_ret
  exact ⟨rfl, rfl⟩

def belowI (v n : Int) : Int := wrap64 (upperI v (IntKind.u64.wrap n))
theorem below_ok (v n : Int) (w : World) (h : 1 ≤ n) : Calls Tryz.prog 183 #[.int .u64 v, .int .i64 n] w fun e w' => e = .returned (.tuple #[.int .i64 (belowI v n), .int .i64 0]) ∧ w = w' := by
  go_enter Tryz.func183, Tryz.ntmps183
  go_wp2_with (go_at_call 189; refine (upper_c _ _ _).mono ?_; rintro e w' ⟨rfl, rfl⟩)
  go_ret2
  exact ⟨rfl, rfl⟩

def join2 (x y : Int) : Int := mixI (IntKind.u64.wrap (IntKind.u64.wrap (11400714819323198485 + y) + IntKind.u64.wrap (mixI (IntKind.u64.wrap (IntKind.u64.wrap (11400714819323198485 + x))) * 11400714819323198485)))
set_option maxRecDepth 100000 in
set_option maxHeartbeats 1000000 in
theorem join2_c (b : Nat) (x y : Int) (w : World) (h0 : w.cell? ⟨b, 0, none⟩ = some (.int .u64 x)) (h1 : w.cell? ⟨b, 1, none⟩ = some (.int .u64 y)) :
    Calls Tryz.prog 191 #[.slice (some ⟨b, 0, none⟩) 2 2] w fun e w' => e = .returned (.int .u64 (join2 x y)) ∧ w = w' := by
  go_enter Tryz.func191, Tryz.ntmps191
  go_wp2
  refine wp_loop_rounds 3 ?_
  rw [rounds_succ]
  go_wp2_with (go_at_call 192; refine (mix_c _ _).mono ?_; rintro e w' ⟨rfl, rfl⟩)
  rw [rounds_succ]
  go_wp2_with (go_at_call 192; refine (mix_c _ _).mono ?_; rintro e w' ⟨rfl, rfl⟩)
  rw [rounds_succ]
  go_wp2_with (go_at_call 192; refine (mix_c _ _).mono ?_; rintro e w' ⟨rfl, rfl⟩)
  go_ret
  exact ⟨rfl, rfl⟩

def keyI (seed process : Int) : Int := join2 seed process
theorem key_ok (seed process : Int) (w : World) (h0 : 0 ≤ process) (h1 : process ≤ 65536) : Calls Tryz.prog 187 #[.int .u64 seed, .int .i64 process] w fun e w' => e = .returned (.tuple #[.int .u64 (keyI seed process), .int .i64 0]) ∧ Below w.heap.size w w' := by
  go_enter Tryz.func187, Tryz.ntmps187
  go_wp2_with fail
  refine (join2_c w.heap.size seed process _ ?_ ?_).mono ?_
  · exact cell_of_row _ _ _ _ _ _ (heap_alloc_new w _)
  · exact cell_of_row _ _ _ _ _ _ (heap_alloc_new w _)
  rintro e w' ⟨rfl, rfl⟩
  go_wp2
  go_ret2
  exact ⟨rfl, (Below.refl _ _).alloc (Nat.le_refl _) _⟩
def valueI (seed process index : Int) : Int := atI (keyI seed process) index
set_option maxHeartbeats 1000000 in
theorem value_ok (seed process index : Int) (w : World) (h0 : 0 ≤ process) (h1 : process ≤ 65536) (h2 : 0 ≤ index) (h3 : index ≤ 281474976710656) :
    Calls Tryz.prog 182 #[.int .u64 seed, .int .i64 process, .int .i64 index] w fun e w' => e = .returned (.tuple #[.int .u64 (valueI seed process index), .int .i64 0]) ∧ Below w.heap.size w w' := by
  go_enter Tryz.func182, Tryz.ntmps182
  go_wp2_with fail
  refine (key_ok _ _ _ h0 h1).mono ?_
  rintro e w' ⟨rfl, hb⟩
  go_wp2_with (go_at_call 188; refine (at_c _ _ _).mono ?_; rintro e w' ⟨rfl, rfl⟩)
  go_ret2
  exact ⟨rfl, hb⟩

def drawI (seed process index n : Int) : Int := belowI (valueI seed process index) n
set_option maxHeartbeats 1000000 in
theorem draw_ok (seed process index n : Int) (w : World) (h0 : 0 ≤ process) (h1 : process ≤ 65536) (h2 : 0 ≤ index) (h3 : index ≤ 281474976710656) (hn : 1 ≤ n) :
    Calls Tryz.prog 178 #[.int .u64 seed, .int .i64 process, .int .i64 index, .int .i64 n] w fun e w' => e = .returned (.tuple #[.int .i64 (drawI seed process index n), .int .i64 0]) ∧ Below w.heap.size w w' := by
  go_enter Tryz.func178, Tryz.ntmps178
  go_wp2_with fail
  refine (value_ok _ _ _ _ h0 h1 h2 h3).mono ?_
  rintro e w' ⟨rfl, hb⟩
  go_wp2_with (go_at_call 183; refine (below_ok _ _ _ hn).mono ?_; rintro e w' ⟨rfl, rfl⟩)
  go_ret2
  exact ⟨rfl, hb⟩

end Go.Proofs.YtjliakjbdcplcaaGreat
end

section
namespace Go.Proofs.YtjliakjbdcplcaaGreat.Vm
open Go.RowKit
set_option linter.unusedVariables false
set_option linter.unusedSimpArgs false

structure Sta where
  at_ : Int
  ended : Bool
  regs : Nat → Int
  cells : List Int
  draws : Int
  sends : List Snd
structure Evi where
  seed : Int
  process : Int
  ports : Int
  look : Int
  now : Int
def Sta.put (s : Sta) (k : Nat) (x : Int) : Sta := { s with regs := fun j => if j = k then x else s.regs j, at_ := s.at_ + 1 }
theorem sta_eta (s : Sta) : Sta.mk s.at_ s.ended (fun q => s.regs q) s.cells s.draws s.sends = s := rfl
theorem evi_eta (v : Evi) : Evi.mk v.seed v.process v.ports v.look v.now = v := rfl
def sendE (s : Sta) (v : Evi) (i : Ins) : Int :=
  if v.ports ≤ i.n then 188 else if s.regs i.a.toNat < v.look then 189 else if 281474976710656 - v.now < s.regs i.a.toNat then 1800 else if 256 ≤ s.sends.length then 1801 else 0
def doE (s : Sta) (v : Evi) (i : Ins) : Int :=
  if i.op = 2 then 184
  else if i.op = 5 ∨ i.op = 6 then (if s.regs i.b.toNat < 0 ∨ (s.cells.length : Int) ≤ s.regs i.b.toNat then 185 else 0)
  else if i.op = 7 then (if s.regs i.b.toNat < 1 then 186 else if s.draws = 1099511627776 then 187 else 0)
  else if i.op = 8 then sendE s v i
  else if i.op < 32 then 0
  else wrongE (i.op - 32) (s.regs i.c.toNat)
def doS (s : Sta) (v : Evi) (i : Ins) : Sta :=
  if doE s v i ≠ 0 then s
  else if i.op = 1 then { s with ended := true }
  else if i.op = 3 then s.put i.a.toNat i.n
  else if i.op = 4 then s.put i.a.toNat (s.regs i.b.toNat)
  else if i.op = 5 then s.put i.a.toNat (s.cells.getD (s.regs i.b.toNat).toNat 0)
  else if i.op = 6 then { s with cells := s.cells.set (s.regs i.b.toNat).toNat (s.regs i.a.toNat), at_ := s.at_ + 1 }
  else if i.op = 7 then { s.put i.a.toNat (drawI v.seed v.process s.draws (s.regs i.b.toNat)) with draws := s.draws + 1 }
  else if i.op = 8 then { s with at_ := s.at_ + 1, sends := s.sends ++ [⟨i.n, s.regs i.a.toNat, s.regs i.b.toNat⟩] }
  else if i.op = 9 then { s with at_ := i.n }
  else if i.op = 10 then { s with at_ := if s.regs i.a.toNat = 0 then i.n else s.at_ + 1 }
  else if i.op = 11 then { s with at_ := if s.regs i.a.toNat < 0 then i.n else s.at_ + 1 }
  else s.put i.a.toNat (applyV (i.op - 32) (s.regs i.b.toNat) (s.regs i.c.toNat))
def Ins0 : Ins := ⟨0, 0, 0, 0, 0⟩
def insAt (p : List Ins) (k : Int) : Ins := p.getD k.toNat ⟨0, 0, 0, 0, 0⟩
def Evi.rightB (v : Evi) : Bool := decide (0 ≤ v.process ∧ v.process ≤ 65536 ∧ 0 ≤ v.ports ∧ 1 ≤ v.look ∧ 0 ≤ v.now ∧ v.now ≤ 281474976710656)
def Sta.rightB (s : Sta) (n : Int) : Bool := decide (0 ≤ s.at_ ∧ s.at_ < n ∧ (s.cells.length : Int) ≤ 1024 ∧ 0 ≤ s.draws ∧ s.draws ≤ 1099511627776)
def openE (p : List Ins) (v : Evi) (s : Sta) : Int :=
  if (checkI p).2 ≠ 0 then 180 else if v.rightB = false then 181 else if s.rightB p.length = false then 182 else 0
def stepE (p : List Ins) (v : Evi) (s : Sta) : Int := if s.ended = true then 183 else doE s v (insAt p s.at_)
def stepS (p : List Ins) (v : Evi) (s : Sta) : Sta := if s.ended = true then s else doS s v (insAt p s.at_)
def zeroSt : Sta := ⟨0, false, fun _ => 0, [], 0, []⟩
structure RI (x : Ins) : Prop where
  ok : x.ok
  a : x.a < 8
  b : x.b < 8
  c : x.c < 8
  jmp : x.op = 9 ∨ x.op = 10 ∨ x.op = 11 → 0 ≤ x.n ∧ x.n < 256
  snd : x.op = 8 → 0 ≤ x.n ∧ x.n < 16
  cls : x.op = 1 ∨ x.op = 2 ∨ x.op = 3 ∨ x.op = 4 ∨ x.op = 5 ∨ x.op = 6 ∨ x.op = 7 ∨ x.op = 8 ∨ x.op = 9 ∨ x.op = 10 ∨ x.op = 11 ∨ (33 ≤ x.op ∧ x.op ≤ 49)
theorem ri_at {p : List Ins} (hok : ∀ x ∈ p, x.ok) (h : (checkI p).2 = 0) {k : Nat} (hk : k < p.length) : RI (p.getD k ⟨0, 0, 0, 0, 0⟩) := by
  have R := right_at hok h hk
  have hl := (right_last' h).2.1
  refine ⟨R.ok, R.a, R.b, R.c, fun hj => ?_, fun h8 => ?_, R.cls⟩
  · have ht : targB (p.getD k ⟨0, 0, 0, 0, 0⟩) = true := by
      rw [targB_of R.one]
      rcases hj with e | e | e <;> simp only [e] <;> decide
    have := R.targ ht
    unfold targV at this
    rw [if_pos ht] at this
    omega
  · have h := R.one
    unfold oneE at h
    have hf : formC (p.getD k ⟨0, 0, 0, 0, 0⟩).op = 5 := by rw [h8]; rfl
    rw [hf, if_neg (by decide)] at h
    have hc : fitsC 5 (p.getD k ⟨0, 0, 0, 0, 0⟩).a (p.getD k ⟨0, 0, 0, 0, 0⟩).b (p.getD k ⟨0, 0, 0, 0, 0⟩).c (p.getD k ⟨0, 0, 0, 0, 0⟩).n := by
      by_cases q : fitsC 5 (p.getD k ⟨0, 0, 0, 0, 0⟩).a (p.getD k ⟨0, 0, 0, 0, 0⟩).b (p.getD k ⟨0, 0, 0, 0, 0⟩).c (p.getD k ⟨0, 0, 0, 0, 0⟩).n
      · exact q
      · rw [oneK_neg q] at h; cases h
    exact ⟨hc.2.2.2.1, hc.2.2.2.2⟩
structure VOk (v : Evi) : Prop where
  p0 : 0 ≤ v.process
  p1 : v.process ≤ 65536
  t0 : 0 ≤ v.now
  t1 : v.now ≤ 281474976710656
  o0 : 0 ≤ v.ports
  l0 : 1 ≤ v.look
structure SOk (s : Sta) : Prop where
  a0 : 0 ≤ s.at_
  a1 : s.at_ ≤ 256
  d0 : 0 ≤ s.draws
  d1 : s.draws ≤ 1099511627776
  c1 : s.cells.length ≤ 1024
  n1 : s.sends.length ≤ 1000000
theorem VOk.of {v : Evi} (h : v.rightB = true) : VOk v := by
  have := of_decide_eq_true (show decide _ = true from h)
  exact ⟨by omega, by omega, by omega, by omega, by omega, by omega⟩
theorem doS_bad {s : Sta} {v : Evi} {x : Ins} (h : doE s v x ≠ 0) : doS s v x = s := by unfold doS; rw [if_pos h]
end Go.Proofs.YtjliakjbdcplcaaGreat.Vm
end

section
namespace Go.Proofs.YtjliakjbdcplcaaGreat
open Go.ChangeShapes Go.WideShapes Go.ChangeAt Go.RowKit Go.Deep
set_option linter.unusedVariables false
set_option linter.unusedSimpArgs false

theorem cell_lt17 {w : World} {p : Addr} {v : Value} (h : w.cell? p = some v) : p.block < w.heap.size := by
  rcases Nat.lt_or_ge p.block w.heap.size with hl | hg
  · exact hl
  · unfold World.cell? at h
    rw [Array.getElem?_eq_none hg] at h
    cases h
theorem trod_int_at17 {H : Type} {enc : TypeId × Value → H} {w : World} {base : Nat} {spare : Nat → Bool} {held : Bool} {n : Nat} {v : Value} {x : DataW H × List MemPlace} {t : TypeId} {k : IntKind} (ht : Tryz.prog.underlying t = some (.int k)) (h : DataW.trod enc Tryz.prog w base spare held n t [v] = some x) : ∃ a, v = .int k a ∧ (Lit.int k a).wf = true := by
  obtain ⟨a, e0, _, b⟩ := DataW.trod_int ht h
  exact ⟨a, (List.cons.inj e0).1, b⟩
namespace Vm
theorem law_of_lit17 {f : FuncId} {args : List SV} {L0 L1 : List HB} {W : World} {β : Env} (H : LitOk Tryz.prog f args L0 (.bool true) L1) (R : Rep W (fun _ => False) β (hp L0) W) :
    Calls Tryz.prog f (denL β args).toArray W fun e W' => e = .returned (.bool true) ∧ Below W.heap.size W W' :=
  (H W _ β W R).mono fun e W' ⟨β', _, R', _, he⟩ => ⟨he, R'.os, R'.tape, R'.output, R'.size, fun k hk => R'.frame k hk id⟩
end Vm
end Go.Proofs.YtjliakjbdcplcaaGreat
end

section
namespace Go.Proofs.YtjliakjbdcplcaaGreat
open Go.ChangeShapes Go.WideShapes Go.ChangeAt Go.RowKit Go.Deep
set_option linter.unusedVariables false
set_option linter.unusedSimpArgs false
set_option maxRecDepth 100000 in
theorem open_prog28 {H : Type} {enc : TypeId × Value → H} {w : World} {n : Nat} {v : Value} {x : DataW H × List MemPlace} (h : DataW.trod enc Tryz.prog w 0 (fun _ => true) true n 22 [v] = some x) :
    ∃ A l c xs, v = .slice A l c ∧ l ≤ c ∧ c ≤ 9223372036854775807 ∧ (∀ i ∈ xs, Ins.ok i) ∧ Reads w w.heap.size 5 A l (insV xs) := by
  have h5 : Tryz.prog.cellsOf 38 = 5 := by kernel_rfl
  have hc1 : Tryz.prog.cellsOf 5 = 1 := by kernel_rfl
  have hc2 : Tryz.prog.cellsOf 2 = 1 := by kernel_rfl
  rcases open_slice Tryz.underlying22 h with ⟨h0, _⟩ | ⟨a, len, cap, m, k, D, Pl, h0, _, hl, hm, hmm, _, hx⟩
  · exact ⟨none, 0, 0, [], (List.cons.inj h0).1, by omega, by omega, (fun _ h => by cases h), Reads.none_⟩
  · have hmc : m = cap := hmm.trans (if_pos rfl)
    have each : ∀ i, i < len → ∃ y : Ins, y.ok ∧ ∀ j u, y.cells[j]? = some u → w.cell? (a.add (i * 5 + j)) = some u := by
      intro i hi
      obtain ⟨cs', h1, h2⟩ := hx i (by omega)
      rw [h5] at h1
      obtain ⟨_, hlen, hcell⟩ := World.cells?_some h1
      obtain ⟨ys, q, _, _, _, hyl, hf⟩ := DataW.trod_struct Tryz.underlying38 h2
      match ys, hyl, cs', hlen with
      | [y0, y1, y2, y3, y4], _, [c0, c1, c2, c3, c4], _ =>
        have g0 : DataW.trod enc Tryz.prog w 0 (fun _ => true) true q 5 [c0] = some y0 := by simpa [hc1, hc2] using hf 0 _ rfl
        have g1 : DataW.trod enc Tryz.prog w 0 (fun _ => true) true q 5 [c1] = some y1 := by simpa [hc1, hc2] using hf 1 _ rfl
        have g2 : DataW.trod enc Tryz.prog w 0 (fun _ => true) true q 5 [c2] = some y2 := by simpa [hc1, hc2] using hf 2 _ rfl
        have g3 : DataW.trod enc Tryz.prog w 0 (fun _ => true) true q 5 [c3] = some y3 := by simpa [hc1, hc2] using hf 3 _ rfl
        have g4 : DataW.trod enc Tryz.prog w 0 (fun _ => true) true q 2 [c4] = some y4 := by simpa [hc1, hc2] using hf 4 _ rfl
        obtain ⟨a0, rfl, b0⟩ := trod_int_at17 Tryz.underlying5 g0
        obtain ⟨a1, rfl, b1⟩ := trod_int_at17 Tryz.underlying5 g1
        obtain ⟨a2, rfl, b2⟩ := trod_int_at17 Tryz.underlying5 g2
        obtain ⟨a3, rfl, b3⟩ := trod_int_at17 Tryz.underlying5 g3
        obtain ⟨a4, rfl, b4⟩ := trod_int_at17 Tryz.underlying2 g4
        simp [Lit.wf, IntKind.min, IntKind.max, IntKind.signed, IntKind.bits] at b0 b1 b2 b3 b4
        refine ⟨⟨a0, a1, a2, a3, a4⟩, ⟨b0.1, b0.2, b1.1, b1.2, b2.1, b2.2, b3.1, b3.2, b4.1, b4.2⟩, fun j u hj => ?_⟩
        have hj5 : j < 5 := (List.getElem?_eq_some_iff.1 hj).1
        have := hcell j hj5
        rw [Vm.add_add] at this
        rw [this]
        exact hj
    have : Inhabited Ins := ⟨⟨0, 0, 0, 0, 0⟩⟩
    obtain ⟨f, hf⟩ := choose_lt (n := len) (p := fun i (y : Ins) => y.ok ∧ ∀ j u, y.cells[j]? = some u → w.cell? (a.add (i * 5 + j)) = some u) each
    refine ⟨some a, len, cap, (List.range len).map f, (List.cons.inj h0).1, hl, by unfold maxLen at hm; omega, fun i hi => ?_, by rw [insV_len]; simp, fun hn => ⟨a, rfl, ?_, fun j u hu => ?_⟩⟩
    · obtain ⟨q, hq, rfl⟩ := List.mem_map.1 hi
      exact (hf q (List.mem_range.1 hq)).1
    · have := cell_lt17 ((hf 0 hn).2 0 _ rfl)
      rwa [block_of_add] at this
    · have hj := (List.getElem?_eq_some_iff.1 hu).1
      rw [insV_len] at hj
      simp at hj
      obtain ⟨q, r, hr5, rfl⟩ : ∃ q r, r < 5 ∧ j = q * 5 + r := ⟨j / 5, j % 5, by omega, by omega⟩
      have hq : q < len := by omega
      refine (hf q hq).2 r u ?_
      have hfl := flat_at Ins.cells 5 (fun _ => rfl) ((List.range len).map f) q r (f q) (by simp [hq]) hr5
      rw [← hfl]
      exact hu
theorem open_ints28 {H : Type} {enc : TypeId × Value → H} {w : World} {base : Nat} {n : Nat} {v : Value} {x : DataW H × List MemPlace} (h : DataW.trod enc Tryz.prog w base (fun _ => true) true n 33 [v] = some x) :
    ∃ A l c xs, v = .slice A l c ∧ l ≤ c ∧ c ≤ 9223372036854775807 ∧ Reads w w.heap.size 1 A l (int64s xs) := by
  rcases open_slice1 Tryz.underlying33 (by kernel_rfl) h with ⟨h0, _⟩ | ⟨a, len, cap, m, k, V, D, Pl, h0, _, hl, hm, hmm, _, hx⟩
  · exact ⟨none, 0, 0, [], (List.cons.inj h0).1, by omega, by omega, Reads.none_⟩
  · have hmc : m = cap := hmm.trans (if_pos rfl)
    obtain ⟨f, hf⟩ := choose_lt (n := len) (p := fun i (z : Int) => V i = .int .i64 z) (fun i hi => by
      obtain ⟨z, hz, _⟩ := trod_int_at17 Tryz.underlying3 (hx i (by omega)).2
      exact ⟨z, hz⟩)
    refine ⟨some a, len, cap, (List.range len).map f, (List.cons.inj h0).1, hl, by unfold maxLen at hm; omega, by simp [int64s], fun hn => ⟨a, rfl, ?_, fun j u hu => ?_⟩⟩
    · have := cell_lt17 (hx 0 (by omega)).1
      rwa [block_of_add] at this
    · have hj : j < len := by
        have := (List.getElem?_eq_some_iff.1 hu).1
        simpa [int64s] using this
      rw [(hx j (by omega)).1, ← hu, hf j hj]
      simp [int64s, hj]
end Go.Proofs.YtjliakjbdcplcaaGreat
end

section
namespace Go.Proofs.YtjliakjbdcplcaaGreat.Vm
open Go.RowKit
set_option linter.unusedVariables false
set_option linter.unusedSimpArgs false
set_option maxRecDepth 100000

section
variable {P : Program} {T : Tab} {C : FuncId → Option Spec} {w0 : World} {M : Nat → Prop} {E : Env} {n0 N n : Nat} {D : List Deferred} {φ φ2 φ' : Fr} {L L2 L' : List HB} {Q : Exit → Act → World → Prop} {ro : Option Nat} {K : Act → World → Prop}

theorem At.runEnd (hC : ∀ f S, C f = some S → CallOk P f S) (hT : TabOk P T) {ops : Array Oper} {k len : Nat} {l : List Oper} {c : Prop} {rs : List Rc} (hd : noDefer ops.toList = true) (hl : (ops.toList.drop k).take len = l) (hlen : l.length = len) (hr : runR T C N ops.toList φ L l = some (c, rs, φ', L')) (hc : c)
    (h : At w0 M E n0 N D φ' L' (Q .normal)) : At w0 M E n0 N D φ L (wpOpsIn (FR ro) n P ops Q (List.range' k len)) := by
  have := At.run (ro := ro) (n := n) (rest := []) hC hT hd hl hlen hr hc h
  rwa [List.append_nil] at this
theorem At.code {c : Code} (h : WF ro n P c w0 M E n0 N D φ L Q) : At w0 M E n0 N D φ L (c.wpIn (FR ro) n P Q) := h
theorem At.thenNormal (h : At w0 M E n0 N D φ L K) : At w0 M E n0 N D φ L (Exit.then K Q .normal) := h
theorem At.thenRet (h : At w0 M E n0 N D φ L (Q .ret)) : At w0 M E n0 N D φ L (Exit.then K Q .ret) := h
theorem At.thenExit {j : Nat} (h : At w0 M E n0 N D φ L (Q (.exit j))) : At w0 M E n0 N D φ L (Exit.then K Q (.exit j)) := h
theorem At.thenGoto {j : Nat} (h : At w0 M E n0 N D φ L (Q (.goto j))) : At w0 M E n0 N D φ L (Exit.then K Q (.goto j)) := h
theorem At.inNormal {id : Nat} (h : At w0 M E n0 N D φ L (Q .normal)) : At w0 M E n0 N D φ L (Exit.inBlock id Q .normal) := h
theorem At.inRet {id : Nat} (h : At w0 M E n0 N D φ L (Q .ret)) : At w0 M E n0 N D φ L (Exit.inBlock id Q .ret) := h
theorem At.inGoto {id j : Nat} (h : At w0 M E n0 N D φ L (Q (.goto j))) : At w0 M E n0 N D φ L (Exit.inBlock id Q (.goto j)) := h
theorem At.inHit {id : Nat} (h : At w0 M E n0 N D φ L (Q .normal)) : At w0 M E n0 N D φ L (Exit.inBlock id Q (.exit id)) := fun a w hS => by
  show (if id = id then Q .normal a w else Q (.exit id) a w)
  rw [if_pos rfl]
  exact h a w hS
theorem At.inMiss {id j : Nat} (hn : Nat.beq j id = false) (h : At w0 M E n0 N D φ L (Q (.exit j))) : At w0 M E n0 N D φ L (Exit.inBlock id Q (.exit j)) := fun a w hS => by
  show (if j = id then Q .normal a w else Q (.exit j) a w)
  rw [if_neg (fun e => by rw [e] at hn; simp at hn)]
  exact h a w hS
theorem At.noGotoNormal (h : At w0 M E n0 N D φ L (Q .normal)) : At w0 M E n0 N D φ L (Exit.noGoto Q .normal) := h
theorem At.noGotoRet (h : At w0 M E n0 N D φ L (Q .ret)) : At w0 M E n0 N D φ L (Exit.noGoto Q .ret) := h
theorem At.noGotoExit {j : Nat} (h : At w0 M E n0 N D φ L (Q (.exit j))) : At w0 M E n0 N D φ L (Exit.noGoto Q (.exit j)) := h
theorem WF.scope {c : Code} (h : WF none n P c w0 M E n0 N D φ L (Exit.noGoto Q)) : WF none n P (.scope c) w0 M E n0 N D φ L Q := fun a w hS => by
  have h1 : c.wp P (Exit.noGoto Q) a w := wpIn_wide.1 (h a w hS)
  exact wpIn_wide.2 (wp_scope_straight h1)
open Classical in
theorem WF.loop0 {α : Type} (p : α → Prop) (φi : α → Fr) (Li : α → List HB) (μ : α → Nat) {c : Code} (x0 : α) (h0 : p x0)
    (step : ∀ x, p x → WF ro n P c w0 M E n0 N D (φi x) (Li x) (Exit.then (fun a w => ∃ y, (p y ∧ μ y < μ x) ∧ St w0 M E n0 N D (φi y) (Li y) a w) Q)) : WF ro n P (.loop c) w0 M E n0 N D (φi x0) (Li x0) Q := by
  intro a w hS
  let I : Act → World → Prop := fun a w => ∃ x, p x ∧ St w0 M E n0 N D (φi x) (Li x) a w
  let pm : Act → World → Nat → Prop := fun a w k => ∃ x, p x ∧ St w0 M E n0 N D (φi x) (Li x) a w ∧ μ x = k
  have hex : ∀ a w, I a w → ∃ k, pm a w k := fun a w ⟨x, h1, h2⟩ => ⟨μ x, x, h1, h2, rfl⟩
  let m : Act → World → Nat := fun a w => if h : I a w then Classical.choose (least (hex a w h)) else 0
  have hm : ∀ a w (h : I a w), pm a w (m a w) ∧ ∀ k, pm a w k → m a w ≤ k := fun a w h => by
    have := Classical.choose_spec (least (hex a w h))
    simp only [m, h, dif_pos]
    exact this
  refine wpIn_loop I m ⟨x0, h0, hS⟩ fun a w hI => ?_
  obtain ⟨⟨x, hx, hSx, hμ⟩, hmin⟩ := hm a w hI
  refine wpIn_mono (step x hx a w hSx) fun e a' w' hq => ?_
  cases e <;> try exact hq
  obtain ⟨y, ⟨hy, hlt⟩, hSy⟩ := hq
  refine ⟨⟨y, hy, hSy⟩, ?_⟩
  have := (hm a' w' ⟨y, hy, hSy⟩).2 (μ y) ⟨y, hy, hSy, rfl⟩
  omega
theorem WF.loopAt {α : Type} (p : α → Prop) (φi : α → Fr) (Li : α → List HB) (μ : α → Nat) {c : Code} (x0 : α) (h0 : p x0)
    (hφ : SubF φ (φi x0)) (hL : LessL L (Li x0)) (hz : hp (Li x0) 0 = .gone) (hs : StableH (hp (Li x0)) (Li x0)) (hf : StableF (hp (Li x0)) (φi x0)) (hb : bornTo n0 (Li x0) = true)
    (step : ∀ x, p x → WF ro n P c w0 M E n0 N D (φi x) (Li x) (Exit.then (fun a w => ∃ y, (p y ∧ μ y < μ x) ∧ St w0 M E n0 N D (φi y) (Li y) a w) Q)) : WF ro n P (.loop c) w0 M E n0 N D φ L Q :=
  WF.sub hφ hL hz hs hf hb (WF.loop0 p φi Li μ x0 h0 step)
theorem At.next {α : Type} {p : α → Prop} {φi : α → Fr} {Li : α → List HB} (y : α) (hy : p y) (hφ : SubF φ (φi y)) (hL : LessL L (Li y)) (h0 : hp (Li y) 0 = .gone) (hs : StableH (hp (Li y)) (Li y)) (hf : StableF (hp (Li y)) (φi y)) (hb : bornTo n0 (Li y) = true) : At w0 M E n0 N D φ L (fun a w => ∃ y, p y ∧ St w0 M E n0 N D (φi y) (Li y) a w) :=
  fun a w hS => ⟨y, hy, hS.sub hφ hL h0 hs hf hb⟩
theorem At.endsRet (hT : TabOk P T) {fn : Func} {c : Prop} {vs : List SV} {v : SV} {rs : List ResultVar} {L0 : List HB} {w1 : World} {M1 : Nat → Prop} {D1 : List Deferred} (A : Anc w0 M [] w1 M1 D1) (hro : RoOk w0 M E L0) (hL0 : L0.length ≤ n0) (hrs : fn.results.toList = rs) (hr : resV T φ (hp L) rs = some (c, vs)) (hc : c) (hL : LessL L L2) (h0 : hp L2 0 = .gone) (hs : StableH (hp L2) L2) (hsub : RoSub L L0) (hv : ∀ β, (resS vs).den β = v.den β) (hst : Stable (hp L2) v) :
    At w1 M1 E n0 N D1 φ L (EndsM n P fn w0 M E n0 v L2 .ret) := At.endsM hT A hro hL0 hrs hr hc hL h0 hs hsub hv hst
end
end Go.Proofs.YtjliakjbdcplcaaGreat.Vm
end

section
namespace Go.Proofs.YtjliakjbdcplcaaGreat.Vm
open Go.RowKit
set_option linter.defProp false
def J22 := @WF.region
def J23 := @WF.drawn
def J24 := @WF.cond
def JH := And.intro @Bool.not_eq_true' (And.intro @Bool.not_eq_false' (And.intro @decide_eq_true_eq (And.intro @decide_eq_false_iff_not (And.intro @Bool.and_eq_true @Bool.or_eq_true))))
def JP := And.intro @Int.cast_ofNat_Int (And.intro @ofV_m1 @ofV_min)
def JS := And.intro @and_self (And.intro @true_and (And.intro @and_true (And.intro @false_implies (And.intro @true_implies (And.intro @Bool.not_eq_true' @imp_self)))))
theorem fol : Tryz.prog.follows .mixedOrders = true := by kernel_rfl
def c0 : FuncId → Option Spec := look2 []
theorem c1_ok : ∀ f S, c0 f = some S → CallOk Tryz.prog f S := fun f S h => by cases h
class Ctl (Q : Prop) (P : outParam Prop) : Prop where
  h : P → Q
class NeB (j k : Nat) : Prop where
  h : Nat.beq j k = false
instance {k : Nat} : NeB 0 (k + 1) := ⟨rfl⟩
instance {k : Nat} : NeB (k + 1) 0 := ⟨rfl⟩
instance {j k : Nat} [h : NeB j k] : NeB (j + 1) (k + 1) := ⟨h.h⟩
section
variable {P : Program} {w0 : World} {M : Nat → Prop} {E : Env} {n0 N n : Nat} {D : List Deferred} {φ : Fr} {L : List HB} {Q : Exit → Act → World → Prop} {ro : Option Nat} {K : Act → World → Prop}
instance {x y : Code} : Ctl (WF ro n P (.seq x y) w0 M E n0 N D φ L Q) (WF ro n P x w0 M E n0 N D φ L (Exit.then (y.wpIn (FR ro) n P Q) Q)) := ⟨WF.seq⟩
instance {c : Code} : Ctl (At w0 M E n0 N D φ L (c.wpIn (FR ro) n P Q)) (WF ro n P c w0 M E n0 N D φ L Q) := ⟨At.code⟩
instance : Ctl (At w0 M E n0 N D φ L (Exit.then K Q .normal)) (At w0 M E n0 N D φ L K) := ⟨At.thenNormal⟩
instance : Ctl (At w0 M E n0 N D φ L (Exit.then K Q .ret)) (At w0 M E n0 N D φ L (Q .ret)) := ⟨At.thenRet⟩
instance {j : Nat} : Ctl (At w0 M E n0 N D φ L (Exit.then K Q (.exit j))) (At w0 M E n0 N D φ L (Q (.exit j))) := ⟨At.thenExit⟩
instance {j : Nat} : Ctl (At w0 M E n0 N D φ L (Exit.then K Q (.goto j))) (At w0 M E n0 N D φ L (Q (.goto j))) := ⟨At.thenGoto⟩
instance {id : Nat} : Ctl (At w0 M E n0 N D φ L (Exit.inBlock id Q .normal)) (At w0 M E n0 N D φ L (Q .normal)) := ⟨At.inNormal⟩
instance {id : Nat} : Ctl (At w0 M E n0 N D φ L (Exit.inBlock id Q .ret)) (At w0 M E n0 N D φ L (Q .ret)) := ⟨At.inRet⟩
instance {id j : Nat} : Ctl (At w0 M E n0 N D φ L (Exit.inBlock id Q (.goto j))) (At w0 M E n0 N D φ L (Q (.goto j))) := ⟨At.inGoto⟩
instance {id : Nat} : Ctl (At w0 M E n0 N D φ L (Exit.inBlock id Q (.exit id))) (At w0 M E n0 N D φ L (Q .normal)) := ⟨At.inHit⟩
instance : Ctl (At w0 M E n0 N D φ L (Exit.noGoto Q .normal)) (At w0 M E n0 N D φ L (Q .normal)) := ⟨At.noGotoNormal⟩
instance : Ctl (At w0 M E n0 N D φ L (Exit.noGoto Q .ret)) (At w0 M E n0 N D φ L (Q .ret)) := ⟨At.noGotoRet⟩
instance {j : Nat} : Ctl (At w0 M E n0 N D φ L (Exit.noGoto Q (.exit j))) (At w0 M E n0 N D φ L (Q (.exit j))) := ⟨At.noGotoExit⟩
instance : Ctl (WF ro n P .skip w0 M E n0 N D φ L Q) (At w0 M E n0 N D φ L (Q .normal)) := ⟨WF.skip⟩
instance : Ctl (WF ro n P .ret w0 M E n0 N D φ L Q) (At w0 M E n0 N D φ L (Q .ret)) := ⟨WF.ret⟩
instance {id : Nat} : Ctl (WF ro n P (.exit id) w0 M E n0 N D φ L Q) (At w0 M E n0 N D φ L (Q (.exit id))) := ⟨WF.exit⟩
instance {id : Nat} : Ctl (WF ro n P (.goto id) w0 M E n0 N D φ L Q) (At w0 M E n0 N D φ L (Q (.goto id))) := ⟨WF.goto⟩
instance {id : Nat} : Ctl (WF ro n P (.label id) w0 M E n0 N D φ L Q) (At w0 M E n0 N D φ L (Q .normal)) := ⟨WF.label⟩
instance {id : Nat} {c : Code} : Ctl (WF ro n P (.block id c) w0 M E n0 N D φ L Q) (WF ro n P c w0 M E n0 N D φ L (Exit.inBlock id Q)) := ⟨WF.block⟩
instance {c : Code} : Ctl (WF none n P (.scope c) w0 M E n0 N D φ L Q) (WF none n P c w0 M E n0 N D φ L (Exit.noGoto Q)) := ⟨WF.scope⟩
instance {id j : Nat} [h : NeB j id] : Ctl (At w0 M E n0 N D φ L (Exit.inBlock id Q (.exit j))) (At w0 M E n0 N D φ L (Q (.exit j))) := ⟨At.inMiss h.h⟩
end
end Go.Proofs.YtjliakjbdcplcaaGreat.Vm
end

section
namespace Go.Proofs.YtjliakjbdcplcaaGreat.Vm
open Go.RowKit
set_option linter.unusedVariables false
set_option linter.unusedSimpArgs false
set_option maxRecDepth 100000

def rhoL (l : List Nat) (m : Nat) : Nat → Nat := fun i => if i < l.length then l.getD i 0 else m + (i - l.length)
def noMine : List HB → Bool
  | [] => true
  | b :: l => !b.mine && noMine l
theorem noMine_spec : ∀ {L : List HB}, noMine L = true → ∀ i, (hp L i).mine = false
  | [], _, i => by unfold hp; simp [HB.mine]
  | b :: l, h, 0 => by
    simp only [noMine, Bool.and_eq_true, Bool.not_eq_true'] at h
    exact h.1
  | b :: l, h, i + 1 => by
    simp only [noMine, Bool.and_eq_true] at h
    have := noMine_spec h.2 i
    unfold hp at this ⊢
    simpa using this
def FitL (ρ : Nat → Nat) (h : HM) : List HB → List Nat → Prop
  | [], _ => True
  | b :: l, n => match n with
    | j :: n => Fit ρ b (h j) ∧ FitL ρ h l n
    | [] => False
theorem fitL_get {ρ : Nat → Nat} {h : HM} : ∀ {L : List HB} {l : List Nat}, FitL ρ h L l → ∀ i, i < L.length → Fit ρ (hp L i) (h (l.getD i 0))
  | [], l, _, i, hi => by simp at hi
  | b :: L, [], hf, _, _ => by exact hf.elim
  | b :: L, j :: l, hf, 0, _ => hf.1
  | b :: L, j :: l, hf, i + 1, hi => by
    have := fitL_get hf.2 i (by simpa using hi)
    unfold hp at this ⊢
    simpa using this
def hG (n0 : Nat) (L0 L1 : List HB) : HM := fun i => if i < n0 then hp L0 i else hp L1 i
theorem laid_ro {L0 L1 : List HB} {h : HM} {l : List Nat} {m : Nat} {v : SV} (hlen : l.length = L0.length) (hpos : 0 < L0.length) (h00 : l.getD 0 0 = 0) (hz : hp L0 0 = .gone) (hno : noMine L0 = true) (hfit : FitL (rhoL l m) h L0 l) (hm : ∀ i, m ≤ i → i < m + (L1.length - L0.length) → h i = .dead) (hle : L0.length ≤ L1.length)
    (hst0 : StableH (hp L0) L0) (hstb : ∀ j, (h j).stable h) (hnew : NewL (hG L0.length L0 L1) (L1.drop L0.length)) (hv : Stable (hG L0.length L0 L1) v) :
    Laid L0 L1 h (wrs h (newB (rhoL l m) m (L1.drop L0.length))) (rhoL l m) m v := by
  obtain ⟨k, hk⟩ : ∃ k, k = L1.length - L0.length := ⟨_, rfl⟩
  have hdl : (L1.drop L0.length).length = k := by rw [List.length_drop, hk]
  have hrl : ∀ i, i < L0.length → rhoL l m i = l.getD i 0 := fun i hi => if_pos (by omega)
  have hrn : ∀ i, L0.length ≤ i → rhoL l m i = m + (i - L0.length) := fun i hi => by
    unfold rhoL; rw [if_neg (by omega), hlen]
  have hmin := noMine_spec hno
  have hget : ∀ j, m ≤ j → (L1.drop L0.length).getD (j - m) .dead = hp L1 (L0.length + (j - m)) := fun j hj => by
    unfold hp
    rw [List.getD_eq_getElem?_getD, List.getD_eq_getElem?_getD, List.getElem?_drop]
  have hnewj : ∀ j, m ≤ j → j < m + k → wrs h (newB (rhoL l m) m (L1.drop L0.length)) j = (hp L1 (L0.length + (j - m))).ren (rhoL l m) := fun j h1 h3 => by
    rw [wrs_newB, if_pos ⟨h1, by omega⟩, hget j h1]
  have holdj : ∀ j, ¬ (m ≤ j ∧ j < m + k) → wrs h (newB (rhoL l m) m (L1.drop L0.length)) j = h j := fun j hj => by
    rw [wrs_newB, if_neg (by rw [hdl]; exact hj)]
  have bornold : ∀ j, (h j).born = true → ¬ (m ≤ j ∧ j < m + k) := fun j hj hc => by
    rw [hm j hc.1 (by omega)] at hj; cases hj
  have more : ∀ i, (h i).born = true → (wrs h (newB (rhoL l m) m (L1.drop L0.length)) i).born = true := fun i hi => by rw [holdj i (bornold i hi)]; exact hi
  have hfit' : ∀ i, i < L0.length → Fit (rhoL l m) (hp L0 i) (h (rhoL l m i)) := fun i hi => by rw [hrl i hi]; exact fitL_get hfit i hi
  have moreG : ∀ i, (hG L0.length L0 L1 i).born = true → (wrs h (newB (rhoL l m) m (L1.drop L0.length)) (rhoL l m i)).born = true := fun i hi => by
    unfold hG at hi
    split at hi
    · rename_i hlt
      exact more _ (hfit' i hlt).born
    · rename_i hge
      have hlt : i < L1.length := by
        rcases Nat.lt_or_ge i L1.length with h' | h'
        · exact h'
        · rw [hp_dead h'] at hi; cases hi
      rw [hrn i (by omega), hnewj _ (by omega) (by omega), show L0.length + (m + (i - L0.length) - m) = i by omega]
      cases hh : hp L1 i <;> rw [hh] at hi <;> first | rfl | (cases hi; done)
  have hnewS := newL_spec hnew
  refine { z := by rw [hrl 0 hpos, h00], z0 := hz, new := fun i hi => hrn i hi, pre := hfit', inj := fun i j hi hj hne hmi => absurd hmi (by rw [hmin i]; exact Bool.false_ne_true), img := fun i hi hmi => absurd hmi (by rw [hmin i]; exact Bool.false_ne_true), old := fun j hj _ => holdj j (bornold j hj), fresh := fun j hj => ?_, un := fun i hi hb => ?_, st0 := stableH_spec hst0, st2 := fun j => ?_, stv := hv.ren moreG }
  · by_cases hc : m ≤ j ∧ j < m + k
    · exact .inr ⟨hc.1, hnewj j hc.1 hc.2, (hnewS _ (by omega)).2⟩
    · left
      rw [holdj j hc]
      cases hh : h j <;> rw [hh] at hj <;> first | rfl | (cases hj; done)
  · have hlt : i < L1.length := by
      rcases Nat.lt_or_ge i L1.length with h' | h'
      · exact h'
      · rw [hp_dead h'] at hb; cases hb
    rw [hrn i hi, hm _ (by omega) (by omega)]
    rfl
  · by_cases hc : m ≤ j ∧ j < m + k
    · rw [hnewj j hc.1 hc.2]
      have hs := (hnewS (L0.length + (j - m)) (by omega)).1
      cases hh : hp L1 (L0.length + (j - m)) with
      | own t u ex => rw [hh] at hs; exact Stable.ren moreG hs
      | ro u => rw [hh] at hs; exact Stable.ren moreG hs
      | raw o => trivial
      | gone => trivial
      | dead => trivial
    · rw [holdj j hc]
      have : (h j).stable h := hstb j
      exact HB.stable_more this more
theorem callG {P : Program} {f : FuncId} {args : List SV} {L0 L1 : List HB} {v : SV} {w0 w : World} {M : Nat → Prop} {β : Env} {h h' : HM} {m : Nat} (l : List Nat) (H : LitOk P f args L0 v L1) (R : Rep w0 M β h' w) (hlen : l.length = L0.length) (hpos : 0 < L0.length) (h00 : l.getD 0 0 = 0) (hz : hp L0 0 = .gone) (hno : noMine L0 = true) (hfit : FitL (rhoL l m) h' L0 l)
    (hm : ∀ i, m ≤ i → h i = .dead) (hwr : ∀ p ∈ newB (rhoL l m) m (L1.drop L0.length), h' p.1 = h p.1) (hle : L0.length ≤ L1.length)
    (hst0 : StableH (hp L0) L0) (hsta : StableL (hp L0) args) (hnew : NewL (hG L0.length L0 L1) (L1.drop L0.length)) (hv : Stable (hG L0.length L0 L1) v) :
    Calls P f (denL β (renL (rhoL l m) args)).toArray w fun e w' => ∃ β', (∀ i, (h' i).born = true → β i = β' i) ∧ Rep w0 M β' (wrs h' (newB (rhoL l m) m (L1.drop L0.length))) w' ∧ Stable (wrs h' (newB (rhoL l m) m (L1.drop L0.length))) (v.ren (rhoL l m)) ∧ e = .returned ((v.ren (rhoL l m)).den β') :=
  call_lit H R (laid_ro hlen hpos h00 hz hno hfit (fun i hi hlt => by
    obtain ⟨b, hb⟩ := newB_mem (ρ := rhoL l m) (l := L1.drop L0.length) hi (by rw [List.length_drop]; exact hlt)
    exact (hwr _ hb).trans (hm i hi)) hle hst0 R.st hnew hv) hsta

def sg (l : List Nat) : Nat → Nat := fun i => l.getD i 0
def PickL (σ : Nat → Nat) (h : HM) : List HB → List Nat → Prop
  | [], _ => True
  | b :: l, n => match n with
    | j :: n => (b = .gone ∨ Less (h j) (b.ren σ)) ∧ PickL σ h l n
    | [] => False
theorem pickL_get {σ : Nat → Nat} {h : HM} : ∀ {L : List HB} {l : List Nat}, PickL σ h L l → ∀ i, i < L.length → hp L i = .gone ∨ Less (h (l.getD i 0)) ((hp L i).ren σ)
  | [], l, _, i, hi => by simp at hi
  | b :: L, [], hf, _, _ => by exact hf.elim
  | b :: L, j :: l, hf, 0, _ => hf.1
  | b :: L, j :: l, hf, i + 1, hi => by
    have := pickL_get hf.2 i (by simpa using hi)
    unfold hp at this ⊢
    simpa using this
def injL : List HB → List Nat → List Nat → Bool
  | [], _, _ => true
  | b :: L, l, seen => match l with
    | j :: l => bif b.mine then !memN j seen && injL L l (j :: seen) else injL L l seen
    | [] => false
theorem injL_seen : ∀ {L : List HB} {l seen : List Nat}, injL L l seen = true → ∀ i, i < L.length → (hp L i).mine = true → l.getD i 0 ∉ seen
  | [], l, seen, _, i, hi, _ => by simp at hi
  | b :: L, [], seen, h, _, _, _ => by cases h
  | b :: L, j :: l, seen, h, i, hi, hm => by
    simp only [injL] at h
    cases i with
    | zero =>
      have hb : b.mine = true := hm
      rw [hb] at h
      simp only [cond_true, Bool.and_eq_true, Bool.not_eq_true'] at h
      intro hc
      have := memN_iff.2 hc
      simp only [List.getD_cons_zero] at this
      rw [h.1] at this
      cases this
    | succ i =>
      have hm' : (hp L i).mine = true := by unfold hp at hm ⊢; simpa using hm
      rw [List.getD_cons_succ]
      cases hb : b.mine with
      | false => rw [hb] at h; exact injL_seen h i (by simpa using hi) hm'
      | true =>
        rw [hb] at h
        simp only [cond_true, Bool.and_eq_true] at h
        exact fun hc => injL_seen h.2 i (by simpa using hi) hm' (.tail _ hc)
theorem injL_spec : ∀ {L : List HB} {l seen : List Nat}, injL L l seen = true → ∀ i j, i < j → j < L.length → (hp L i).mine = true → (hp L j).mine = true → l.getD i 0 ≠ l.getD j 0
  | [], l, seen, _, i, j, _, hj, _, _ => by simp at hj
  | b :: L, [], seen, h, _, _, _, _, _, _ => by cases h
  | b :: L, k :: l, seen, h, i, j, hij, hj, hi, hjm => by
    simp only [injL] at h
    obtain ⟨j, rfl⟩ : ∃ j', j = j' + 1 := ⟨j - 1, by omega⟩
    have hj' : j < L.length := by simpa using hj
    have hjm' : (hp L j).mine = true := by unfold hp at hjm ⊢; simpa using hjm
    rw [List.getD_cons_succ]
    cases i with
    | zero =>
      have hb : b.mine = true := hi
      rw [hb] at h
      simp only [cond_true, Bool.and_eq_true] at h
      rw [List.getD_cons_zero]
      exact fun e => injL_seen h.2 j hj' hjm' (by rw [← e]; exact .head _)
    | succ i =>
      have hi' : (hp L i).mine = true := by unfold hp at hi ⊢; simpa using hi
      rw [List.getD_cons_succ]
      cases hb : b.mine with
      | false => rw [hb] at h; exact injL_spec h i j (by omega) hj' hi' hjm'
      | true =>
        rw [hb] at h
        simp only [cond_true, Bool.and_eq_true] at h
        exact injL_spec h.2 i j (by omega) hj' hi' hjm'
theorem Rep.pick {w0 w : World} {M : Nat → Prop} {β : Env} {h : HM} {L : List HB} {l : List Nat} (R : Rep w0 M β h w) (h0 : l.getD 0 0 = 0) (hz : hp L 0 = .gone) (hp_ : PickL (sg l) h L l) (hi : injL L l [] = true) (hs : StableH (hp L) L) : Rep w0 M (fun i => β (sg l i)) (hp L) w := by
  have get : ∀ i, (hp L i) = .dead ∨ hp L i = .gone ∨ (i < L.length ∧ Less (h (sg l i)) ((hp L i).ren (sg l))) := fun i => by
    rcases Nat.lt_or_ge i L.length with hlt | hge
    · rcases pickL_get hp_ i hlt with e | e
      · exact .inr (.inl e)
      · exact .inr (.inr ⟨hlt, e⟩)
    · exact .inl (hp_dead hge)
  have mine : ∀ i, (hp L i).mine = true → i < L.length ∧ (h (sg l i)).mine = true := fun i hm => by
    rcases get i with e | e | ⟨hlt, e⟩
    · rw [e] at hm; cases hm
    · rw [e] at hm; cases hm
    · refine ⟨hlt, less_mine e ?_⟩
      cases hh : hp L i <;> rw [hh] at hm <;> first | rfl | (cases hm; done)
  refine { os := R.os, tape := R.tape, output := R.output, size := R.size, frame := R.frame, nil := ?_, nil0 := hz, st := stableH_spec hs, blk := fun i => ?_, own := fun i a hm ha => R.own _ a (mine i hm).2 ha, ro := fun i v a hv ha hzz => ?_, dist := fun i j ai aj hne hmi hmj hai haj => ?_, lt := fun i a hm ha => R.lt _ a (mine i hm).2 ha }
  · show β (l.getD 0 0) = _
    rw [h0]; exact R.nil
  · rcases get i with e | e | ⟨hlt, e⟩
    · rw [e]; trivial
    · rw [e]; trivial
    · have hB := R.blk (sg l i)
      exact holds_unren (β := fun i => β (sg l i)) (β' := β) (h := hp L) (ρ := sg l) (fun _ _ => rfl) (stableH_spec hs i) rfl (holds_less e hB)
  · rcases get i with e | e | ⟨hlt, e⟩
    · rw [e] at hv; cases hv
    · rw [e] at hv; cases hv
    · rw [hv] at e
      exact R.ro _ (v.ren (sg l)) a (less_ro e) ha (by rw [size_ren]; exact hzz)
  · have h1 := mine i hmi
    have h2 := mine j hmj
    refine R.dist _ _ ai aj ?_ h1.2 h2.2 hai haj
    rcases Nat.lt_or_ge i j with hlt | hge
    · exact injL_spec hi i j hlt h2.1 hmi hmj
    · exact fun e => injL_spec hi j i (by omega) h1.1 hmj hmi e.symm
def idTo (n : Nat) (l : List Nat) : Bool := (List.range n).all fun i => Nat.beq (l.getD i 0) i
section
variable {P : Program} {T : Tab} {w0 w1 : World} {M M1 : Nat → Prop} {E : Env} {n0 N n : Nat} {D1 : List Deferred} {φ : Fr} {L L2 : List HB}
theorem At.endsPick (l : List Nat) (hT : TabOk P T) {fn : Func} {c : Prop} {vs : List SV} {v : SV} {rs : List ResultVar} {L0 : List HB} (A : Anc w0 M [] w1 M1 D1) (hro : RoOk w0 M E L0) (hL0 : L0.length ≤ n0) (hrs : fn.results.toList = rs) (hr : resV T φ (hp L) rs = some (c, vs)) (hc : c) (h00 : l.getD 0 0 = 0) (hz : hp L2 0 = .gone) (hid : idTo n0 l = true) (hpk : PickL (sg l) (hp L) L2 l) (hinj : injL L2 l [] = true) (hs : StableH (hp L2) L2) (hsub : RoSub L L0) (hv : ∀ β, (resS vs).den β = (v.ren (sg l)).den β) (hst : Stable (hp L2) v) :
    At w1 M1 E n0 N D1 φ L (EndsM n P fn w0 M E n0 v L2 .ret) := fun a w hS => by
  obtain ⟨⟨β, hE, R, F⟩, hbn, _, hd⟩ := hS
  subst hrs
  have R0 : Rep w0 M β (hp L) w := R.back A fun i u a hi ha hz => by
    obtain ⟨h1, h2⟩ := roSub_spec hsub i u hi
    exact hro i u a h1 (by rw [← hE i (Nat.lt_of_lt_of_le h2 hL0)]; exact ha) hz
  obtain ⟨rs, d1, n1, k1⟩ := A.marks
  simp only [EndsM, bodyPostM, hd, d1, List.append_nil]
  refine leaves_marks (β := β) (h := hp L) rs w R0 n1 (fun r hr => ?_) (fun w' R' => ?_)
  · obtain ⟨k1, k2, k3, k4⟩ := k1 r hr
    refine ⟨k1, fun ⟨i, a', hm, ha, e⟩ => ?_, (R.frame r k2 k3).trans k4⟩
    rcases R.own i a' hm ha with h' | h'
    · omega
    · exact k3 (by rw [← e]; exact h')
  · obtain ⟨q1, q2⟩ := resV_ok ⟨hT, R', F⟩ hr hc
    refine ⟨_, q2, fun i => β (sg l i), fun i hi => ?_, R'.pick h00 hz hpk hinj hs, hst, ?_⟩
    · simp only [idTo, List.all_eq_true] at hid
      have e := Nat.eq_of_beq_eq_true (hid i (List.mem_range.2 hi))
      show β (l.getD i 0) = E i
      rw [e]; exact hE i hi
    · rw [hv]
      congr 1
      exact den_ren (h := hp L2) (fun _ _ => rfl) hst
end
theorem hp_append1 (L : List HB) (x : HB) : hp (L ++ [x]) = upd (hp L) L.length x := by
  funext i
  unfold hp upd
  by_cases h2 : i = L.length
  · subst h2; simp
  · rw [if_neg h2]
    rcases Nat.lt_or_ge i L.length with h | h
    · simp [List.getElem?_append_left h]
    · simp [List.getElem?_eq_none (show (L ++ [x]).length ≤ i by simp; omega), List.getElem?_eq_none h]
theorem At.nil {w0 : World} {M : Nat → Prop} {E : Env} {n0 N : Nat} {D : List Deferred} {φ : Fr} {L : List HB} {K : Act → World → Prop} (t : Tmp) (ty k : Nat) (f : Nat → SV) (hl : look φ t = some (.sl 0 0 [] 0 0 0 (some 0))) (hf : ∀ (h : HM) (q : Nat), Stable h (f q))
    (h : At w0 M E n0 N D ((t, .sl L.length L.length [] k 0 0 none) :: φ) (L ++ [.own ty (.arr 0 k f) false]) K) : At w0 M E n0 N D φ L K := fun a w hS => by
  obtain ⟨⟨β, hE, R, F⟩, hbn, hsz, hd⟩ := hS
  have hm : hp L L.length = .dead := hp_dead (Nat.le_refl _)
  have R1 := nothing R (e := ty) (k := k) (g := f) hm (fun q => hf _ q)
  have hag : ∀ i, (hp L i).born = true → β i = setE β L.length (none, 0) i := agree_setE hm
  have hborn : ∀ i, (hp L i).born = true → (upd (hp L) L.length (.own ty (.arr 0 k f) false) i).born = true := fun i hi => by
    unfold Vm.upd; split
    · rfl
    · exact hi
  refine h a w ⟨⟨setE β L.length (none, 0), fun i hi => (hag i (hbn i hi)).symm.trans (hE i hi), by rw [hp_append1]; exact R1, fun u v hu => ?_⟩, fun i hi => by rw [hp_append1]; exact hborn i (hbn i hi), hsz, hd⟩
  rw [hp_append1]
  simp only [look] at hu
  cases hq : Nat.beq t u with
  | true =>
    rw [hq] at hu
    have := Nat.eq_of_beq_eq_true hq
    subst this
    injection hu with hu
    subst hu
    refine ⟨?_, ?_⟩
    · simp only [Stable, upd_same]; exact ⟨rfl, rfl⟩
    · rw [(F t _ hl).2]
      simp [SV.den, setE_same, R.nil]
  | false =>
    rw [hq] at hu
    obtain ⟨k1, k2⟩ := F u v hu
    exact ⟨k1.more hborn, by rw [k2]; exact k1.den hag⟩
end Go.Proofs.YtjliakjbdcplcaaGreat.Vm
end

section
open Go.Proofs.YtjliakjbdcplcaaGreat.Vm Go.RowKit
attribute [local push_cast] runR opG gtmp gval gus opX tmpsOf tm tmO tmP restr look look2 tab tys zs ets eqB eqBL allB numOf ieq Int.cast_ofNat_Int Int.ofNat_zero beq_true beq_false frameOf ev evL ofV opV loadV noW pushF wrsL setH allBorn allGone HB.born HB.isGone HB.val SV.plain dstOk hp nav fitsT SV.size sizeL SV.isAgg TK.size TK.agg bin binE binN binI arN arI cmpN cmpI keq kn narrow callV storeV setp fillV buildV buildSliceV makeV sliceV appendV appendFV slice3V copyV List.isEmpty_nil srcV evO asN ite_t ite_f ite_bool ite_int ite_nat maxV v_beq v_ble v_blt cond_true cond_false List.getElem?_cons_zero List.getElem?_cons_succ List.getD_cons_zero List.getD_cons_succ List.getD_nil List.length_cons List.length_nil List.take_succ_cons List.take_zero List.set_cons_zero List.set_cons_succ List.cons_append List.nil_append List.append_assoc List.replicate_succ List.replicate_zero Nat.zero_add Nat.add_zero decide_true decide_false Bool.true_and Bool.and_true Bool.false_and Bool.and_false Bool.true_or Bool.or_true Bool.false_or Bool.or_false beq_self_eq_true Bool.or_self Nat.lt_irrefl Nat.not_lt_zero Nat.le_refl Option.getD_some Option.getD_none BEq.rfl Bool.not_true Bool.not_false Bool.cond_true_left Bool.cond_false_right
section
namespace Go.Proofs.YtjliakjbdcplcaaGreat.Vm
open Go.RowKit
set_option linter.unusedVariables false
set_option linter.unusedSimpArgs false
set_option maxRecDepth 100000
set_option maxHeartbeats 4000000
theorem ext_getD {α : Type} {xs ys : List α} (d : α) (hl : xs.length = ys.length) (h : ∀ q, q < xs.length → xs.getD q d = ys.getD q d) : xs = ys := by
  apply List.ext_getElem hl
  intro q h1 h2
  have := h q h1
  simpa [List.getD_eq_getElem?_getD, List.getElem?_eq_getElem h1, List.getElem?_eq_getElem h2] using this
theorem ins_ext {a b : Ins} (h1 : a.op = b.op) (h2 : a.a = b.a) (h3 : a.b = b.b) (h4 : a.c = b.c) (h5 : a.n = b.n) : a = b := by cases a; cases b; simp_all
def eqL {α : Type} [DecidableEq α] (xs ys : List α) : Bool := decide (xs = ys)
theorem eqL_true {α : Type} [DecidableEq α] {xs ys : List α} (h : xs = ys) : eqL xs ys = true := by unfold eqL; simp [h]
theorem eqL_false {α : Type} [DecidableEq α] {xs ys : List α} (h : xs ≠ ys) : eqL xs ys = false := by unfold eqL; simp [h]
theorem isI_int (k k' : IntKind) (n : Int) : isI k (.int k' n) = keq k k' := rfl
theorem isI_nat (k k' : IntKind) (n : Nat) : isI k (.nat k' n) = keq k k' := rfl
theorem ls_i64S (l : List Int) : ls iOf l.length (i64S l) = l := ls_of (g := iOf) (e := fun x => .int .i64 x) (fun _ => rfl) l 0
theorem ls_i64S' (l : List Int) : ls iOf l.length (fun q => i64S l q) = l := ls_i64S l
theorem ls_prS (l : List Ins) : ls insOf l.length (prS l) = l := ls_of insOf_insS l _
theorem ls_prS' (l : List Ins) : ls insOf l.length (fun q => prS l q) = l := ls_prS l
theorem ls_sndsS (l : List Snd) : ls sndOf l.length (sndsS l) = l := ls_of sndOf_sndS l _
theorem ls_sndsS' (l : List Snd) : ls sndOf l.length (fun q => sndsS l q) = l := ls_sndsS l
end Go.Proofs.YtjliakjbdcplcaaGreat.Vm
end

section
namespace Go.Proofs.YtjliakjbdcplcaaGreat.Vm
open Go.RowKit
set_option linter.unusedVariables false
set_option linter.unusedSimpArgs false
set_option maxRecDepth 100000
set_option maxHeartbeats 4000000
theorem strDen {β : Env} {s : ByteArray} : (SV.str s).den β = .string s := rfl
def cntB (s : ByteArray) (c : Int) : Nat → Nat
  | 0 => 0
  | j + 1 => cntB s c j + if bat s j = c then 1 else 0
theorem cntB_le (s : ByteArray) (c : Int) : ∀ j, cntB s c j ≤ j
  | 0 => Nat.le_refl 0
  | j + 1 => by
    have := cntB_le s c j
    unfold cntB
    split <;> omega
theorem cnt_lit (s : ByteArray) (c : Int) (hs : s.size ≤ 1000000) : LitOk Tryz.prog 141 [.str s, .int .u8 c] [.gone] (.nat .i64 (cntB s c s.size)) [.gone] := by
  refine litOkM (fn := Tryz.f141) 1 21 0 rfl rfl rfl rfl rfl (by simp only [StableL, Stable, hp, i64S, prS, insS, sndsS, sndS]; simp [HB.born]) rfl fun w0 M E hro => ?_
  repeat' (first | refine Ctl.h ?_ | ((with_reducible intro hif); first | (focus (cases hif; done)) | (simp only [JH] at hif; try (exfalso; omega)) | (try (exfalso; omega))) | ((first | ((with_reducible apply J22 c1_ok tab_ok); (· rfl)) | ((with_reducible apply J23 fol c1_ok tab_ok); (· rfl)) | with_reducible apply J24); (· exact Vm.b13); (try kernel_rfl); (try exact Vm.b12)) | fail)
  refine WF.loopAt (fun (j : Nat) => j ≤ s.size) (fun (j : Nat) => [(0, .str s), (1, .int .u8 c), (5, .nat .i64 (cntB s c j)), (6, .nat .i64 j)]) (fun (j : Nat) => [.gone]) (fun (j : Nat) => s.size - j) 0 (Nat.zero_le _) ?_ ?_ rfl ?_ ?_ rfl ?_
  · exact Vm.b5
  · exact Vm.b6
  · exact Vm.b7
  · exact Vm.b7
  intro j hj
  have hcj := cntB_le s c j
  by_cases hjl : j < s.size
  · by_cases hc : bat s j = c
    · have e : cntB s c (j + 1) = cntB s c j + 1 := by rw [cntB, if_pos hc]
      repeat' (first | refine Ctl.h ?_ | ((with_reducible intro hif); first | (focus (cases hif; done)) | (simp only [JH] at hif; try (exfalso; omega)) | (try (exfalso; omega))) | ((first | ((with_reducible apply J22 c1_ok tab_ok); (· rfl)) | ((with_reducible apply J23 fol c1_ok tab_ok); (· rfl)) | with_reducible apply J24); (· exact Vm.b15); (try kernel_rfl); (try exact Vm.b14)) | fail)
      refine At.next (j + 1) ?_ ?_ ?_ rfl ?_ ?_ rfl
      · exact ⟨hjl, by omega⟩
      · ((repeat' (first | exact trivial | apply And.intro)) <;> (first | rfl | (rw [e]; rfl)))
      · exact Vm.b6
      · exact Vm.b7
      · exact Vm.b7
    · have e : cntB s c (j + 1) = cntB s c j := by rw [cntB, if_neg hc]; rfl
      repeat' (first | refine Ctl.h ?_ | ((with_reducible intro hif); first | (focus (cases hif; done)) | (simp only [JH] at hif; try (exfalso; omega)) | (try (exfalso; omega))) | ((first | ((with_reducible apply J22 c1_ok tab_ok); (· rfl)) | ((with_reducible apply J23 fol c1_ok tab_ok); (· rfl)) | with_reducible apply J24); (· exact Vm.b15); (try kernel_rfl); (try exact Vm.b14)) | fail)
      refine At.next (j + 1) ?_ ?_ ?_ rfl ?_ ?_ rfl
      · exact ⟨hjl, by omega⟩
      · ((repeat' (first | exact trivial | apply And.intro)) <;> (first | rfl | (rw [e]; rfl)))
      · exact Vm.b6
      · exact Vm.b7
      · exact Vm.b7
  · obtain rfl : j = s.size := by omega
    repeat' (first | refine Ctl.h ?_ | ((with_reducible intro hif); first | (focus (cases hif; done)) | (simp only [JH] at hif; try (exfalso; omega)) | (try (exfalso; omega))) | ((first | ((with_reducible apply J22 c1_ok tab_ok); (· rfl)) | ((with_reducible apply J23 fol c1_ok tab_ok); (· rfl)) | with_reducible apply J24); (· (simp only [push_cast, ↓JP, Nat.reduceAdd, Nat.reduceEqDiff, Nat.reduceLT, Nat.reduceMul, Nat.reduceLeDiff, reduceCtorEq, reduceIte, hjl]; rfl)); (try kernel_rfl); (try exact Vm.b12)) | fail)
    apply At.endsRet tab_ok (fn := Tryz.f141) (rs := [.tmp 4]) Anc.refl hro (Nat.le_of_ble_eq_true rfl) rfl
    · exact Vm.b8
    · exact Vm.b9
    · exact Vm.b6
    · rfl
    · exact Vm.b7
    · exact Vm.b10
    · exact fun β => rfl
    · exact Vm.b7
def sRCnt : Spec := fun args h m => match args with
  | [.str v1, v2] => bif isI .u8 v2 then some ((v1.size ≤ 1000000), .nat .i64 (cntB v1 (iOf v2) v1.size), [], []) else none
  | _ => none
theorem sRCnt_ok : CallOk Tryz.prog 141 sRCnt := by
  refine ⟨named_spec (by kernel_rfl), fun args h m c v rd wr hs hm hc w0 M β h' w R hrd hwr hst => ?_⟩
  unfold sRCnt at hs
  split at hs
  · rename_i v1 v2
    obtain ⟨hb, hs⟩ := bif_some hs
    simp only [Option.some.injEq, Prod.mk.injEq] at hs
    obtain ⟨rfl, rfl, rfl, rfl⟩ := hs
    have b2 := hb
    have y1 := hc
    refine callRo (views := []) (cnt_lit v1 (iOf v2) y1) ?_ R hm hwr ?_ ?_ ?_
    · intro x hx; cases hx
    · intro β1 hv
      simp only [denL, aggDen, intDen, natDen, boolDen, ls_length, strDen, isI_den b2]
    · exact Vm.b7
    · exact Vm.b7
  · cases hs
theorem formC_cases (op : Int) : (32 < op ∧ op ≤ 49 ∧ formC op = 1) ∨ ((op = 1 ∨ op = 2) ∧ formC op = 2) ∨ (op = 3 ∧ formC op = 3) ∨ (4 ≤ op ∧ op ≤ 7 ∧ formC op = 4) ∨ (op = 8 ∧ formC op = 5) ∨ (op = 9 ∧ formC op = 6) ∨ ((op = 10 ∨ op = 11) ∧ formC op = 7) ∨ (¬ (32 < op ∧ op ≤ 49) ∧ ¬ (1 ≤ op ∧ op ≤ 11) ∧ formC op = 0) := by
  unfold formC
  repeat' split
  all_goals omega
theorem rform_lit (op : Int) (h0 : 0 ≤ op ∧ op ≤ 255) : LitOk Tryz.prog 140 [.int .u8 op] [.gone] (.tup [.str (formS (formC op)), .bool (decide (formC op ≠ 0))]) [.gone] := by
  rcases formC_cases op with ⟨h1, h2, hk⟩ | ⟨h1, hk⟩ | ⟨h1, hk⟩ | ⟨h1, h2, hk⟩ | ⟨h1, hk⟩ | ⟨h1, hk⟩ | ⟨h1, hk⟩ | ⟨h1, h2, hk⟩
  all_goals
    rw [hk]
    refine litOkM (fn := Tryz.f140) 1 28 0 rfl rfl rfl rfl rfl (by simp only [StableL, Stable, hp, i64S, prS, insS, sndsS, sndS]; simp [HB.born]) rfl fun w0 M E hro => ?_
    repeat' (first | refine Ctl.h ?_ | ((with_reducible intro hif); first | (focus (cases hif; done)) | (simp only [JH] at hif; try (exfalso; omega)) | (try (exfalso; omega))) | ((first | ((with_reducible apply J22 c1_ok tab_ok); (· rfl)) | ((with_reducible apply J23 fol c1_ok tab_ok); (· rfl)) | with_reducible apply J24); (· exact Vm.b13); (try kernel_rfl); (try exact Vm.b12)) | fail)
  all_goals
    apply At.endsRet tab_ok (fn := Tryz.f140) (rs := [.tmp 2, .tmp 3]) Anc.refl hro (Nat.le_of_ble_eq_true rfl) rfl
    · exact Vm.b8
    · exact Vm.b9
    · exact Vm.b6
    · rfl
    · exact Vm.b7
    · exact Vm.b10
    · (intro β; first | rfl | (exfalso; simp only [Bool.and_eq_false_iff, decide_eq_false_iff_not] at hif; omega))
    · exact Vm.b7
def sRForm : Spec := fun args h m => match args with
  | [v1] => bif isI .u8 v1 then some ((0 ≤ (iOf v1) ∧ (iOf v1) ≤ 255), .tup [.str (formS (formC (iOf v1))), .bool (decide (formC (iOf v1) ≠ 0))], [], []) else none
  | _ => none
theorem sRForm_ok : CallOk Tryz.prog 140 sRForm := by
  refine ⟨named_spec (by kernel_rfl), fun args h m c v rd wr hs hm hc w0 M β h' w R hrd hwr hst => ?_⟩
  unfold sRForm at hs
  split at hs
  · rename_i v1
    obtain ⟨hb, hs⟩ := bif_some hs
    simp only [Option.some.injEq, Prod.mk.injEq] at hs
    obtain ⟨rfl, rfl, rfl, rfl⟩ := hs
    have b1 := hb
    have y1 := hc
    refine callRo (views := []) (rform_lit (iOf v1) y1) ?_ R hm hwr ?_ ?_ ?_
    · intro x hx; cases hx
    · intro β1 hv
      simp only [denL, aggDen, intDen, natDen, boolDen, ls_length, isI_den b1]
    · exact Vm.b7
    · exact Vm.b7
  · cases hs
end Go.Proofs.YtjliakjbdcplcaaGreat.Vm
end
end

section
namespace Go.Proofs.YtjliakjbdcplcaaGreat.Vm
open Go.RowKit
theorem insS_agg (i : Ins) : (insS i).isAgg = true := rfl
theorem insS_plain (i : Ins) : (insS i).plain = true := rfl
theorem nav_ins (i : Ins) : nav (insS i) [] = some (True, insS i) := rfl
theorem nav_ins0 (i : Ins) (pa : List Stp) : nav (insS i) (.f 0 0 :: pa) = nav (.int .u8 i.op) pa := rfl
theorem nav_ins1 (i : Ins) (pa : List Stp) : nav (insS i) (.f 1 1 :: pa) = nav (.int .u8 i.a) pa := rfl
theorem nav_ins2 (i : Ins) (pa : List Stp) : nav (insS i) (.f 2 2 :: pa) = nav (.int .u8 i.b) pa := rfl
theorem nav_ins3 (i : Ins) (pa : List Stp) : nav (insS i) (.f 3 3 :: pa) = nav (.int .u8 i.c) pa := rfl
theorem nav_ins4 (i : Ins) (pa : List Stp) : nav (insS i) (.f 4 4 :: pa) = nav (.int .i64 i.n) pa := rfl
theorem sndS_size (i : Snd) : (sndS i).size = 3 := rfl
theorem sndS_agg (i : Snd) : (sndS i).isAgg = true := rfl
theorem sndS_plain (i : Snd) : (sndS i).plain = true := rfl
theorem nav_snd (i : Snd) : nav (sndS i) [] = some (True, sndS i) := rfl
theorem nav_snd0 (i : Snd) (pa : List Stp) : nav (sndS i) (.f 0 0 :: pa) = nav (.int .i64 i.port) pa := rfl
theorem nav_snd1 (i : Snd) (pa : List Stp) : nav (sndS i) (.f 1 1 :: pa) = nav (.int .i64 i.delay) pa := rfl
theorem nav_snd2 (i : Snd) (pa : List Stp) : nav (sndS i) (.f 2 2 :: pa) = nav (.int .i64 i.value) pa := rfl
theorem sndS_stable {h : HM} (i : Snd) : Stable h (sndS i) := by simp [sndS, Stable, StableL]
set_option linter.defProp false
def JK := And.intro @insS_size (And.intro @insS_agg (And.intro @insS_plain (And.intro @sndS_size (And.intro @sndS_agg @sndS_plain))))
end Go.Proofs.YtjliakjbdcplcaaGreat.Vm
end

section
namespace Go.Proofs.YtjliakjbdcplcaaGreat.Vm
open Go.RowKit
attribute [local push_cast] runR opG gtmp gval gus opX tmpsOf tm tmO tmP restr look look2 tab tys zs ets eqB eqBL allB numOf ieq Int.cast_ofNat_Int Int.ofNat_zero beq_true beq_false frameOf ev evL ofV opV loadV noW pushF wrsL setH allBorn allGone HB.born HB.isGone HB.val SV.plain dstOk hp nav fitsT SV.size sizeL SV.isAgg TK.size TK.agg bin binE binN binI arN arI cmpN cmpI keq kn narrow callV storeV setp fillV buildV buildSliceV makeV sliceV appendV appendFV slice3V copyV List.isEmpty_nil srcV evO asN ite_t ite_f ite_bool ite_int ite_nat maxV v_beq v_ble v_blt cond_true cond_false List.getElem?_cons_zero List.getElem?_cons_succ List.getD_cons_zero List.getD_cons_succ List.getD_nil List.length_cons List.length_nil List.take_succ_cons List.take_zero List.set_cons_zero List.set_cons_succ List.cons_append List.nil_append List.append_assoc List.replicate_succ List.replicate_zero Nat.zero_add Nat.add_zero decide_true decide_false Bool.true_and Bool.and_true Bool.false_and Bool.and_false Bool.true_or Bool.or_true Bool.false_or Bool.or_false beq_self_eq_true Bool.or_self Nat.lt_irrefl Nat.not_lt_zero Nat.le_refl Option.getD_some Option.getD_none BEq.rfl Bool.not_true Bool.not_false Bool.cond_true_left Bool.cond_false_right prS sndsS i64S nav_ins nav_ins0 nav_ins1 nav_ins2 nav_ins3 nav_ins4 nav_snd nav_snd0 nav_snd1 nav_snd2 isIns_insS insOf_insS isSnd_sndS sndOf_sndS isI_int isI_nat iOf
set_option linter.unusedVariables false
set_option linter.unusedSimpArgs false
set_option maxRecDepth 100000
set_option maxHeartbeats 4000000
theorem cf1r : cntB (formS 1) 114 (formS 1).size = 3 := by decide
theorem cf1n : cntB (formS 1) 110 (formS 1).size = 0 := by decide
theorem cf1p : cntB (formS 1) 112 (formS 1).size = 0 := by decide
theorem cf1t : cntB (formS 1) 116 (formS 1).size = 0 := by decide
theorem cf2r : cntB (formS 2) 114 (formS 2).size = 0 := by decide
theorem cf2n : cntB (formS 2) 110 (formS 2).size = 0 := by decide
theorem cf2p : cntB (formS 2) 112 (formS 2).size = 0 := by decide
theorem cf2t : cntB (formS 2) 116 (formS 2).size = 0 := by decide
theorem cf3r : cntB (formS 3) 114 (formS 3).size = 1 := by decide
theorem cf3n : cntB (formS 3) 110 (formS 3).size = 1 := by decide
theorem cf4r : cntB (formS 4) 114 (formS 4).size = 2 := by decide
theorem cf4n : cntB (formS 4) 110 (formS 4).size = 0 := by decide
theorem cf4p : cntB (formS 4) 112 (formS 4).size = 0 := by decide
theorem cf4t : cntB (formS 4) 116 (formS 4).size = 0 := by decide
theorem cf5r : cntB (formS 5) 114 (formS 5).size = 2 := by decide
theorem cf5n : cntB (formS 5) 110 (formS 5).size = 0 := by decide
theorem cf5p : cntB (formS 5) 112 (formS 5).size = 1 := by decide
theorem cf5t : cntB (formS 5) 116 (formS 5).size = 0 := by decide
theorem cf6r : cntB (formS 6) 114 (formS 6).size = 0 := by decide
theorem cf6n : cntB (formS 6) 110 (formS 6).size = 0 := by decide
theorem cf6p : cntB (formS 6) 112 (formS 6).size = 0 := by decide
theorem cf6t : cntB (formS 6) 116 (formS 6).size = 1 := by decide
theorem cf7r : cntB (formS 7) 114 (formS 7).size = 1 := by decide
theorem cf7n : cntB (formS 7) 110 (formS 7).size = 0 := by decide
theorem cf7p : cntB (formS 7) 112 (formS 7).size = 0 := by decide
theorem cf7t : cntB (formS 7) 116 (formS 7).size = 1 := by decide
theorem formS_size (k : Nat) : (formS k).size ≤ 1000000 := by
  unfold formS; split <;> decide
def cROne : FuncId → Option Spec := look2 [(140, sRForm), (141, sRCnt)]
theorem cROne_ok : ∀ f S, cROne f = some S → CallOk Tryz.prog f S := allOk_spec ⟨sRForm_ok, sRCnt_ok, trivial⟩
theorem rone_lit (i : Ins) (hi : i.ok) : LitOk Tryz.prog 116 [insS i] [.gone] (.int .i64 (oneE i)) [.gone] := by
  obtain ⟨op, a, b, c, n⟩ := i
  have o0 := hi.op0
  have o1 := hi.op1
  have a0 := hi.a0
  have a1 := hi.a1
  have b0 := hi.b0
  have b1 := hi.b1
  have c0 := hi.c0
  have c1 := hi.c1
  have hfs := formS_size
  dsimp only at o0 o1 a0 a1 b0 b1 c0 c1
  show LitOk Tryz.prog 116 [.agg [.int .u8 op, .int .u8 a, .int .u8 b, .int .u8 c, .int .i64 n]] [.gone] (.int .i64 (if formC op = 0 then 140 else oneK (formC op) a b c n)) [.gone]
  rcases formC_cases op with ⟨h1, h2, hk⟩ | ⟨h1, hk⟩ | ⟨h1, hk⟩ | ⟨h1, h2, hk⟩ | ⟨h1, hk⟩ | ⟨h1, hk⟩ | ⟨h1, hk⟩ | ⟨h1, h2, hk⟩
  all_goals
    rw [hk]
    refine litOkM (fn := Tryz.f116) 1 75 0 rfl rfl rfl rfl rfl (by simp only [StableL, Stable, hp, i64S, prS, insS, sndsS, sndS]; simp [HB.born]) rfl fun w0 M E hro => ?_
    repeat' (first | refine Ctl.h ?_ | ((with_reducible intro hif); first | (focus (cases hif; done)) | (simp only [JH] at hif; try (exfalso; omega)) | (try (exfalso; omega))) | ((first | ((with_reducible apply J22 cROne_ok tab_ok); (· rfl)) | ((with_reducible apply J23 fol cROne_ok tab_ok); (· rfl)) | with_reducible apply J24); (· (simp only [push_cast, ↓JP, Nat.reduceAdd, Nat.reduceEqDiff, Nat.reduceLT, Nat.reduceMul, Nat.reduceLeDiff, reduceCtorEq, reduceIte, ↓JK, cROne, sRForm, sRCnt, hk, cf1r, cf1n, cf1p, cf1t, cf2r, cf2n, cf2p, cf2t, cf3r, cf3n, cf4r, cf4n, cf4p, cf4t, cf5r, cf5n, cf5p, cf5t, cf6r, cf6n, cf6p, cf6t, cf7r, cf7n, cf7p, cf7t, isI_int, isI_nat, iOf]; rfl)); (try kernel_rfl); (try (focus (first | exact True.intro | ((try simp only [JS, implies_true, forall_const, shaped, shapedL, kndOf]); (first | first | omega | exact hfs _ | (repeat' (first | assumption | exact True.intro | omega | apply And.intro))); done))))) | fail)
  all_goals
    apply At.endsRet tab_ok (fn := Tryz.f116) (rs := [.tmp 2]) Anc.refl hro (Nat.le_of_ble_eq_true rfl) rfl
    · exact Vm.b11
    · exact Vm.b9
    · exact Vm.b6
    · rfl
    · exact Vm.b7
    · exact Vm.b10
    · (intro β; first | rfl | (refine congrArg (fun x => Value.int .i64 x) (Eq.symm ?_); first | exact oneK_pos (by simp only [fitsC]; simp at *; omega) | exact oneK_neg (by simp only [fitsC]; simp at *; omega)))
    · exact Vm.b7
def sROne : Spec := fun args h m => match args with
  | [v1] => bif isIns v1 then some (((insOf v1).ok), .int .i64 (oneE (insOf v1)), [], []) else none
  | _ => none
theorem sROne_ok : CallOk Tryz.prog 116 sROne := by
  refine ⟨named_spec (by kernel_rfl), fun args h m c v rd wr hs hm hc w0 M β h' w R hrd hwr hst => ?_⟩
  unfold sROne at hs
  split at hs
  · rename_i v1
    obtain ⟨hb, hs⟩ := bif_some hs
    simp only [Option.some.injEq, Prod.mk.injEq] at hs
    obtain ⟨rfl, rfl, rfl, rfl⟩ := hs
    have b1 := hb
    have y1 := hc
    refine callRo (views := []) (rone_lit (insOf v1) y1) ?_ R hm hwr ?_ ?_ ?_
    · intro x hx; cases hx
    · intro β1 hv
      simp only [denL, aggDen, intDen, natDen, boolDen, ls_length, den_insOf b1, den_insS]
    · exact Vm.b7
    · exact Vm.b7
  · cases hs
end Go.Proofs.YtjliakjbdcplcaaGreat.Vm
end
