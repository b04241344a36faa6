/- code.Check (layer 14). -/
import Derived.Test.YtmljmabbopkpiaaProg
import Derived.Test.YtmljmabbopkpiaaMem2
import Derived.Test.YtmljmabbopkpiaaCode
namespace Go.Proofs.Ytmljmabbopkpiaa
open Go.RowKit
set_option linter.unusedVariables false
set_option linter.unusedSimpArgs false

/-- what is wrong with one instruction of a program of n instructions -/
def badAt (n : Int) (i : Ins) : Int := if oneE i ≠ 0 then oneE i else if targB i = true ∧ n ≤ targV i then 142 else 0
def checkK (p : List Ins) : Int × Int :=
  match p.findIdx? (fun i => badAt p.length i != 0) with
  | some k => (k, badAt p.length (p.getD k ⟨0, 0, 0, 0, 0⟩))
  | none => if goesB (p.getD (p.length - 1) ⟨0, 0, 0, 0, 0⟩) then ((p.length : Int) - 1, 143) else (-1, 0)
/-- what code.Check returns -/
def checkI (p : List Ins) : Int × Int := if p.length = 0 then (-1, 6) else if 256 < p.length then (-1, 5) else checkK p

theorem checkK_bad {p : List Ins} {j : Nat} {x : Ins} {v : Int} (h : ∀ i, i < j → ∀ y, p[i]? = some y → badAt p.length y = 0) (hx : p[j]? = some x) (hv : badAt p.length x = v) (hn : v ≠ 0) : checkK p = ((j : Int), v) := by
  have hj : j < p.length := (List.getElem?_eq_some_iff.1 hx).1
  have hf : p.findIdx? (fun i => badAt p.length i != 0) = some j := by
    rw [List.findIdx?_eq_some_iff_getElem]
    refine ⟨hj, ?_, fun i hi => ?_⟩
    · have : p[j] = x := (List.getElem?_eq_some_iff.1 hx).2
      rw [this, hv]; simpa using hn
    · simp [h i hi _ (List.getElem?_eq_getElem (by omega))]
  unfold checkK
  rw [hf]
  simp [List.getD, hx, hv]
theorem checkK_none {p : List Ins} (h : ∀ i, i < p.length → ∀ y, p[i]? = some y → badAt p.length y = 0) : checkK p = if goesB (p.getD (p.length - 1) ⟨0, 0, 0, 0, 0⟩) then ((p.length : Int) - 1, 143) else (-1, 0) := by
  have hf : p.findIdx? (fun i => badAt p.length i != 0) = none := by
    rw [List.findIdx?_eq_none_iff]
    intro x hx
    obtain ⟨i, hi, rfl⟩ := List.getElem_of_mem hx
    simp [h i hi _ (List.getElem?_eq_getElem hi)]
  unfold checkK
  rw [hf]

set_option maxRecDepth 100000 in
set_option maxHeartbeats 2000000 in
theorem check_mid (A : Option Addr) (n c : Nat) (p : List Ins) (hok : ∀ i ∈ p, i.ok) (w : World) (h : Reads w w.heap.size 5 A n (insV p)) (h0 : ((n : Int) == 0) = false) (h0' : 0 < n) (h1 : n ≤ 256) :
    Calls Try.prog 55 #[.slice A n c] w fun e w' => e = .returned (.tuple #[.int .i64 (checkK p).1, .int .i64 (checkK p).2]) ∧ Below w.heap.size w w' := by
  have hpl := h.ins_len
  have HL := Lib.hid hpl
  clear hpl
  go_enter Try.func55, Try.ntmps55
  go_wp2
  go_loopw [4, 5, 6, 7, 8, 20] (fun _ _ _ _ _ k wr => ∃ j : Nat, k = .int .i64 j ∧ j ≤ n ∧ (∀ i, i < j → ∀ y, p[i]? = some y → badAt n y = 0) ∧ Below w.heap.size w wr) (fun _ _ _ _ _ k _ => n - (intOf k).toNat)
  case atStart => exact ⟨0, rfl, by omega, fun i hi => by omega, Below.refl _ _⟩
  case round =>
    obtain ⟨j, rfl, hj, hbad, hb⟩ := hrel
    have HBad := Lib.hid hbad
    clear hbad
    by_cases hlt : j < n
    · obtain ⟨b, o, x, rfl, hl1, hx, hc0, hc1, hc2, hc3, hc4⟩ := (h.below hb).ins_at hlt
      have hxok := hok x (List.mem_of_getElem? hx)
      obtain ⟨op, a, b', c', m⟩ := x
      have HX := Lib.hid hx
      have HO := Lib.hid hxok
      have HB := Lib.hid hb
      have hz := hb.size
      clear hb hx h hxok hok
      dsimp only at hc0 hc1 hc2 hc3 hc4
      obtain ⟨I, hI⟩ : ∃ I : Ins, I = ⟨op, a, b', c', m⟩ := ⟨_, rfl⟩
      rw [← hI] at HO HX
      have HI := Lib.hid hI
      clear hI
      have h1 : ∀ w, Calls Try.prog 97 #[.agg #[.int .u8 op, .int .u8 a, .int .u8 b', .int .u8 c', .int .i64 m]] w fun e w' => e = .returned (.int .i64 (oneE I)) ∧ Below w.heap.size w w' := fun w => by
        have := one_c I HO.out w; rw [HI.out] at this ⊢; exact this
      have h2 : ∀ w, Calls Try.prog 98 #[.agg #[.int .u8 op, .int .u8 a, .int .u8 b', .int .u8 c', .int .i64 m]] w fun e w' => e = .returned (.tuple #[.int .i64 (targV I), .bool (targB I)]) ∧ Below w.heap.size w w' := fun w => by
        have := target_c I HO.out w; rw [HI.out] at this ⊢; exact this
      have hbadE : badAt n I = if oneE I ≠ 0 then oneE I else if targB I = true ∧ (n : Int) ≤ targV I then 142 else 0 := rfl
      obtain ⟨V, hV⟩ : ∃ V, V = targV I := ⟨_, rfl⟩
      obtain ⟨T, hT⟩ : ∃ T, T = targB I := ⟨_, rfl⟩
      obtain ⟨E, hE⟩ : ∃ E, E = oneE I := ⟨_, rfl⟩
      rw [← hE] at h1 hbadE
      rw [← hV, ← hT] at h2 hbadE
      have H1 := Lib.hid h1
      have H2 := Lib.hid h2
      have HE := Lib.hid hbadE
      clear h1 h2 hbadE hV hT hE
      go_wp2_with fail
      refine (H1.out _).mono ?_
      rintro e w2 ⟨rfl, hb2⟩
      have hz2 := hb2.size
      simp at hz2
      have q : ∀ k u, #[Value.int .u8 op, .int .u8 a, .int .u8 b', .int .u8 c', .int .i64 m][k]? = some u → w2.cell? ⟨wr.heap.size, k, none⟩ = some u := fun k u hu => by
        rw [hb2.cell (p := ⟨wr.heap.size, k, none⟩) (by simp), cell_of_row _ _ _ _ _ _ (heap_alloc_new wr _)]; exact hu
      have q0 := q 0 _ rfl
      have q1 := q 1 _ rfl
      have q2 := q 2 _ rfl
      have q3 := q 3 _ rfl
      have q4 := q 4 _ rfl
      have HB2 := Lib.hid ((HB.out.alloc hz _).trans (hb2.mono (by simp; omega)))
      clear q hb2
      by_cases hE0 : E = 0
      · subst hE0
        go_wp2_with fail
        refine (H2.out _).mono ?_
        rintro e w3 ⟨rfl, hb3⟩
        have hz3 := hb3.size
        have HB3 := Lib.hid (HB2.out.trans (hb3.mono (by omega)))
        clear hb3
        by_cases hbad : T = true ∧ (n : Int) ≤ V
        · obtain ⟨rfl, hnV⟩ := hbad
          go_wp2
          go_ret2
          refine ⟨?_, HB3.out⟩
          have hv : badAt p.length I = 142 := by rw [HL.out, HE.out]; simp [hnV]
          rw [checkK_bad (by rw [HL.out]; exact HBad.out) HX.out hv (by decide)]
          rfl
        · cases T with
          | false =>
            go_wp2
            go_roundw
            case rel => 
              refine ⟨j + 1, by go_num, by omega, fun i hi y hy => ?_, HB3.out⟩
              by_cases hij : i < j
              · exact HBad.out i hij y hy
              · obtain rfl : i = j := by omega
                rw [HX.out] at hy
                obtain rfl : I = y := by cases hy; rfl
                rw [HE.out]; simp
            case measure => simp [intOf]; omega
          | true =>
            have hV : V < (n : Int) := by simp at hbad; omega
            clear hbad
            go_wp2
            go_roundw
            case rel => 
              refine ⟨j + 1, by go_num, by omega, fun i hi y hy => ?_, HB3.out⟩
              by_cases hij : i < j
              · exact HBad.out i hij y hy
              · obtain rfl : i = j := by omega
                rw [HX.out] at hy
                obtain rfl : I = y := by cases hy; rfl
                rw [HE.out]; simp; omega
            case measure => simp [intOf]; omega
      · have hE1 : (E != 0) = true := by rw [bne_iff_ne]; exact hE0
        have HE0 := Lib.hid hE0
        clear hE0
        go_wp2
        go_ret2
        refine ⟨?_, HB2.out⟩
        have hv : badAt p.length I = E := by rw [HL.out, HE.out, if_pos HE0.out]
        rw [checkK_bad (by rw [HL.out]; exact HBad.out) HX.out hv HE0.out]
        rfl
    · obtain rfl : j = n := by omega
      have hk := checkK_none (p := p) (by rw [HL.out]; exact HBad.out)
      obtain ⟨b, o, x, rfl, hl1, hx, hc0, hc1, hc2, hc3, hc4⟩ := (h.below hb).ins_at (k := j - 1) (by omega)
      have hxok := hok x (List.mem_of_getElem? hx)
      have hg : p.getD (p.length - 1) ⟨0, 0, 0, 0, 0⟩ = x := by rw [HL.out]; simp [List.getD, hx]
      rw [hg, HL.out] at hk
      have hi : (((j : Int) - 1).toNat) = j - 1 := by omega
      have hs1 : (0 : Int) ≤ (j : Int) - 1 := by omega
      have hg1 := fun w => goes_c x hxok w
      obtain ⟨G, hG⟩ : ∃ G, G = goesB x := ⟨_, rfl⟩
      rw [← hG] at hk hg1
      have HK := Lib.hid hk
      have HB := Lib.hid hb
      have HG := Lib.hid hg1
      obtain ⟨op, a, b', c', m⟩ := x
      dsimp only at hc0 hc1 hc2 hc3 hc4
      clear hk hb h hok hx hxok hg hG hg1 hi
      go_wp2_with fail
      refine (HG.out _).mono ?_
      rintro e w2 ⟨rfl, hb2⟩
      have HB2 := Lib.hid (HB.out.trans (hb2.mono HB.out.size))
      clear hb2
      cases G with
      | false =>
        go_wp2
        go_ret2
        refine ⟨?_, HB2.out⟩
        rw [HK.out]
        rfl
      | true =>
        go_wp2
        go_ret2
        refine ⟨?_, HB2.out⟩
        rw [HK.out]
        rfl

set_option maxRecDepth 100000 in
set_option maxHeartbeats 2000000 in
theorem check_c (A : Option Addr) (n c : Nat) (hn : n < 2^62) (p : List Ins) (hok : ∀ i ∈ p, i.ok) (w : World) (h : Reads w w.heap.size 5 A n (insV p)) :
    Calls Try.prog 55 #[.slice A n c] w fun e w' => e = .returned (.tuple #[.int .i64 (checkI p).1, .int .i64 (checkI p).2]) ∧ Below w.heap.size w w' := by
  have hpl := h.ins_len
  unfold checkI
  rw [hpl]
  by_cases h0 : n = 0
  · subst h0
    go_enter Try.func55, Try.ntmps55
    go_wp2
    go_ret2
    exact ⟨rfl, Below.refl _ _⟩
  · rw [if_neg h0]
    by_cases h1 : 256 < n
    · rw [if_pos h1]
      have h0' : ((n : Int) == 0) = false := by simp; exact h0
      have h1' : (256 : Int) < n := by omega
      clear h h0 hok hpl
      go_enter Try.func55, Try.ntmps55
      go_wp2
      go_ret2
      exact ⟨rfl, Below.refl _ _⟩
    · rw [if_neg h1]
      exact check_mid A n c p hok w h (by simp; exact h0) (by omega) (by omega)
end Go.Proofs.Ytmljmabbopkpiaa
