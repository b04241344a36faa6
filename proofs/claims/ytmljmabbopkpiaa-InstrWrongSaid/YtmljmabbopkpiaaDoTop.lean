/- instr.Do: one instruction of a program, from outside. -/
import Derived.Test.YtmljmabbopkpiaaOpenM
import Derived.Laws.ResultCell
namespace Go.Proofs.Ytmljmabbopkpiaa
open Go.RowKit
set_option linter.unusedVariables false
set_option linter.unusedSimpArgs false

structure OK3 (w : World) (vs cs : Array Value) (W : World) : Prop where
  b : Below w.heap.size w W
  n : w.heap.size + 3 ≤ W.heap.size
  v : Blk W w.heap.size 56 vs
  s : Blk W (w.heap.size + 1) 53 cs
  r : Blk W (w.heap.size + 2) 53 z13
theorem OK3.start (w : World) (vs cs : Array Value) : OK3 w vs cs (((w.alloc (.cells vs 56)).alloc (.cells cs 53)).alloc (.cells z13 53)) :=
  ⟨(OK2.start w vs cs).b.alloc (by simp; omega) _, by simp, (OK2.start w vs cs).v.alloc _, (OK2.start w vs cs).s.alloc _, by have := Blk.new ((w.alloc (.cells vs 56)).alloc (.cells cs 53)) 53 z13; simpa using this⟩
theorem results_row_tmp {P : Program} {fn : Func} {p u : Tmp} {ty : TypeId} (h : fn.results = #[.cell p ty, .tmp u]) (tmps : Array Value) (w : World) (g : Nat) (t : TypeId) (cs : Array Value) (fr : Nat × Nat) (d : TypeDesc)
    (hp : tmps.getD p undef = .pointer (some ⟨g, 0, none⟩)) (hg : w.heap[g]? = some (.cells cs t fr))
    (hu : P.underlying ty = some d) (hd : (match d with | .struct _ | .array _ _ => true | _ => false) = true) (hi : (P.info? ty).map (·.size) = some cs.size) :
    (results fn tmps).run P w = .ok (.tuple #[.agg cs, tmps.getD u undef]) w := by
  rw [results_cell_tmp h, hp]
  simp [asAddr, run_loadVar_row w g t ty cs fr d hg hu hd hi]
abbrev scells (s : St) (C S : Value) : Array Value := #[.int .i64 s.at_, .bool s.ended, .int .i64 (s.regs 0), .int .i64 (s.regs 1), .int .i64 (s.regs 2), .int .i64 (s.regs 3), .int .i64 (s.regs 4), .int .i64 (s.regs 5), .int .i64 (s.regs 6), .int .i64 (s.regs 7), C, .int .i64 s.draws, S]
theorem do_zero {w W : World} {z : Array Value} (hb : Below w.heap.size w W) (hr : Blk W (w.heap.size + 2) 53 z) :
    (W.setRow (w.heap.size + 2) z13).ownsRow w.heap.size 2 1 (.slice none 0 0) 0 (int64s []) ∧ (W.setRow (w.heap.size + 2) z13).ownsRow w.heap.size 64 3 (.slice none 0 0) 0 (sndsV []) ∧ Below w.heap.size w (W.setRow (w.heap.size + 2) z13) :=
  ⟨World.ownsRow_nil _ _ _ _, World.ownsRow_nil _ _ _ _, below_setRow hb (by omega) _⟩
theorem do_fin {w W : World} {base g : Nat} {s : St} {v : Envi} {i : Ins} {C S : Value} {z cs : Array Value} (hm : Mac W base g s v i C S) (hb : Below w.heap.size w W) (hr : Blk W (w.heap.size + 2) 53 z) (hbase : w.heap.size ≤ base) :
    (W.setRow (w.heap.size + 2) cs).ownsRow w.heap.size 2 1 C s.cells.length (int64s s.cells) ∧ (W.setRow (w.heap.size + 2) cs).ownsRow w.heap.size 64 3 S s.sends.length (sndsV s.sends) ∧ Below w.heap.size w (W.setRow (w.heap.size + 2) cs) :=
  ⟨own_row hr (own_more hm.oc hbase) (by decide), own_row hr (own_more hm.os hbase) (by decide), below_setRow hb (by omega) _⟩

set_option maxRecDepth 100000 in
set_option maxHeartbeats 2000000 in
theorem Do_c (A : Option Addr) (n c : Nat) (hn : n < 2^62) (p : List Ins) (hok : ∀ i ∈ p, i.ok) (v : Envi) (s : St) (B D : Option Addr) (m k d f : Nat) (hk : k ≤ 1000000) (w : World)
    (hp : Reads w w.heap.size 5 A n (insV p)) (hc : Reads w w.heap.size 1 B m (int64s s.cells)) (hs : Reads w w.heap.size 3 D k (sndsV s.sends)) :
    Calls Try.prog 31 #[.slice A n c, v.v, s.v (.slice B m d) (.slice D k f)] w fun e w' => ∃ C S, e = .returned (.tuple #[(topS p v s).v C S, .int .i64 (topE p v s)]) ∧
      w'.ownsRow w.heap.size 2 1 C (topS p v s).cells.length (int64s (topS p v s).cells) ∧ w'.ownsRow w.heap.size 64 3 S (topS p v s).sends.length (sndsV (topS p v s).sends) ∧ Below w.heap.size w w' := by
  have HO := Lib.hid (fun (X : World) (hX : Below w.heap.size w X) => open_c A n c hn p hok v s B D m k d f hk X ((hp.below hX).more hX.size) ((hc.below hX).more hX.size) ((hs.below hX).more hX.size))
  have hpl := hp.ins_len
  have hml := hc.i64_len
  have hst := OK3.start w #[.int .u64 v.seed, .int .i64 v.process, .int .i64 v.ports, .int .i64 v.look, .int .i64 v.now] #[.int .i64 s.at_, .bool s.ended, .int .i64 (s.regs 0), .int .i64 (s.regs 1), .int .i64 (s.regs 2), .int .i64 (s.regs 3), .int .i64 (s.regs 4), .int .i64 (s.regs 5), .int .i64 (s.regs 6), .int .i64 (s.regs 7), .slice B m d, .int .i64 s.draws, .slice D k f]
  unfold Envi.v St.v at HO ⊢
  by_cases ho : openE p v s = 0
  · have hgood : (checkI p).2 = 0 ∧ v.rightB = true ∧ rightB s.at_ s.draws p.length s.cells.length = true := by
      unfold openE at ho
      by_cases h1 : (checkI p).2 = 0
      · rw [if_neg (by simp [h1])] at ho
        by_cases h2 : v.rightB = false
        · rw [if_pos h2] at ho; cases ho
        · rw [if_neg h2] at ho
          by_cases h3 : rightB s.at_ s.draws p.length s.cells.length = false
          · rw [if_pos h3] at ho; cases ho
          · exact ⟨h1, by simpa using h2, by simpa using h3⟩
      · rw [if_pos h1] at ho; cases ho
    obtain ⟨g1, g2, g3⟩ := hgood
    obtain ⟨q1, q2, q3⟩ := checkI_zero g1
    obtain ⟨r1, r2, r3, r4, r5⟩ := rightB_of g3
    have HT := Lib.hid (fun (X : World) (base g : Nat) (C S : Value) (hm : Mac X base g s v ⟨0, 0, 0, 0, 0⟩ C S) (hX : Below w.heap.size w X) => step_c X base g s v ⟨0, 0, 0, 0, 0⟩ C S hm A n c p ((hp.below hX).more hX.size) (Envi.okay_of g2) ⟨r1, by omega, r4, r5⟩ (by omega) hok q3)
    have hTE : topE p v s = stepE p v s := by simp [topE, ho]
    have hSS : stepE p v s = 0 → topS p v s = stepS p v s := fun h => by
      have hen : s.ended = false := by
        cases he : s.ended with
        | false => rfl
        | true => simp [stepE, he] at h
      simp [topS, hTE, h, stepS, hen]
    have hSZ : stepE p v s ≠ 0 → topS p v s = zeroSt := fun h => by simp [topS, hTE, h]
    rw [hTE]
    obtain ⟨F, hF⟩ : ∃ F, F = stepE p v s := ⟨_, rfl⟩
    rw [← hF] at hSS hSZ HT ⊢
    clear hp hc hs hok q3 g1 g3 r1 r2 r3 r4 r5 hTE hpl hml hk hn g2 q1 q2
    by_cases hF0 : F = 0
    · rw [hSS hF0]
      subst hF0
      clear hSS hSZ hF
      obtain ⟨s4, hs4⟩ : ∃ s4, s4 = stepS p v s := ⟨_, rfl⟩
      rw [← hs4] at HT ⊢
      clear hs4
      go_enter Try.func31, Try.ntmps31
      go_upto_region 1 with fail
      obtain ⟨W0, hW0⟩ : ∃ W0, W0 = ((w.alloc (.cells #[.int .u64 v.seed, .int .i64 v.process, .int .i64 v.ports, .int .i64 v.look, .int .i64 v.now] 56)).alloc (.cells #[.int .i64 s.at_, .bool s.ended, .int .i64 (s.regs 0), .int .i64 (s.regs 1), .int .i64 (s.regs 2), .int .i64 (s.regs 3), .int .i64 (s.regs 4), .int .i64 (s.regs 5), .int .i64 (s.regs 6), .int .i64 (s.regs 7), .slice B m d, .int .i64 s.draws, .slice D k f] 53)).alloc (.cells z13 53) := ⟨_, rfl⟩
      rw [← hW0] at hst ⊢
      clear hW0
      go_wp2_with (first
        | refine wpList_load_row (P := Try.prog) rfl 56 (.tmp 4) rfl w.heap.size rfl 56 _ (0, 0) _ hst.v Try.underlying56 rfl (by kernel_rfl) ?_
        | refine wpList_load_row (P := Try.prog) rfl 53 (.tmp 5) rfl (w.heap.size + 1) rfl 53 _ (0, 0) _ hst.s Try.underlying53 rfl (by kernel_rfl) ?_)
      go_at_call 75
      refine (HO.out W0 hst.b).mono ?_
      rintro e w3 ⟨hb3, ⟨hne, rfl⟩ | ⟨heq, g, C, S, rfl, hm⟩⟩
      · exact absurd ho hne
      · go_wp2_with fail
        go_at_call 76
        refine (HT.out w3 _ _ _ _ hm (hst.b.trans (hb3.mono hst.b.size))).mono ?_
        rintro e w4 ⟨rfl, ⟨i4, S4, hm4⟩, hb4⟩
        have hr := (hst.r.below hb3 hst.r.lt).below hb4 hst.r.lt
        have hB := hst.b.trans ((hb3.trans hb4).mono hst.b.size)
        obtain ⟨A4, k4, rfl⟩ := own_slice hm4.oc
        obtain ⟨A5, k5, rfl⟩ := own_slice hm4.os
        obtain ⟨at4, en4, r4, x4, d4, y4⟩ := s4
        have hz := do_fin (cs := #[.int .i64 at4, .bool en4, .int .i64 (r4 0), .int .i64 (r4 1), .int .i64 (r4 2), .int .i64 (r4 3), .int .i64 (r4 4), .int .i64 (r4 5), .int .i64 (r4 6), .int .i64 (r4 7), .slice A4 x4.length k4, .int .i64 d4, .slice A5 y4.length k5]) hm4 hB hr (by have := hst.b.size; omega)
        dsimp only at hz ⊢
        have m0 : w4.cell? ⟨g, 0, none⟩ = some (.int .i64 at4) := hm4.blk.cell 0
        have m1 : w4.cell? ⟨g, 1, none⟩ = some (.bool en4) := hm4.blk.cell 1
        have m2 : w4.cell? ⟨g, 2, none⟩ = some (.int .i64 (r4 0)) := hm4.blk.cell 2
        have m3 : w4.cell? ⟨g, 3, none⟩ = some (.int .i64 (r4 1)) := hm4.blk.cell 3
        have m4 : w4.cell? ⟨g, 4, none⟩ = some (.int .i64 (r4 2)) := hm4.blk.cell 4
        have m5 : w4.cell? ⟨g, 5, none⟩ = some (.int .i64 (r4 3)) := hm4.blk.cell 5
        have m6 : w4.cell? ⟨g, 6, none⟩ = some (.int .i64 (r4 4)) := hm4.blk.cell 6
        have m7 : w4.cell? ⟨g, 7, none⟩ = some (.int .i64 (r4 5)) := hm4.blk.cell 7
        have m8 : w4.cell? ⟨g, 8, none⟩ = some (.int .i64 (r4 6)) := hm4.blk.cell 8
        have m9 : w4.cell? ⟨g, 9, none⟩ = some (.int .i64 (r4 7)) := hm4.blk.cell 9
        have m10 : w4.cell? ⟨g, 10, none⟩ = some (.slice A4 x4.length k4) := hm4.blk.cell 10
        have m11 : w4.cell? ⟨g, 11, none⟩ = some (.int .i64 d4) := hm4.blk.cell 11
        have m12 : w4.cell? ⟨g, 12, none⟩ = some (.slice A5 y4.length k5) := hm4.blk.cell 12
        clear hm4 hb3 hb4 hB hst hm HT HO
        go_wp2_with (refine wpList_store_row (P := Try.prog) rfl 53 (.tmp 6) (.tmp 29) rfl (w.heap.size + 2) #[.int .i64 at4, .bool en4, .int .i64 (r4 0), .int .i64 (r4 1), .int .i64 (r4 2), .int .i64 (r4 3), .int .i64 (r4 4), .int .i64 (r4 5), .int .i64 (r4 6), .int .i64 (r4 7), .slice A4 x4.length k4, .int .i64 d4, .slice A5 y4.length k5] rfl rfl 53 _ hr (by kernel_rfl) rfl (by kernel_rfl) ?_)
        (try simp only [Exit.inBlock, Exit.then])
        refine bodyPost_ret (v := .tuple #[.agg #[.int .i64 at4, .bool en4, .int .i64 (r4 0), .int .i64 (r4 1), .int .i64 (r4 2), .int .i64 (r4 3), .int .i64 (r4 4), .int .i64 (r4 5), .int .i64 (r4 6), .int .i64 (r4 7), .slice A4 x4.length k4, .int .i64 d4, .slice A5 y4.length k5], .int .i64 0]) (results_row_tmp (P := Try.prog) (p := 6) (u := 7) (ty := 53) rfl _ _ (w.heap.size + 2) 53 #[.int .i64 at4, .bool en4, .int .i64 (r4 0), .int .i64 (r4 1), .int .i64 (r4 2), .int .i64 (r4 3), .int .i64 (r4 4), .int .i64 (r4 5), .int .i64 (r4 6), .int .i64 (r4 7), .slice A4 x4.length k4, .int .i64 d4, .slice A5 y4.length k5] (0, 0) _ rfl (Blk.row hr _) Try.underlying53 rfl (by kernel_rfl)) rfl ?_
        exact ⟨_, _, rfl, hz.1, hz.2.1, hz.2.2⟩
    · have hFt : (F == 0) = false := by simp [hF0]
      have hFn : (F != 0) = true := by simp [hF0]
      rw [hSZ hF0]
      clear hSS hSZ hF
      go_enter Try.func31, Try.ntmps31
      go_upto_region 1 with fail
      obtain ⟨W0, hW0⟩ : ∃ W0, W0 = ((w.alloc (.cells #[.int .u64 v.seed, .int .i64 v.process, .int .i64 v.ports, .int .i64 v.look, .int .i64 v.now] 56)).alloc (.cells #[.int .i64 s.at_, .bool s.ended, .int .i64 (s.regs 0), .int .i64 (s.regs 1), .int .i64 (s.regs 2), .int .i64 (s.regs 3), .int .i64 (s.regs 4), .int .i64 (s.regs 5), .int .i64 (s.regs 6), .int .i64 (s.regs 7), .slice B m d, .int .i64 s.draws, .slice D k f] 53)).alloc (.cells z13 53) := ⟨_, rfl⟩
      rw [← hW0] at hst ⊢
      clear hW0
      go_wp2_with (first
        | refine wpList_load_row (P := Try.prog) rfl 56 (.tmp 4) rfl w.heap.size rfl 56 _ (0, 0) _ hst.v Try.underlying56 rfl (by kernel_rfl) ?_
        | refine wpList_load_row (P := Try.prog) rfl 53 (.tmp 5) rfl (w.heap.size + 1) rfl 53 _ (0, 0) _ hst.s Try.underlying53 rfl (by kernel_rfl) ?_)
      go_at_call 75
      refine (HO.out W0 hst.b).mono ?_
      rintro e w3 ⟨hb3, ⟨hne, rfl⟩ | ⟨heq, g, C, S, rfl, hm⟩⟩
      · exact absurd ho hne
      · go_wp2_with fail
        go_at_call 76
        refine (HT.out w3 _ _ _ _ hm (hst.b.trans (hb3.mono hst.b.size))).mono ?_
        rintro e w4 ⟨rfl, ⟨i4, S4, hm4⟩, hb4⟩
        have hr := (hst.r.below hb3 hst.r.lt).below hb4 hst.r.lt
        have hB := hst.b.trans ((hb3.trans hb4).mono hst.b.size)
        go_wp2_with (refine wpList_store_row (P := Try.prog) rfl 53 (.tmp 6) (.tmp 24) rfl (w.heap.size + 2) z13 rfl rfl 53 _ hr (by kernel_rfl) rfl (by kernel_rfl) ?_)
        (try simp only [Exit.inBlock, Exit.then])
        refine bodyPost_ret (v := .tuple #[.agg z13, .int .i64 F]) (results_row_tmp (P := Try.prog) (p := 6) (u := 7) (ty := 53) rfl _ _ (w.heap.size + 2) 53 z13 (0, 0) _ rfl (Blk.row hr _) Try.underlying53 rfl (by kernel_rfl)) rfl ?_
        have hz := do_zero hB hr
        exact ⟨_, _, rfl, hz.1, hz.2.1, hz.2.2⟩
  · have hTE : topE p v s = openE p v s := by simp [topE, ho]
    have hTS : topS p v s = zeroSt := by simp [topS, hTE, ho]
    rw [hTE, hTS]
    obtain ⟨F, hF⟩ : ∃ F, F = openE p v s := ⟨_, rfl⟩
    rw [← hF] at ho HO ⊢
    have hFt : (F == 0) = false := by simp [ho]
    have hFn : (F != 0) = true := by simp [ho]
    clear hp hc hs hTE hTS hF hpl hml hok hn hk
    go_enter Try.func31, Try.ntmps31
    go_upto_region 1 with fail
    obtain ⟨W0, hW0⟩ : ∃ W0, W0 = ((w.alloc (.cells #[.int .u64 v.seed, .int .i64 v.process, .int .i64 v.ports, .int .i64 v.look, .int .i64 v.now] 56)).alloc (.cells #[.int .i64 s.at_, .bool s.ended, .int .i64 (s.regs 0), .int .i64 (s.regs 1), .int .i64 (s.regs 2), .int .i64 (s.regs 3), .int .i64 (s.regs 4), .int .i64 (s.regs 5), .int .i64 (s.regs 6), .int .i64 (s.regs 7), .slice B m d, .int .i64 s.draws, .slice D k f] 53)).alloc (.cells z13 53) := ⟨_, rfl⟩
    rw [← hW0] at hst ⊢
    clear hW0
    go_wp2_with (first
      | refine wpList_load_row (P := Try.prog) rfl 56 (.tmp 4) rfl w.heap.size rfl 56 _ (0, 0) _ hst.v Try.underlying56 rfl (by kernel_rfl) ?_
      | refine wpList_load_row (P := Try.prog) rfl 53 (.tmp 5) rfl (w.heap.size + 1) rfl 53 _ (0, 0) _ hst.s Try.underlying53 rfl (by kernel_rfl) ?_)
    go_at_call 75
    refine (HO.out W0 hst.b).mono ?_
    rintro e w3 ⟨hb3, ⟨hne, rfl⟩ | ⟨heq, g, C, S, rfl, hm⟩⟩
    · have hr := hst.r.below hb3 hst.r.lt
      go_wp2_with (refine wpList_store_row (P := Try.prog) rfl 53 (.tmp 6) (.tmp 24) rfl (w.heap.size + 2) z13 rfl rfl 53 _ hr (by kernel_rfl) rfl (by kernel_rfl) ?_)
      (try simp only [Exit.inBlock, Exit.then])
      refine bodyPost_ret (v := .tuple #[.agg z13, .int .i64 F]) (results_row_tmp (P := Try.prog) (p := 6) (u := 7) (ty := 53) rfl _ _ (w.heap.size + 2) 53 z13 (0, 0) _ rfl (Blk.row hr _) Try.underlying53 rfl (by kernel_rfl)) rfl ?_
      have hz := do_zero (hst.b.trans (hb3.mono hst.b.size)) hr
      exact ⟨_, _, rfl, hz.1, hz.2.1, hz.2.2⟩
    · exact absurd heq ho
end Go.Proofs.Ytmljmabbopkpiaa
