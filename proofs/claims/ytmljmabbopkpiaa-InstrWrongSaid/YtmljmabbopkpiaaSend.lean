/- the machine of instr: an event is sent (400 s). -/
import Derived.Test.YtmljmabbopkpiaaMach4
import Derived.Deep.RegionHeld3
import Derived.Deep.RegionLaw
import Derived.Deep.DeepCutAuto
import Derived.Handy
import Derived.Deep.DrawnRows
import Derived.Test.YtmljmabbopkpiaaClone
namespace Go.Proofs.Ytmljmabbopkpiaa
open Go.RowKit
open BigFrame
set_option linter.unusedVariables false
set_option linter.unusedSimpArgs false
attribute [local go_sem ↓] Go.wp_at_zero Go.wp_at_succ
set_option maxRecDepth 100000 in
set_option maxHeartbeats 1000000 in
theorem ra_m (w : World) (g : Nat) (s : St) (v : Envi) (i : Ins) (C S : Value) (h : MB w g s v i C S) (h0 : 0 ≤ i.a) (h8 : i.a < 8) :
    Calls Try.prog 169 #[.pointer (some ⟨g, 0, none⟩)] w fun e w' => e = .returned (.int .i64 (s.regs i.a.toNat)) ∧ ∃ n, w' = w.drewN n := by
  have hb : w.cell? ⟨g, 19, none⟩ = some (.int .u8 i.a) := Blk.cell h 19
  have hr : w.cell? ⟨g, 2 + i.a.toNat, none⟩ = some (.int .i64 (s.regs i.a.toNat)) := by rw [Blk.cell h]; exact mcells_reg s v i C S _ (by omega)
  clear h
  go_enter Try.func169, Try.ntmps169
  go_wp2_with go_quiet (fail)
  go_ret
  exact ⟨rfl, _, rfl⟩
set_option maxRecDepth 100000 in
set_option maxHeartbeats 1000000 in
theorem rb_m (w : World) (g : Nat) (s : St) (v : Envi) (i : Ins) (C S : Value) (h : MB w g s v i C S) (h0 : 0 ≤ i.b) (h8 : i.b < 8) :
    Calls Try.prog 167 #[.pointer (some ⟨g, 0, none⟩)] w fun e w' => e = .returned (.int .i64 (s.regs i.b.toNat)) ∧ ∃ n, w' = w.drewN n := by
  have hb : w.cell? ⟨g, 20, none⟩ = some (.int .u8 i.b) := Blk.cell h 20
  have hr : w.cell? ⟨g, 2 + i.b.toNat, none⟩ = some (.int .i64 (s.regs i.b.toNat)) := by rw [Blk.cell h]; exact mcells_reg s v i C S _ (by omega)
  clear h
  go_enter Try.func167, Try.ntmps167
  go_wp2_with go_quiet (fail)
  go_ret
  exact ⟨rfl, _, rfl⟩
theorem mb_drewN {w : World} {g : Nat} {s : St} {v : Envi} {i : Ins} {C S : Value} (h : MB w g s v i C S) (n : Nat) : MB (w.drewN n) g s v i C S := h
theorem mb_drew {w : World} {g : Nat} {s : St} {v : Envi} {i : Ins} {C S : Value} (h : MB w g s v i C S) : MB w.drew g s v i C S := h
theorem mb_alloc {w : World} {g : Nat} {s : St} {v : Envi} {i : Ins} {C S : Value} (h : MB w g s v i C S) (o : Obj) : MB (w.alloc o) g s v i C S := Blk.alloc h o
theorem reads_new3 (X : World) (t : TypeId) (a b c : Value) (gg : Nat) (h : gg = X.heap.size) : Reads (X.alloc (.cells #[a, b, c] t)) (gg + 1) 3 (some ⟨gg, 0, none⟩) 1 [a, b, c] := by
  subst h
  refine ⟨rfl, fun _ => ⟨_, rfl, Nat.lt_succ_self _, fun j u hu => ?_⟩⟩
  rw [Addr.add_lit, cell_of_row _ _ _ _ _ _ (heap_alloc_new X _), Nat.zero_add]
  simpa using hu
section
variable {w w' : World} {base g : Nat} {s : St} {v : Envi} {i : Ins} {C S : Value} {x : Value}
theorem sM (x : Value) (h : Mac w base g s v i C S ∧ w.cell? ⟨g, 12, none⟩ = some S ∧ w.cell? ⟨g, 22, none⟩ = some x) : Mac w base g s v i C S := h.1
theorem after_app {row : Option Nat} (hg : w.grownBy w' row) (h : Mac w base g s v i C S ∧ w.cell? ⟨g, 12, none⟩ = some S ∧ w.cell? ⟨g, 22, none⟩ = some x) (hn : some g ≠ row) : w'.cell? ⟨g, 12, none⟩ = some S ∧ w'.frozen? ⟨g, 12, none⟩ = false :=
  ⟨(hg.cell_far ⟨g, 12, none⟩ h.1.blk.lt hn).trans h.2.1, (hg.frozen_far ⟨g, 12, none⟩ h.1.blk.lt hn).trans (h.1.blk.frozen 12)⟩
theorem sE (h : Mac w base g s v i C S ∧ w.cell? ⟨g, 12, none⟩ = some S ∧ w.cell? ⟨g, 22, none⟩ = some x) : Mac w.drew base g s v i C S ∧ w.drew.cell? ⟨g, 12, none⟩ = some S ∧ w.drew.cell? ⟨g, 22, none⟩ = some x := ⟨h.1.drew, h.2⟩
theorem sN (h : Mac w base g s v i C S ∧ w.cell? ⟨g, 12, none⟩ = some S ∧ w.cell? ⟨g, 22, none⟩ = some x) (n : Nat) : Mac (w.drewN n) base g s v i C S ∧ (w.drewN n).cell? ⟨g, 12, none⟩ = some S ∧ (w.drewN n).cell? ⟨g, 22, none⟩ = some x := ⟨h.1.drewN n, h.2⟩
theorem sA (h : Mac w base g s v i C S ∧ w.cell? ⟨g, 12, none⟩ = some S ∧ w.cell? ⟨g, 22, none⟩ = some x) (o : Obj) : Mac (w.alloc o) base g s v i C S ∧ (w.alloc o).cell? ⟨g, 12, none⟩ = some S ∧ (w.alloc o).cell? ⟨g, 22, none⟩ = some x :=
  ⟨h.1.alloc o, by rw [World.cell?_alloc_lt w o _ h.1.blk.lt]; exact h.2.1, by rw [World.cell?_alloc_lt w o _ h.1.blk.lt]; exact h.2.2⟩
end
theorem own_base {w : World} {base : Nat} {e : TypeId} {size : Nat} {v : Value} {n : Nat} {xs : List Value} (h : w.ownsRow base e size v n xs) : ∀ k, v.ownBlock = some k → base ≤ k := by
  intro k hk
  rcases h.2 with ⟨rfl, _⟩ | ⟨g, cap, cur, rfl, hb, _⟩
  · simp [Value.ownBlock] at hk
  · simp [Value.ownBlock] at hk; omega
theorem own_own_ne {w : World} {b1 b2 : Nat} {e1 e2 : TypeId} {z1 z2 : Nat} {v1 v2 : Value} {n1 n2 : Nat} {xs1 xs2 : List Value} (h1 : w.ownsRow b1 e1 z1 v1 n1 xs1) (h2 : w.ownsRow b2 e2 z2 v2 n2 xs2) (hne : e1 ≠ e2) : ∀ k, v1.ownBlock = some k → v2.ownBlock ≠ some k := by
  intro k hk
  rcases h1.2 with ⟨rfl, _⟩ | ⟨g, cap, cur, rfl, _, hh, _⟩
  · simp [Value.ownBlock] at hk
  · have e : g = k := by simpa [Value.ownBlock] using hk
    rw [← e]
    exact own_blk_ne (t := e1) h2 hh (Ne.symm hne)
theorem sent {X w4 : World} {base g : Nat} {s : St} {v : Envi} {i : Ins} {C S S4 : Value} {y : Snd} (hX : Mac X base g s v i C S) (hg : X.grownBy w4 S.ownBlock)
    (ho : w4.ownsRow base 64 3 S4 (s.sends.length + 1) (sndsV s.sends ++ y.cells)) :
    Mac (w4.setCell ⟨g, 12, none⟩ S4) base g { s with sends := s.sends ++ [y] } v i C S4 ∧ Below base X (w4.setCell ⟨g, 12, none⟩ S4) := by
  have hb4 : MB w4 g s v i C S := Blk.grown hX.blk hg (fun e => own_blk_ne hX.os hX.blk (by decide) e.symm)
  have hoc4 : w4.ownsRow base 2 1 C s.cells.length (int64s s.cells) := ownsRow_keep hX.oc fun k hk hlt => hg.block k hlt (fun e => own_own_ne hX.oc hX.os (by decide) k hk e.symm)
  refine ⟨⟨hX.hg, ?_, ?_, ?_⟩, ?_⟩
  · exact Blk.set_ hb4 12 S4
  · exact ownsRow_keep hoc4 fun j hj _ => Below.heap_setCell _ _ _ _ (fun e => own_blk_ne hoc4 hb4 (by decide) (by rw [hj, e]))
  · have := ownsRow_keep (w' := w4.setCell ⟨g, 12, none⟩ S4) ho fun j hj _ => Below.heap_setCell _ _ _ _ (fun e => own_blk_ne ho hb4 (by decide) (by rw [hj, e]))
    simpa [sndsV] using this
  · exact ((Below.refl base X).grown hg hX.lt (own_base hX.os)).setCell hX.hg S4
set_option maxRecDepth 100000 in
set_option maxHeartbeats 2000000 in
theorem send_ok (w : World) (base g : Nat) (s : St) (v : Envi) (i : Ins) (C S : Value) (h : Mac w base g s v i C S) (h0 : 0 ≤ i.a) (h8 : i.a < 8) (b0 : 0 ≤ i.b) (b8 : i.b < 8) (a0 : 0 ≤ s.at_) (a1 : s.at_ ≤ 256) (hp : i.n < v.ports) (hd : v.look ≤ s.regs i.a.toNat)
    (t0 : 0 ≤ v.now) (t1 : v.now ≤ 281474976710656) (ht : s.regs i.a.toNat ≤ 281474976710656 - v.now) (hf : s.sends.length < 256) :
    Calls Try.prog 139 #[.pointer (some ⟨g, 0, none⟩)] w fun e w' => e = .returned (.int .i64 0) ∧
      (∃ S', Mac w' base g { s with at_ := s.at_ + 1, sends := s.sends ++ [⟨i.n, s.regs i.a.toNat, s.regs i.b.toNat⟩] } v i C S') ∧ Below base w w' := by
  have H := Lib.hid h
  have r22 : w.cell? ⟨g, 22, none⟩ = some (.int .i64 i.n) := h.blk.cell 22
  have r15 : w.cell? ⟨g, 15, none⟩ = some (.int .i64 v.ports) := h.blk.cell 15
  have r16 : w.cell? ⟨g, 16, none⟩ = some (.int .i64 v.look) := h.blk.cell 16
  have r17 : w.cell? ⟨g, 17, none⟩ = some (.int .i64 v.now) := h.blk.cell 17
  have r12 : w.cell? ⟨g, 12, none⟩ = some S := h.blk.cell 12
  obtain ⟨A, c, rfl⟩ := own_slice h.os
  clear h
  go_enter Try.func139, Try.ntmps139
  go_wp2_with go_quiet (fail)
  go_quiet ((go_at_call 169; exact qadd (ra_c _ base g s v i C _ (H.out.drewN _) h0 h8)))
  go_wp2
  go_quiet ((go_at_call 169; exact qadd (ra_c _ base g s v i C _ (H.out.drewN _) h0 h8)))
  go_wp2
  rename_i n1 h1 n2 h2 n3 h3 k1 k2
  obtain ⟨w1, hw1⟩ : ∃ w1, w1 = w.drewN (n1 + n2 + nq) := ⟨_, rfl⟩
  rw [← hw1]
  have hB1 : Below base w w1 := hw1 ▸ below_drewNm (Below.refl _ w) _
  have hs1 : Mac w1 base g s v i C (.slice A s.sends.length c) ∧ w1.cell? ⟨g, 12, none⟩ = some (.slice A s.sends.length c) ∧ w1.cell? ⟨g, 22, none⟩ = some (.int .i64 i.n) := hw1 ▸ ⟨H.out.drewN _, r12, r22⟩
  obtain ⟨iS, hi, hz0, hz1, hz2⟩ := info_parts infoSend
  have hbw := hs1.1.lt
  have hones : ∀ u ∈ [Value.int .i64 i.n, .int .i64 (s.regs i.a.toNat), .int .i64 (s.regs i.b.toNat)], u.oneCell' = true := by
    intro u hu; simp at hu; rcases hu with rfl | rfl | rfl <;> rfl
  have hml : s.sends.length + 1 ≤ maxLen := by unfold maxLen; omega
  clear r12 r22 r15 r16 r17 hw1 h1 h2 h3
  have c12 := hs1.2.1
  have c22 := hs1.2.2
  have hlt1 := hs1.1.blk.lt
  have hng : some g ≠ Value.ownBlock (.slice A s.sends.length c) := fun e => own_blk_ne hs1.1.os hs1.1.blk (by decide) e.symm
  obtain ⟨O, hO⟩ : ∃ O : Obj, O = (.cells #[.int .i64 i.n, .int .i64 (s.regs i.a.toNat), .int .i64 (s.regs i.b.toNat)] 64) := ⟨_, rfl⟩
  have hown4 : ∀ n, ((w1.drewN n).alloc (.cells #[.int .i64 i.n, .int .i64 (s.regs i.a.toNat), .int .i64 (s.regs i.b.toNat)] 64)).ownsRow base 64 3 (.slice A s.sends.length c) s.sends.length (sndsV s.sends) := fun n => ((hs1.1.drewN n).alloc _).os
  have hrd4 : ∀ n, Reads ((w1.drewN n).alloc (.cells #[.int .i64 i.n, .int .i64 (s.regs i.a.toNat), .int .i64 (s.regs i.b.toNat)] 64)) (w1.heap.size + 1) 3 (some ⟨w1.heap.size, 0, none⟩) 1 [.int .i64 i.n, .int .i64 (s.regs i.a.toNat), .int .i64 (s.regs i.b.toNat)] := fun n => reads_new3 _ _ _ _ _ _ (by simp)
  have hbs4 : ∀ n, base ≤ ((w1.drewN n).alloc (.cells #[.int .i64 i.n, .int .i64 (s.regs i.a.toNat), .int .i64 (s.regs i.b.toNat)] 64)).heap.size := fun n => by simp; omega
  have hby4 : (s.sends.length + 1) * 24 ≤ 140737488355328 := by omega
  have hts4 := fun n => sA (sN hs1 n) (.cells #[.int .i64 i.n, .int .i64 (s.regs i.a.toNat), .int .i64 (s.regs i.b.toNat)] 64)
  have U4 := Lib.hid Try.underlying51
  have Q4 := Lib.hid (And.intro hown4 (And.intro hrd4 (And.intro hbs4 hts4)))
  have hx1 := fun n => (hts4 n).2.1
  have hx2 := fun n => (hts4 n).2.2
  have hne1 : ¬ g = w1.heap.size := by omega
  have hne2 : ¬ w1.heap.size = g := by omega
  clear hown4 hrd4 hbs4 hts4 hO
  have hXb : ∀ n, Below base w ((w1.drewN n).alloc (.cells #[.int .i64 i.n, .int .i64 (s.regs i.a.toNat), .int .i64 (s.regs i.b.toNat)] 64)) := fun n => (below_drewNm hB1 n).alloc hbw _
  have HXB := Lib.hid hXb
  clear hXb
  go_upto_region 9 with fail
  go_cut [59] (fun p W => ∃ S', Mac W base g { s with sends := s.sends ++ [⟨i.n, s.regs i.a.toNat, s.regs i.b.toNat⟩] } v i C S' ∧ Below base w W)
  case first =>
    go_region_law (first
        | (go_simp; go_at_call 169; refine (ra_c _ base g s v i C (.slice A s.sends.length c) (sM (.int .i64 i.n) ?_) h0 h8).mono ?_; (focus (repeat' (first | assumption | refine sE ?_ | refine sN ?_ _ | refine sA ?_ _))); rintro e w3 ⟨rfl, n4, rfl⟩)
        | (go_simp; go_at_call 167; refine (rb_c _ base g s v i C (.slice A s.sends.length c) (sM (.int .i64 i.n) ?_) b0 b8).mono ?_; (focus (repeat' (first | assumption | refine sE ?_ | refine sN ?_ _ | refine sA ?_ _))); rintro e w3 ⟨rfl, n5, rfl⟩)
        | (refine step_append_any _ (by rfl) (.tmp 47) (.tmp 58) 51 (by rfl) base 64 iS _ 3 24 U4.out hi hz0 hz1 hz2 rfl (by omega) (.slice A s.sends.length c) s.sends.length (sndsV s.sends) (by rfl)
            (Q4.out.1 _) (w1.heap.size + 1) (some ⟨w1.heap.size, 0, none⟩) 1 1 [.int .i64 i.n, .int .i64 (s.regs i.a.toNat), .int .i64 (s.regs i.b.toNat)] (by rfl) (Q4.out.2.1 _) hones hml hby4 (Q4.out.2.2.1 _) ?_
           intro v1 w4 hown1 hg1 hat1
           obtain ⟨hc4, hf4⟩ := after_app hg1 (Q4.out.2.2.2 _) hng
           obtain ⟨A4, k4, rfl⟩ := own_slice hown1))
    all_goals (go_wp2_with fail; go_meet)
    all_goals (have hst := sent (y := ⟨i.n, s.regs i.a.toNat, s.regs i.b.toNat⟩) (Q4.out.2.2.2 _).1 hg1 hown1; exact ⟨_, hst.1, (HXB.out _).trans hst.2⟩)
  case rest =>
    obtain ⟨S', hm, hb⟩ := hcut
    have ha : wc.cell? ⟨g, 0, none⟩ = some (.int .i64 s.at_) := hm.blk.cell 0
    have hf : wc.frozen? ⟨g, 0, none⟩ = false := hm.blk.frozen 0
    have hm2 := hm.set_ 0 (.int .i64 (s.at_ + 1)) { s with at_ := s.at_ + 1, sends := s.sends ++ [⟨i.n, s.regs i.a.toNat, s.regs i.b.toNat⟩] } i rfl rfl rfl
    have H2 := Lib.hid (And.intro hm2 (hb.setCell (p := ⟨g, 0, none⟩) hm.hg (.int .i64 (s.at_ + 1))))
    clear hm hb hm2 Q4 HXB
    go_wp2
    go_ret
    exact ⟨rfl, ⟨S', H2.out.1⟩, H2.out.2⟩
end Go.Proofs.Ytmljmabbopkpiaa
