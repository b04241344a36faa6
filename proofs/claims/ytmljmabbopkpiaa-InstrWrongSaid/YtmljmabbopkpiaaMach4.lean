/- the machine of instr: words, what is sent. -/
import Derived.Test.YtmljmabbopkpiaaMach3
import Derived.Test.YtmljmabbopkpiaaPast
import Derived.IntWalk
namespace Go.Proofs.Ytmljmabbopkpiaa
open Go.RowKit
open BigFrame
set_option linter.unusedVariables false
set_option linter.unusedSimpArgs false
set_option maxRecDepth 100000 in
set_option maxHeartbeats 1000000 in
theorem word_c (w : World) (base g : Nat) (s : St) (v : Envi) (i : Ins) (C S : Value) (h : Mac w base g s v i C S) (o0 : 32 ≤ i.op) (o1 : i.op < 256) (h0 : 0 ≤ i.a) (h8 : i.a < 8) (b0 : 0 ≤ i.b) (b8 : i.b < 8) (c0 : 0 ≤ i.c) (c8 : i.c < 8) (a0 : 0 ≤ s.at_) (a1 : s.at_ ≤ 256) :
    Calls Try.prog 143 #[.pointer (some ⟨g, 0, none⟩)] w fun e w' => e = .returned (.int .i64 (wrongE (i.op - 32) (s.regs i.c.toNat))) ∧
      Mac w' base g (if wrongE (i.op - 32) (s.regs i.c.toNat) = 0 then s.put i.a.toNat (applyV (i.op - 32) (s.regs i.b.toNat) (s.regs i.c.toNat)) else s) v i C S ∧ Below base w w' := by
  have H := Lib.hid h
  have hlt := h.blk.lt
  have hbl := h.lt
  have r18 : w.cell? ⟨g, 18, none⟩ = some (.int .u8 i.op) := h.blk.cell 18
  have hpc := fun x => past_cell (w := w) hlt x
  have RB := Lib.hid fun (x : Past w) => rb_b x.W base g s v i C S (h.below x.h) b0 b8
  have RC := Lib.hid fun (x : Past w) => rc_b x.W base g s v i C S (h.below x.h) c0 c8
  have hop := IntWalk.u8_in (i.op - 32) (by omega)
  obtain ⟨x, hx⟩ : ∃ x, x = s.regs i.b.toNat := ⟨_, rfl⟩
  obtain ⟨y, hy⟩ : ∃ y, y = s.regs i.c.toNat := ⟨_, rfl⟩
  have AC := Lib.hid (apply_c (i.op - 32) x y)
  rw [← hx] at RB ⊢
  rw [← hy] at RC ⊢
  obtain ⟨V, hV⟩ : ∃ V, V = applyV (i.op - 32) x y := ⟨_, rfl⟩
  obtain ⟨E, hE⟩ : ∃ E, E = wrongE (i.op - 32) y := ⟨_, rfl⟩
  rw [← hV, ← hE] at AC ⊢
  clear h hx hy hV hE
  obtain ⟨s', hs⟩ : ∃ s', s' = if E = 0 then s.put i.a.toNat V else s := ⟨_, rfl⟩
  rw [← hs]
  have HS := Lib.hid hs
  clear hs
  go_enter Try.func143, Try.ntmps143
  go_wp2_with fail
  (refine past_region (by kernel_rfl) (by kernel_rfl) ?_; (repeat (go_big_quiet_step ((first
    | (go_at_call 167; exact past_of (RB.out _))
    | (go_at_call 171; exact past_of (RC.out _))
    | (go_at_call 29; exact past_of (AC.out _)))))); refine wpQuiet_nil ?_; rintro wp_ ⟨⟨wp_, hp_⟩, rfl⟩)
  have h2 := H.out.below hp_
  have hb2 := hp_.mono hbl
  have P := Lib.hid (put_c _ base g _ v i C S V h2 h0 h8 a0 a1)
  have H2 := Lib.hid h2
  have B := Lib.hid hb2
  clear h2 hb2
  by_cases hE : E = 0
  · subst hE
    rw [if_pos rfl] at HS
    go_wp2_with fail
    refine P.out.mono ?_
    rintro e w2 ⟨rfl, hm, hb⟩
    go_wp2
    go_ret
    exact ⟨rfl, HS.out ▸ hm, B.out.trans hb⟩
  · rw [if_neg hE] at HS
    have hE2 : (E != 0) = true := by rw [bne_iff_ne]; exact hE
    clear hE
    go_wp2
    go_ret
    exact ⟨rfl, HS.out ▸ H2.out, B.out⟩

set_option maxRecDepth 100000 in
theorem send_port (w : World) (base g : Nat) (s : St) (v : Envi) (i : Ins) (C S : Value) (h : Mac w base g s v i C S) (hp : v.ports ≤ i.n) :
    Calls Try.prog 139 #[.pointer (some ⟨g, 0, none⟩)] w fun e w' => e = .returned (.int .i64 188) ∧ Mac w' base g s v i C S ∧ Below base w w' := by
  have H := Lib.hid h
  have r22 : w.cell? ⟨g, 22, none⟩ = some (.int .i64 i.n) := h.blk.cell 22
  have r15 : w.cell? ⟨g, 15, none⟩ = some (.int .i64 v.ports) := h.blk.cell 15
  clear h
  go_enter Try.func139, Try.ntmps139
  go_wp2_with go_quiet (fail)
  go_ret
  exact ⟨rfl, H.out.drewN _, below_drewNm (Below.refl _ w) _⟩

set_option maxRecDepth 100000 in
theorem send_delay (w : World) (base g : Nat) (s : St) (v : Envi) (i : Ins) (C S : Value) (h : Mac w base g s v i C S) (h0 : 0 ≤ i.a) (h8 : i.a < 8) (hp : i.n < v.ports) (hd : s.regs i.a.toNat < v.look) :
    Calls Try.prog 139 #[.pointer (some ⟨g, 0, none⟩)] w fun e w' => e = .returned (.int .i64 189) ∧ Mac w' base g s v i C S ∧ Below base w w' := by
  have H := Lib.hid h
  have r22 : w.cell? ⟨g, 22, none⟩ = some (.int .i64 i.n) := h.blk.cell 22
  have r15 : w.cell? ⟨g, 15, none⟩ = some (.int .i64 v.ports) := h.blk.cell 15
  have r16 : w.cell? ⟨g, 16, none⟩ = some (.int .i64 v.look) := h.blk.cell 16
  clear h
  go_enter Try.func139, Try.ntmps139
  go_wp2_with go_quiet (fail)
  go_quiet ((go_at_call 169; exact qadd (ra_c _ base g s v i C S (H.out.drewN _) h0 h8)))
  go_wp2
  go_ret
  exact ⟨rfl, by (try simp only [World.drewN_drewN]); exact H.out.drewN _, by (try simp only [World.drewN_drewN]); exact below_drewNm (Below.refl _ w) _⟩

set_option maxRecDepth 100000 in
theorem send_time (w : World) (base g : Nat) (s : St) (v : Envi) (i : Ins) (C S : Value) (h : Mac w base g s v i C S) (h0 : 0 ≤ i.a) (h8 : i.a < 8) (hp : i.n < v.ports) (hd : v.look ≤ s.regs i.a.toNat)
    (t0 : 0 ≤ v.now) (t1 : v.now ≤ 281474976710656) (ht : 281474976710656 - v.now < s.regs i.a.toNat) :
    Calls Try.prog 139 #[.pointer (some ⟨g, 0, none⟩)] w fun e w' => e = .returned (.int .i64 1800) ∧ Mac w' base g s v i C S ∧ Below base w w' := by
  have H := Lib.hid h
  have r22 : w.cell? ⟨g, 22, none⟩ = some (.int .i64 i.n) := h.blk.cell 22
  have r15 : w.cell? ⟨g, 15, none⟩ = some (.int .i64 v.ports) := h.blk.cell 15
  have r16 : w.cell? ⟨g, 16, none⟩ = some (.int .i64 v.look) := h.blk.cell 16
  have r17 : w.cell? ⟨g, 17, none⟩ = some (.int .i64 v.now) := h.blk.cell 17
  clear h
  go_enter Try.func139, Try.ntmps139
  go_wp2_with go_quiet (fail)
  go_quiet ((go_at_call 169; exact qadd (ra_c _ base g s v i C S (H.out.drewN _) h0 h8)))
  go_wp2
  go_quiet ((go_at_call 169; exact qadd (ra_c _ base g s v i C S (H.out.drewN _) h0 h8)))
  go_wp2
  go_ret
  exact ⟨rfl, by (try simp only [World.drewN_drewN]); exact H.out.drewN _, by (try simp only [World.drewN_drewN]); exact below_drewNm (Below.refl _ w) _⟩

set_option maxRecDepth 100000 in
theorem send_full (w : World) (base g : Nat) (s : St) (v : Envi) (i : Ins) (C S : Value) (h : Mac w base g s v i C S) (h0 : 0 ≤ i.a) (h8 : i.a < 8) (hp : i.n < v.ports) (hd : v.look ≤ s.regs i.a.toNat)
    (t0 : 0 ≤ v.now) (t1 : v.now ≤ 281474976710656) (ht : s.regs i.a.toNat ≤ 281474976710656 - v.now) (hf : 256 ≤ s.sends.length) :
    Calls Try.prog 139 #[.pointer (some ⟨g, 0, none⟩)] w fun e w' => e = .returned (.int .i64 1801) ∧ Mac w' base g s v i C S ∧ Below base w w' := by
  have H := Lib.hid h
  have r22 : w.cell? ⟨g, 22, none⟩ = some (.int .i64 i.n) := h.blk.cell 22
  have r15 : w.cell? ⟨g, 15, none⟩ = some (.int .i64 v.ports) := h.blk.cell 15
  have r16 : w.cell? ⟨g, 16, none⟩ = some (.int .i64 v.look) := h.blk.cell 16
  have r17 : w.cell? ⟨g, 17, none⟩ = some (.int .i64 v.now) := h.blk.cell 17
  have r12 : w.cell? ⟨g, 12, none⟩ = some S := h.blk.cell 12
  obtain ⟨A, c, rfl⟩ := own_slice h.os
  clear h
  go_enter Try.func139, Try.ntmps139
  go_wp2_with go_quiet (fail)
  go_quiet ((go_at_call 169; exact qadd (ra_c _ base g s v i C _ (H.out.drewN _) h0 h8)))
  go_wp2
  go_quiet ((go_at_call 169; exact qadd (ra_c _ base g s v i C _ (H.out.drewN _) h0 h8)))
  go_wp2
  go_ret
  exact ⟨rfl, by (try simp only [World.drewN_drewN]); exact H.out.drewN _, by (try simp only [World.drewN_drewN]); exact below_drewNm (Below.refl _ w) _⟩
end Go.Proofs.Ytmljmabbopkpiaa
