/- machine.do: what one right instruction does. -/
import Derived.Test.YtmljmabbopkpiaaDo
namespace Go.Proofs.Ytmljmabbopkpiaa
open Go.RowKit
set_option linter.unusedVariables false
set_option linter.unusedSimpArgs false

/-- an environment and a state's numbers that are right -/
structure Envi.okay (v : Envi) : Prop where
  p0 : 0 ≤ v.process
  p1 : v.process ≤ 65536
  t0 : 0 ≤ v.now
  t1 : v.now ≤ 281474976710656
structure St.okay (s : St) : Prop where
  a0 : 0 ≤ s.at_
  a1 : s.at_ ≤ 256
  d0 : 0 ≤ s.draws
  d1 : s.draws ≤ 1099511627776

theorem do_c (w : World) (base g : Nat) (s : St) (v : Envi) (i : Ins) (C S : Value) (h : Mac w base g s v i C S) (hi : i.ok) (hone : oneE i = 0) (hv : v.okay) (hs : s.okay) :
    Calls Try.prog 111 #[.pointer (some ⟨g, 0, none⟩)] w fun e w' => e = .returned (.int .i64 (doE s v i)) ∧ (∃ S', Mac w' base g (doS s v i) v i C S') ∧ Below base w w' := by
  obtain ⟨o0, o1, a0, a1, b0, b1, c0, c1, n0, n1⟩ := hi
  have hf : fitsC (formC i.op) i.a i.b i.c i.n := by
    unfold oneE at hone
    split at hone
    · cases hone
    · by_cases hfit : fitsC (formC i.op) i.a i.b i.c i.n
      · exact hfit
      · rw [oneK_neg hfit] at hone; cases hone
  have r18 : w.cell? ⟨g, 18, none⟩ = some (.int .u8 i.op) := h.blk.cell 18
  refine do_walk w g i.op (doE s v i) _ h.blk.lt r18 ?_ ?_ ?_ ?_ ?_ ?_ ?_ ?_ ?_ ?_ ?_ ?_
  · intro ho W hW
    have hE : doE s v i = 0 := by simp [doE, ho]
    have hS : doS s v i = { s with ended := true } := by simp [doS, hE, ho]
    rw [hE, hS]
    refine (halt_c W base g s v i C S (h.below hW)).mono ?_
    rintro e w' ⟨he, hm, hb⟩
    exact ⟨he, ⟨S, hm⟩, (hW.mono h.lt).trans hb⟩
  · intro ho W hW
    have hE : doE s v i = 184 := by simp [doE, ho]
    have hS : doS s v i = s := by simp [doS, hE]
    rw [hE, hS]
    refine (fail_c W g).mono ?_
    rintro e w' ⟨he, rfl⟩
    exact ⟨he, ⟨S, h.below hW⟩, hW.mono h.lt⟩
  · intro ho W hW
    have hE : doE s v i = 0 := by simp [doE, ho]
    have hS : doS s v i = s.put i.a.toNat i.n := by simp [doS, hE, ho]
    rw [ho] at hf
    obtain ⟨f1, f2, f3⟩ : i.a < 8 ∧ i.b = 0 ∧ i.c = 0 := hf
    rw [hE, hS]
    refine (set_c W base g s v i C S (h.below hW) a0 f1 hs.a0 hs.a1).mono ?_
    rintro e w' ⟨he, hm, hb⟩
    exact ⟨he, ⟨S, hm⟩, (hW.mono h.lt).trans hb⟩
  · intro ho W hW
    have hE : doE s v i = 0 := by simp [doE, ho]
    have hS : doS s v i = s.put i.a.toNat (s.regs i.b.toNat) := by simp [doS, hE, ho]
    rw [ho] at hf
    obtain ⟨f1, f2, f3, f4⟩ : i.a < 8 ∧ i.b < 8 ∧ i.c = 0 ∧ i.n = 0 := hf
    rw [hE, hS]
    refine (move_c W base g s v i C S (h.below hW) a0 f1 b0 f2 hs.a0 hs.a1).mono ?_
    rintro e w' ⟨he, hm, hb⟩
    exact ⟨he, ⟨S, hm⟩, (hW.mono h.lt).trans hb⟩
  · intro ho W hW
    rw [ho] at hf
    obtain ⟨f1, f2, f3, f4⟩ : i.a < 8 ∧ i.b < 8 ∧ i.c = 0 ∧ i.n = 0 := hf
    by_cases hb : s.regs i.b.toNat < 0 ∨ (s.cells.length : Int) ≤ s.regs i.b.toNat
    · have hE : doE s v i = 185 := by simp [doE, ho, hb]
      have hS : doS s v i = s := by simp [doS, hE]
      rw [hE, hS]
      refine (load_bad W base g s v i C S (h.below hW) b0 f2 hb).mono ?_
      rintro e w' ⟨he, hm, hb⟩
      exact ⟨he, ⟨S, hm⟩, (hW.mono h.lt).trans hb⟩
    · have hE : doE s v i = 0 := by simp [doE, ho, hb]
      have hl : (s.regs i.b.toNat).toNat < s.cells.length := by omega
      have hS : doS s v i = s.put i.a.toNat (s.cells[(s.regs i.b.toNat).toNat]'hl) := by simp [doS, hE, ho, List.getD, hl]
      rw [hE, hS]
      refine (load_ok W base g s v i C S (h.below hW) a0 f1 b0 f2 hs.a0 hs.a1 (s.regs i.b.toNat).toNat (by omega) hl).mono ?_
      rintro e w' ⟨he, hm, hb⟩
      exact ⟨he, ⟨S, hm⟩, (hW.mono h.lt).trans hb⟩
  · intro ho W hW
    rw [ho] at hf
    obtain ⟨f1, f2, f3, f4⟩ : i.a < 8 ∧ i.b < 8 ∧ i.c = 0 ∧ i.n = 0 := hf
    by_cases hb : s.regs i.b.toNat < 0 ∨ (s.cells.length : Int) ≤ s.regs i.b.toNat
    · have hE : doE s v i = 185 := by simp [doE, ho, hb]
      have hS : doS s v i = s := by simp [doS, hE]
      rw [hE, hS]
      refine (store_bad W base g s v i C S (h.below hW) b0 f2 hb).mono ?_
      rintro e w' ⟨he, hm, hb⟩
      exact ⟨he, ⟨S, hm⟩, (hW.mono h.lt).trans hb⟩
    · have hE : doE s v i = 0 := by simp [doE, ho, hb]
      have hl : (s.regs i.b.toNat).toNat < s.cells.length := by omega
      have hS : doS s v i = { s with cells := s.cells.set (s.regs i.b.toNat).toNat (s.regs i.a.toNat), at_ := s.at_ + 1 } := by simp [doS, hE, ho]
      rw [hE, hS]
      refine (store_ok W base g s v i C S (h.below hW) a0 f1 b0 f2 hs.a0 hs.a1 (s.regs i.b.toNat).toNat (by omega) hl).mono ?_
      rintro e w' ⟨he, hm, hb⟩
      exact ⟨he, ⟨S, hm⟩, (hW.mono h.lt).trans hb⟩
  · intro ho W hW
    rw [ho] at hf
    obtain ⟨f1, f2, f3, f4⟩ : i.a < 8 ∧ i.b < 8 ∧ i.c = 0 ∧ i.n = 0 := hf
    by_cases hb : s.regs i.b.toNat < 1
    · have hE : doE s v i = 186 := by simp [doE, ho, hb]
      have hS : doS s v i = s := by simp [doS, hE]
      rw [hE, hS]
      refine (draw_bound W base g s v i C S (h.below hW) b0 f2 hb).mono ?_
      rintro e w' ⟨he, hm, hb⟩
      exact ⟨he, ⟨S, hm⟩, (hW.mono h.lt).trans hb⟩
    · by_cases hd : s.draws = 1099511627776
      · have hE : doE s v i = 187 := by simp [doE, ho, hb, hd]
        have hS : doS s v i = s := by simp [doS, hE]
        rw [hE, hS]
        refine (draw_max W base g s v i C S (h.below hW) b0 f2 (by omega) hd).mono ?_
        rintro e w' ⟨he, hm, hb⟩
        exact ⟨he, ⟨S, hm⟩, (hW.mono h.lt).trans hb⟩
      · have hE : doE s v i = 0 := by simp [doE, ho, hb, hd]
        have hS : doS s v i = { s.put i.a.toNat (drawI v.seed v.process s.draws (s.regs i.b.toNat)) with draws := s.draws + 1 } := by simp [doS, hE, ho]
        rw [hE, hS]
        have := hs.d1
        refine (draw_c W base g s v i C S (h.below hW) a0 f1 b0 f2 hs.a0 hs.a1 hv.p0 hv.p1 hs.d0 (by omega) (by omega)).mono ?_
        rintro e w' ⟨he, hm, hb⟩
        exact ⟨he, ⟨S, hm⟩, (hW.mono h.lt).trans hb⟩
  · intro ho W hW
    rw [ho] at hf
    obtain ⟨f1, f2, f3, f4, f5⟩ : i.a < 8 ∧ i.b < 8 ∧ i.c = 0 ∧ 0 ≤ i.n ∧ i.n < 16 := hf
    have hE : doE s v i = sendE s v i := by simp [doE, ho]
    have hS : doS s v i = if sendE s v i = 0 then { s with at_ := s.at_ + 1, sends := s.sends ++ [⟨i.n, s.regs i.a.toNat, s.regs i.b.toNat⟩] } else s := by
      by_cases h0 : sendE s v i = 0
      · simp [doS, hE, h0, ho]
      · simp [doS, hE, h0]
    rw [hE, hS]
    by_cases e1 : v.ports ≤ i.n
    · have hx : sendE s v i = 188 := by simp [sendE, e1]
      rw [hx, if_neg (by decide)]
      refine (send_port W base g s v i C S (h.below hW) e1).mono ?_
      rintro e w' ⟨he, hm, hb⟩
      exact ⟨he, ⟨S, hm⟩, (hW.mono h.lt).trans hb⟩
    · by_cases e2 : s.regs i.a.toNat < v.look
      · have hx : sendE s v i = 189 := by simp [sendE, e1, e2]
        rw [hx, if_neg (by decide)]
        refine (send_delay W base g s v i C S (h.below hW) a0 f1 (by omega) e2).mono ?_
        rintro e w' ⟨he, hm, hb⟩
        exact ⟨he, ⟨S, hm⟩, (hW.mono h.lt).trans hb⟩
      · by_cases e3 : 281474976710656 - v.now < s.regs i.a.toNat
        · have hx : sendE s v i = 1800 := by simp [sendE, e1, e2, e3]
          rw [hx, if_neg (by decide)]
          refine (send_time W base g s v i C S (h.below hW) a0 f1 (by omega) (by omega) hv.t0 hv.t1 e3).mono ?_
          rintro e w' ⟨he, hm, hb⟩
          exact ⟨he, ⟨S, hm⟩, (hW.mono h.lt).trans hb⟩
        · by_cases e4 : 256 ≤ s.sends.length
          · have hx : sendE s v i = 1801 := by simp [sendE, e1, e2, e3, e4]
            rw [hx, if_neg (by decide)]
            refine (send_full W base g s v i C S (h.below hW) a0 f1 (by omega) (by omega) hv.t0 hv.t1 (by omega) e4).mono ?_
            rintro e w' ⟨he, hm, hb⟩
            exact ⟨he, ⟨S, hm⟩, (hW.mono h.lt).trans hb⟩
          · have hx : sendE s v i = 0 := by simp [sendE, e1, e2, e3, e4]
            rw [hx, if_pos rfl]
            refine (send_ok W base g s v i C S (h.below hW) a0 f1 b0 f2 hs.a0 hs.a1 (by omega) (by omega) hv.t0 hv.t1 (by omega) (by omega)).mono ?_
            rintro e w' ⟨he, hm, hb⟩
            exact ⟨he, hm, (hW.mono h.lt).trans hb⟩
  · intro ho W hW
    rw [ho] at hf
    obtain ⟨f1, f2, f3, f4, f5⟩ : i.a = 0 ∧ i.b = 0 ∧ i.c = 0 ∧ 0 ≤ i.n ∧ i.n < 256 := hf
    have hE : doE s v i = 0 := by simp [doE, ho]
    have hS : doS s v i = { s with at_ := i.n } := by simp [doS, hE, ho]
    rw [hE, hS]
    refine (jump_c W base g s v i C S (h.below hW) hs.a0 hs.a1 f4 f5).mono ?_
    rintro e w' ⟨he, hm, hb⟩
    exact ⟨he, ⟨S, hm⟩, (hW.mono h.lt).trans hb⟩
  · intro ho W hW
    rw [ho] at hf
    obtain ⟨f1, f2, f3, f4, f5⟩ : i.a < 8 ∧ i.b = 0 ∧ i.c = 0 ∧ 0 ≤ i.n ∧ i.n < 256 := hf
    have hE : doE s v i = 0 := by simp [doE, ho]
    have hS : doS s v i = { s with at_ := if s.regs i.a.toNat = 0 then i.n else s.at_ + 1 } := by simp [doS, hE, ho]
    rw [hE, hS]
    refine (jumpZero_c W base g s v i C S (h.below hW) a0 f1 hs.a0 hs.a1 f4 f5).mono ?_
    rintro e w' ⟨he, hm, hb⟩
    exact ⟨he, ⟨S, hm⟩, (hW.mono h.lt).trans hb⟩
  · intro ho W hW
    rw [ho] at hf
    obtain ⟨f1, f2, f3, f4, f5⟩ : i.a < 8 ∧ i.b = 0 ∧ i.c = 0 ∧ 0 ≤ i.n ∧ i.n < 256 := hf
    have hE : doE s v i = 0 := by simp [doE, ho]
    have hS : doS s v i = { s with at_ := if s.regs i.a.toNat < 0 then i.n else s.at_ + 1 } := by simp [doS, hE, ho]
    rw [hE, hS]
    refine (jumpNeg_c W base g s v i C S (h.below hW) a0 f1 hs.a0 hs.a1 f4 f5).mono ?_
    rintro e w' ⟨he, hm, hb⟩
    exact ⟨he, ⟨S, hm⟩, (hW.mono h.lt).trans hb⟩
  · intro ho W hW
    have hno : ¬ (1 ≤ i.op ∧ i.op ≤ 11) := fun hx => by
      have := ho (i.op - 1).toNat (by omega)
      omega
    by_cases hr : 32 < i.op ∧ i.op ≤ 49
    · have hc : formC i.op = 1 := by simp [formC, hr]
      rw [hc] at hf
      obtain ⟨f1, f2, f3, f4⟩ : i.a < 8 ∧ i.b < 8 ∧ i.c < 8 ∧ i.n = 0 := hf
      have hE : doE s v i = wrongE (i.op - 32) (s.regs i.c.toNat) := by
        unfold doE
        rw [if_neg (by omega), if_neg (by omega), if_neg (by omega), if_neg (by omega), if_neg (by omega)]
      have hS : doS s v i = if wrongE (i.op - 32) (s.regs i.c.toNat) = 0 then s.put i.a.toNat (applyV (i.op - 32) (s.regs i.b.toNat) (s.regs i.c.toNat)) else s := by
        by_cases h0 : wrongE (i.op - 32) (s.regs i.c.toNat) = 0
        · rw [if_pos h0]
          unfold doS
          rw [hE, h0, if_neg (by decide), if_neg (by omega), if_neg (by omega), if_neg (by omega), if_neg (by omega), if_neg (by omega), if_neg (by omega), if_neg (by omega), if_neg (by omega), if_neg (by omega), if_neg (by omega)]
        · rw [if_neg h0]
          unfold doS
          rw [hE, if_pos h0]
      rw [hE, hS]
      refine (word_c W base g s v i C S (h.below hW) (by omega) (by omega) a0 f1 b0 f2 c0 f3 hs.a0 hs.a1).mono ?_
      rintro e w' ⟨he, hm, hb⟩
      exact ⟨he, ⟨S, hm⟩, (hW.mono h.lt).trans hb⟩
    · have hc : formC i.op = 0 := by
        unfold formC
        rw [if_neg hr, if_neg (by omega), if_neg (by omega), if_neg (by omega), if_neg (by omega), if_neg (by omega), if_neg (by omega)]
      rw [hc] at hf
      exact hf.elim
end Go.Proofs.Ytmljmabbopkpiaa
