/- machine.step: one step of a machine in a right program. -/
import Derived.Test.YtmljmabbopkpiaaTop
namespace Go.Proofs.Ytmljmabbopkpiaa
open Go.RowKit
set_option linter.unusedVariables false
set_option linter.unusedSimpArgs false

def stepS (p : List Ins) (v : Envi) (s : St) : St := if s.ended = true then s else doS s v (insAt p s.at_)

set_option maxRecDepth 100000 in
set_option maxHeartbeats 2000000 in
theorem step_c (w : World) (base g : Nat) (s : St) (v : Envi) (i : Ins) (C S : Value) (h : Mac w base g s v i C S) (A : Option Addr) (n c : Nat) (p : List Ins) (hp : Reads w w.heap.size 5 A n (insV p))
    (hv : v.okay) (hs : s.okay) (hlt : s.at_ < n) (hok : ∀ i ∈ p, i.ok) (hone : ∀ i ∈ p, oneE i = 0) :
    Calls Try.prog 76 #[.pointer (some ⟨g, 0, none⟩), .slice A n c] w fun e w' => e = .returned (.int .i64 (stepE p v s)) ∧ (∃ i' S', Mac w' base g (stepS p v s) v i' C S') ∧ Below base w w' := by
  have c0 : w.cell? ⟨g, 0, none⟩ = some (.int .i64 s.at_) := h.blk.cell 0
  have c1 : w.cell? ⟨g, 1, none⟩ = some (.bool s.ended) := h.blk.cell 1
  by_cases he : s.ended = true
  · have hE : stepE p v s = 183 := by simp [stepE, he]
    have hS : stepS p v s = s := by simp [stepS, he]
    rw [hE, hS]
    rw [he] at c1
    have H := Lib.hid h
    clear h
    go_enter Try.func76, Try.ntmps76
    go_wp2_with fail
    go_ret
    exact ⟨rfl, ⟨i, S, H.out⟩, Below.refl _ _⟩
  · have hE : stepE p v s = doE s v (insAt p s.at_) := by simp [stepE, he]
    have hS : stepS p v s = doS s v (insAt p s.at_) := by simp [stepS, he]
    rw [hE, hS]
    have he' : s.ended = false := by simpa using he
    rw [he'] at c1
    obtain ⟨k, hk⟩ : ∃ k : Nat, s.at_ = k := ⟨s.at_.toNat, by have := hs.a0; omega⟩
    have hkn : k < n := by omega
    obtain ⟨b, o, x, rfl, hlb, hx, hc0, hc1, hc2, hc3, hc4⟩ := hp.ins_at hkn
    have hxi : insAt p s.at_ = x := by simp [insAt, hk, List.getD, hx]
    rw [hxi]
    have hxm := List.mem_of_getElem? hx
    have c18 : w.cell? ⟨g, 18, none⟩ = some (.int .u8 i.op) := h.blk.cell 18
    have c19 : w.cell? ⟨g, 19, none⟩ = some (.int .u8 i.a) := h.blk.cell 19
    have c20 : w.cell? ⟨g, 20, none⟩ = some (.int .u8 i.b) := h.blk.cell 20
    have c21 : w.cell? ⟨g, 21, none⟩ = some (.int .u8 i.c) := h.blk.cell 21
    have c22 : w.cell? ⟨g, 22, none⟩ = some (.int .i64 i.n) := h.blk.cell 22
    have f18 := h.blk.frozen 18
    have f19 := h.blk.frozen 19
    have f20 := h.blk.frozen 20
    have f21 := h.blk.frozen 21
    have f22 := h.blk.frozen 22
    have hglt := h.blk.lt
    have hm1 := h.set_ 18 (.int .u8 x.op) s ⟨x.op, i.a, i.b, i.c, i.n⟩ rfl rfl rfl
    have hm2 := hm1.set_ 19 (.int .u8 x.a) s ⟨x.op, x.a, i.b, i.c, i.n⟩ rfl rfl rfl
    have hm3 := hm2.set_ 20 (.int .u8 x.b) s ⟨x.op, x.a, x.b, i.c, i.n⟩ rfl rfl rfl
    have hm4 := hm3.set_ 21 (.int .u8 x.c) s ⟨x.op, x.a, x.b, x.c, i.n⟩ rfl rfl rfl
    have hm5 := hm4.set_ 22 (.int .i64 x.n) s x rfl rfl rfl
    have hb5 := ((((Below.refl base w).setCell (p := ⟨g, 18, none⟩) h.hg (.int .u8 x.op)).setCell (p := ⟨g, 19, none⟩) h.hg (.int .u8 x.a)).setCell (p := ⟨g, 20, none⟩) h.hg (.int .u8 x.b)).setCell (p := ⟨g, 21, none⟩) h.hg (.int .u8 x.c) |>.setCell (p := ⟨g, 22, none⟩) h.hg (.int .i64 x.n)
    have H := Lib.hid (And.intro hm5 hb5)
    have OK := Lib.hid (And.intro (hok x hxm) (hone x hxm))
    rw [hk] at c0
    clear hm1 hm2 hm3 hm4 hm5 hb5 h hp hok hone hx hxm hxi
    have hk9 : (k : Int) < (n : Int) := by omega
    go_enter Try.func76, Try.ntmps76
    go_wp2_with (go_at_call 111
                 refine (do_c _ base g s v x C S H.out.1 OK.out.1 OK.out.2 hv hs).mono ?_
                 rintro e w' ⟨rfl, hm, hb⟩)
    go_ret
    exact ⟨rfl, hm.elim fun S' hm => ⟨x, S', hm⟩, H.out.2.trans hb⟩
end Go.Proofs.Ytmljmabbopkpiaa
