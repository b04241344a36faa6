/- fermatalaw18.InstrCells: the walk. (printed by gen_cells.py) -/
import Derived.Test.YtmljmabbopkpiaaMade18
import Derived.Test.YtmljmabbopkpiaaAwake
namespace Go.Proofs.Ytmljmabbopkpiaa
open Go.RowKit
set_option linter.unusedVariables false
set_option linter.unusedSimpArgs false

def cV : Envi := ⟨0, 0, 0, 1, 0⟩
/-! ### one instruction before a Halt, with a state whose cells are all there -/
theorem own_far {W : World} {base : Nat} {e : TypeId} {size n c : Nat} {A : Option Addr} {xs : List Value} (h : W.ownsRow base e size (.slice A n c) n xs) : ∀ ad, A = some ad → base ≤ ad.block := by
  intro ad hA
  rcases h.2 with ⟨h1, _⟩ | ⟨g, cap, cur, h1, hb, _⟩
  · injection h1 with h1; rw [h1] at hA; cases hA
  · injection h1 with h1; rw [h1] at hA; injection hA with hA; rw [← hA]; exact hb
theorem own_lt {W : World} {base : Nat} {e : TypeId} {size n c : Nat} {A : Option Addr} {xs : List Value} (h : W.ownsRow base e size (.slice A n c) n xs) : ∀ ad, A = some ad → ad.block < W.heap.size := by
  intro ad hA
  rcases h.2 with ⟨h1, _⟩ | ⟨g, cap, cur, h1, hb, hh, _⟩
  · injection h1 with h1; rw [h1] at hA; cases hA
  · injection h1 with h1; rw [h1] at hA; injection hA with hA; rw [← hA]; exact Blk.lt (t := e) hh
theorem one_t (i : Ins) (hi : i.ok) (v : Envi) (s T : St) (E : Int) (hT : topS [i, haltI] v s = T) (hE : topE [i, haltI] v s = E) (nC nS : Nat) (hC : T.cells.length = nC) (hS : T.sends.length = nS) (B D : Option Addr) (m k d f : Nat) (hk : k ≤ 1000000) (w : World) (hc : Reads w w.heap.size 1 B m (int64s s.cells)) (hs : Reads w w.heap.size 3 D k (sndsV s.sends)) :
    Calls Try.prog 25 #[i.v, v.v, s.v (.slice B m d) (.slice D k f)] w fun e w' => ∃ A1 k1 A2 k2, e = .returned (.tuple #[.agg #[.int .i64 T.at_, .bool T.ended, .int .i64 (T.regs 0), .int .i64 (T.regs 1), .int .i64 (T.regs 2), .int .i64 (T.regs 3), .int .i64 (T.regs 4), .int .i64 (T.regs 5), .int .i64 (T.regs 6), .int .i64 (T.regs 7), .slice A1 nC k1, .int .i64 T.draws, .slice A2 nS k2], .int .i64 E]) ∧
      (Reads w' w'.heap.size 1 A1 nC (int64s T.cells) ∧ ∀ ad, A1 = some ad → w.heap.size ≤ ad.block) ∧ (Reads w' w'.heap.size 3 A2 nS (sndsV T.sends) ∧ ∀ ad, A2 = some ad → w.heap.size ≤ ad.block) ∧ Below w.heap.size w w' := by
  refine (one18_c i hi v s B D m k d f hk w hc hs).mono ?_
  rintro e w' ⟨C, S, rfl, h1, h2, h3⟩
  rw [hT] at h1 h2
  subst hC; subst hS
  obtain ⟨A1, k1, rfl⟩ := own_slice h1
  obtain ⟨A2, k2, rfl⟩ := own_slice h2
  rw [hT, hE]
  exact ⟨A1, k1, A2, k2, rfl, ⟨Reads.of_own h1, own_far h1⟩, ⟨Reads.of_own h2, own_far h2⟩, h3⟩
/-! ### a walk's memory in which one block G is written -/
theorem Reads.keepB {w w' : World} {B B' size n : Nat} {A : Option Addr} {xs : List Value} (h : Reads w B size A n xs) (hB : B ≤ B') (hk : ∀ ad, A = some ad → ∀ p : Addr, p.block = ad.block → w'.cell? p = w.cell? p) : Reads w' B' size A n xs :=
  ⟨h.1, fun hn => by
    obtain ⟨ad, e, hb, hc⟩ := h.2 hn
    exact ⟨ad, e, by omega, fun j u hu => (hk ad e _ (block_of_add ad j)).trans (hc j u hu)⟩⟩
structure CW (w : World) (G : Nat) (L : List Bk) (R : List Rd) (X : World) : Prop where
  aw : AW w L R X
  hG : w.heap.size ≤ G
  ne : ∀ e ∈ R, ∀ ad, e.A = some ad → ad.block ≠ G
section
variable {w X X' : World} {G : Nat} {L : List Bk} {R : List Rd}
theorem CW.call (h : CW w G L R X) (hb : Below X.heap.size X X') : CW w G L R X' := ⟨h.aw.call hb, h.hG, h.ne⟩
theorem CW.put (h : CW w G L R X) (t : TypeId) (cs : Array Value) {g : Nat} (hg : g = X.heap.size) : CW w G (⟨g, t, cs⟩ :: L) R (X.alloc (.cells cs t)) := ⟨h.aw.put' t cs hg, h.hG, h.ne⟩
theorem CW.putx (h : CW w G L R X) (o : Obj) : CW w G L R (X.alloc o) := ⟨h.aw.alloc o, h.hG, h.ne⟩
theorem CW.drewN (h : CW w G L R X) (n : Nat) : CW w G L R (X.drewN n) := ⟨h.aw.drewN n, h.hG, h.ne⟩
theorem CW.less (h : CW w G L R X) {L' : List Bk} {R' : List Rd} (hl : L' ⊆ L) (hr : R' ⊆ R) : CW w G L' R' X := ⟨h.aw.less hl hr, h.hG, fun e he => h.ne e (hr he)⟩
theorem CW.read (h : CW w G L R X) {k n : Nat} {A : Option Addr} {xs : List Value} (hr : Reads X X.heap.size k A n xs) (hn : ∀ ad, A = some ad → ad.block ≠ G) : CW w G L (⟨k, A, n, xs⟩ :: R) X :=
  ⟨h.aw.read hr, h.hG, fun e he => by
    rcases List.mem_cons.1 he with rfl | he
    · exact hn
    · exact h.ne e he⟩
theorem CW.upd {t : TypeId} {cs : Array Value} (h : CW w G (⟨G, t, cs⟩ :: L) R X) (hn : ∀ e ∈ L, e.g ≠ G) (i : Nat) (u : Value) : CW w G (⟨G, t, cs.setIfInBounds i u⟩ :: L) R (X.setCell ⟨G, i, none⟩ u) :=
  ⟨⟨h.aw.b.setCell (p := ⟨G, i, none⟩) h.hG u, fun e he => by
    rcases List.mem_cons.1 he with rfl | he
    · exact (h.aw.l _ (.head _)).set_ i u
    · exact (h.aw.l _ (.tail _ he)).far (p := ⟨G, i, none⟩) (hn e he) u, fun e he => by
    refine (h.aw.r e he).keepB (by simp) (fun ad hA p hp => World.cell?_setCell_other _ _ _ _ (fun e2 => ?_))
    exact h.ne e he ad hA (by rw [← hp, ← e2])⟩, h.hG, h.ne⟩
theorem CW.row {t : TypeId} {cs : Array Value} (h : CW w G (⟨G, t, cs⟩ :: L) R X) (hn : ∀ e ∈ L, e.g ≠ G) (cs' : Array Value) : CW w G (⟨G, t, cs'⟩ :: L) R (X.setRow G cs') :=
  ⟨⟨below_setRow h.aw.b h.hG _, fun e he => by
    rcases List.mem_cons.1 he with rfl | he
    · exact (h.aw.l _ (.head _)).row cs'
    · exact (h.aw.l _ (.tail _ he)).row_far (hn e he) cs', fun e he => by
    refine (h.aw.r e he).keepB (by simp) (fun ad hA p hp => ?_)
    obtain ⟨b, off, sp⟩ := p
    have hb : b ≠ G := by have := h.ne e he ad hA; dsimp only at hp; rw [hp]; exact this
    unfold World.cell?
    rw [setRow_other X G b cs' hb]⟩, h.hG, h.ne⟩
end
/-! ### what the instructions make -/
theorem ok_cell (op a : Int) (h : (op = 6 ∧ a = 0) ∨ (op = 5 ∧ a = 2)) : (⟨op, a, 1, 0, 0⟩ : Ins).ok := by
  rcases h with ⟨rfl, rfl⟩ | ⟨rfl, rfl⟩ <;> exact ⟨by decide, by decide, by decide, by decide, by decide, by decide, by decide, by decide, by decide, by decide⟩
theorem cellx_bad (op a : Int) (h : (op = 6 ∧ a = 0) ∨ (op = 5 ∧ a = 2)) (s : St) (hr : rightB s.at_ s.draws 2 s.cells.length = true) (he : s.ended = false) (h0 : s.at_ = 0) (hb : s.regs 1 < 0 ∨ (s.cells.length : Int) ≤ s.regs 1) :
    topE [⟨op, a, 1, 0, 0⟩, haltI] cV s = 185 ∧ topS [⟨op, a, 1, 0, 0⟩, haltI] cV s = zeroSt := by
  have hB : badAt 2 ⟨op, a, 1, 0, 0⟩ = 0 := by rcases h with ⟨rfl, rfl⟩ | ⟨rfl, rfl⟩ <;> decide
  obtain ⟨h1, h2, h3⟩ := one_top (i := ⟨op, a, 1, 0, 0⟩) (v := cV) (s := s) hB rfl hr he h0
  have hE : doE s cV ⟨op, a, 1, 0, 0⟩ = 185 := by
    have hb' : s.regs (1 : Int).toNat < 0 ∨ (s.cells.length : Int) ≤ s.regs (1 : Int).toNat := hb
    rcases h with ⟨rfl, rfl⟩ | ⟨rfl, rfl⟩ <;> (unfold doE; rw [if_neg (by decide), if_pos (by decide), if_pos hb'])
  exact ⟨h1.trans hE, h3 (by rw [hE]; decide)⟩
theorem cell_store (s : St) (hr : rightB s.at_ s.draws 2 s.cells.length = true) (he : s.ended = false) (h0 : s.at_ = 0) (k : Nat) (hk : s.regs 1 = k) (hl : k < s.cells.length) :
    topE [⟨6, 0, 1, 0, 0⟩, haltI] cV s = 0 ∧ topS [⟨6, 0, 1, 0, 0⟩, haltI] cV s = { s with cells := s.cells.set k (s.regs 0), at_ := s.at_ + 1 } := by
  obtain ⟨h1, h2, h3⟩ := one_top (i := ⟨6, 0, 1, 0, 0⟩) (v := cV) (s := s) (by decide) rfl hr he h0
  have hb : ¬ (s.regs (1 : Int).toNat < 0 ∨ (s.cells.length : Int) ≤ s.regs (1 : Int).toNat) := by
    show ¬ (s.regs 1 < 0 ∨ (s.cells.length : Int) ≤ s.regs 1)
    omega
  have hE : doE s cV ⟨6, 0, 1, 0, 0⟩ = 0 := by unfold doE; rw [if_neg (by decide), if_pos (by decide), if_neg hb]
  refine ⟨h1.trans hE, (h2 hE).trans ?_⟩
  unfold doS
  rw [if_neg (by rw [hE]; decide), if_neg (by decide), if_neg (by decide), if_neg (by decide), if_neg (by decide), if_pos (by decide)]
  show { s with cells := s.cells.set (s.regs 1).toNat (s.regs 0), at_ := s.at_ + 1 } = _
  rw [hk, Int.toNat_natCast]
theorem cell_load (s : St) (hr : rightB s.at_ s.draws 2 s.cells.length = true) (he : s.ended = false) (h0 : s.at_ = 0) (k : Nat) (hk : s.regs 1 = k) (hl : k < s.cells.length) :
    topE [⟨5, 2, 1, 0, 0⟩, haltI] cV s = 0 ∧ topS [⟨5, 2, 1, 0, 0⟩, haltI] cV s = s.put 2 (s.cells.getD k 0) := by
  obtain ⟨h1, h2, h3⟩ := one_top (i := ⟨5, 2, 1, 0, 0⟩) (v := cV) (s := s) (by decide) rfl hr he h0
  have hb : ¬ (s.regs (1 : Int).toNat < 0 ∨ (s.cells.length : Int) ≤ s.regs (1 : Int).toNat) := by
    show ¬ (s.regs 1 < 0 ∨ (s.cells.length : Int) ≤ s.regs 1)
    omega
  have hE : doE s cV ⟨5, 2, 1, 0, 0⟩ = 0 := by unfold doE; rw [if_neg (by decide), if_pos (by decide), if_neg hb]
  refine ⟨h1.trans hE, (h2 hE).trans ?_⟩
  unfold doS
  rw [if_neg (by rw [hE]; decide), if_neg (by decide), if_neg (by decide), if_neg (by decide), if_pos (by decide)]
  show s.put 2 (s.cells.getD (s.regs 1).toNat 0) = _
  rw [hk, Int.toNat_natCast]
section
variable {d : Option Tmp} {x y : Operand} {ty : TypeId} {pos : String} {after : Array Edge} {guard : Option (Nat × Bool)} {a : Act} {w : World} {K : Act → World → Prop} {Q : Exit → Act → World → Prop}
theorem wp_load50 (hx : a.eval x = .pointer (some ⟨blockOf (a.eval x), 0, none⟩)) (hb : IsRow w (blockOf (a.eval x)) 12) :
    Oper.wp Try.prog ⟨d, .load 50 x, ty, pos, after, guard⟩ a w K Q = K (a.put d (.agg (rowOf w (blockOf (a.eval x))))) w := wp_load_any _ 12 (fun g t' cs hB hk => run_loadVar_row w g t' 50 cs (0, 0) _ hB Try.underlying50 rfl (by rw [hk]; kernel_rfl)) hx hb
end
attribute [local go_sem ↓] wp_load50 wp_load53 wp_load56 wp_load28 wp_store53 wp_store56
attribute [local go_sem] blockOf aggOf Value.oneCell' isRow_alloc rowOf_alloc5 rowOf_alloc13 isRow_drew isRow_drewN rowOf_drew rowOf_drewN

set_option maxRecDepth 100000 in
set_option maxHeartbeats 4000000 in
theorem cells_walk (x : Sm) (hx : x.ok) (A : Option Addr) (n c : Nat) (fi se nn : Int) (w : World) (hA : Reads w w.heap.size 1 A n (int64s x.cells)) (hc : n ≤ c) (hcm : c ≤ 9223372036854775807) (hfi : 0 ≤ fi ∧ fi ≤ 255) (hse : 0 ≤ se ∧ se ≤ 255) :
    Calls Try.prog 4 #[.agg (x.cs (.slice A n c)), .int .u8 fi, .int .u8 se, .int .i64 nn] w fun e w' => e = .returned (.bool true) ∧ Below w.heap.size w w' := by
  have MD := Lib.hid (fun (X : World) (hX : Below w.heap.size w X) => made18_c x hx A none n c 0 0 X ((hA.below hX).more hX.size) hc hcm (by decide))
  have hm : (x.cells.take 12).length ≤ 12 := by rw [List.length_take]; omega
  clear hA
  obtain ⟨at_, q, xs, d, s⟩ := x
  obtain ⟨a0, a1, r0, d0, d1, s0, s1⟩ := hx
  have hMd : made18 ⟨at_, q, xs, d, s⟩ 0 = ⟨0, false, q, xs.take 12, d, mSends (s % 21).toNat⟩ := by
    unfold made18
    dsimp only
    rw [show at_ % ((max 0 1 : Nat) : Int) = 0 by rw [show ((max 0 1 : Nat) : Int) = 1 from rfl]; omega]
  rw [hMd] at MD
  dsimp only at MD hm a0 a1 r0 d0 d1 s0 s1
  obtain ⟨ys, hys⟩ : ∃ ys, ys = xs.take 12 := ⟨_, rfl⟩
  obtain ⟨N, hN⟩ : ∃ N, N = (s % 21).toNat := ⟨_, rfl⟩
  have hN20 : N ≤ 20 := by omega
  rw [← hys, ← hN] at MD
  rw [← hys] at hm
  rw [mSends_len] at MD
  obtain ⟨m, hml⟩ : ∃ m, m = ys.length := ⟨_, rfl⟩
  rw [← hml] at MD hm
  have HM := Lib.hid hml
  clear hys hN hMd hml r0
  unfold Sm.cs at MD ⊢
  unfold St.v at MD
  dsimp only at MD ⊢
  obtain ⟨Z0, hZ0⟩ : ∃ Z, Z = zeroSt := ⟨_, rfl⟩
  have HZ := Lib.hid hZ0
  clear hZ0
  obtain ⟨b0, hb0⟩ : ∃ b0, (if (-1 : Int) < nn then -1 else nn) = b0 := ⟨_, rfl⟩
  obtain ⟨b1, hb1⟩ : ∃ b1, (if nn < (m : Int) then (m : Int) else nn) = b1 := ⟨_, rfl⟩
  have hA0 : AW w [] [] w := ⟨Below.refl _ _, by simp, by simp⟩
  go_enter Try.func4, Try.ntmps4
  go_upto_region 1 with fail
  have hA1 := hA0.put 50 #[.int .u8 at_, .int .i64 (q 0), .int .i64 (q 1), .int .i64 (q 2), .int .i64 (q 3), .int .i64 (q 4), .int .i64 (q 5), .int .i64 (q 6), .int .i64 (q 7), .slice A n c, .int .u32 d, .int .u8 s]
  obtain ⟨W, hW⟩ : ∃ W, W = (w.alloc (.cells #[.int .u8 at_, .int .i64 (q 0), .int .i64 (q 1), .int .i64 (q 2), .int .i64 (q 3), .int .i64 (q 4), .int .i64 (q 5), .int .i64 (q 6), .int .i64 (q 7), .slice A n c, .int .u32 d, .int .u8 s] 50)) := ⟨_, rfl⟩
  rw [← hW] at hA1 ⊢
  clear hW hA0
  go_wp2_with fail
  go_at_call 23
  refine (awake18_c W).mono ?_
  rintro e W1 ⟨rfl, hb⟩
  have hA2 := hA1.call hb
  clear hb hA1
  have p4 : IsRow W1 w.heap.size 12 := (hA2.l _ (.head _)).isRow rfl
  have q4 : rowOf W1 w.heap.size = #[.int .u8 at_, .int .i64 (q 0), .int .i64 (q 1), .int .i64 (q 2), .int .i64 (q 3), .int .i64 (q 4), .int .i64 (q 5), .int .i64 (q 6), .int .i64 (q 7), .slice A n c, .int .u32 d, .int .u8 s] := (hA2.l _ (.head _)).rowOf_eq
  go_wp2_with fail
  clear p4 q4
  go_at_call 24
  refine (MD.out W1 hA2.b).mono ?_
  rintro e W2 ⟨C, S, rfl, ho1, ho2, hb⟩
  obtain ⟨A1, k1, rfl⟩ := own_slice ho1
  obtain ⟨A2, k2, rfl⟩ := own_slice ho2
  have hA3 : AW w [] [] W2 := (hA2.call hb).less (by simp) (by simp)
  have hR1 := Reads.of_own ho1
  have hR2 := Reads.of_own ho2
  have hnA : ∀ ad, A1 = some ad → ad.block ≠ W2.heap.size := fun ad e => Nat.ne_of_lt (own_lt ho1 ad e)
  have hnD : ∀ ad, A2 = some ad → ad.block ≠ W2.heap.size := fun ad e => Nat.ne_of_lt (own_lt ho2 ad e)
  clear ho1 ho2 hb hA2 MD
  have hC0 : CW w W2.heap.size [] [⟨1, A1, m, int64s ys⟩, ⟨3, A2, N, sndsV (mSends N)⟩] W2 := ⟨(hA3.read hR2).read hR1, hA3.b.size, fun e he => by
    simp only [List.mem_cons, List.not_mem_nil, or_false] at he
    rcases he with rfl | rfl
    · exact hnA
    · exact hnD⟩
  clear hnA hnD hR1 hR2 hA3
  go_upto_region 4 with fail
  have hC1 := hC0.put 53 #[.int .i64 0, .bool false, .int .i64 (q 0), .int .i64 (q 1), .int .i64 (q 2), .int .i64 (q 3), .int .i64 (q 4), .int .i64 (q 5), .int .i64 (q 6), .int .i64 (q 7), .slice A1 m k1, .int .i64 d, .slice A2 N k2] rfl
  obtain ⟨G, hG⟩ : ∃ G, G = W2.heap.size := ⟨_, rfl⟩
  obtain ⟨W3, hW⟩ : ∃ W, W = (W2.alloc (.cells #[.int .i64 0, .bool false, .int .i64 (q 0), .int .i64 (q 1), .int .i64 (q 2), .int .i64 (q 3), .int .i64 (q 4), .int .i64 (q 5), .int .i64 (q 6), .int .i64 (q 7), .slice A1 m k1, .int .i64 d, .slice A2 N k2] 53)) := ⟨_, rfl⟩
  rw [← hW, ← hG] at hC1 ⊢
  clear hW hC0 hG
  have f9 : ∀ i, W3.frozen? ⟨G, i, none⟩ = false := fun i => (hC1.aw.l _ (.head _)).frozen i
  have z0 : W3.cell? ⟨G, 0, none⟩ = some (.int .i64 0) := (hC1.aw.l _ (.head _)).cell 0
  have z1 : W3.cell? ⟨G, 1, none⟩ = some (.bool false) := (hC1.aw.l _ (.head _)).cell 1
  go_upto_region 5 with fail
  have hC2 : CW w G (⟨G, 53, #[.int .i64 0, .bool false, .int .i64 (q 0), .int .i64 (q 1), .int .i64 (q 2), .int .i64 (q 3), .int .i64 (q 4), .int .i64 (q 5), .int .i64 (q 6), .int .i64 (q 7), .slice A1 m k1, .int .i64 d, .slice A2 N k2]⟩ :: []) _ _ := (hC1.upd (by simp) 0 (.int .i64 0)).upd (by simp) 1 (.bool false)
  obtain ⟨W4, hW⟩ : ∃ W, W = ((W3.setCell ⟨G, 0, none⟩ (.int .i64 0)).setCell ⟨G, 1, none⟩ (.bool false)) := ⟨_, rfl⟩
  rw [← hW] at hC2 ⊢
  clear hW hC1 f9 z0 z1
  go_upto_region 7 with fail
  have hC3 := ((hC2.put 56 #[.int .u64 0, .int .i64 0, .int .i64 0, .int .i64 1, .int .i64 0] rfl).put (g := W4.heap.size + 1) 28 #[.int .u8 6, .int .u8 0, .int .u8 1, .int .u8 0, .int .i64 0] (by simp)).put (g := W4.heap.size + 1 + 1) 28 #[.int .u8 5, .int .u8 2, .int .u8 1, .int .u8 0, .int .i64 0] (by simp)
  obtain ⟨W5, hW⟩ : ∃ W, W = (((W4.alloc (.cells #[.int .u64 0, .int .i64 0, .int .i64 0, .int .i64 1, .int .i64 0] 56)).alloc (.cells #[.int .u8 6, .int .u8 0, .int .u8 1, .int .u8 0, .int .i64 0] 28)).alloc (.cells #[.int .u8 5, .int .u8 2, .int .u8 1, .int .u8 0, .int .i64 0] 28)) := ⟨_, rfl⟩
  have hz5 : W4.heap.size + 3 = W5.heap.size := by rw [hW]; simp
  rw [← hW] at hC3 ⊢
  have hlG : G < W4.heap.size := (hC2.aw.l _ (.head _)).lt
  clear hW hC2
  have hC4 := hC3.put 2 #[.int .i64 b0, .int .i64 b1] rfl
  have z10 : W5.cell? ⟨G, 10, none⟩ = some (.slice A1 m k1) := (hC3.aw.l _ (.tail _ (.tail _ (.tail _ (.head _))))).cell 10
  have hmin : ∀ W : World, (Builtin.min_ #[2, 2] 2 #[.int .i64 nn, .int .i64 (-1)]).run Try.prog W = .ok (.int .i64 b0) W := fun W => min_i64 _ _ _ _ 0 _ hb0 W
  have hmax : ∀ W : World, (Builtin.max_ #[2, 2] 2 #[.int .i64 nn, .int .i64 (m : Int)]).run Try.prog W = .ok (.int .i64 b1) W := fun W => max_i64 _ _ _ _ 0 _ hb1 W
  have hb0' : b0 < 0 := by rw [← hb0]; split <;> omega
  have hb1' : (m : Int) ≤ b1 := by rw [← hb1]; split <;> omega
  clear hb0 hb1
  go_wp2
  obtain ⟨W6, hW⟩ : ∃ W, W = (W5.alloc (.cells #[.int .i64 b0, .int .i64 b1] 2)) := ⟨_, rfl⟩
  rw [← hW] at hC4 ⊢
  clear hW hC3 z10 hmin hmax
  have hC5 : CW w G (⟨G, 53, #[.int .i64 0, .bool false, .int .i64 (q 0), .int .i64 (q 1), .int .i64 (q 2), .int .i64 (q 3), .int .i64 (q 4), .int .i64 (q 5), .int .i64 (q 6), .int .i64 (q 7), .slice A1 m k1, .int .i64 d, .slice A2 N k2]⟩ :: [⟨W5.heap.size, 2, #[.int .i64 b0, .int .i64 b1]⟩, ⟨W4.heap.size + 1 + 1, 28, #[.int .u8 5, .int .u8 2, .int .u8 1, .int .u8 0, .int .i64 0]⟩, ⟨W4.heap.size + 1, 28, #[.int .u8 6, .int .u8 0, .int .u8 1, .int .u8 0, .int .i64 0]⟩, ⟨W4.heap.size, 56, #[.int .u64 0, .int .i64 0, .int .i64 0, .int .i64 1, .int .i64 0]⟩]) [⟨1, A1, m, int64s ys⟩, ⟨3, A2, N, sndsV (mSends N)⟩] W6 := hC4.less (by intro e he; simp only [List.mem_cons, List.not_mem_nil, or_false] at he; rcases he with rfl | rfl | rfl | rfl | rfl <;> simp) (fun _ h => h)
  have hne : ∀ e ∈ ([⟨W5.heap.size, 2, #[.int .i64 b0, .int .i64 b1]⟩, ⟨W4.heap.size + 1 + 1, 28, #[.int .u8 5, .int .u8 2, .int .u8 1, .int .u8 0, .int .i64 0]⟩, ⟨W4.heap.size + 1, 28, #[.int .u8 6, .int .u8 0, .int .u8 1, .int .u8 0, .int .i64 0]⟩, ⟨W4.heap.size, 56, #[.int .u64 0, .int .i64 0, .int .i64 0, .int .i64 1, .int .i64 0]⟩] : List Bk), e.g ≠ G := by
    intro e he
    simp only [List.mem_cons, List.not_mem_nil, or_false] at he
    rcases he with rfl | rfl | rfl | rfl <;> (dsimp only; omega)
  have NE := Lib.hid hne
  clear hne hC4
  go_loopw [41] (fun k wr => ∃ (j : Nat) (b : Int), k = .int .i64 j ∧ j ≤ 2 ∧ CW w G (⟨G, 53, #[.int .i64 0, .bool false, .int .i64 (q 0), .int .i64 b, .int .i64 (q 2), .int .i64 (q 3), .int .i64 (q 4), .int .i64 (q 5), .int .i64 (q 6), .int .i64 (q 7), .slice A1 m k1, .int .i64 d, .slice A2 N k2]⟩ :: [⟨W5.heap.size, 2, #[.int .i64 b0, .int .i64 b1]⟩, ⟨W4.heap.size + 1 + 1, 28, #[.int .u8 5, .int .u8 2, .int .u8 1, .int .u8 0, .int .i64 0]⟩, ⟨W4.heap.size + 1, 28, #[.int .u8 6, .int .u8 0, .int .u8 1, .int .u8 0, .int .i64 0]⟩, ⟨W4.heap.size, 56, #[.int .u64 0, .int .i64 0, .int .i64 0, .int .i64 1, .int .i64 0]⟩]) [⟨1, A1, m, int64s ys⟩, ⟨3, A2, N, sndsV (mSends N)⟩] wr) (fun k _ => 2 - (intOf k).toNat)
  case atStart => exact ⟨0, _, rfl, by omega, hC5⟩
  case round =>
    obtain ⟨j, b, rfl, hj, hC⟩ := hrel
    clear hC5
    by_cases hlt : j < 2
    · obtain ⟨bj, hbj, zz⟩ : ∃ bj : Int, (bj < 0 ∨ (m : Int) ≤ bj) ∧ wr.cell? ⟨W5.heap.size, j, none⟩ = some (.int .i64 bj) := by
        have hB := hC.aw.l _ (.tail _ (.head _))
        match j, hlt with
        | 0, _ => exact ⟨b0, Or.inl hb0', hB.cell 0⟩
        | 1, _ => exact ⟨b1, Or.inr hb1', hB.cell 1⟩
      have f9 : ∀ i, wr.frozen? ⟨G, i, none⟩ = false := fun i => (hC.aw.l _ (.head _)).frozen i
      have z3 : wr.cell? ⟨G, 3, none⟩ = some (.int .i64 b) := (hC.aw.l _ (.head _)).cell 3
      go_upto_region 11 with fail
      have hCa : CW w G (⟨G, 53, #[.int .i64 0, .bool false, .int .i64 (q 0), .int .i64 bj, .int .i64 (q 2), .int .i64 (q 3), .int .i64 (q 4), .int .i64 (q 5), .int .i64 (q 6), .int .i64 (q 7), .slice A1 m k1, .int .i64 d, .slice A2 N k2]⟩ :: [⟨W5.heap.size, 2, #[.int .i64 b0, .int .i64 b1]⟩, ⟨W4.heap.size + 1 + 1, 28, #[.int .u8 5, .int .u8 2, .int .u8 1, .int .u8 0, .int .i64 0]⟩, ⟨W4.heap.size + 1, 28, #[.int .u8 6, .int .u8 0, .int .u8 1, .int .u8 0, .int .i64 0]⟩, ⟨W4.heap.size, 56, #[.int .u64 0, .int .i64 0, .int .i64 0, .int .i64 1, .int .i64 0]⟩]) _ _ := hC.upd NE.out 3 (.int .i64 bj)
      obtain ⟨Wa, hW⟩ : ∃ W, W = (wr.setCell ⟨G, 3, none⟩ (.int .i64 bj)) := ⟨_, rfl⟩
      rw [← hW] at hCa ⊢
      clear hW hC f9 z3 zz
      have pUaI1 : IsRow Wa (W4.heap.size + 1) 5 := (hCa.aw.l _ (.tail _ (.tail _ (.tail _ (.head _))))).isRow rfl
      have qUaI1 := (hCa.aw.l _ (.tail _ (.tail _ (.tail _ (.head _))))).rowOf_eq
      dsimp only at qUaI1
      have pUaV : IsRow Wa W4.heap.size 5 := (hCa.aw.l _ (.tail _ (.tail _ (.tail _ (.tail _ (.head _)))))).isRow rfl
      have qUaV := (hCa.aw.l _ (.tail _ (.tail _ (.tail _ (.tail _ (.head _)))))).rowOf_eq
      dsimp only at qUaV
      have pUaG : IsRow Wa G 13 := (hCa.aw.l _ (.head _)).isRow rfl
      have qUaG := (hCa.aw.l _ (.head _)).rowOf_eq
      dsimp only at qUaG
      obtain ⟨hEUa, hTUa⟩ := cellx_bad 6 0 (Or.inl ⟨rfl, rfl⟩) ⟨0, false, (fun j => match j with | 0 => (q 0) | 1 => bj | 2 => (q 2) | 3 => (q 3) | 4 => (q 4) | 5 => (q 5) | 6 => (q 6) | _ => (q 7)), ys, d, mSends N⟩ (decide_eq_true ⟨by show (0 : Int) ≤ 0; decide, by show (0 : Int) < 2; decide, by show ((ys.length : Nat) : Int) ≤ 1024; rw [← HM.out]; omega, d0, by show d ≤ 1099511627776; omega⟩) rfl rfl (by show bj < 0 ∨ ((ys.length : Nat) : Int) ≤ bj; rw [← HM.out]; exact hbj)
      go_wp2_with fail
      clear pUaI1 qUaI1 pUaV qUaV pUaG qUaG
      go_at_call 25
      refine (one_t ⟨6, 0, 1, 0, 0⟩ (ok_cell 6 0 (Or.inl ⟨rfl, rfl⟩)) cV ⟨0, false, (fun j => match j with | 0 => (q 0) | 1 => bj | 2 => (q 2) | 3 => (q 3) | 4 => (q 4) | 5 => (q 5) | 6 => (q 6) | _ => (q 7)), ys, d, mSends N⟩ Z0 185 (hTUa.trans HZ.out.symm) hEUa 0 0 (by rw [HZ.out]; rfl) (by rw [HZ.out]; rfl) A1 A2 m N k1 k2 (by omega) Wa (hCa.aw.r _ (.head _)) (hCa.aw.r _ (.tail _ (.head _)))).mono ?_
      rintro e Ua ⟨B1, x1, B2, x2, rfl, -, -, hb⟩
      have hVUa := hCa.call hb
      clear hb hCa hEUa hTUa
      go_upto_region 12 with fail
      have hCb := hVUa.putx (.cells #[.int .i64 Z0.at_, .bool Z0.ended, .int .i64 (Z0.regs 0), .int .i64 (Z0.regs 1), .int .i64 (Z0.regs 2), .int .i64 (Z0.regs 3), .int .i64 (Z0.regs 4), .int .i64 (Z0.regs 5), .int .i64 (Z0.regs 6), .int .i64 (Z0.regs 7), .slice B1 0 x1, .int .i64 Z0.draws, .slice B2 0 x2] 53)
      obtain ⟨Wb, hW⟩ : ∃ W, W = (Ua.alloc (.cells #[.int .i64 Z0.at_, .bool Z0.ended, .int .i64 (Z0.regs 0), .int .i64 (Z0.regs 1), .int .i64 (Z0.regs 2), .int .i64 (Z0.regs 3), .int .i64 (Z0.regs 4), .int .i64 (Z0.regs 5), .int .i64 (Z0.regs 6), .int .i64 (Z0.regs 7), .slice B1 0 x1, .int .i64 Z0.draws, .slice B2 0 x2] 53)) := ⟨_, rfl⟩
      rw [← hW] at hCb ⊢
      clear hW hVUa
      have pUbI2 : IsRow Wb (W4.heap.size + 1 + 1) 5 := (hCb.aw.l _ (.tail _ (.tail _ (.head _)))).isRow rfl
      have qUbI2 := (hCb.aw.l _ (.tail _ (.tail _ (.head _)))).rowOf_eq
      dsimp only at qUbI2
      have pUbV : IsRow Wb W4.heap.size 5 := (hCb.aw.l _ (.tail _ (.tail _ (.tail _ (.tail _ (.head _)))))).isRow rfl
      have qUbV := (hCb.aw.l _ (.tail _ (.tail _ (.tail _ (.tail _ (.head _)))))).rowOf_eq
      dsimp only at qUbV
      have pUbG : IsRow Wb G 13 := (hCb.aw.l _ (.head _)).isRow rfl
      have qUbG := (hCb.aw.l _ (.head _)).rowOf_eq
      dsimp only at qUbG
      obtain ⟨hEUb, hTUb⟩ := cellx_bad 5 2 (Or.inr ⟨rfl, rfl⟩) ⟨0, false, (fun j => match j with | 0 => (q 0) | 1 => bj | 2 => (q 2) | 3 => (q 3) | 4 => (q 4) | 5 => (q 5) | 6 => (q 6) | _ => (q 7)), ys, d, mSends N⟩ (decide_eq_true ⟨by show (0 : Int) ≤ 0; decide, by show (0 : Int) < 2; decide, by show ((ys.length : Nat) : Int) ≤ 1024; rw [← HM.out]; omega, d0, by show d ≤ 1099511627776; omega⟩) rfl rfl (by show bj < 0 ∨ ((ys.length : Nat) : Int) ≤ bj; rw [← HM.out]; exact hbj)
      go_wp2_with fail
      clear pUbI2 qUbI2 pUbV qUbV pUbG qUbG
      go_at_call 25
      refine (one_t ⟨5, 2, 1, 0, 0⟩ (ok_cell 5 2 (Or.inr ⟨rfl, rfl⟩)) cV ⟨0, false, (fun j => match j with | 0 => (q 0) | 1 => bj | 2 => (q 2) | 3 => (q 3) | 4 => (q 4) | 5 => (q 5) | 6 => (q 6) | _ => (q 7)), ys, d, mSends N⟩ Z0 185 (hTUb.trans HZ.out.symm) hEUb 0 0 (by rw [HZ.out]; rfl) (by rw [HZ.out]; rfl) A1 A2 m N k1 k2 (by omega) Wb (hCb.aw.r _ (.head _)) (hCb.aw.r _ (.tail _ (.head _)))).mono ?_
      rintro e Ub ⟨B1, x1, B2, x2, rfl, -, -, hb⟩
      have hVUb := hCb.call hb
      clear hb hCb hEUb hTUb
      have hCc := hVUb.putx (.cells #[.int .i64 Z0.at_, .bool Z0.ended, .int .i64 (Z0.regs 0), .int .i64 (Z0.regs 1), .int .i64 (Z0.regs 2), .int .i64 (Z0.regs 3), .int .i64 (Z0.regs 4), .int .i64 (Z0.regs 5), .int .i64 (Z0.regs 6), .int .i64 (Z0.regs 7), .slice B1 0 x1, .int .i64 Z0.draws, .slice B2 0 x2] 53)
      clear hVUb
      go_wp2
      go_roundw
      case rel => exact ⟨j + 1, bj, by go_num, by omega, hCc⟩
      case measure => simp [intOf]; omega
    · have hj2 : j = 2 := by omega
      subst hj2
      clear hlt hj hb0' hb1'
      have z10 : wr.cell? ⟨G, 10, none⟩ = some (.slice A1 m k1) := (hC.aw.l _ (.head _)).cell 10
      have hltG : G < wr.heap.size := (hC.aw.l _ (.head _)).lt
      by_cases hm0 : m = 0
      · subst hm0
        have hbB := hC.aw.b
        clear hC
        go_wp2_with fail
        go_ret
        exact ⟨rfl, hbB⟩
      · obtain ⟨I, hI⟩ : ∃ I : Nat, (I : Int) = fi % m := ⟨(fi % m).toNat, by have := Int.emod_nonneg fi (b := m) (by omega); omega⟩
        obtain ⟨K, hK⟩ : ∃ K : Nat, (K : Int) = se % m := ⟨(se % m).toNat, by have := Int.emod_nonneg se (b := m) (by omega); omega⟩
        have hIm : I < m := by have := Int.emod_lt_of_pos fi (b := m) (by omega); omega
        have hKm : K < m := by have := Int.emod_lt_of_pos se (b := m) (by omega); omega
        have e1 : Int.tmod fi m = I := by rw [hI]; exact Int.tmod_eq_emod_of_nonneg hfi.1
        have e2 : Int.tmod se m = K := by rw [hK]; exact Int.tmod_eq_emod_of_nonneg hse.1
        have e3 : fi % m = I := hI.symm
        have e4 : se % m = K := hK.symm
        have w1 : wrap64 fi = fi := by unfold wrap64; omega
        have w2 : wrap64 se = se := by unfold wrap64; omega
        have v1 : IntKind.i64.wrap fi = fi := by simp [IntKind.wrap, IntKind.bits, IntKind.signed]; omega
        have v2 : IntKind.i64.wrap se = se := by simp [IntKind.wrap, IntKind.bits, IntKind.signed]; omega
        have n1 : ((m : Int) == 0) = false := by simp; omega
        have n2 : (m : Int) ≠ 0 := by omega
        have n3 : decide ((m : Int) = 0) = false := decide_eq_false n2
        clear hI hK
        go_upto_region 18 with fail
        go_quiet (fail)
        clear e1 e2 e3 e4 w1 w2 v1 v2 n1 n2 n3
        have hC7 := hC.drewN nq
        obtain ⟨W7, hW⟩ : ∃ W, W = wr.drewN nq := ⟨_, rfl⟩
        rw [← hW] at hC7 ⊢
        clear hW hC z10 hltG
        obtain ⟨ad, x, rfl, hx1, hx2, hx3⟩ := (hC7.aw.r _ (.head _)).i64_at hKm
        have z10 : W7.cell? ⟨G, 10, none⟩ = some (.slice (some ad) m k1) := (hC7.aw.l _ (.head _)).cell 10
        have f9 : ∀ i, W7.frozen? ⟨G, i, none⟩ = false := fun i => (hC7.aw.l _ (.head _)).frozen i
        have z2 : W7.cell? ⟨G, 2, none⟩ = some (.int .i64 (q 0)) := (hC7.aw.l _ (.head _)).cell 2
        have z3 : W7.cell? ⟨G, 3, none⟩ = some (.int .i64 b) := (hC7.aw.l _ (.head _)).cell 3
        have HX := Lib.hid hx2
        have k0 : (0 : Int) ≤ (K : Int) := by omega
        have k1' : (K : Int) < (m : Int) := by omega
        clear hx2
        go_upto_region 21 with fail
        have hC8 : CW w G (⟨G, 53, #[.int .i64 0, .bool false, .int .i64 nn, .int .i64 (I : Int), .int .i64 (q 2), .int .i64 (q 3), .int .i64 (q 4), .int .i64 (q 5), .int .i64 (q 6), .int .i64 (q 7), .slice (some ad) m k1, .int .i64 d, .slice A2 N k2]⟩ :: [⟨W5.heap.size, 2, #[.int .i64 b0, .int .i64 b1]⟩, ⟨W4.heap.size + 1 + 1, 28, #[.int .u8 5, .int .u8 2, .int .u8 1, .int .u8 0, .int .i64 0]⟩, ⟨W4.heap.size + 1, 28, #[.int .u8 6, .int .u8 0, .int .u8 1, .int .u8 0, .int .i64 0]⟩, ⟨W4.heap.size, 56, #[.int .u64 0, .int .i64 0, .int .i64 0, .int .i64 1, .int .i64 0]⟩]) _ _ := (hC7.upd NE.out 2 (.int .i64 nn)).upd NE.out 3 (.int .i64 (I : Int))
        obtain ⟨W8, hW⟩ : ∃ W, W = ((W7.setCell ⟨G, 2, none⟩ (.int .i64 nn)).setCell ⟨G, 3, none⟩ (.int .i64 (I : Int))) := ⟨_, rfl⟩
        rw [← hW] at hC8 ⊢
        clear hW hC7 z10 f9 z2 z3 hx1 hx3 k0 k1'
        have peI1 : IsRow W8 (W4.heap.size + 1) 5 := (hC8.aw.l _ (.tail _ (.tail _ (.tail _ (.head _))))).isRow rfl
        have qeI1 := (hC8.aw.l _ (.tail _ (.tail _ (.tail _ (.head _))))).rowOf_eq
        dsimp only at qeI1
        have peV : IsRow W8 W4.heap.size 5 := (hC8.aw.l _ (.tail _ (.tail _ (.tail _ (.tail _ (.head _)))))).isRow rfl
        have qeV := (hC8.aw.l _ (.tail _ (.tail _ (.tail _ (.tail _ (.head _)))))).rowOf_eq
        dsimp only at qeV
        have peG : IsRow W8 G 13 := (hC8.aw.l _ (.head _)).isRow rfl
        have qeG := (hC8.aw.l _ (.head _)).rowOf_eq
        dsimp only at qeG
        have hyl : (ys.set I nn).length = m := by rw [List.length_set, HM.out]
        obtain ⟨hEe, hTe⟩ := cell_store ⟨0, false, (fun j => match j with | 0 => nn | 1 => (I : Int) | 2 => (q 2) | 3 => (q 3) | 4 => (q 4) | 5 => (q 5) | 6 => (q 6) | _ => (q 7)), ys, d, mSends N⟩ (decide_eq_true ⟨by show (0 : Int) ≤ 0; decide, by show (0 : Int) < 2; decide, by show ((ys.length : Nat) : Int) ≤ 1024; rw [← HM.out]; omega, d0, by show d ≤ 1099511627776; omega⟩) rfl rfl I rfl (by show I < ys.length; rw [← HM.out]; exact hIm)
        go_wp2_with fail
        clear peI1 qeI1 peV qeV peG qeG
        go_at_call 25
        refine (one_t ⟨6, 0, 1, 0, 0⟩ (ok_cell 6 0 (Or.inl ⟨rfl, rfl⟩)) cV ⟨0, false, (fun j => match j with | 0 => nn | 1 => (I : Int) | 2 => (q 2) | 3 => (q 3) | 4 => (q 4) | 5 => (q 5) | 6 => (q 6) | _ => (q 7)), ys, d, mSends N⟩ ⟨1, false, (fun j => match j with | 0 => nn | 1 => (I : Int) | 2 => (q 2) | 3 => (q 3) | 4 => (q 4) | 5 => (q 5) | 6 => (q 6) | _ => (q 7)), ys.set I nn, d, mSends N⟩ 0 (hTe.trans rfl) hEe m N hyl (mSends_len N) (some ad) A2 m N k1 k2 (by omega) W8 (hC8.aw.r _ (.head _)) (hC8.aw.r _ (.tail _ (.head _)))).mono ?_
        rintro e U9 ⟨B1, x1, B2, x2, rfl, ⟨hr1, hf1⟩, ⟨hr2, hf2⟩, hb⟩
        have hlG8 : G < W8.heap.size := (hC8.aw.l _ (.head _)).lt
        have hC9 := (((hC8.call hb).read hr2 (fun ad h => by have := hf2 ad h; omega)).read hr1 (fun ad h => by have := hf1 ad h; omega)).row NE.out #[.int .i64 1, .bool false, .int .i64 nn, .int .i64 (I : Int), .int .i64 (q 2), .int .i64 (q 3), .int .i64 (q 4), .int .i64 (q 5), .int .i64 (q 6), .int .i64 (q 7), .slice B1 m x1, .int .i64 d, .slice B2 N x2]
        have pG : IsRow U9 G 13 := ((hC8.call hb).aw.l _ (.head _)).isRow rfl
        have hC9' : CW w G (⟨G, 53, #[.int .i64 1, .bool false, .int .i64 nn, .int .i64 (I : Int), .int .i64 (q 2), .int .i64 (q 3), .int .i64 (q 4), .int .i64 (q 5), .int .i64 (q 6), .int .i64 (q 7), .slice B1 m x1, .int .i64 d, .slice B2 N x2]⟩ :: [⟨W5.heap.size, 2, #[.int .i64 b0, .int .i64 b1]⟩, ⟨W4.heap.size + 1 + 1, 28, #[.int .u8 5, .int .u8 2, .int .u8 1, .int .u8 0, .int .i64 0]⟩, ⟨W4.heap.size + 1, 28, #[.int .u8 6, .int .u8 0, .int .u8 1, .int .u8 0, .int .i64 0]⟩, ⟨W4.heap.size, 56, #[.int .u64 0, .int .i64 0, .int .i64 0, .int .i64 1, .int .i64 0]⟩]) [⟨1, B1, m, int64s (ys.set I nn)⟩, ⟨3, B2, N, sndsV (mSends N)⟩] (U9.setRow G #[.int .i64 1, .bool false, .int .i64 nn, .int .i64 (I : Int), .int .i64 (q 2), .int .i64 (q 3), .int .i64 (q 4), .int .i64 (q 5), .int .i64 (q 6), .int .i64 (q 7), .slice B1 m x1, .int .i64 d, .slice B2 N x2]) := hC9.less (fun _ h => h) (by intro e he; simp only [List.mem_cons, List.not_mem_nil, or_false] at he; rcases he with rfl | rfl <;> simp)
        clear hC9 hb hC8 hEe hTe hr1 hr2 hf1 hf2
        go_upto_region 22 with fail
        obtain ⟨W9, hW⟩ : ∃ W, W = U9.setRow G #[.int .i64 1, .bool false, .int .i64 nn, .int .i64 (I : Int), .int .i64 (q 2), .int .i64 (q 3), .int .i64 (q 4), .int .i64 (q 5), .int .i64 (q 6), .int .i64 (q 7), .slice B1 m x1, .int .i64 d, .slice B2 N x2] := ⟨_, rfl⟩
        rw [← hW] at hC9' ⊢
        clear hW pG hlG8
        have f9 : ∀ i, W9.frozen? ⟨G, i, none⟩ = false := fun i => (hC9'.aw.l _ (.head _)).frozen i
        have z0 : W9.cell? ⟨G, 0, none⟩ = some (.int .i64 1) := (hC9'.aw.l _ (.head _)).cell 0
        have z3 : W9.cell? ⟨G, 3, none⟩ = some (.int .i64 (I : Int)) := (hC9'.aw.l _ (.head _)).cell 3
        go_upto_region 25 with fail
        have hC10 : CW w G (⟨G, 53, #[.int .i64 0, .bool false, .int .i64 nn, .int .i64 (K : Int), .int .i64 (q 2), .int .i64 (q 3), .int .i64 (q 4), .int .i64 (q 5), .int .i64 (q 6), .int .i64 (q 7), .slice B1 m x1, .int .i64 d, .slice B2 N x2]⟩ :: [⟨W5.heap.size, 2, #[.int .i64 b0, .int .i64 b1]⟩, ⟨W4.heap.size + 1 + 1, 28, #[.int .u8 5, .int .u8 2, .int .u8 1, .int .u8 0, .int .i64 0]⟩, ⟨W4.heap.size + 1, 28, #[.int .u8 6, .int .u8 0, .int .u8 1, .int .u8 0, .int .i64 0]⟩, ⟨W4.heap.size, 56, #[.int .u64 0, .int .i64 0, .int .i64 0, .int .i64 1, .int .i64 0]⟩]) _ _ := (hC9'.upd NE.out 0 (.int .i64 0)).upd NE.out 3 (.int .i64 (K : Int))
        obtain ⟨W10, hW⟩ : ∃ W, W = ((W9.setCell ⟨G, 0, none⟩ (.int .i64 0)).setCell ⟨G, 3, none⟩ (.int .i64 (K : Int))) := ⟨_, rfl⟩
        rw [← hW] at hC10 ⊢
        clear hW hC9' f9 z0 z3
        have pfI2 : IsRow W10 (W4.heap.size + 1 + 1) 5 := (hC10.aw.l _ (.tail _ (.tail _ (.head _)))).isRow rfl
        have qfI2 := (hC10.aw.l _ (.tail _ (.tail _ (.head _)))).rowOf_eq
        dsimp only at qfI2
        have pfV : IsRow W10 W4.heap.size 5 := (hC10.aw.l _ (.tail _ (.tail _ (.tail _ (.tail _ (.head _)))))).isRow rfl
        have qfV := (hC10.aw.l _ (.tail _ (.tail _ (.tail _ (.tail _ (.head _)))))).rowOf_eq
        dsimp only at qfV
        have pfG : IsRow W10 G 13 := (hC10.aw.l _ (.head _)).isRow rfl
        have qfG := (hC10.aw.l _ (.head _)).rowOf_eq
        dsimp only at qfG
        obtain ⟨hEf, hTf⟩ := cell_load ⟨0, false, (fun j => match j with | 0 => nn | 1 => (K : Int) | 2 => (q 2) | 3 => (q 3) | 4 => (q 4) | 5 => (q 5) | 6 => (q 6) | _ => (q 7)), ys.set I nn, d, mSends N⟩ (decide_eq_true ⟨by show (0 : Int) ≤ 0; decide, by show (0 : Int) < 2; decide, by show (((ys.set I nn).length : Nat) : Int) ≤ 1024; rw [hyl]; omega, d0, by show d ≤ 1099511627776; omega⟩) rfl rfl K rfl (by show K < (ys.set I nn).length; rw [hyl]; exact hKm)
        obtain ⟨T2, hT2⟩ : ∃ T, T = St.put ⟨0, false, (fun j => match j with | 0 => nn | 1 => (K : Int) | 2 => (q 2) | 3 => (q 3) | 4 => (q 4) | 5 => (q 5) | 6 => (q 6) | _ => (q 7)), ys.set I nn, d, mSends N⟩ 2 ((ys.set I nn).getD K 0) := ⟨_, rfl⟩
        have HT2 := Lib.hid hT2
        clear hT2
        go_wp2_with fail
        clear pfI2 qfI2 pfV qfV pfG qfG
        go_at_call 25
        refine (one_t ⟨5, 2, 1, 0, 0⟩ (ok_cell 5 2 (Or.inr ⟨rfl, rfl⟩)) cV ⟨0, false, (fun j => match j with | 0 => nn | 1 => (K : Int) | 2 => (q 2) | 3 => (q 3) | 4 => (q 4) | 5 => (q 5) | 6 => (q 6) | _ => (q 7)), ys.set I nn, d, mSends N⟩ T2 0 (hTf.trans HT2.out.symm) hEf m N (by rw [HT2.out]; exact hyl) (by rw [HT2.out]; exact mSends_len N) B1 B2 m N x1 x2 (by omega) W10 (hC10.aw.r _ (.head _)) (hC10.aw.r _ (.tail _ (.head _)))).mono ?_
        rintro e U11 ⟨D1, y1, D2, y2, rfl, -, -, hb⟩
        have hC11 := (hC10.call hb).row NE.out #[.int .i64 T2.at_, .bool T2.ended, .int .i64 (T2.regs 0), .int .i64 (T2.regs 1), .int .i64 (T2.regs 2), .int .i64 (T2.regs 3), .int .i64 (T2.regs 4), .int .i64 (T2.regs 5), .int .i64 (T2.regs 6), .int .i64 (T2.regs 7), .slice D1 m y1, .int .i64 T2.draws, .slice D2 N y2]
        have pG : IsRow U11 G 13 := ((hC10.call hb).aw.l _ (.head _)).isRow rfl
        clear hb hC10 hEf hTf
        go_upto_region 26 with fail
        obtain ⟨W11, hW⟩ : ∃ W, W = U11.setRow G #[.int .i64 T2.at_, .bool T2.ended, .int .i64 (T2.regs 0), .int .i64 (T2.regs 1), .int .i64 (T2.regs 2), .int .i64 (T2.regs 3), .int .i64 (T2.regs 4), .int .i64 (T2.regs 5), .int .i64 (T2.regs 6), .int .i64 (T2.regs 7), .slice D1 m y1, .int .i64 T2.draws, .slice D2 N y2] := ⟨_, rfl⟩
        rw [← hW] at hC11 ⊢
        clear hW pG
        have z4 : W11.cell? ⟨G, 4, none⟩ = some (.int .i64 (T2.regs 2)) := (hC11.aw.l _ (.head _)).cell 4
        have hT4 : T2.regs 2 = (ys.set I nn).getD K 0 := by rw [HT2.out]; rfl
        have hbB := hC11.aw.b
        rw [hT4] at z4
        clear hT4 hC11
        by_cases hIK : I = K
        · have hv : (ys.set I nn).getD K 0 = nn := by rw [hIK, List.getD_eq_getElem?_getD, List.getElem?_set_self (by rw [← HM.out]; exact hKm)]; rfl
          rw [hv] at z4
          clear hv
          subst hIK
          go_wp2_with fail
          go_ret
          exact ⟨rfl, hbB⟩
        · have hv : (ys.set I nn).getD K 0 = x := by rw [List.getD_eq_getElem?_getD, List.getElem?_set_ne hIK, HX.out]; rfl
          rw [hv] at z4
          have hIK' : ((I : Int) == (K : Int)) = false := by simp; omega
          have hIK2 : decide ((I : Int) = (K : Int)) = false := by simp; omega
          have hIK3 : ¬ (I : Int) = (K : Int) := by omega
          clear hv hIK
          go_wp2_with fail
          go_ret
          exact ⟨rfl, hbB⟩

end Go.Proofs.Ytmljmabbopkpiaa
