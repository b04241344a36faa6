/- fermatalaw18.one and the closure of awake: an instruction, behind which there is a Halt. -/
import Derived.Test.YtmljmabbopkpiaaDoTop
namespace Go.Proofs.Ytmljmabbopkpiaa
open Go.RowKit
set_option linter.unusedVariables false
set_option linter.unusedSimpArgs false

theorem reads_new (X : World) (t : TypeId) (cs : Array Value) (k n B gg : Nat) (h : gg = X.heap.size) (hB : gg < B) (hl : cs.size = n * k) : Reads (X.alloc (.cells cs t)) B k (some ⟨gg, 0, none⟩) n cs.toList := by
  subst h
  refine ⟨by simpa using hl, fun _ => ⟨_, rfl, hB, fun j u hu => ?_⟩⟩
  rw [Addr.add_lit, cell_of_row _ _ _ _ _ _ (heap_alloc_new X _), Nat.zero_add]
  simpa using hu
def haltI : Ins := ⟨1, 0, 0, 0, 0⟩
theorem haltI_ok : haltI.ok := ⟨by decide, by decide, by decide, by decide, by decide, by decide, by decide, by decide, by decide, by decide⟩
structure OK4 (w : World) (is vs cs : Array Value) (W : World) : Prop where
  b : Below w.heap.size w W
  n : w.heap.size + 4 ≤ W.heap.size
  i : Blk W w.heap.size 28 is
  v : Blk W (w.heap.size + 1) 56 vs
  s : Blk W (w.heap.size + 1 + 1) 53 cs
  r : Blk W (w.heap.size + 1 + 1 + 1) 53 z13
theorem Blk.new_ {W : World} {t : TypeId} {cs : Array Value} {g : Nat} (h : g = W.heap.size) : Blk (W.alloc (.cells cs t)) g t cs := h ▸ Blk.new W t cs
theorem OK4.start (w : World) (is vs cs : Array Value) : OK4 w is vs cs ((((w.alloc (.cells is 28)).alloc (.cells vs 56)).alloc (.cells cs 53)).alloc (.cells z13 53)) :=
  ⟨((((Below.refl _ w).alloc (Nat.le_refl _) _).alloc (by simp) _).alloc (by simp; omega) _).alloc (by simp; omega) _, by simp,
    (((Blk.new_ rfl).alloc _).alloc _).alloc _, ((Blk.new_ (by simp)).alloc _).alloc _, (Blk.new_ (by simp)).alloc _, Blk.new_ (by simp)⟩
theorem OK4.alloc {w W : World} {is vs cs : Array Value} (h : OK4 w is vs cs W) (o : Obj) : OK4 w is vs cs (W.alloc o) := ⟨h.b.alloc h.b.size _, by have := h.n; simp; omega, h.i.alloc _, h.v.alloc _, h.s.alloc _, h.r.alloc _⟩
theorem one_fin {w W : World} {m n : Nat} {xs : List Int} {ys : List Snd} {C S : Value} {z cs : Array Value} (hb : Below w.heap.size w W) (hr : Blk W (w.heap.size + 1 + 1 + 1) 53 z)
    (hc : W.ownsRow w.heap.size 2 1 C m (int64s xs)) (hs : W.ownsRow w.heap.size 64 3 S n (sndsV ys)) :
    (W.setRow (w.heap.size + 1 + 1 + 1) cs).ownsRow w.heap.size 2 1 C m (int64s xs) ∧ (W.setRow (w.heap.size + 1 + 1 + 1) cs).ownsRow w.heap.size 64 3 S n (sndsV ys) ∧ Below w.heap.size w (W.setRow (w.heap.size + 1 + 1 + 1) cs) :=
  ⟨own_row hr hc (by decide), own_row hr hs (by decide), below_setRow hb (by omega) _⟩

set_option maxRecDepth 100000 in
set_option maxHeartbeats 2000000 in
theorem one18_c (i : Ins) (hi : i.ok) (v : Envi) (s : St) (B D : Option Addr) (m k d f : Nat) (hk : k ≤ 1000000) (w : World)
    (hc : Reads w w.heap.size 1 B m (int64s s.cells)) (hs : Reads w w.heap.size 3 D k (sndsV s.sends)) :
    Calls Try.prog 25 #[i.v, v.v, s.v (.slice B m d) (.slice D k f)] w fun e w' => ∃ C S, e = .returned (.tuple #[(topS [i, haltI] v s).v C S, .int .i64 (topE [i, haltI] v s)]) ∧
      w'.ownsRow w.heap.size 2 1 C (topS [i, haltI] v s).cells.length (int64s (topS [i, haltI] v s).cells) ∧ w'.ownsRow w.heap.size 64 3 S (topS [i, haltI] v s).sends.length (sndsV (topS [i, haltI] v s).sends) ∧ Below w.heap.size w w' := by
  have hok : ∀ x ∈ [i, haltI], x.ok := by
    intro x hx
    simp only [List.mem_cons, List.not_mem_nil, or_false] at hx
    rcases hx with rfl | rfl
    · exact hi
    · exact haltI_ok
  have HD := Lib.hid (fun (X : World) (A : Option Addr) (hX : Below w.heap.size w X) (hp : Reads X X.heap.size 5 A 2 (insV [i, haltI])) => Do_c A 2 2 (by decide) [i, haltI] hok v s B D m k d f hk X hp ((hc.below hX).more hX.size) ((hs.below hX).more hX.size))
  obtain ⟨E, hE⟩ : ∃ E, E = topE [i, haltI] v s := ⟨_, rfl⟩
  obtain ⟨T, hT⟩ : ∃ T, T = topS [i, haltI] v s := ⟨_, rfl⟩
  rw [← hE, ← hT] at HD ⊢
  clear hE hT hc hs hok hi
  have hst := OK4.start w #[.int .u8 i.op, .int .u8 i.a, .int .u8 i.b, .int .u8 i.c, .int .i64 i.n] #[.int .u64 v.seed, .int .i64 v.process, .int .i64 v.ports, .int .i64 v.look, .int .i64 v.now] #[.int .i64 s.at_, .bool s.ended, .int .i64 (s.regs 0), .int .i64 (s.regs 1), .int .i64 (s.regs 2), .int .i64 (s.regs 3), .int .i64 (s.regs 4), .int .i64 (s.regs 5), .int .i64 (s.regs 6), .int .i64 (s.regs 7), .slice B m d, .int .i64 s.draws, .slice D k f]
  unfold Envi.v St.v at HD
  unfold Ins.v Envi.v St.v
  go_enter Try.func25, Try.ntmps25
  go_upto_region 1 with fail
  obtain ⟨W0, hW0⟩ : ∃ W0, W0 = ((((w.alloc (.cells #[.int .u8 i.op, .int .u8 i.a, .int .u8 i.b, .int .u8 i.c, .int .i64 i.n] 28)).alloc (.cells #[.int .u64 v.seed, .int .i64 v.process, .int .i64 v.ports, .int .i64 v.look, .int .i64 v.now] 56)).alloc (.cells #[.int .i64 s.at_, .bool s.ended, .int .i64 (s.regs 0), .int .i64 (s.regs 1), .int .i64 (s.regs 2), .int .i64 (s.regs 3), .int .i64 (s.regs 4), .int .i64 (s.regs 5), .int .i64 (s.regs 6), .int .i64 (s.regs 7), .slice B m d, .int .i64 s.draws, .slice D k f] 53)).alloc (.cells z13 53)) := ⟨_, rfl⟩
  rw [← hW0] at hst ⊢
  clear hW0
  have hst2 := hst.alloc (.cells #[.int .u8 i.op, .int .u8 i.a, .int .u8 i.b, .int .u8 i.c, .int .i64 i.n, .int .u8 1, .int .u8 0, .int .u8 0, .int .u8 0, .int .i64 0] 28)
  have hrd : Reads (W0.alloc (.cells #[.int .u8 i.op, .int .u8 i.a, .int .u8 i.b, .int .u8 i.c, .int .i64 i.n, .int .u8 1, .int .u8 0, .int .u8 0, .int .u8 0, .int .i64 0] 28)) (W0.alloc (.cells #[.int .u8 i.op, .int .u8 i.a, .int .u8 i.b, .int .u8 i.c, .int .i64 i.n, .int .u8 1, .int .u8 0, .int .u8 0, .int .u8 0, .int .i64 0] 28)).heap.size 5 (some ⟨W0.heap.size, 0, none⟩) 2 (insV [i, haltI]) := reads_new W0 _ #[.int .u8 i.op, .int .u8 i.a, .int .u8 i.b, .int .u8 i.c, .int .i64 i.n, .int .u8 1, .int .u8 0, .int .u8 0, .int .u8 0, .int .i64 0] 5 2 _ _ rfl (by simp) rfl
  go_wp2_with (first
    | refine wpList_load_row (P := Try.prog) rfl 28 (.tmp 3) rfl (w.heap.size) rfl 28 _ (0, 0) _ hst.i Try.underlying28 rfl (by kernel_rfl) ?_
    | refine wpList_load_row (P := Try.prog) rfl 56 (.tmp 4) rfl (w.heap.size + 1) rfl 56 _ (0, 0) _ hst2.v Try.underlying56 rfl (by kernel_rfl) ?_
    | refine wpList_load_row (P := Try.prog) rfl 53 (.tmp 5) rfl (w.heap.size + 1 + 1) rfl 53 _ (0, 0) _ hst2.s Try.underlying53 rfl (by kernel_rfl) ?_)
  go_at_call 31
  refine (HD.out _ _ hst2.b hrd).mono ?_
  rintro e w5 ⟨C, S, rfl, hC, hS, hb5⟩
  obtain ⟨A1, k1, rfl⟩ := own_slice hC
  obtain ⟨A2, k2, rfl⟩ := own_slice hS
  have hr := hst2.r.below hb5 hst2.r.lt
  have hz := one_fin (cs := #[.int .i64 T.at_, .bool T.ended, .int .i64 (T.regs 0), .int .i64 (T.regs 1), .int .i64 (T.regs 2), .int .i64 (T.regs 3), .int .i64 (T.regs 4), .int .i64 (T.regs 5), .int .i64 (T.regs 6), .int .i64 (T.regs 7), .slice A1 T.cells.length k1, .int .i64 T.draws, .slice A2 T.sends.length k2]) (hst2.b.trans (hb5.mono hst2.b.size)) hr (own_more hC hst2.b.size) (own_more hS hst2.b.size)
  clear hst hst2 hrd hC hS hb5 HD
  go_wp2_with (refine wpList_store_row (P := Try.prog) rfl 53 (.tmp 6) (.tmp 14) rfl (w.heap.size + 1 + 1 + 1) #[.int .i64 T.at_, .bool T.ended, .int .i64 (T.regs 0), .int .i64 (T.regs 1), .int .i64 (T.regs 2), .int .i64 (T.regs 3), .int .i64 (T.regs 4), .int .i64 (T.regs 5), .int .i64 (T.regs 6), .int .i64 (T.regs 7), .slice A1 T.cells.length k1, .int .i64 T.draws, .slice A2 T.sends.length k2] rfl rfl 53 _ hr (by kernel_rfl) rfl (by kernel_rfl) ?_)
  (try simp only [Exit.inBlock, Exit.then])
  refine bodyPost_ret (v := .tuple #[.agg #[.int .i64 T.at_, .bool T.ended, .int .i64 (T.regs 0), .int .i64 (T.regs 1), .int .i64 (T.regs 2), .int .i64 (T.regs 3), .int .i64 (T.regs 4), .int .i64 (T.regs 5), .int .i64 (T.regs 6), .int .i64 (T.regs 7), .slice A1 T.cells.length k1, .int .i64 T.draws, .slice A2 T.sends.length k2], .int .i64 E]) (results_row_tmp (P := Try.prog) (p := 6) (u := 7) (ty := 53) rfl _ _ (w.heap.size + 1 + 1 + 1) 53 #[.int .i64 T.at_, .bool T.ended, .int .i64 (T.regs 0), .int .i64 (T.regs 1), .int .i64 (T.regs 2), .int .i64 (T.regs 3), .int .i64 (T.regs 4), .int .i64 (T.regs 5), .int .i64 (T.regs 6), .int .i64 (T.regs 7), .slice A1 T.cells.length k1, .int .i64 T.draws, .slice A2 T.sends.length k2] (0, 0) _ rfl (Blk.row hr _) Try.underlying53 rfl (by kernel_rfl)) rfl ?_
  exact ⟨_, _, rfl, hz.1, hz.2.1, hz.2.2⟩

set_option maxRecDepth 100000 in
set_option maxHeartbeats 2000000 in
theorem one60_c (i : Ins) (hi : i.ok) (v : Envi) (s : St) (B D : Option Addr) (m k d f : Nat) (hk : k ≤ 1000000) (w : World)
    (hc : Reads w w.heap.size 1 B m (int64s s.cells)) (hs : Reads w w.heap.size 3 D k (sndsV s.sends)) :
    Calls Try.prog 60 #[i.v, v.v, s.v (.slice B m d) (.slice D k f)] w fun e w' => ∃ C S, e = .returned (.tuple #[(topS [i, haltI] v s).v C S, .int .i64 (topE [i, haltI] v s)]) ∧
      w'.ownsRow w.heap.size 2 1 C (topS [i, haltI] v s).cells.length (int64s (topS [i, haltI] v s).cells) ∧ w'.ownsRow w.heap.size 64 3 S (topS [i, haltI] v s).sends.length (sndsV (topS [i, haltI] v s).sends) ∧ Below w.heap.size w w' := by
  have hok : ∀ x ∈ [i, haltI], x.ok := by
    intro x hx
    simp only [List.mem_cons, List.not_mem_nil, or_false] at hx
    rcases hx with rfl | rfl
    · exact hi
    · exact haltI_ok
  have HD := Lib.hid (fun (X : World) (A : Option Addr) (hX : Below w.heap.size w X) (hp : Reads X X.heap.size 5 A 2 (insV [i, haltI])) => Do_c A 2 2 (by decide) [i, haltI] hok v s B D m k d f hk X hp ((hc.below hX).more hX.size) ((hs.below hX).more hX.size))
  obtain ⟨E, hE⟩ : ∃ E, E = topE [i, haltI] v s := ⟨_, rfl⟩
  obtain ⟨T, hT⟩ : ∃ T, T = topS [i, haltI] v s := ⟨_, rfl⟩
  rw [← hE, ← hT] at HD ⊢
  clear hE hT hc hs hok hi
  have hst := OK4.start w #[.int .u8 i.op, .int .u8 i.a, .int .u8 i.b, .int .u8 i.c, .int .i64 i.n] #[.int .u64 v.seed, .int .i64 v.process, .int .i64 v.ports, .int .i64 v.look, .int .i64 v.now] #[.int .i64 s.at_, .bool s.ended, .int .i64 (s.regs 0), .int .i64 (s.regs 1), .int .i64 (s.regs 2), .int .i64 (s.regs 3), .int .i64 (s.regs 4), .int .i64 (s.regs 5), .int .i64 (s.regs 6), .int .i64 (s.regs 7), .slice B m d, .int .i64 s.draws, .slice D k f]
  unfold Envi.v St.v at HD
  unfold Ins.v Envi.v St.v
  go_enter Try.func60, Try.ntmps60
  go_upto_region 1 with fail
  obtain ⟨W0, hW0⟩ : ∃ W0, W0 = ((((w.alloc (.cells #[.int .u8 i.op, .int .u8 i.a, .int .u8 i.b, .int .u8 i.c, .int .i64 i.n] 28)).alloc (.cells #[.int .u64 v.seed, .int .i64 v.process, .int .i64 v.ports, .int .i64 v.look, .int .i64 v.now] 56)).alloc (.cells #[.int .i64 s.at_, .bool s.ended, .int .i64 (s.regs 0), .int .i64 (s.regs 1), .int .i64 (s.regs 2), .int .i64 (s.regs 3), .int .i64 (s.regs 4), .int .i64 (s.regs 5), .int .i64 (s.regs 6), .int .i64 (s.regs 7), .slice B m d, .int .i64 s.draws, .slice D k f] 53)).alloc (.cells z13 53)) := ⟨_, rfl⟩
  rw [← hW0] at hst ⊢
  clear hW0
  have hst2 := hst.alloc (.cells #[.int .u8 i.op, .int .u8 i.a, .int .u8 i.b, .int .u8 i.c, .int .i64 i.n, .int .u8 1, .int .u8 0, .int .u8 0, .int .u8 0, .int .i64 0] 28)
  have hrd : Reads (W0.alloc (.cells #[.int .u8 i.op, .int .u8 i.a, .int .u8 i.b, .int .u8 i.c, .int .i64 i.n, .int .u8 1, .int .u8 0, .int .u8 0, .int .u8 0, .int .i64 0] 28)) (W0.alloc (.cells #[.int .u8 i.op, .int .u8 i.a, .int .u8 i.b, .int .u8 i.c, .int .i64 i.n, .int .u8 1, .int .u8 0, .int .u8 0, .int .u8 0, .int .i64 0] 28)).heap.size 5 (some ⟨W0.heap.size, 0, none⟩) 2 (insV [i, haltI]) := reads_new W0 _ #[.int .u8 i.op, .int .u8 i.a, .int .u8 i.b, .int .u8 i.c, .int .i64 i.n, .int .u8 1, .int .u8 0, .int .u8 0, .int .u8 0, .int .i64 0] 5 2 _ _ rfl (by simp) rfl
  go_wp2_with (first
    | refine wpList_load_row (P := Try.prog) rfl 28 (.tmp 3) rfl (w.heap.size) rfl 28 _ (0, 0) _ hst.i Try.underlying28 rfl (by kernel_rfl) ?_
    | refine wpList_load_row (P := Try.prog) rfl 56 (.tmp 4) rfl (w.heap.size + 1) rfl 56 _ (0, 0) _ hst2.v Try.underlying56 rfl (by kernel_rfl) ?_
    | refine wpList_load_row (P := Try.prog) rfl 53 (.tmp 5) rfl (w.heap.size + 1 + 1) rfl 53 _ (0, 0) _ hst2.s Try.underlying53 rfl (by kernel_rfl) ?_)
  go_at_call 31
  refine (HD.out _ _ hst2.b hrd).mono ?_
  rintro e w5 ⟨C, S, rfl, hC, hS, hb5⟩
  obtain ⟨A1, k1, rfl⟩ := own_slice hC
  obtain ⟨A2, k2, rfl⟩ := own_slice hS
  have hr := hst2.r.below hb5 hst2.r.lt
  have hz := one_fin (cs := #[.int .i64 T.at_, .bool T.ended, .int .i64 (T.regs 0), .int .i64 (T.regs 1), .int .i64 (T.regs 2), .int .i64 (T.regs 3), .int .i64 (T.regs 4), .int .i64 (T.regs 5), .int .i64 (T.regs 6), .int .i64 (T.regs 7), .slice A1 T.cells.length k1, .int .i64 T.draws, .slice A2 T.sends.length k2]) (hst2.b.trans (hb5.mono hst2.b.size)) hr (own_more hC hst2.b.size) (own_more hS hst2.b.size)
  clear hst hst2 hrd hC hS hb5 HD
  go_wp2_with (refine wpList_store_row (P := Try.prog) rfl 53 (.tmp 6) (.tmp 14) rfl (w.heap.size + 1 + 1 + 1) #[.int .i64 T.at_, .bool T.ended, .int .i64 (T.regs 0), .int .i64 (T.regs 1), .int .i64 (T.regs 2), .int .i64 (T.regs 3), .int .i64 (T.regs 4), .int .i64 (T.regs 5), .int .i64 (T.regs 6), .int .i64 (T.regs 7), .slice A1 T.cells.length k1, .int .i64 T.draws, .slice A2 T.sends.length k2] rfl rfl 53 _ hr (by kernel_rfl) rfl (by kernel_rfl) ?_)
  (try simp only [Exit.inBlock, Exit.then])
  refine bodyPost_ret (v := .tuple #[.agg #[.int .i64 T.at_, .bool T.ended, .int .i64 (T.regs 0), .int .i64 (T.regs 1), .int .i64 (T.regs 2), .int .i64 (T.regs 3), .int .i64 (T.regs 4), .int .i64 (T.regs 5), .int .i64 (T.regs 6), .int .i64 (T.regs 7), .slice A1 T.cells.length k1, .int .i64 T.draws, .slice A2 T.sends.length k2], .int .i64 E]) (results_row_tmp (P := Try.prog) (p := 6) (u := 7) (ty := 53) rfl _ _ (w.heap.size + 1 + 1 + 1) 53 #[.int .i64 T.at_, .bool T.ended, .int .i64 (T.regs 0), .int .i64 (T.regs 1), .int .i64 (T.regs 2), .int .i64 (T.regs 3), .int .i64 (T.regs 4), .int .i64 (T.regs 5), .int .i64 (T.regs 6), .int .i64 (T.regs 7), .slice A1 T.cells.length k1, .int .i64 T.draws, .slice A2 T.sends.length k2] (0, 0) _ rfl (Blk.row hr _) Try.underlying53 rfl (by kernel_rfl)) rfl ?_
  exact ⟨_, _, rfl, hz.1, hz.2.1, hz.2.2⟩

end Go.Proofs.Ytmljmabbopkpiaa
