/- State.copied: a state whose lists are its own. -/
import Derived.Test.YtmljmabbopkpiaaOpen
import Derived.Test.YtmljmabbopkpiaaClone
import Derived.Deep.RegionLaw
import Derived.Deep.DrawnRows
import Derived.Deep.DeepCutAuto
import Derived.Handy
namespace Go.Proofs.Ytmljmabbopkpiaa
open Go.RowKit
set_option linter.unusedVariables false
set_option linter.unusedSimpArgs false
attribute [local go_sem ↓] Go.wp_at_zero Go.wp_at_succ


theorem own_more {w : World} {base base' : Nat} {e : TypeId} {size : Nat} {v : Value} {n : Nat} {xs : List Value} (h : w.ownsRow base e size v n xs) (hb : base' ≤ base) : w.ownsRow base' e size v n xs := by
  refine ⟨h.1, ?_⟩
  rcases h.2 with h2 | ⟨g, cap, cur, rfl, hb', hh, r⟩
  · exact .inl h2
  · exact .inr ⟨g, cap, cur, rfl, Nat.le_trans hb hb', hh, r⟩
abbrev cp13 (at_ : Int) (en : Bool) (r : Nat → Int) (C : Value) (dr : Int) (S : Value) : Array Value := #[.int .i64 at_, .bool en, .int .i64 (r 0), .int .i64 (r 1), .int .i64 (r 2), .int .i64 (r 3), .int .i64 (r 4), .int .i64 (r 5), .int .i64 (r 6), .int .i64 (r 7), C, .int .i64 dr, S]
abbrev z13 : Array Value := #[.int .i64 0, .bool false, .int .i64 0, .int .i64 0, .int .i64 0, .int .i64 0, .int .i64 0, .int .i64 0, .int .i64 0, .int .i64 0, .slice none 0 0, .int .i64 0, .slice none 0 0]
/-- what the region keeps: all below w's end, the box and the result's cell -/
structure CK (w : World) (cs : Array Value) (W : World) : Prop where
  b : Below w.heap.size w W
  x : Blk W w.heap.size 53 cs
  r : Blk W (w.heap.size + 1) 53 z13
section
variable {w W W' : World} {cs : Array Value}
theorem CK.drew (h : CK w cs W) : CK w cs W.drew := ⟨h.b.drew, h.x, h.r⟩
theorem CK.drewN (h : CK w cs W) (n : Nat) : CK w cs (W.drewN n) := ⟨below_drewNm h.b n, h.x, h.r⟩
theorem CK.call (h : CK w cs W) (hb : Below W.heap.size W W') : CK w cs W' := ⟨h.b.trans (hb.mono h.b.size), h.x.below hb h.x.lt, h.r.below hb h.r.lt⟩
theorem Reads.ck {k n : Nat} {A : Option Addr} {xs : List Value} (h : CK w cs W) (hr : Reads w w.heap.size k A n xs) : Reads W W.heap.size k A n xs := (hr.below h.b).more h.b.size
theorem ck_c62 (A : Option Addr) (m c : Nat) (xs : List Int) (hm : m ≤ 1000000) (hr : Reads w w.heap.size 1 A m (int64s xs)) (B : Option Addr) (n d : Nat) (h10 : cs[10]? = some (.slice A m c)) (h12 : cs[12]? = some (.slice B n d)) (h : CK w cs W) :
    Calls Try.prog 62 #[.slice A m c] W fun e w' => ∃ A' c', e = .returned (.slice A' m c') ∧ w'.ownsRow w.heap.size 2 1 (.slice A' m c') m (int64s xs) ∧ CK w cs w' ∧ Below W.heap.size W w' ∧
      w'.cell? ⟨w.heap.size, 10, none⟩ = some (.slice A m c) ∧ w'.cell? ⟨w.heap.size, 12, none⟩ = some (.slice B n d) ∧ w'.frozen? ⟨w.heap.size, 10, none⟩ = false ∧ w'.frozen? ⟨w.heap.size, 12, none⟩ = false := by
  refine (clone64_c A m c _ W (hr.ck h) (ones_i64 _) (by omega)).mono ?_
  rintro e w' ⟨v, rfl, ho, hb⟩
  obtain ⟨A', c', rfl⟩ := own_slice ho
  exact ⟨A', c', rfl, own_more ho h.b.size, h.call hb, hb, (h.call hb).x.cell 10 ▸ h10, (h.call hb).x.cell 12 ▸ h12, (h.call hb).x.frozen 10, (h.call hb).x.frozen 12⟩
theorem ck_c88 (A : Option Addr) (m c : Nat) (xs : List Snd) (hm : m ≤ 1000000) (hr : Reads w w.heap.size 3 A m (sndsV xs)) (B : Option Addr) (n d : Nat) (h10 : cs[10]? = some (.slice B n d)) (h12 : cs[12]? = some (.slice A m c)) (h : CK w cs W) :
    Calls Try.prog 88 #[.slice A m c] W fun e w' => ∃ A' c', e = .returned (.slice A' m c') ∧ w'.ownsRow w.heap.size 64 3 (.slice A' m c') m (sndsV xs) ∧ CK w cs w' ∧ Below W.heap.size W w' ∧
      w'.cell? ⟨w.heap.size, 10, none⟩ = some (.slice B n d) ∧ w'.cell? ⟨w.heap.size, 12, none⟩ = some (.slice A m c) ∧ w'.frozen? ⟨w.heap.size, 10, none⟩ = false ∧ w'.frozen? ⟨w.heap.size, 12, none⟩ = false := by
  refine (cloneSend_c A m c _ W (hr.ck h) (ones_snds _) (by omega)).mono ?_
  rintro e w' ⟨v, rfl, ho, hb⟩
  obtain ⟨A', c', rfl⟩ := own_slice ho
  exact ⟨A', c', rfl, own_more ho h.b.size, h.call hb, hb, (h.call hb).x.cell 10 ▸ h10, (h.call hb).x.cell 12 ▸ h12, (h.call hb).x.frozen 10, (h.call hb).x.frozen 12⟩
end

theorem copied_end {w W : World} {m n : Nat} {cs : List Int} {sn : List Snd} {at_ : Int} {en : Bool} {r : Nat → Int} {dr : Int} {C0 S0 C S : Value} (hk : CK w (cp13 at_ en r C0 dr S0) W) (hc : W.ownsRow w.heap.size 2 1 C m (int64s cs)) (hs : W.ownsRow w.heap.size 64 3 S n (sndsV sn)) :
    CK w (cp13 at_ en r C dr S) ((W.setCell ⟨w.heap.size, 10, none⟩ C).setCell ⟨w.heap.size, 12, none⟩ S) ∧ ((W.setCell ⟨w.heap.size, 10, none⟩ C).setCell ⟨w.heap.size, 12, none⟩ S).ownsRow w.heap.size 2 1 C m (int64s cs) ∧
      ((W.setCell ⟨w.heap.size, 10, none⟩ C).setCell ⟨w.heap.size, 12, none⟩ S).ownsRow w.heap.size 64 3 S n (sndsV sn) := by
  have x1 := hk.x.set_ 10 C
  have x2 := x1.set_ 12 S
  have kc := own_blk_ne hc hk.x (by decide)
  have ks := own_blk_ne hs hk.x (by decide)
  refine ⟨⟨(hk.b.setCell (p := ⟨w.heap.size, 10, none⟩) (Nat.le_refl _) C).setCell (p := ⟨w.heap.size, 12, none⟩) (Nat.le_refl _) S, x2, (hk.r.far (p := ⟨w.heap.size, 10, none⟩) (by simp) C).far (p := ⟨w.heap.size, 12, none⟩) (by simp) S⟩, ?_, ?_⟩
  · refine ownsRow_keep (w := W.setCell ⟨w.heap.size, 10, none⟩ C) (ownsRow_keep (w := W) hc ?_) ?_
    · exact fun j hj _ => Below.heap_setCell _ _ _ _ (fun e => kc (by rw [hj, e]))
    · exact fun j hj _ => Below.heap_setCell _ _ _ _ (fun e => kc (by rw [hj, e]))
  · refine ownsRow_keep (w := W.setCell ⟨w.heap.size, 10, none⟩ C) (ownsRow_keep (w := W) hs ?_) ?_
    · exact fun j hj _ => Below.heap_setCell _ _ _ _ (fun e => ks (by rw [hj, e]))
    · exact fun j hj _ => Below.heap_setCell _ _ _ _ (fun e => ks (by rw [hj, e]))
theorem Blk.row {W : World} {g : Nat} {t : TypeId} {cs : Array Value} (h : Blk W g t cs) (cs' : Array Value) : Blk (W.setRow g cs') g t cs' := setRow_heap _ _ _ _ _ _ h
theorem Blk.row_far {W : World} {g k : Nat} {t : TypeId} {cs : Array Value} (h : Blk W g t cs) (hn : g ≠ k) (cs' : Array Value) : Blk (W.setRow k cs') g t cs := (setRow_other _ _ _ _ hn).trans h
theorem own_row {W : World} {base g : Nat} {t e : TypeId} {cs cs' : Array Value} {size n : Nat} {v : Value} {xs : List Value} (hr : Blk W g t cs) (h : W.ownsRow base e size v n xs) (hne : e ≠ t) : (W.setRow g cs').ownsRow base e size v n xs :=
  ownsRow_keep h fun j hj _ => setRow_other _ _ _ _ (fun he => own_blk_ne h hr hne (by rw [hj, he]))
theorem copied_fin {w W : World} {m n : Nat} {cs : List Int} {sn : List Snd} {C S : Value} {z : Array Value} (hb : Below w.heap.size w W) (hr : Blk W (w.heap.size + 1) 53 z) (hc : W.ownsRow w.heap.size 2 1 C m (int64s cs)) (hs : W.ownsRow w.heap.size 64 3 S n (sndsV sn)) (cs' : Array Value) :
    (W.setRow (w.heap.size + 1) cs').ownsRow w.heap.size 2 1 C m (int64s cs) ∧ (W.setRow (w.heap.size + 1) cs').ownsRow w.heap.size 64 3 S n (sndsV sn) ∧ Below w.heap.size w (W.setRow (w.heap.size + 1) cs') :=
  ⟨own_row hr hc (by decide), own_row hr hs (by decide), below_setRow hb (Nat.le_succ _) _⟩
theorem blk13 {W : World} {g : Nat} {t : TypeId} {a0 a1 a2 a3 a4 a5 a6 a7 a8 a9 a10 a11 a12 : Value} (h : Blk W g t #[a0, a1, a2, a3, a4, a5, a6, a7, a8, a9, a10, a11, a12]) :
    (W.cell? ⟨g, 0, none⟩ = some a0 ∧ W.cell? ⟨g, 1, none⟩ = some a1 ∧ W.cell? ⟨g, 2, none⟩ = some a2 ∧ W.cell? ⟨g, 3, none⟩ = some a3 ∧ W.cell? ⟨g, 4, none⟩ = some a4 ∧ W.cell? ⟨g, 5, none⟩ = some a5 ∧ W.cell? ⟨g, 6, none⟩ = some a6 ∧ W.cell? ⟨g, 7, none⟩ = some a7 ∧ W.cell? ⟨g, 8, none⟩ = some a8 ∧ W.cell? ⟨g, 9, none⟩ = some a9 ∧ W.cell? ⟨g, 10, none⟩ = some a10 ∧ W.cell? ⟨g, 11, none⟩ = some a11 ∧ W.cell? ⟨g, 12, none⟩ = some a12) ∧ ∀ i, W.frozen? ⟨g, i, none⟩ = false :=
  ⟨⟨h.cell 0, h.cell 1, h.cell 2, h.cell 3, h.cell 4, h.cell 5, h.cell 6, h.cell 7, h.cell 8, h.cell 9, h.cell 10, h.cell 11, h.cell 12⟩, fun i => h.frozen i⟩
theorem blk5 {W : World} {g : Nat} {t : TypeId} {a0 a1 a2 a3 a4 : Value} (h : Blk W g t #[a0, a1, a2, a3, a4]) :
    (W.cell? ⟨g, 0, none⟩ = some a0 ∧ W.cell? ⟨g, 1, none⟩ = some a1 ∧ W.cell? ⟨g, 2, none⟩ = some a2 ∧ W.cell? ⟨g, 3, none⟩ = some a3 ∧ W.cell? ⟨g, 4, none⟩ = some a4) ∧ ∀ i, W.frozen? ⟨g, i, none⟩ = false :=
  ⟨⟨h.cell 0, h.cell 1, h.cell 2, h.cell 3, h.cell 4⟩, fun i => h.frozen i⟩

set_option maxRecDepth 100000 in
set_option maxHeartbeats 2000000 in
theorem copied_c (s : St) (A B : Option Addr) (m c n d : Nat) (w : World) (hc : Reads w w.heap.size 1 A m (int64s s.cells)) (hs : Reads w w.heap.size 3 B n (sndsV s.sends)) (hm : m ≤ 1024) (hn : n ≤ 1000000) :
    Calls Try.prog 86 #[s.v (.slice A m c) (.slice B n d)] w fun e w' => ∃ C S, e = .returned (s.v C S) ∧ w'.ownsRow w.heap.size 2 1 C m (int64s s.cells) ∧ w'.ownsRow w.heap.size 64 3 S n (sndsV s.sends) ∧ Below w.heap.size w w' := by
  have HC := Lib.hid hc
  have HS := Lib.hid hs
  clear hc hs
  obtain ⟨at_, en, r, cs, dr, sn⟩ := s
  unfold St.v
  dsimp only at HC HS ⊢
  go_enter Try.func86, Try.ntmps86
  go_wp2_with fail
  obtain ⟨W0, hW0⟩ : ∃ W0, W0 = w.alloc (.cells #[.int .i64 at_, .bool en, .int .i64 (r 0), .int .i64 (r 1), .int .i64 (r 2), .int .i64 (r 3), .int .i64 (r 4), .int .i64 (r 5), .int .i64 (r 6), .int .i64 (r 7), .slice A m c, .int .i64 dr, .slice B n d] 53) := ⟨_, rfl⟩
  have bb : Blk W0 w.heap.size 53 #[.int .i64 at_, .bool en, .int .i64 (r 0), .int .i64 (r 1), .int .i64 (r 2), .int .i64 (r 3), .int .i64 (r 4), .int .i64 (r 5), .int .i64 (r 6), .int .i64 (r 7), .slice A m c, .int .i64 dr, .slice B n d] := hW0 ▸ Blk.new _ _ _
  have hz0 : W0.heap.size = w.heap.size + 1 := by rw [hW0]; simp
  have hB0 : Below w.heap.size w W0 := hW0 ▸ (Below.refl _ w).alloc (Nat.le_refl _) _
  rw [← hW0]
  clear hW0
  obtain ⟨w1, hw1⟩ : ∃ w1, w1 = W0.alloc (.cells #[.int .i64 0, .bool false, .int .i64 0, .int .i64 0, .int .i64 0, .int .i64 0, .int .i64 0, .int .i64 0, .int .i64 0, .int .i64 0, .slice none 0 0, .int .i64 0, .slice none 0 0] 53) := ⟨_, rfl⟩
  have b1 := hw1 ▸ bb.alloc (.cells #[.int .i64 0, .bool false, .int .i64 0, .int .i64 0, .int .i64 0, .int .i64 0, .int .i64 0, .int .i64 0, .int .i64 0, .int .i64 0, .slice none 0 0, .int .i64 0, .slice none 0 0] 53)
  have b2 : Blk w1 (w.heap.size + 1) 53 #[.int .i64 0, .bool false, .int .i64 0, .int .i64 0, .int .i64 0, .int .i64 0, .int .i64 0, .int .i64 0, .int .i64 0, .int .i64 0, .slice none 0 0, .int .i64 0, .slice none 0 0] := by rw [hw1, ← hz0]; exact Blk.new _ _ _
  have hz1 : w1.heap.size = w.heap.size + 2 := by rw [hw1]; simp [hz0]
  have hB1 : Below w.heap.size w w1 := hw1 ▸ hB0.alloc (by omega) _
  rw [← hw1]
  clear hw1 bb hz0 hB0
  have hK1 : CK w (cp13 at_ en r (.slice A m c) dr (.slice B n d)) w1 := ⟨hB1, b1, b2⟩
  have r10 : w1.cell? ⟨w.heap.size, 10, none⟩ = some (.slice A m c) := b1.cell 10
  have r12 : w1.cell? ⟨w.heap.size, 12, none⟩ = some (.slice B n d) := b1.cell 12
  clear b1 b2 hB1
  go_cut [] (fun W => ∃ C S, CK w (cp13 at_ en r C dr S) W ∧ W.ownsRow w.heap.size 2 1 C m (int64s cs) ∧ W.ownsRow w.heap.size 64 3 S n (sndsV sn))
  case first =>
    go_region_law (first
        | (go_simp; go_at_call 62; refine (ck_c62 (cs := cp13 at_ en r (.slice A m c) dr (.slice B n d)) A m c cs (by omega) HC.out B n d rfl rfl ?_).mono ?_; (focus (repeat' (first | assumption | refine CK.drew ?_ | refine CK.drewN ?_ _))); rintro e w3 ⟨A3, c3, rfl, ho3, hk3, hb3, hx3, hy3, hf3, hg3⟩)
        | (go_simp; go_at_call 88; refine (ck_c88 (cs := cp13 at_ en r (.slice A m c) dr (.slice B n d)) B n d sn hn HS.out A m c rfl rfl ?_).mono ?_; (focus (repeat' (first | assumption | refine CK.drew ?_ | refine CK.drewN ?_ _))); rintro e w4 ⟨A4, c4, rfl, ho4, hk4, hb4, hx4, hy4, hf4, hg4⟩))
    all_goals (go_wp2_with fail; go_meet)
    all_goals exact ⟨_, _, copied_end hk4 (ownsRow_keep ho3 fun j _ hj => hb4.block j hj) ho4⟩
  case rest =>
    obtain ⟨C, S, hk, hc, hs⟩ := hcut
    obtain ⟨A1, k1, rfl⟩ := own_slice hc
    obtain ⟨A2, k2, rfl⟩ := own_slice hs
    have bx : Blk wc w.heap.size 53 #[.int .i64 at_, .bool en, .int .i64 (r 0), .int .i64 (r 1), .int .i64 (r 2), .int .i64 (r 3), .int .i64 (r 4), .int .i64 (r 5), .int .i64 (r 6), .int .i64 (r 7), .slice A1 m k1, .int .i64 dr, .slice A2 n k2] := hk.x
    have br := hk.r
    have hb := hk.b
    clear hk HC HS hK1 r10 r12
    go_wp2_with (first
      | refine wpList_load_row (P := Try.prog) rfl 53 (.tmp 1) rfl w.heap.size rfl 53 _ (0, 0) _ bx Try.underlying53 rfl (by kernel_rfl) ?_
      | refine wpList_store_row (P := Try.prog) rfl 53 (.tmp 2) (.tmp 11) rfl (w.heap.size + 1) #[.int .i64 at_, .bool en, .int .i64 (r 0), .int .i64 (r 1), .int .i64 (r 2), .int .i64 (r 3), .int .i64 (r 4), .int .i64 (r 5), .int .i64 (r 6), .int .i64 (r 7), .slice A1 m k1, .int .i64 dr, .slice A2 n k2] rfl rfl 53 _ br (by kernel_rfl) rfl (by kernel_rfl) ?_)
    have hK := copied_fin hb br hc hs #[.int .i64 at_, .bool en, .int .i64 (r 0), .int .i64 (r 1), .int .i64 (r 2), .int .i64 (r 3), .int .i64 (r 4), .int .i64 (r 5), .int .i64 (r 6), .int .i64 (r 7), .slice A1 m k1, .int .i64 dr, .slice A2 n k2]
    (try simp only [Exit.inBlock, Exit.then])
    refine bodyPost_ret (v := .agg #[.int .i64 at_, .bool en, .int .i64 (r 0), .int .i64 (r 1), .int .i64 (r 2), .int .i64 (r 3), .int .i64 (r 4), .int .i64 (r 5), .int .i64 (r 6), .int .i64 (r 7), .slice A1 m k1, .int .i64 dr, .slice A2 n k2]) (results_cell_row (P := Try.prog) (p := 2) (ty := 53) rfl _ _ (w.heap.size + 1) 53 _ (0, 0) _ rfl (Blk.row br _) Try.underlying53 rfl (by kernel_rfl)) rfl ?_
    exact ⟨_, _, rfl, hK.1, hK.2.1, hK.2.2⟩
end Go.Proofs.Ytmljmabbopkpiaa
