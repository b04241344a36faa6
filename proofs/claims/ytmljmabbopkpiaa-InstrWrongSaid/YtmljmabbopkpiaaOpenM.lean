/- instr.open: a machine in a state. -/
import Derived.Test.YtmljmabbopkpiaaStep
import Derived.Test.YtmljmabbopkpiaaCopied
import Derived.Deep.RegionLaw
import Derived.Deep.DrawnRows
import Derived.Deep.DeepCutAuto
import Derived.Handy
namespace Go.Proofs.Ytmljmabbopkpiaa
open Go.RowKit
set_option linter.unusedVariables false
set_option linter.unusedSimpArgs false
attribute [local go_sem ↓] Go.wp_at_zero Go.wp_at_succ

/-- what open keeps: all below w's end, and the two boxes -/
structure OK2 (w : World) (vs cs : Array Value) (W : World) : Prop where
  b : Below w.heap.size w W
  v : Blk W w.heap.size 56 vs
  s : Blk W (w.heap.size + 1) 53 cs
section
variable {w W W' : World} {vs cs : Array Value}
theorem OK2.drew (h : OK2 w vs cs W) : OK2 w vs cs W.drew := ⟨h.b.drew, h.v, h.s⟩
theorem OK2.drewN (h : OK2 w vs cs W) (n : Nat) : OK2 w vs cs (W.drewN n) := ⟨below_drewNm h.b n, h.v, h.s⟩
theorem OK2.call (h : OK2 w vs cs W) (hb : Below W.heap.size W W') : OK2 w vs cs W' := ⟨h.b.trans (hb.mono h.b.size), h.v.below hb h.v.lt, h.s.below hb h.s.lt⟩
theorem OK2.start (w : World) (vs cs : Array Value) : OK2 w vs cs ((w.alloc (.cells vs 56)).alloc (.cells cs 53)) :=
  ⟨((Below.refl _ w).alloc (Nat.le_refl _) _).alloc (by simp) _, (Blk.new _ _ _).alloc _, by have := Blk.new (w.alloc (.cells vs 56)) 53 cs; simpa using this⟩
end
/-- the call of copied, as the walk of open meets it -/
theorem ok2_copied {w W : World} {vs : Array Value} (s : St) (B D : Option Addr) (m d k f : Nat) (hm : m ≤ 1024) (hk : k ≤ 1000000) (hc : Reads w w.heap.size 1 B m (int64s s.cells)) (hs : Reads w w.heap.size 3 D k (sndsV s.sends)) {cs : Array Value} (h : OK2 w vs cs W) :
    Calls Try.prog 86 #[s.v (.slice B m d) (.slice D k f)] W fun e w' => ∃ C S, e = .returned (s.v C S) ∧ w'.ownsRow w.heap.size 2 1 C m (int64s s.cells) ∧ w'.ownsRow w.heap.size 64 3 S k (sndsV s.sends) ∧ OK2 w vs cs w' := by
  refine (copied_c s B D m d k f W ((hc.below h.b).more h.b.size) ((hs.below h.b).more h.b.size) hm hk).mono ?_
  rintro e w' ⟨C, S, rfl, h1, h2, h3⟩
  exact ⟨C, S, rfl, own_more h1 h.b.size, own_more h2 h.b.size, h.call h3⟩
theorem own_alloc {W : World} {base size n : Nat} {e : TypeId} {v : Value} {xs : List Value} (h : W.ownsRow base e size v n xs) (o : Obj) : (W.alloc o).ownsRow base e size v n xs := ownsRow_keep h fun j _ hj => Below.heap_alloc W o j hj
theorem open_end {w W : World} {vs cs : Array Value} {s : St} {v : Envi} {m k : Nat} {C S : Value} (h : OK2 w vs cs W) (hc : W.ownsRow w.heap.size 2 1 C m (int64s s.cells)) (hs : W.ownsRow w.heap.size 64 3 S k (sndsV s.sends)) (hm : s.cells.length = m) (hk : s.sends.length = k) :
    Mac (W.alloc (.cells (mcells s v ⟨0, 0, 0, 0, 0⟩ C S) 152)) w.heap.size W.heap.size s v ⟨0, 0, 0, 0, 0⟩ C S ∧ Below w.heap.size w (W.alloc (.cells (mcells s v ⟨0, 0, 0, 0, 0⟩ C S) 152)) := by
  subst hm; subst hk
  exact ⟨⟨h.b.size, Blk.new _ _ _, own_alloc hc _, own_alloc hs _⟩, h.b.alloc h.b.size _⟩

set_option maxRecDepth 100000 in
set_option maxHeartbeats 2000000 in
theorem open_c (A : Option Addr) (n c : Nat) (hn : n < 2^62) (p : List Ins) (hok : ∀ i ∈ p, i.ok) (v : Envi) (s : St) (B D : Option Addr) (m k d f : Nat) (hk : k ≤ 1000000) (w : World)
    (hp : Reads w w.heap.size 5 A n (insV p)) (hc : Reads w w.heap.size 1 B m (int64s s.cells)) (hs : Reads w w.heap.size 3 D k (sndsV s.sends)) :
    Calls Try.prog 75 #[.slice A n c, v.v, s.v (.slice B m d) (.slice D k f)] w fun e w' => Below w.heap.size w w' ∧
      ((openE p v s ≠ 0 ∧ e = .returned (.tuple #[.pointer none, .int .i64 (openE p v s)])) ∨
       (openE p v s = 0 ∧ ∃ g C S, e = .returned (.tuple #[.pointer (some ⟨g, 0, none⟩), .int .i64 0]) ∧ Mac w' w.heap.size g s v ⟨0, 0, 0, 0, 0⟩ C S)) := by
  have hpl := hp.ins_len
  have hml := hc.i64_len
  have hkl := hs.snds_len
  obtain ⟨F, hF⟩ : ∃ F, F = openE p v s := ⟨_, rfl⟩
  obtain ⟨K1, hK1⟩ : ∃ K1, K1 = (checkI p).1 := ⟨_, rfl⟩
  obtain ⟨E, hE⟩ : ∃ E, E = (checkI p).2 := ⟨_, rfl⟩
  obtain ⟨R1, hR1⟩ : ∃ R, R = v.rightB := ⟨_, rfl⟩
  obtain ⟨R2, hR2⟩ : ∃ R, R = rightB s.at_ s.draws n m := ⟨_, rfl⟩
  have hF' : F = if E ≠ 0 then 180 else if R1 = false then 181 else if R2 = false then 182 else 0 := by
    rw [hF, hE, hR1, hR2]; unfold openE; rw [hpl, hml]
  have hm24 : R2 = true → m ≤ 1024 := fun h => by have := rightB_of (hR2 ▸ h); omega
  have ck : ∀ W, Below w.heap.size w W → Calls Try.prog 55 #[.slice A n c] W fun e w' => e = .returned (.tuple #[.int .i64 K1, .int .i64 E]) ∧ Below W.heap.size W w' := fun W hW => by
    rw [hK1, hE]; exact check_c A n c hn p hok W ((hp.below hW).more hW.size)
  have cv : ∀ W, Calls Try.prog 109 #[v.v] W fun e w' => e = .returned (.bool R1) ∧ Below W.heap.size W w' := fun W => by rw [hR1]; exact envRight_c v W
  have cs : ∀ W, Calls Try.prog 110 #[s.v (.slice B m d) (.slice D k f), .int .i64 n] W fun e w' => e = .returned (.bool R2) ∧ Below W.heap.size W w' := fun W => by rw [hR2]; exact stateRight_c s B m d _ n W
  have HC := Lib.hid hc
  have HS := Lib.hid hs
  rw [← hF]
  clear hp hc hs hE hR1 hR2 hF hK1 hok
  have cc := fun (W : World) (vs cs : Array Value) (hm : m ≤ 1024) (h : OK2 w vs cs W) => ok2_copied s B D m d k f hm hk HC.out HS.out h
  have ce := fun (W : World) (vs cs : Array Value) (C S : Value) (h : OK2 w vs cs W) h1 h2 => open_end (v := v) (s := s) (C := C) (S := S) h h1 h2 hml hkl
  obtain ⟨sd, pr, po, lo, nw⟩ := v
  obtain ⟨at_, en, r, xs, dr, sn⟩ := s
  unfold Envi.v at cv ⊢
  unfold St.v at cs cc ⊢
  dsimp only at cv cs cc ce hml hkl ⊢
  obtain ⟨Mc, hMc⟩ : ∃ Mc : Value → Value → World → Nat → Prop, Mc = fun C S W g => Mac W w.heap.size g ⟨at_, en, r, xs, dr, sn⟩ ⟨sd, pr, po, lo, nw⟩ ⟨0, 0, 0, 0, 0⟩ C S := ⟨_, rfl⟩
  have hst := OK2.start w #[.int .u64 sd, .int .i64 pr, .int .i64 po, .int .i64 lo, .int .i64 nw] #[.int .i64 at_, .bool en, .int .i64 (r 0), .int .i64 (r 1), .int .i64 (r 2), .int .i64 (r 3), .int .i64 (r 4), .int .i64 (r 5), .int .i64 (r 6), .int .i64 (r 7), .slice B m d, .int .i64 dr, .slice D k f]
  have CK := Lib.hid ck
  have CV := Lib.hid cv
  have CS := Lib.hid cs
  have CC := Lib.hid cc
  have CE := Lib.hid ce
  clear ck cv cs cc ce
  by_cases hE0 : E = 0
  · have hEt : (E != 0) = false := by simp [hE0]
    rw [if_neg (by simp [hE0])] at hF'
    cases R1 with
    | false =>
      rw [if_pos rfl] at hF'
      subst hF'
      go_enter Try.func75, Try.ntmps75
      go_wp2_with fail
      obtain ⟨W0, hW0⟩ : ∃ W0, W0 = ((w.alloc (.cells #[.int .u64 sd, .int .i64 pr, .int .i64 po, .int .i64 lo, .int .i64 nw] 56)).alloc (.cells #[.int .i64 at_, .bool en, .int .i64 (r 0), .int .i64 (r 1), .int .i64 (r 2), .int .i64 (r 3), .int .i64 (r 4), .int .i64 (r 5), .int .i64 (r 6), .int .i64 (r 7), .slice B m d, .int .i64 dr, .slice D k f] 53)) := ⟨_, rfl⟩
      rw [← hW0] at hst ⊢
      clear hW0
      go_wp2_with (go_at_call 55
                   refine (CK.out _ hst.b).mono ?_
                   rintro e w3 ⟨rfl, hb3⟩
                   have hk3 := hst.call hb3
                   obtain ⟨⟨x0, x1, x2, x3, x4⟩, xf⟩ := blk5 hk3.v)
      go_wp2_with (go_at_call 109
                   refine (CV.out _).mono ?_
                   rintro e w4 ⟨rfl, hb4⟩
                   have hk4 := hk3.call hb4
                   clear x0 x1 x2 x3 x4 xf)
      go_ret2
      exact ⟨hk4.b, .inl ⟨by decide, rfl⟩⟩
    | true =>
      rw [if_neg (by decide)] at hF'
      cases R2 with
      | false =>
        rw [if_pos rfl] at hF'
        subst hF'
        clear hm24
        go_enter Try.func75, Try.ntmps75
        go_wp2_with fail
        obtain ⟨W0, hW0⟩ : ∃ W0, W0 = ((w.alloc (.cells #[.int .u64 sd, .int .i64 pr, .int .i64 po, .int .i64 lo, .int .i64 nw] 56)).alloc (.cells #[.int .i64 at_, .bool en, .int .i64 (r 0), .int .i64 (r 1), .int .i64 (r 2), .int .i64 (r 3), .int .i64 (r 4), .int .i64 (r 5), .int .i64 (r 6), .int .i64 (r 7), .slice B m d, .int .i64 dr, .slice D k f] 53)) := ⟨_, rfl⟩
        rw [← hW0] at hst ⊢
        clear hW0
        go_at_call 55
        refine (CK.out _ hst.b).mono ?_
        rintro e w3 ⟨rfl, hb3⟩
        have hk3 := hst.call hb3
        obtain ⟨⟨x0, x1, x2, x3, x4⟩, xf⟩ := blk5 hk3.v
        go_wp2_with fail
        go_at_call 109
        refine (CV.out _).mono ?_
        rintro e w4 ⟨rfl, hb4⟩
        have hk4 := hk3.call hb4
        clear x0 x1 x2 x3 x4 xf
        go_wp2_with (refine wpList_load_row (P := Try.prog) rfl 53 (.tmp 5) rfl (w.heap.size + 1) rfl 53 _ (0, 0) _ hk4.s Try.underlying53 rfl (by kernel_rfl) ?_)
        go_at_call 110
        refine (CS.out _).mono ?_
        rintro e w5 ⟨rfl, hb5⟩
        have hk5 := hk4.call hb5
        go_wp2_with fail
        go_ret2
        exact ⟨hk5.b, .inl ⟨by decide, rfl⟩⟩
      | true =>
        rw [if_neg (by decide)] at hF'
        subst hF'
        have hm := hm24 rfl
        clear hm24
        go_enter Try.func75, Try.ntmps75
        go_wp2_with fail
        obtain ⟨W0, hW0⟩ : ∃ W0, W0 = ((w.alloc (.cells #[.int .u64 sd, .int .i64 pr, .int .i64 po, .int .i64 lo, .int .i64 nw] 56)).alloc (.cells #[.int .i64 at_, .bool en, .int .i64 (r 0), .int .i64 (r 1), .int .i64 (r 2), .int .i64 (r 3), .int .i64 (r 4), .int .i64 (r 5), .int .i64 (r 6), .int .i64 (r 7), .slice B m d, .int .i64 dr, .slice D k f] 53)) := ⟨_, rfl⟩
        rw [← hW0] at hst ⊢
        clear hW0
        go_at_call 55
        refine (CK.out _ hst.b).mono ?_
        rintro e w3 ⟨rfl, hb3⟩
        have hk3 := hst.call hb3
        obtain ⟨⟨x0, x1, x2, x3, x4⟩, xf⟩ := blk5 hk3.v
        go_wp2_with fail
        go_at_call 109
        refine (CV.out _).mono ?_
        rintro e w4 ⟨rfl, hb4⟩
        have hk4 := hk3.call hb4
        clear x0 x1 x2 x3 x4 xf
        go_wp2_with (refine wpList_load_row (P := Try.prog) rfl 53 (.tmp 5) rfl (w.heap.size + 1) rfl 53 _ (0, 0) _ hk4.s Try.underlying53 rfl (by kernel_rfl) ?_)
        go_at_call 110
        refine (CS.out _).mono ?_
        rintro e w5 ⟨rfl, hb5⟩
        have hk5 := hk4.call hb5
        obtain ⟨⟨z0, z1, z2, z3, z4⟩, zf⟩ := blk5 hk5.v
        obtain ⟨⟨zs0, zs1, zs2, zs3, zs4, zs5, zs6, zs7, zs8, zs9, zs10, zs11, zs12⟩, zsf⟩ := blk13 hk5.s
        go_upto_region 8 with fail
        go_cut [6, 7] (fun p q W => q = .int .i64 0 ∧ ∃ g C S, p = .pointer (some ⟨g, 0, none⟩) ∧ Mc C S W g ∧ Below w.heap.size w W)
        case first =>
          go_region_law (go_simp; go_at_call 86; refine (CC.out _ #[.int .u64 sd, .int .i64 pr, .int .i64 po, .int .i64 lo, .int .i64 nw] #[.int .i64 at_, .bool en, .int .i64 (r 0), .int .i64 (r 1), .int .i64 (r 2), .int .i64 (r 3), .int .i64 (r 4), .int .i64 (r 5), .int .i64 (r 6), .int .i64 (r 7), .slice B m d, .int .i64 dr, .slice D k f] hm ?_).mono ?_; (focus (repeat' (first | assumption | refine OK2.drew ?_ | refine OK2.drewN ?_ _))); rintro e w6 ⟨C6, S6, rfl, ho6, hq6, hk6⟩; obtain ⟨⟨u0, u1, u2, u3, u4⟩, uf⟩ := blk5 hk6.v)
          all_goals (go_wp2_with fail; go_meet)
          all_goals (rw [hMc]; have hce := CE.out _ _ _ _ _ hk6 ho6 hq6; exact ⟨rfl, _, C6, S6, rfl, hce.1, hce.2⟩)
        case rest =>
          obtain ⟨rfl, g, C, S, rfl, hm, hb⟩ := hcut
          rw [hMc] at hm
          go_wp2
          go_ret2
          exact ⟨hb, .inr ⟨by first | trivial | rfl, g, C, S, rfl, hm⟩⟩
  · have hEt : (E != 0) = true := by simp [hE0]
    rw [if_pos hE0] at hF'
    subst hF'
    go_enter Try.func75, Try.ntmps75
    go_wp2_with fail
    obtain ⟨W0, hW0⟩ : ∃ W0, W0 = ((w.alloc (.cells #[.int .u64 sd, .int .i64 pr, .int .i64 po, .int .i64 lo, .int .i64 nw] 56)).alloc (.cells #[.int .i64 at_, .bool en, .int .i64 (r 0), .int .i64 (r 1), .int .i64 (r 2), .int .i64 (r 3), .int .i64 (r 4), .int .i64 (r 5), .int .i64 (r 6), .int .i64 (r 7), .slice B m d, .int .i64 dr, .slice D k f] 53)) := ⟨_, rfl⟩
    rw [← hW0] at hst ⊢
    clear hW0
    go_wp2_with (go_at_call 55
                 refine (CK.out _ hst.b).mono ?_
                 rintro e w3 ⟨rfl, hb3⟩)
    go_ret2
    exact ⟨(hst.call hb3).b, .inl ⟨by decide, rfl⟩⟩
end Go.Proofs.Ytmljmabbopkpiaa
