/- event and instr.Begin. -/
import Derived.Test.YtmljmabbopkpiaaOne18
import Derived.Deep.RegionLaw
import Derived.Deep.RegionHeld3
import Derived.Deep.DrawnRows
import Derived.Deep.DeepCutAuto
import Derived.Handy
namespace Go.Proofs.Ytmljmabbopkpiaa
open Go.RowKit
set_option linter.unusedVariables false
set_option linter.unusedSimpArgs false
attribute [local go_sem ↓] Go.wp_at_zero Go.wp_at_succ

/-! what a region keeps below a bound -/
section
variable {B : Nat} {w1 W W' : World}
theorem qD : Below B w1 w1.drew ∧ ∀ b o, b < B → w1.drew.cell? ⟨b, o, none⟩ = w1.cell? ⟨b, o, none⟩ := ⟨(Below.refl _ _).drew, fun _ _ _ => rfl⟩
theorem qR : Below B w1 w1 ∧ ∀ b o, b < B → w1.cell? ⟨b, o, none⟩ = w1.cell? ⟨b, o, none⟩ := ⟨Below.refl _ _, fun _ _ _ => rfl⟩
theorem qE (h : Below B w1 W ∧ ∀ b o, b < B → W.cell? ⟨b, o, none⟩ = w1.cell? ⟨b, o, none⟩) : Below B w1 W.drew ∧ ∀ b o, b < B → W.drew.cell? ⟨b, o, none⟩ = w1.cell? ⟨b, o, none⟩ := ⟨h.1.drew, h.2⟩
theorem qOf (h : Below B w1 W) : Below B w1 W ∧ ∀ b o, b < B → W.cell? ⟨b, o, none⟩ = w1.cell? ⟨b, o, none⟩ := ⟨h, fun b o hb => h.cell (p := ⟨b, o, none⟩) hb⟩
theorem qA (hB : B ≤ w1.heap.size) (h : Below B w1 W ∧ ∀ b o, b < B → W.cell? ⟨b, o, none⟩ = w1.cell? ⟨b, o, none⟩) (x : Obj) : Below B w1 (W.alloc x) ∧ ∀ b o, b < B → (W.alloc x).cell? ⟨b, o, none⟩ = w1.cell? ⟨b, o, none⟩ := qOf (h.1.alloc (Nat.le_trans hB h.1.size) x)
theorem qS (h : Below B w1 W ∧ ∀ b o, b < B → W.cell? ⟨b, o, none⟩ = w1.cell? ⟨b, o, none⟩) {q : Addr} (hq : B ≤ q.block) (v : Value) : Below B w1 (W.setCell q v) ∧ ∀ b o, b < B → (W.setCell q v).cell? ⟨b, o, none⟩ = w1.cell? ⟨b, o, none⟩ := qOf (h.1.setCell hq v)
theorem qRow (h : Below B w1 W ∧ ∀ b o, b < B → W.cell? ⟨b, o, none⟩ = w1.cell? ⟨b, o, none⟩) (cs : Array Value) : Below B w1 (W.setRow B cs) ∧ ∀ b o, b < B → (W.setRow B cs).cell? ⟨b, o, none⟩ = w1.cell? ⟨b, o, none⟩ := qOf (below_setRow h.1 (Nat.le_refl _) cs)
theorem qB (hB : B ≤ w1.heap.size) (h : Below B w1 W ∧ ∀ b o, b < B → W.cell? ⟨b, o, none⟩ = w1.cell? ⟨b, o, none⟩) (hb : Below W.heap.size W W') : Below B w1 W' ∧ ∀ b o, b < B → W'.cell? ⟨b, o, none⟩ = w1.cell? ⟨b, o, none⟩ := qOf (h.1.trans (hb.mono (Nat.le_trans hB h.1.size)))
end
structure OKB (w : World) (xs rs : Array Value) (W : World) : Prop where
  b : Below w.heap.size w W
  x : Blk W w.heap.size 70 xs
  r : Blk W (w.heap.size + 1) 53 rs
section
variable {w W W' : World} {xs rs : Array Value}
theorem OKB.drew (h : OKB w xs rs W) : OKB w xs rs W.drew := ⟨h.b.drew, h.x, h.r⟩
theorem OKB.drewN (h : OKB w xs rs W) (n : Nat) : OKB w xs rs (W.drewN n) := ⟨below_drewNm h.b n, h.x, h.r⟩
theorem OKB.call (h : OKB w xs rs W) (hb : Below W.heap.size W W') : OKB w xs rs W' := ⟨h.b.trans (hb.mono h.b.size), h.x.below hb h.x.lt, h.r.below hb h.r.lt⟩
theorem OKB.set_ (h : OKB w xs rs W) (i : Nat) (u : Value) : OKB w xs (rs.setIfInBounds i u) (W.setCell ⟨w.heap.size + 1, i, none⟩ u) :=
  ⟨h.b.setCell (p := ⟨w.heap.size + 1, i, none⟩) (Nat.le_succ _) u, h.x.far (p := ⟨w.heap.size + 1, i, none⟩) (by simp) u, h.r.set_ i u⟩
theorem OKB.row (h : OKB w xs rs W) (cs : Array Value) : OKB w xs cs (W.setRow (w.heap.size + 1) cs) := ⟨below_setRow h.b (Nat.le_succ _) _, h.x.row_far (by omega) _, h.r.row _⟩
theorem own_set {g base size n : Nat} {t e : TypeId} {cs : Array Value} {v : Value} {ys : List Value} (hr : Blk W g t cs) (h : W.ownsRow base e size v n ys) (hne : e ≠ t) (i : Nat) (u : Value) : (W.setCell ⟨g, i, none⟩ u).ownsRow base e size v n ys :=
  ownsRow_keep h fun j hj _ => Below.heap_setCell _ _ _ _ (fun he => own_blk_ne h hr hne (by rw [hj, he]))
theorem bg_c62 (A : Option Addr) (m c : Nat) (ys : List Int) (hm : m ≤ 1000000) (hr : Reads w w.heap.size 1 A m (int64s ys)) (x t s q to_ : Int) (hx : xs = #[.int .i64 t, .int .i64 s, .int .i64 q, .int .i64 to_, .int .i64 x]) (hrs : rs = z13) (h : OKB w xs rs W) :
    Calls Try.prog 62 #[.slice A m c] W fun e w' => ∃ A' c', e = .returned (.slice A' m c') ∧ w'.ownsRow w.heap.size 2 1 (.slice A' m c') m (int64s ys) ∧ OKB w #[.int .i64 t, .int .i64 s, .int .i64 q, .int .i64 to_, .int .i64 x] z13 w' ∧ Below W.heap.size W w' := by
  subst hx; subst hrs
  refine (clone64_c A m c _ W ((hr.below h.b).more h.b.size) (ones_i64 _) (by omega)).mono ?_
  rintro e w' ⟨v, rfl, ho, hb⟩
  obtain ⟨A', c', rfl⟩ := own_slice ho
  exact ⟨A', c', rfl, own_more ho h.b.size, h.call hb, hb⟩
/-- the 13 cells of the result, stored one by one -/
abbrev set13 (W : World) (g : Nat) (a0 a1 a2 a3 a4 a5 a6 a7 a8 a9 a10 a11 a12 : Value) : World := (((((((((((((W.setCell ⟨g, 0, none⟩ a0).setCell ⟨g, 1, none⟩ a1).setCell ⟨g, 2, none⟩ a2).setCell ⟨g, 3, none⟩ a3).setCell ⟨g, 4, none⟩ a4).setCell ⟨g, 5, none⟩ a5).setCell ⟨g, 6, none⟩ a6).setCell ⟨g, 7, none⟩ a7).setCell ⟨g, 8, none⟩ a8).setCell ⟨g, 9, none⟩ a9).setCell ⟨g, 10, none⟩ a10).setCell ⟨g, 11, none⟩ a11).setCell ⟨g, 12, none⟩ a12)
theorem own_set13 {g base size n : Nat} {e : TypeId} {cs : Array Value} {v : Value} {ys : List Value} (hr : Blk W g 53 cs) (h : W.ownsRow base e size v n ys) (hne : e ≠ 53) (a0 a1 a2 a3 a4 a5 a6 a7 a8 a9 a10 a11 a12 : Value) :
    (set13 W g a0 a1 a2 a3 a4 a5 a6 a7 a8 a9 a10 a11 a12).ownsRow base e size v n ys := by
  refine ownsRow_keep h fun j hj _ => ?_
  have hn : j ≠ g := fun he => own_blk_ne h hr hne (by rw [hj, he])
  simp only [set13]
  rw [Below.heap_setCell _ ⟨g, 12, none⟩ _ j hn, Below.heap_setCell _ ⟨g, 11, none⟩ _ j hn, Below.heap_setCell _ ⟨g, 10, none⟩ _ j hn, Below.heap_setCell _ ⟨g, 9, none⟩ _ j hn, Below.heap_setCell _ ⟨g, 8, none⟩ _ j hn, Below.heap_setCell _ ⟨g, 7, none⟩ _ j hn,
    Below.heap_setCell _ ⟨g, 6, none⟩ _ j hn, Below.heap_setCell _ ⟨g, 5, none⟩ _ j hn, Below.heap_setCell _ ⟨g, 4, none⟩ _ j hn, Below.heap_setCell _ ⟨g, 3, none⟩ _ j hn, Below.heap_setCell _ ⟨g, 2, none⟩ _ j hn, Below.heap_setCell _ ⟨g, 1, none⟩ _ j hn, Below.heap_setCell _ ⟨g, 0, none⟩ _ j hn]
end

def blockOf0 : Value → Nat
  | .pointer (some a) => a.block
  | _ => 0
def aggOf0 : Value → Array Value
  | .agg c => c
  | _ => #[]
theorem wp_store53z {d : Option Tmp} {x y : Operand} {ty : TypeId} {pos : String} {after : Array Edge} {guard : Option (Nat × Bool)} {a : Act} {w : World} {K : Act → World → Prop} {Q : Exit → Act → World → Prop}
    (hx : a.eval x = .pointer (some ⟨blockOf0 (a.eval x), 0, none⟩)) (hb : Blk w (blockOf0 (a.eval x)) 53 z13) (hy : a.eval y = .agg (aggOf0 (a.eval y))) (hs : (aggOf0 (a.eval y)).size = 13) (h1 : (aggOf0 (a.eval y)).all (·.oneCell') = true) :
    Oper.wp Try.prog ⟨d, .store 53 x y, ty, pos, after, guard⟩ a w K Q = K (a.put d undef) (w.setRow (blockOf0 (a.eval x)) (aggOf0 (a.eval y))) := by
  have hi : (Try.prog.info? 53).map (·.size) = some 13 := by kernel_rfl
  obtain ⟨g, hg⟩ : ∃ g, g = blockOf0 (a.eval x) := ⟨_, rfl⟩
  obtain ⟨c, hc⟩ : ∃ c, c = aggOf0 (a.eval y) := ⟨_, rfl⟩
  rw [← hg] at hx hb ⊢
  rw [← hc] at hy hs h1 ⊢
  unfold Oper.wp execOp
  simp only [hx, hy, Instr.storeAt, Instr.sureAddr, Sem.run_bind, Sem.run_pure, Result.andThen_ok, run_storeVar_row w g 53 53 z13 c hb (by rw [hs]; exact hi) (by rw [hs]; rfl) h1]
  rfl
attribute [local go_sem ↓] wp_store53z
attribute [local go_sem] blockOf0 aggOf0 Value.oneCell'

set_option maxRecDepth 100000 in
set_option maxHeartbeats 2000000 in
theorem event_c (x t s : Int) (w : World) : Calls Try.prog 40 #[.int .i64 x, .int .i64 t, .int .i64 s] w fun e w' => e = .returned (.agg #[.int .i64 t, .int .i64 s, .int .i64 0, .int .i64 0, .int .i64 x]) ∧ Below w.heap.size w w' := by
  go_enter Try.func40, Try.ntmps40
  go_wp2_with fail
  (try simp only [Exit.inBlock, Exit.then])
  refine bodyPost_ret (v := .agg #[.int .i64 t, .int .i64 s, .int .i64 0, .int .i64 0, .int .i64 x]) (results_cell_row (P := Try.prog) (p := 6) (ty := 70) rfl _ _ w.heap.size 70 _ (0, 0) _ rfl (heap_alloc_new w _) Try.underlying70 rfl (by kernel_rfl)) rfl ?_
  exact ⟨rfl, (Below.refl _ w).alloc (Nat.le_refl _) _⟩

set_option maxRecDepth 100000 in
set_option maxHeartbeats 2000000 in
theorem begin_c (x t s q to_ dr : Int) (A : Option Addr) (n c : Nat) (ys : List Int) (hn : n ≤ 1000000) (w : World) (hx : Reads w w.heap.size 1 A n (int64s ys)) :
    Calls Try.prog 59 #[.agg #[.int .i64 t, .int .i64 s, .int .i64 q, .int .i64 to_, .int .i64 x], .slice A n c, .int .i64 dr] w fun e w' => ∃ A1 k1, e = .returned (.agg #[.int .i64 0, .bool false, .int .i64 x, .int .i64 t, .int .i64 s, .int .i64 0, .int .i64 0, .int .i64 0, .int .i64 0, .int .i64 0, .slice A1 n k1, .int .i64 dr, .slice none 0 0]) ∧
      w'.ownsRow w.heap.size 2 1 (.slice A1 n k1) n (int64s ys) ∧ Below w.heap.size w w' := by
  have HX := Lib.hid hx
  clear hx
  go_enter Try.func59, Try.ntmps59
  go_upto_region 1 with fail
  obtain ⟨W0, hW0⟩ : ∃ W0, W0 = ((w.alloc (.cells #[.int .i64 t, .int .i64 s, .int .i64 q, .int .i64 to_, .int .i64 x] 70)).alloc (.cells z13 53)) := ⟨_, rfl⟩
  have hk0 : OKB w #[.int .i64 t, .int .i64 s, .int .i64 q, .int .i64 to_, .int .i64 x] z13 W0 := hW0 ▸ ⟨((Below.refl _ w).alloc (Nat.le_refl _) _).alloc (by simp) _, (Blk.new_ rfl).alloc _, Blk.new_ (by simp)⟩
  rw [← hW0]
  clear hW0
  obtain ⟨⟨x0, x1, x2, x3, x4⟩, xf⟩ := blk5 hk0.x
  have hBB : w.heap.size + 1 ≤ W0.heap.size := Nat.le_of_lt hk0.r.lt
  go_cut [] (fun W => ∃ A1 k1, OKB w #[.int .i64 t, .int .i64 s, .int .i64 q, .int .i64 to_, .int .i64 x] #[.int .i64 0, .bool false, .int .i64 x, .int .i64 t, .int .i64 s, .int .i64 0, .int .i64 0, .int .i64 0, .int .i64 0, .int .i64 0, .slice A1 n k1, .int .i64 dr, .slice none 0 0] W ∧ W.ownsRow w.heap.size 2 1 (.slice A1 n k1) n (int64s ys))
  case first =>
    go_region_held3 (fun W => Below (w.heap.size + 1) W0 W ∧ ∀ b o, b < w.heap.size + 1 → W.cell? ⟨b, o, none⟩ = W0.cell? ⟨b, o, none⟩)
      (with_reducible (repeat' (first | exact qD | assumption | exact qR | refine qE ?_ | refine qB hBB ?_ hb6 | refine qS ?_ (Nat.le_refl _) _ | refine qRow ?_ _)))
      ((go_at_call 62; refine (bg_c62 A n c ys hn HX.out x t s q to_ rfl rfl ?_).mono ?_; (focus (repeat' (first | assumption | refine OKB.drew ?_ | refine OKB.drewN ?_ _))); rintro e w6 ⟨A1, k1, rfl, ho6, hk6, hb6⟩; have hr6 := hk6.r; have hr6d := hk6.drew.r))
    all_goals (go_wp2_with fail; go_meet)
    all_goals exact ⟨_, _, hk6.row _, own_row hk6.r ho6 (by decide)⟩
  case rest =>
    obtain ⟨A1, k1, hk, ho⟩ := hcut
    go_wp2_with fail
    (try simp only [Exit.inBlock, Exit.then])
    refine bodyPost_ret (v := .agg #[.int .i64 0, .bool false, .int .i64 x, .int .i64 t, .int .i64 s, .int .i64 0, .int .i64 0, .int .i64 0, .int .i64 0, .int .i64 0, .slice A1 n k1, .int .i64 dr, .slice none 0 0]) (results_cell_row (P := Try.prog) (p := 6) (ty := 53) rfl _ _ (w.heap.size + 1) 53 _ (0, 0) _ rfl hk.r Try.underlying53 rfl (by kernel_rfl)) rfl ?_
    exact ⟨_, _, rfl, ho, hk.b⟩
end Go.Proofs.Ytmljmabbopkpiaa
