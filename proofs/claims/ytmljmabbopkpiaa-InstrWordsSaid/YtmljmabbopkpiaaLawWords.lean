/- fermatalaw18.InstrWords: the walk. (printed by gen_words.py) -/
import Derived.Test.YtmljmabbopkpiaaAw3
import Derived.Test.YtmljmabbopkpiaaAwake
import Derived.Test.YtmljmabbopkpiaaSame
import Derived.Test.YtmljmabbopkpiaaPast
import Derived.IntWalk
namespace Go.Proofs.Ytmljmabbopkpiaa
open Go.RowKit
set_option linter.unusedVariables false
set_option linter.unusedSimpArgs false

/-! ### what one instruction before a Halt makes of eight words -/
def wV : Envi := ⟨0, 0, 0, 1, 0⟩
def wS (r : Nat → Int) : St := ⟨0, false, r, [], 0, []⟩
theorem wS_keep (i : Ins) (r : Nat → Int) (hb : badAt 2 i = 0) (ho : i.op ≠ 6) (h8 : i.op ≠ 8) : (topS [i, haltI] wV (wS r)).cells = [] ∧ (topS [i, haltI] wV (wS r)).sends = [] := by
  obtain ⟨_, h0, h1⟩ := one_top (i := i) (v := wV) (s := wS r) hb rfl rfl rfl rfl
  by_cases hE : doE (wS r) wV i = 0
  · rw [h0 hE]
    unfold doS
    rw [if_neg (by simp [hE])]
    repeat' (split <;> try exact ⟨rfl, rfl⟩)
    all_goals (first | (exfalso; omega) | exact ⟨rfl, rfl⟩)
  · rw [h1 hE]; exact ⟨rfl, rfl⟩
theorem reads_0 {W : World} {B k : Nat} {A : Option Addr} : Reads W B k A 0 [] := ⟨by simp, fun h => absurd h (by omega)⟩
/-- the contract that the walk takes -/
theorem one_w (i : Ins) (hi : i.ok) (hb : badAt 2 i = 0) (ho : i.op ≠ 6) (h8 : i.op ≠ 8) (r : Nat → Int) (T : St) (E : Int) (hT : topS [i, haltI] wV (wS r) = T) (hE : topE [i, haltI] wV (wS r) = E) (w : World) :
    Calls Try.prog 25 #[.agg #[.int .u8 i.op, .int .u8 i.a, .int .u8 i.b, .int .u8 i.c, .int .i64 i.n], .agg #[.int .u64 0, .int .i64 0, .int .i64 0, .int .i64 1, .int .i64 0], .agg #[.int .i64 0, .bool false, .int .i64 (r 0), .int .i64 (r 1), .int .i64 (r 2), .int .i64 (r 3), .int .i64 (r 4), .int .i64 (r 5), .int .i64 (r 6), .int .i64 (r 7), .slice none 0 0, .int .i64 0, .slice none 0 0]] w fun e w' => ∃ A1 k1 A2 k2, e = .returned (.tuple #[.agg #[.int .i64 T.at_, .bool T.ended, .int .i64 (T.regs 0), .int .i64 (T.regs 1), .int .i64 (T.regs 2), .int .i64 (T.regs 3), .int .i64 (T.regs 4), .int .i64 (T.regs 5), .int .i64 (T.regs 6), .int .i64 (T.regs 7), .slice A1 0 k1, .int .i64 T.draws, .slice A2 0 k2], .int .i64 E]) ∧ Below w.heap.size w w' := by
  obtain ⟨hc, hs⟩ := wS_keep i r hb ho h8
  refine (one18_c i hi wV (wS r) none none 0 0 0 0 (by decide) w reads_0 reads_0).mono ?_
  rintro e w' ⟨C, S, rfl, h1, h2, h3⟩
  rw [hc] at h1
  rw [hs] at h2
  obtain ⟨A1, k1, rfl⟩ := own_slice h1
  obtain ⟨A2, k2, rfl⟩ := own_slice h2
  rw [hT, hE]
  exact ⟨A1, k1, A2, k2, rfl, h3⟩
theorem bad_w {O A B C : Int} (h1 : 1 ≤ O) (h2 : O ≤ 17) (a1 : A < 8) (b1 : B < 8) (c1 : C < 8) : badAt 2 ⟨32 + O, A, B, C, 0⟩ = 0 := by
  have hf : formC (32 + O) = 1 := if_pos (by omega)
  have h1 : oneE ⟨32 + O, A, B, C, 0⟩ = 0 := by
    show (if formC (32 + O) = 0 then 140 else oneK (formC (32 + O)) A B C 0) = 0
    rw [hf, if_neg (by decide)]
    exact oneK_pos (show fitsC 1 A B C 0 from ⟨a1, b1, c1, rfl⟩)
  have h2 : targB ⟨32 + O, A, B, C, 0⟩ = false := by
    have q1 : ¬ 32 + O = 9 := by omega
    have q2 : ¬ 32 + O = 10 := by omega
    have q3 : ¬ 32 + O = 11 := by omega
    simp [targB, q1, q2, q3]
  unfold badAt
  rw [if_neg (by simp [h1]), if_neg (by simp [h2])]
theorem top_w {O A B C : Int} (h1 : 1 ≤ O) (h2 : O ≤ 17) (a1 : A < 8) (b1 : B < 8) (c1 : C < 8) (r : Nat → Int) :
    topE [⟨32 + O, A, B, C, 0⟩, haltI] wV (wS r) = wrongE O (r C.toNat) ∧ (wrongE O (r C.toNat) = 0 → (topS [⟨32 + O, A, B, C, 0⟩, haltI] wV (wS r)).at_ = 1 ∧ (topS [⟨32 + O, A, B, C, 0⟩, haltI] wV (wS r)).regs A.toNat = applyV O (r B.toNat) (r C.toNat)) := by
  obtain ⟨e, h0, _⟩ := one_top (i := ⟨32 + O, A, B, C, 0⟩) (v := wV) (s := wS r) (bad_w h1 h2 a1 b1 c1) rfl rfl rfl rfl
  have hO : 32 + O - 32 = O := by omega
  have hd : doE (wS r) wV ⟨32 + O, A, B, C, 0⟩ = wrongE O (r C.toNat) := by
    unfold doE
    rw [if_neg (by dsimp only; omega), if_neg (by dsimp only; omega), if_neg (by dsimp only; omega), if_neg (by dsimp only; omega), if_neg (by dsimp only; omega)]
    dsimp only
    rw [hO]; rfl
  refine ⟨e.trans hd, fun hw => ?_⟩
  rw [h0 (hd.trans hw)]
  unfold doS
  rw [if_neg (by rw [hd, hw]; simp), if_neg (by dsimp only; omega), if_neg (by dsimp only; omega), if_neg (by dsimp only; omega), if_neg (by dsimp only; omega), if_neg (by dsimp only; omega), if_neg (by dsimp only; omega), if_neg (by dsimp only; omega), if_neg (by dsimp only; omega), if_neg (by dsimp only; omega), if_neg (by dsimp only; omega)]
  dsimp only
  rw [hO]
  exact ⟨rfl, by show (if A.toNat = A.toNat then _ else _) = _; rw [if_pos rfl]; rfl⟩
theorem bad_n {op A B N : Int} (hf : (op = 3 ∧ B = 0) ∨ (op = 4 ∧ N = 0) ∨ ((op = 10 ∨ op = 11) ∧ B = 0 ∧ N = 0)) (a1 : A < 8) (b1 : B < 8) : badAt 2 ⟨op, A, B, 0, N⟩ = 0 := by
  rcases hf with ⟨rfl, rfl⟩ | ⟨rfl, rfl⟩ | ⟨rfl | rfl, rfl, rfl⟩
  · unfold badAt
    have h : oneE ⟨3, A, 0, 0, N⟩ = 0 := oneK_pos (show fitsC 3 A 0 0 N from ⟨a1, rfl, rfl⟩)
    rw [if_neg (by simp [h]), if_neg (by simp [targB])]
  · unfold badAt
    have h : oneE ⟨4, A, B, 0, 0⟩ = 0 := oneK_pos (show fitsC 4 A B 0 0 from ⟨a1, b1, rfl, rfl⟩)
    rw [if_neg (by simp [h]), if_neg (by simp [targB])]
  · unfold badAt
    have h : oneE ⟨10, A, 0, 0, 0⟩ = 0 := oneK_pos (show fitsC 7 A 0 0 0 from ⟨a1, rfl, rfl, by decide, by decide⟩)
    rw [if_neg (by simp [h]), if_neg (by simp [targV])]
  · unfold badAt
    have h : oneE ⟨11, A, 0, 0, 0⟩ = 0 := oneK_pos (show fitsC 7 A 0 0 0 from ⟨a1, rfl, rfl, by decide, by decide⟩)
    rw [if_neg (by simp [h]), if_neg (by simp [targV])]
theorem ok_n {op A B C N : Int} (o : 0 ≤ op ∧ op ≤ 255) (a : 0 ≤ A ∧ A < 8) (b : 0 ≤ B ∧ B < 8) (c : 0 ≤ C ∧ C < 8) (n : -9223372036854775808 ≤ N ∧ N ≤ 9223372036854775807) : (⟨op, A, B, C, N⟩ : Ins).ok :=
  { op0 := o.1, op1 := o.2, a0 := a.1, a1 := by show A ≤ 255; omega, b0 := b.1, b1 := by show B ≤ 255; omega, c0 := c.1, c1 := by show C ≤ 255; omega, n0 := n.1, n1 := n.2 }
theorem top_set {A N : Int} (a1 : A < 8) (r : Nat → Int) : topE [⟨3, A, 0, 0, N⟩, haltI] wV (wS r) = 0 ∧ topS [⟨3, A, 0, 0, N⟩, haltI] wV (wS r) = (wS r).put A.toNat N := by
  obtain ⟨e, h0, _⟩ := one_top (i := ⟨3, A, 0, 0, N⟩) (v := wV) (s := wS r) (bad_n (Or.inl ⟨rfl, rfl⟩) a1 (by decide)) rfl rfl rfl rfl
  exact ⟨e.trans rfl, (h0 rfl).trans rfl⟩
theorem top_move {A B : Int} (a1 : A < 8) (b1 : B < 8) (r : Nat → Int) : topE [⟨4, A, B, 0, 0⟩, haltI] wV (wS r) = 0 ∧ topS [⟨4, A, B, 0, 0⟩, haltI] wV (wS r) = (wS r).put A.toNat (r B.toNat) := by
  obtain ⟨e, h0, _⟩ := one_top (i := ⟨4, A, B, 0, 0⟩) (v := wV) (s := wS r) (bad_n (Or.inr (Or.inl ⟨rfl, rfl⟩)) a1 b1) rfl rfl rfl rfl
  exact ⟨e.trans rfl, (h0 rfl).trans rfl⟩
theorem top_zero {A : Int} (a1 : A < 8) (r : Nat → Int) : topE [⟨10, A, 0, 0, 0⟩, haltI] wV (wS r) = 0 ∧ (topS [⟨10, A, 0, 0, 0⟩, haltI] wV (wS r)).at_ = if r A.toNat = 0 then 0 else 1 := by
  obtain ⟨e, h0, _⟩ := one_top (i := ⟨10, A, 0, 0, 0⟩) (v := wV) (s := wS r) (bad_n (Or.inr (Or.inr ⟨Or.inl rfl, rfl, rfl⟩)) a1 (by decide)) rfl rfl rfl rfl
  exact ⟨e.trans rfl, by rw [h0 rfl]; rfl⟩
theorem top_neg {A : Int} (a1 : A < 8) (r : Nat → Int) : topE [⟨11, A, 0, 0, 0⟩, haltI] wV (wS r) = 0 ∧ (topS [⟨11, A, 0, 0, 0⟩, haltI] wV (wS r)).at_ = if r A.toNat < 0 then 0 else 1 := by
  obtain ⟨e, h0, _⟩ := one_top (i := ⟨11, A, 0, 0, 0⟩) (v := wV) (s := wS r) (bad_n (Or.inr (Or.inr ⟨Or.inr rfl, rfl, rfl⟩)) a1 (by decide)) rfl rfl rfl rfl
  exact ⟨e.trans rfl, by rw [h0 rfl]; rfl⟩
theorem same_self (s : St) : sameB s s = true := by simp [sameB, regsB]

theorem preRow {w1 W : World} (h : Below w1.heap.size w1 W ∧ ∀ b o, b < w1.heap.size → W.cell? ⟨b, o, none⟩ = w1.cell? ⟨b, o, none⟩) {g : Nat} (hg : w1.heap.size ≤ g) (cs : Array Value) : Below w1.heap.size w1 (W.setRow g cs) ∧ ∀ b o, b < w1.heap.size → (W.setRow g cs).cell? ⟨b, o, none⟩ = w1.cell? ⟨b, o, none⟩ :=
  preOf (below_setRow h.1 hg cs)
theorem AW.start0 (w : World) : AW w [] [] w := ⟨Below.refl _ _, by simp, by simp⟩
/-- a register of an array of eight -/
theorem reg8 {W : World} {g : Nat} {t : TypeId} {r : Nat → Int} (h : Blk W g t #[.int .i64 (r 0), .int .i64 (r 1), .int .i64 (r 2), .int .i64 (r 3), .int .i64 (r 4), .int .i64 (r 5), .int .i64 (r 6), .int .i64 (r 7)]) (k : Nat) (hk : k < 8) : W.cell? ⟨g, k, none⟩ = some (.int .i64 (r k)) := by
  rw [h.cell]
  match k, hk with
  | 0, _ => rfl
  | 1, _ => rfl
  | 2, _ => rfl
  | 3, _ => rfl
  | 4, _ => rfl
  | 5, _ => rfl
  | 6, _ => rfl
  | 7, _ => rfl
theorem reg13 {W : World} {g : Nat} {t : TypeId} {T : St} {c d : Value} (h : Blk W g t #[.int .i64 T.at_, .bool T.ended, .int .i64 (T.regs 0), .int .i64 (T.regs 1), .int .i64 (T.regs 2), .int .i64 (T.regs 3), .int .i64 (T.regs 4), .int .i64 (T.regs 5), .int .i64 (T.regs 6), .int .i64 (T.regs 7), c, .int .i64 T.draws, d]) (k : Nat) (hk : k < 8) : W.cell? ⟨g, 2 + k, none⟩ = some (.int .i64 (T.regs k)) := by
  rw [h.cell]
  match k, hk with
  | 0, _ => rfl
  | 1, _ => rfl
  | 2, _ => rfl
  | 3, _ => rfl
  | 4, _ => rfl
  | 5, _ => rfl
  | 6, _ => rfl
  | 7, _ => rfl
section
variable {d : Option Tmp} {x y : Operand} {ty : TypeId} {pos : String} {after : Array Edge} {guard : Option (Nat × Bool)} {a : Act} {w : World} {K : Act → World → Prop} {Q : Exit → Act → World → Prop}
theorem wp_load46 (hx : a.eval x = .pointer (some ⟨blockOf (a.eval x), 0, none⟩)) (hb : IsRow w (blockOf (a.eval x)) 8) :
    Oper.wp Try.prog ⟨d, .load 46 x, ty, pos, after, guard⟩ a w K Q = K (a.put d (.agg (rowOf w (blockOf (a.eval x))))) w := wp_load_any _ 8 (fun g t' cs hB hk => run_loadVar_row w g t' 46 cs (0, 0) _ hB Try.underlying46 rfl (by rw [hk]; kernel_rfl)) hx hb
end
theorem rowOf_alloc8 {W : World} {g : Nat} {o : Obj} (h : IsRow W g 8) : rowOf (W.alloc o) g = rowOf W g := by
  obtain ⟨t, cs, hb, hk⟩ := h
  rw [hb.rowOf_eq, (hb.alloc o).rowOf_eq]
theorem AW.setRow_head {w W : World} {L : List Bk} {g : Nat} {t : TypeId} {cs : Array Value} (h : AW w (⟨g, t, cs⟩ :: L) [] W) (hg : w.heap.size ≤ g) (hn : ∀ e ∈ L, e.g ≠ g) (cs' : Array Value) : AW w (⟨g, t, cs'⟩ :: L) [] (W.setRow g cs') :=
  ⟨below_setRow h.b hg _, fun e he => by
    rcases List.mem_cons.1 he with rfl | he
    · exact (h.l _ (.head _)).row cs'
    · exact (h.l _ (.tail _ he)).row_far (hn e he) cs', by simp⟩
attribute [local go_sem ↓] wp_load46 wp_load53 wp_load56 wp_load28 wp_store53 wp_store56
attribute [local go_sem] blockOf aggOf Value.oneCell' isRow_alloc rowOf_alloc5 rowOf_alloc13 rowOf_alloc8 isRow_drew isRow_drewN rowOf_drew rowOf_drewN

set_option maxRecDepth 100000 in
set_option maxHeartbeats 4000000 in
theorem words_walk (op a b c : Int) (r : Nat → Int) (w : World) (h0 : 0 ≤ op ∧ op ≤ 255) (ha : 0 ≤ a ∧ a ≤ 255) (hb : 0 ≤ b ∧ b ≤ 255) (hc : 0 ≤ c ∧ c ≤ 255) (hr : ∀ k, -9223372036854775808 ≤ r k ∧ r k ≤ 9223372036854775807) :
    Calls Try.prog 8 #[.int .u8 op, .int .u8 a, .int .u8 b, .int .u8 c, .agg #[.int .i64 (r 0), .int .i64 (r 1), .int .i64 (r 2), .int .i64 (r 3), .int .i64 (r 4), .int .i64 (r 5), .int .i64 (r 6), .int .i64 (r 7)]] w fun e w' => e = .returned (.bool true) ∧ Below w.heap.size w w' := by
  have hA := AW.start0 w
  obtain ⟨A, hA_⟩ : ∃ A, A = a % 8 := ⟨_, rfl⟩
  obtain ⟨B, hB_⟩ : ∃ B, B = b % 8 := ⟨_, rfl⟩
  obtain ⟨C, hC_⟩ : ∃ C, C = c % 8 := ⟨_, rfl⟩
  obtain ⟨O, hO_⟩ : ∃ O, O = 1 + op % 17 := ⟨_, rfl⟩
  have a0 : 0 ≤ A ∧ A < 8 := by omega
  have b0 : 0 ≤ B ∧ B < 8 := by omega
  have c0 : 0 ≤ C ∧ C < 8 := by omega
  have o0 : 1 ≤ O ∧ O ≤ 17 := by omega
  have ma : Int.tmod a 8 = A := by rw [hA_]; exact Int.tmod_eq_emod_of_nonneg ha.1
  have mb : Int.tmod b 8 = B := by rw [hB_]; exact Int.tmod_eq_emod_of_nonneg hb.1
  have mc : Int.tmod c 8 = C := by rw [hC_]; exact Int.tmod_eq_emod_of_nonneg hc.1
  have mo : Int.tmod op 17 = op % 17 := Int.tmod_eq_emod_of_nonneg h0.1
  have mo1 : IntKind.u8.wrap (1 + op % 17) = O := (IntWalk.u8_in (1 + op % 17) (by omega)).trans hO_.symm
  have mo2 : IntKind.u8.wrap (32 + O) = 32 + O := IntWalk.u8_in (32 + O) (by omega)
  have eo : 1 + op % 17 = O := hO_.symm
  have ea : a % 8 = A := hA_.symm
  have eb : b % 8 = B := hB_.symm
  have ec : c % 8 = C := hC_.symm
  clear hA_ hB_ hC_ hO_ ha hb hc h0
  go_enter Try.func8, Try.ntmps8
  go_upto_region 1 with fail
  have hA1 := hA.put 46 #[.int .i64 (r 0), .int .i64 (r 1), .int .i64 (r 2), .int .i64 (r 3), .int .i64 (r 4), .int .i64 (r 5), .int .i64 (r 6), .int .i64 (r 7)]
  obtain ⟨W, hW⟩ : ∃ W, W = (w.alloc (.cells #[.int .i64 (r 0), .int .i64 (r 1), .int .i64 (r 2), .int .i64 (r 3), .int .i64 (r 4), .int .i64 (r 5), .int .i64 (r 6), .int .i64 (r 7)] 46)) := ⟨_, rfl⟩
  rw [← hW] at hA1 ⊢
  clear hW hA
  go_wp2_with fail
  go_at_call 23
  refine (awake18_c W).mono ?_
  rintro e W1 ⟨rfl, hb⟩
  have hA2 := hA1.call hb
  have rl := reg8 (hA2.l _ (.head _)) 
  have hf8 : ∀ i, W1.frozen? ⟨w.heap.size, i, none⟩ = false := fun i => (hA2.l _ (.head _)).frozen i
  have hl8 : w.heap.size < W1.heap.size := (hA2.l _ (.head _)).lt
  clear hA1 hb
  dsimp only at rl
  obtain ⟨rA, hrA⟩ : ∃ x, x = r A.toNat := ⟨_, rfl⟩
  obtain ⟨rB, hrB⟩ : ∃ x, x = r B.toNat := ⟨_, rfl⟩
  obtain ⟨rC, hrC⟩ : ∃ x, x = r C.toNat := ⟨_, rfl⟩
  have HrA := Lib.hid hrA
  have HrB := Lib.hid hrB
  have HrC := Lib.hid hrC
  clear hrA hrB hrC rl
  have p9 : IsRow W1 w.heap.size 8 := (hA2.l _ (.head _)).isRow rfl
  have q9 : rowOf W1 w.heap.size = #[.int .i64 (r 0), .int .i64 (r 1), .int .i64 (r 2), .int .i64 (r 3), .int .i64 (r 4), .int .i64 (r 5), .int .i64 (r 6), .int .i64 (r 7)] := (hA2.l _ (.head _)).rowOf_eq
  go_upto_region 7 with fail
  have hA3 := hA2.put 28 #[.int .u8 (32 + O), .int .u8 A, .int .u8 B, .int .u8 C, .int .i64 0]
  have hA4 := hA3.put' (g := W1.heap.size + 1) 53 #[.int .i64 0, .bool false, .int .i64 (r 0), .int .i64 (r 1), .int .i64 (r 2), .int .i64 (r 3), .int .i64 (r 4), .int .i64 (r 5), .int .i64 (r 6), .int .i64 (r 7), .slice none 0 0, .int .i64 0, .slice none 0 0] (by simp)
  have hA5 := hA4.put' (g := W1.heap.size + 1 + 1) 56 #[.int .u64 0, .int .i64 0, .int .i64 0, .int .i64 1, .int .i64 0] (by simp)
  obtain ⟨W2, hW⟩ : ∃ W, W = ((W1.alloc (.cells #[.int .u8 (32 + O), .int .u8 A, .int .u8 B, .int .u8 C, .int .i64 0] 28)).alloc (.cells #[.int .i64 0, .bool false, .int .i64 (r 0), .int .i64 (r 1), .int .i64 (r 2), .int .i64 (r 3), .int .i64 (r 4), .int .i64 (r 5), .int .i64 (r 6), .int .i64 (r 7), .slice none 0 0, .int .i64 0, .slice none 0 0] 53)).alloc (.cells #[.int .u64 0, .int .i64 0, .int .i64 0, .int .i64 1, .int .i64 0] 56) := ⟨_, rfl⟩
  rw [← hW] at hA5 ⊢
  clear hW hA2 hA3 hA4 p9 q9 hf8 hl8
  have rl := reg8 (hA5.l _ (.tail _ (.tail _ (.tail _ (.head _)))))
  dsimp only at rl
  have zB : W2.cell? ⟨w.heap.size, B.toNat, none⟩ = some (.int .i64 rB) := HrB.out ▸ rl B.toNat (by omega)
  have zC : W2.cell? ⟨w.heap.size, C.toNat, none⟩ = some (.int .i64 rC) := HrC.out ▸ rl C.toNat (by omega)
  clear rl
  have hlt := (hA5.l _ (.tail _ (.tail _ (.tail _ (.head _))))).lt
  dsimp only at hlt
  have hpc := fun x => past_cell (w := W2) hlt x
  have a00 := a0.1
  have a08 := a0.2
  have b00 := b0.1
  have b08 := b0.2
  have c00 := c0.1
  have c08 := c0.2
  obtain ⟨V, hV⟩ : ∃ V, V = applyV O rB rC := ⟨_, rfl⟩
  obtain ⟨E, hE⟩ : ∃ E, E = wrongE O rC := ⟨_, rfl⟩
  have AC := Lib.hid (apply_c O rB rC)
  rw [← hV, ← hE] at AC
  have HV := Lib.hid hV
  have HE := Lib.hid hE
  clear hV hE
  (refine past_region (by kernel_rfl) (by kernel_rfl) ?_; (repeat (go_big_quiet_step (((go_at_call 29; exact past_of (AC.out _)))))); refine wpQuiet_nil ?_; rintro wp_ ⟨⟨wp_, hp_⟩, rfl⟩)
  have hB1 := hA5.call hp_
  clear hpc hp_ zB zC hA5 AC hlt
  have pV : IsRow wp_ (W1.heap.size + 1 + 1) 5 := (hB1.l _ (.head _)).isRow rfl
  have qV : rowOf wp_ (W1.heap.size + 1 + 1) = #[.int .u64 0, .int .i64 0, .int .i64 0, .int .i64 1, .int .i64 0] := (hB1.l _ (.head _)).rowOf_eq
  have pS : IsRow wp_ (W1.heap.size + 1) 13 := (hB1.l _ (.tail _ (.head _))).isRow rfl
  have qS : rowOf wp_ (W1.heap.size + 1) = #[.int .i64 0, .bool false, .int .i64 (r 0), .int .i64 (r 1), .int .i64 (r 2), .int .i64 (r 3), .int .i64 (r 4), .int .i64 (r 5), .int .i64 (r 6), .int .i64 (r 7), .slice none 0 0, .int .i64 0, .slice none 0 0] := (hB1.l _ (.tail _ (.head _))).rowOf_eq
  have pI : IsRow wp_ W1.heap.size 5 := (hB1.l _ (.tail _ (.tail _ (.head _)))).isRow rfl
  have qI : rowOf wp_ W1.heap.size = #[.int .u8 (32 + O), .int .u8 A, .int .u8 B, .int .u8 C, .int .i64 0] := (hB1.l _ (.tail _ (.tail _ (.head _)))).rowOf_eq
  go_wp2_with fail
  clear pV qV pS qS pI qI
  obtain ⟨hE1, hE2⟩ := top_w o0.1 o0.2 a08 b08 c08 r
  rw [← HrC.out, ← HE.out] at hE1 hE2
  rw [← HrB.out, ← HV.out] at hE2
  obtain ⟨T1, hT1⟩ : ∃ T, T = topS [⟨32 + O, A, B, C, 0⟩, haltI] wV (wS r) := ⟨_, rfl⟩
  rw [← hT1] at hE2
  go_at_call 25
  refine (one_w ⟨32 + O, A, B, C, 0⟩ (ok_n ⟨by omega, by omega⟩ a0 b0 c0 ⟨by decide, by decide⟩) (bad_w o0.1 o0.2 a08 b08 c08) (by dsimp only; omega) (by dsimp only; omega) r T1 E hT1.symm hE1 wp_).mono ?_
  rintro e U1 ⟨A1, k1, D1, y1, rfl, hb⟩
  have hU1 := hB1.call hb
  clear hT1 hE1 hb hB1
  have HE2 := Lib.hid hE2
  clear hE2
  go_upto_region 9 with fail
  have hB2 := hU1.put 53 #[.int .i64 T1.at_, .bool T1.ended, .int .i64 (T1.regs 0), .int .i64 (T1.regs 1), .int .i64 (T1.regs 2), .int .i64 (T1.regs 3), .int .i64 (T1.regs 4), .int .i64 (T1.regs 5), .int .i64 (T1.regs 6), .int .i64 (T1.regs 7), .slice A1 0 k1, .int .i64 T1.draws, .slice D1 0 y1]
  obtain ⟨Y9, hW⟩ : ∃ W, W = (U1.alloc (.cells #[.int .i64 T1.at_, .bool T1.ended, .int .i64 (T1.regs 0), .int .i64 (T1.regs 1), .int .i64 (T1.regs 2), .int .i64 (T1.regs 3), .int .i64 (T1.regs 4), .int .i64 (T1.regs 5), .int .i64 (T1.regs 6), .int .i64 (T1.regs 7), .slice A1 0 k1, .int .i64 T1.draws, .slice D1 0 y1] 53)) := ⟨_, rfl⟩
  rw [← hW] at hB2 ⊢
  clear hW hU1
  have hK9 : AW w [⟨(W1.heap.size + 1 + 1), 56, #[.int .u64 0, .int .i64 0, .int .i64 0, .int .i64 1, .int .i64 0]⟩, ⟨(W1.heap.size + 1), 53, #[.int .i64 0, .bool false, .int .i64 (r 0), .int .i64 (r 1), .int .i64 (r 2), .int .i64 (r 3), .int .i64 (r 4), .int .i64 (r 5), .int .i64 (r 6), .int .i64 (r 7), .slice none 0 0, .int .i64 0, .slice none 0 0]⟩, ⟨w.heap.size, 46, #[.int .i64 (r 0), .int .i64 (r 1), .int .i64 (r 2), .int .i64 (r 3), .int .i64 (r 4), .int .i64 (r 5), .int .i64 (r 6), .int .i64 (r 7)]⟩] [] Y9 := hB2.less (by intro e he; simp only [List.mem_cons, List.not_mem_nil, or_false] at he; rcases he with rfl | rfl | rfl <;> simp) (fun _ h => h)
  go_cut [83] (fun p X => p = .bool false ∧ AW w [⟨(W1.heap.size + 1 + 1), 56, #[.int .u64 0, .int .i64 0, .int .i64 0, .int .i64 1, .int .i64 0]⟩, ⟨(W1.heap.size + 1), 53, #[.int .i64 0, .bool false, .int .i64 (r 0), .int .i64 (r 1), .int .i64 (r 2), .int .i64 (r 3), .int .i64 (r 4), .int .i64 (r 5), .int .i64 (r 6), .int .i64 (r 7), .slice none 0 0, .int .i64 0, .slice none 0 0]⟩, ⟨w.heap.size, 46, #[.int .i64 (r 0), .int .i64 (r 1), .int .i64 (r 2), .int .i64 (r 3), .int .i64 (r 4), .int .i64 (r 5), .int .i64 (r 6), .int .i64 (r 7)]⟩] [] X)
  case first =>
    have z0 : Y9.cell? ⟨U1.heap.size, 0, none⟩ = some (.int .i64 T1.at_) := (hB2.l _ (.head _)).cell 0
    have z1 : Y9.cell? ⟨U1.heap.size, 2 + A.toNat, none⟩ = some (.int .i64 (T1.regs A.toNat)) := reg13 (hB2.l _ (.head _)) A.toNat (by omega)
    clear hB2
    by_cases hE0 : E = 0
    · obtain ⟨t1, t2⟩ := HE2.out hE0
      rw [t1] at z0
      rw [t2] at z1
      subst hE0
      clear t1 t2 HE2
      go_wp2_with fail
      go_meet
      exact ⟨rfl, hK9⟩
    · have e1 : (E == 0) = false := by simp [hE0]
      clear hE0 HE2 z0 z1
      go_wp2_with fail
      go_meet
      exact ⟨rfl, hK9⟩
  case rest =>
  obtain ⟨rfl, hK⟩ := hcut
  clear hK9 hB2 HE2
  obtain ⟨T, hT⟩ : ∃ T, T = (wS r).put A.toNat rB := ⟨_, rfl⟩
  have hTr : T.regs A.toNat = rB := by rw [hT]; show (if A.toNat = A.toNat then rB else _) = rB; rw [if_pos rfl]
  obtain ⟨s1, s2⟩ := top_set (N := rB) a08 r
  obtain ⟨m1, m2⟩ := top_move a08 b08 r
  rw [← HrB.out] at m2
  rw [← hT] at s2 m2
  have hrB := hr B.toNat
  rw [← HrB.out] at hrB
  have ON := Lib.hid (fun (X : World) => (one_w ⟨3, A, 0, 0, rB⟩ (ok_n ⟨by decide, by decide⟩ a0 ⟨by decide, by decide⟩ ⟨by decide, by decide⟩ hrB) (bad_n (Or.inl ⟨rfl, rfl⟩) a08 (by decide)) (by show (3 : Int) ≠ 6; decide) (by show (3 : Int) ≠ 8; decide) r T 0 s2 s1 X).mono (R' := fun e w' => ∃ A1 k1 A2 k2, e = .returned (.tuple #[.agg #[.int .i64 T.at_, .bool T.ended, .int .i64 (T.regs 0), .int .i64 (T.regs 1), .int .i64 (T.regs 2), .int .i64 (T.regs 3), .int .i64 (T.regs 4), .int .i64 (T.regs 5), .int .i64 (T.regs 6), .int .i64 (T.regs 7), .slice A1 0 k1, .int .i64 T.draws, .slice A2 0 k2], .int .i64 0]) ∧ Below X.heap.size X w' ∧ (∀ g k, IsRow X g k → IsRow w' g k)) fun e w' ⟨A1, k1, A2, k2, he, hb⟩ => ⟨A1, k1, A2, k2, he, hb, fun g k h => h.below hb⟩)
  have HT := Lib.hid hT
  clear hT s1 s2 hrB
  go_upto_region 11 with fail
  go_cut [18, 19] (fun p q X => ∃ g A1 k1 A2 k2, p = .pointer (some ⟨g, 0, none⟩) ∧ q = .int .i64 0 ∧ AW w (⟨g, 53, #[.int .i64 T.at_, .bool T.ended, .int .i64 (T.regs 0), .int .i64 (T.regs 1), .int .i64 (T.regs 2), .int .i64 (T.regs 3), .int .i64 (T.regs 4), .int .i64 (T.regs 5), .int .i64 (T.regs 6), .int .i64 (T.regs 7), .slice A1 0 k1, .int .i64 T.draws, .slice A2 0 k2]⟩ :: [⟨(W1.heap.size + 1 + 1), 56, #[.int .u64 0, .int .i64 0, .int .i64 0, .int .i64 1, .int .i64 0]⟩, ⟨(W1.heap.size + 1), 53, #[.int .i64 0, .bool false, .int .i64 (r 0), .int .i64 (r 1), .int .i64 (r 2), .int .i64 (r 3), .int .i64 (r 4), .int .i64 (r 5), .int .i64 (r 6), .int .i64 (r 7), .slice none 0 0, .int .i64 0, .slice none 0 0]⟩, ⟨w.heap.size, 46, #[.int .i64 (r 0), .int .i64 (r 1), .int .i64 (r 2), .int .i64 (r 3), .int .i64 (r 4), .int .i64 (r 5), .int .i64 (r 6), .int .i64 (r 7)]⟩]) [] X)
  case first =>
    have hl9 : w.heap.size < wc.heap.size := (hK.l _ (.tail _ (.tail _ (.head _)))).lt
    have hlV : (W1.heap.size + 1 + 1) < wc.heap.size := (hK.l _ (.head _)).lt
    have hlS : (W1.heap.size + 1) < wc.heap.size := (hK.l _ (.tail _ (.head _))).lt
    have rl := reg8 (hK.l _ (.tail _ (.tail _ (.head _))))
    dsimp only at rl
    have zB : wc.cell? ⟨w.heap.size, B.toNat, none⟩ = some (.int .i64 rB) := HrB.out ▸ rl B.toNat (by omega)
    clear rl
    obtain ⟨⟨v0, v1, v2, v3, v4⟩, vf⟩ := blk5 (hK.l _ (.head _))
    dsimp only at v0 v1 v2 v3 v4
    clear vf
    obtain ⟨⟨s0, s1, s2, s3, s4, s5, s6, s7, s8, s9, s10, s11, s12⟩, sf⟩ := blk13 (hK.l _ (.tail _ (.head _)))
    dsimp only at s0 s1 s2 s3 s4 s5 s6 s7 s8 s9 s10 s11 s12
    clear sf
    have irn : ∀ (W : World) (g k : Nat) (t : TypeId) (cs : Array Value), g = W.heap.size → cs.size = k → IsRow (W.alloc (.cells cs t)) g k := fun W g k t cs => isRow_new
    have hne : ∀ e ∈ ([⟨(W1.heap.size + 1 + 1), 56, #[.int .u64 0, .int .i64 0, .int .i64 0, .int .i64 1, .int .i64 0]⟩, ⟨(W1.heap.size + 1), 53, #[.int .i64 0, .bool false, .int .i64 (r 0), .int .i64 (r 1), .int .i64 (r 2), .int .i64 (r 3), .int .i64 (r 4), .int .i64 (r 5), .int .i64 (r 6), .int .i64 (r 7), .slice none 0 0, .int .i64 0, .slice none 0 0]⟩, ⟨w.heap.size, 46, #[.int .i64 (r 0), .int .i64 (r 1), .int .i64 (r 2), .int .i64 (r 3), .int .i64 (r 4), .int .i64 (r 5), .int .i64 (r 6), .int .i64 (r 7)]⟩] : List Bk), e.g ≠ wc.heap.size := fun e he => Nat.ne_of_lt (hK.l e he).lt
    have hge := hK.b.size
    have HN := Lib.hid hne
    have HK := Lib.hid hK
    clear hne hK
    go_region_held3 (fun W => Below wc.heap.size wc W ∧ ∀ b o, b < wc.heap.size → W.cell? ⟨b, o, none⟩ = wc.cell? ⟨b, o, none⟩)
      (repeat' (first | exact preD | assumption | exact preR | refine preB ?_ hb2 | refine preE ?_ | refine preA ?_ _ | refine preS ?_ ?_ _ | refine preRow ?_ ?_ _ | omega | (simp; done) | (simp; omega)))
      ((go_at_call 25; refine (ON.out _).mono ?_; rintro e u2 ⟨F1, f1, F2, f2, rfl, hb2, hro⟩; obtain ⟨hc2, hf2⟩ := bcell hb2; have hz2 := hb2.size; (try simp at hz2); ((first | have pX := hro _ 13 (irn _ _ _ _ _ rfl rfl) | skip); (try simp at pX))))
    all_goals (go_wp2_with fail; go_meet)
    all_goals (first
      | exact ⟨_, _, _, _, _, rfl, rfl, (HK.out.call hb2).put _ _⟩
      | exact ⟨_, _, _, _, _, rfl, rfl, (HK.out.drew.call hb2).put _ _⟩
      | exact ⟨_, _, _, _, _, rfl, rfl, ((HK.out.put _ _).call hb2).setRow_head hge HN.out _⟩
      | exact ⟨_, _, _, _, _, rfl, rfl, ((HK.out.drew.put _ _).call hb2).setRow_head hge HN.out _⟩
      | exact ⟨_, _, _, _, _, rfl, rfl, (((HK.out.drew.call hb2).put _ _).setRow_head (Nat.le_trans hge hb2.size) (fun e he => Nat.ne_of_lt ((HK.out.drew.call hb2).l e he).lt) _)⟩)
  case rest =>
  obtain ⟨G2, F1, f1, F2, f2, rfl, rfl, hK2⟩ := hcut

  have pV : IsRow wc (W1.heap.size + 1 + 1) 5 := (hK2.l _ (.tail _ (.head _))).isRow rfl
  have qV : rowOf wc (W1.heap.size + 1 + 1) = #[.int .u64 0, .int .i64 0, .int .i64 0, .int .i64 1, .int .i64 0] := (hK2.l _ (.tail _ (.head _))).rowOf_eq
  have pS : IsRow wc (W1.heap.size + 1) 13 := (hK2.l _ (.tail _ (.tail _ (.head _)))).isRow rfl
  have qS : rowOf wc (W1.heap.size + 1) = #[.int .i64 0, .bool false, .int .i64 (r 0), .int .i64 (r 1), .int .i64 (r 2), .int .i64 (r 3), .int .i64 (r 4), .int .i64 (r 5), .int .i64 (r 6), .int .i64 (r 7), .slice none 0 0, .int .i64 0, .slice none 0 0] := (hK2.l _ (.tail _ (.tail _ (.head _)))).rowOf_eq
  go_wp2_with fail
  clear pV qV pS qS
  go_at_call 25
  refine (one_w ⟨4, A, B, 0, 0⟩ (ok_n ⟨by decide, by decide⟩ a0 b0 ⟨by decide, by decide⟩ ⟨by decide, by decide⟩) (bad_n (Or.inr (Or.inl ⟨rfl, rfl⟩)) a08 b08) (by show (4 : Int) ≠ 6; decide) (by show (4 : Int) ≠ 8; decide) r T 0 m2 m1 wc).mono ?_
  rintro e U12 ⟨M12, m12_, N12, n12_, rfl, hb⟩
  have hU12 := hK2.call hb
  clear hb hK2
  go_upto_region 13 with fail
  have hY12 := hU12.put 53 #[.int .i64 T.at_, .bool T.ended, .int .i64 (T.regs 0), .int .i64 (T.regs 1), .int .i64 (T.regs 2), .int .i64 (T.regs 3), .int .i64 (T.regs 4), .int .i64 (T.regs 5), .int .i64 (T.regs 6), .int .i64 (T.regs 7), .slice M12 0 m12_, .int .i64 T.draws, .slice N12 0 n12_]
  obtain ⟨Y12, hW⟩ : ∃ W, W = (U12.alloc (.cells #[.int .i64 T.at_, .bool T.ended, .int .i64 (T.regs 0), .int .i64 (T.regs 1), .int .i64 (T.regs 2), .int .i64 (T.regs 3), .int .i64 (T.regs 4), .int .i64 (T.regs 5), .int .i64 (T.regs 6), .int .i64 (T.regs 7), .slice M12 0 m12_, .int .i64 T.draws, .slice N12 0 n12_] 53)) := ⟨_, rfl⟩
  rw [← hW] at hY12 ⊢
  clear hW hU12
  obtain ⟨j1, j2⟩ := top_zero a08 r
  obtain ⟨k1_, k2_⟩ := top_neg a08 r
  rw [← HrA.out] at j2 k2_
  obtain ⟨T4, hT4⟩ : ∃ T, T = topS [⟨10, A, 0, 0, 0⟩, haltI] wV (wS r) := ⟨_, rfl⟩
  obtain ⟨T5, hT5⟩ : ∃ T, T = topS [⟨11, A, 0, 0, 0⟩, haltI] wV (wS r) := ⟨_, rfl⟩
  rw [← hT4] at j2
  rw [← hT5] at k2_
  have J2 := Lib.hid j2
  have K2 := Lib.hid k2_
  have HT4 := Lib.hid hT4
  have HT5 := Lib.hid hT5
  clear j2 k2_ m1 m2 hT4 hT5
  have pV : IsRow Y12 (W1.heap.size + 1 + 1) 5 := (hY12.l _ (.tail _ (.tail _ (.head _)))).isRow rfl
  have qV : rowOf Y12 (W1.heap.size + 1 + 1) = #[.int .u64 0, .int .i64 0, .int .i64 0, .int .i64 1, .int .i64 0] := (hY12.l _ (.tail _ (.tail _ (.head _)))).rowOf_eq
  have pS : IsRow Y12 (W1.heap.size + 1) 13 := (hY12.l _ (.tail _ (.tail _ (.tail _ (.head _))))).isRow rfl
  have qS : rowOf Y12 (W1.heap.size + 1) = #[.int .i64 0, .bool false, .int .i64 (r 0), .int .i64 (r 1), .int .i64 (r 2), .int .i64 (r 3), .int .i64 (r 4), .int .i64 (r 5), .int .i64 (r 6), .int .i64 (r 7), .slice none 0 0, .int .i64 0, .slice none 0 0] := (hY12.l _ (.tail _ (.tail _ (.tail _ (.head _))))).rowOf_eq
  go_wp2_with fail
  clear pV qV pS qS
  go_at_call 25
  refine (one_w ⟨10, A, 0, 0, 0⟩ (ok_n ⟨by decide, by decide⟩ a0 ⟨by decide, by decide⟩ ⟨by decide, by decide⟩ ⟨by decide, by decide⟩) (bad_n (Or.inr (Or.inr ⟨Or.inl rfl, rfl, rfl⟩)) a08 (by decide)) (by show (10 : Int) ≠ 6; decide) (by show (10 : Int) ≠ 8; decide) r T4 0 HT4.out.symm j1 Y12).mono ?_
  rintro e U13 ⟨M13, m13_, N13, n13_, rfl, hb⟩
  have hU13 := hY12.call hb
  clear hb hY12
  go_upto_region 14 with fail
  have hY13 := hU13.put 53 #[.int .i64 T4.at_, .bool T4.ended, .int .i64 (T4.regs 0), .int .i64 (T4.regs 1), .int .i64 (T4.regs 2), .int .i64 (T4.regs 3), .int .i64 (T4.regs 4), .int .i64 (T4.regs 5), .int .i64 (T4.regs 6), .int .i64 (T4.regs 7), .slice M13 0 m13_, .int .i64 T4.draws, .slice N13 0 n13_]
  obtain ⟨Y13, hW⟩ : ∃ W, W = (U13.alloc (.cells #[.int .i64 T4.at_, .bool T4.ended, .int .i64 (T4.regs 0), .int .i64 (T4.regs 1), .int .i64 (T4.regs 2), .int .i64 (T4.regs 3), .int .i64 (T4.regs 4), .int .i64 (T4.regs 5), .int .i64 (T4.regs 6), .int .i64 (T4.regs 7), .slice M13 0 m13_, .int .i64 T4.draws, .slice N13 0 n13_] 53)) := ⟨_, rfl⟩
  rw [← hW] at hY13 ⊢
  clear hW hU13
  clear HT4 j1
  have pV : IsRow Y13 (W1.heap.size + 1 + 1) 5 := (hY13.l _ (.tail _ (.tail _ (.tail _ (.head _))))).isRow rfl
  have qV : rowOf Y13 (W1.heap.size + 1 + 1) = #[.int .u64 0, .int .i64 0, .int .i64 0, .int .i64 1, .int .i64 0] := (hY13.l _ (.tail _ (.tail _ (.tail _ (.head _))))).rowOf_eq
  have pS : IsRow Y13 (W1.heap.size + 1) 13 := (hY13.l _ (.tail _ (.tail _ (.tail _ (.tail _ (.head _)))))).isRow rfl
  have qS : rowOf Y13 (W1.heap.size + 1) = #[.int .i64 0, .bool false, .int .i64 (r 0), .int .i64 (r 1), .int .i64 (r 2), .int .i64 (r 3), .int .i64 (r 4), .int .i64 (r 5), .int .i64 (r 6), .int .i64 (r 7), .slice none 0 0, .int .i64 0, .slice none 0 0] := (hY13.l _ (.tail _ (.tail _ (.tail _ (.tail _ (.head _)))))).rowOf_eq
  go_wp2_with fail
  clear pV qV pS qS
  go_at_call 25
  refine (one_w ⟨11, A, 0, 0, 0⟩ (ok_n ⟨by decide, by decide⟩ a0 ⟨by decide, by decide⟩ ⟨by decide, by decide⟩ ⟨by decide, by decide⟩) (bad_n (Or.inr (Or.inr ⟨Or.inr rfl, rfl, rfl⟩)) a08 (by decide)) (by show (11 : Int) ≠ 6; decide) (by show (11 : Int) ≠ 8; decide) r T5 0 HT5.out.symm k1_ Y13).mono ?_
  rintro e U14 ⟨M14, m14_, N14, n14_, rfl, hb⟩
  have hU14 := hY13.call hb
  clear hb hY13
  go_upto_region 15 with fail
  have hY14 := hU14.put 53 #[.int .i64 T5.at_, .bool T5.ended, .int .i64 (T5.regs 0), .int .i64 (T5.regs 1), .int .i64 (T5.regs 2), .int .i64 (T5.regs 3), .int .i64 (T5.regs 4), .int .i64 (T5.regs 5), .int .i64 (T5.regs 6), .int .i64 (T5.regs 7), .slice M14 0 m14_, .int .i64 T5.draws, .slice N14 0 n14_]
  obtain ⟨Y14, hW⟩ : ∃ W, W = (U14.alloc (.cells #[.int .i64 T5.at_, .bool T5.ended, .int .i64 (T5.regs 0), .int .i64 (T5.regs 1), .int .i64 (T5.regs 2), .int .i64 (T5.regs 3), .int .i64 (T5.regs 4), .int .i64 (T5.regs 5), .int .i64 (T5.regs 6), .int .i64 (T5.regs 7), .slice M14 0 m14_, .int .i64 T5.draws, .slice N14 0 n14_] 53)) := ⟨_, rfl⟩
  rw [← hW] at hY14 ⊢
  clear hW hU14
  clear HT5 k1_
  have g5 : Y14.cell? ⟨U14.heap.size, 0, none⟩ = some (.int .i64 T5.at_) := (hY14.l _ (.head _)).cell 0
  have g4 : Y14.cell? ⟨U13.heap.size, 0, none⟩ = some (.int .i64 T4.at_) := (hY14.l _ (.tail _ (.head _))).cell 0
  have x2 := reg13 (hY14.l _ (.tail _ (.tail _ (.tail _ (.head _))))) A.toNat (by omega)
  dsimp only at x2
  rw [hTr] at x2
  have rl := reg8 (hY14.l _ (.tail _ (.tail _ (.tail _ (.tail _ (.tail _ (.tail _ (.head _))))))))
  dsimp only at rl
  have zB : Y14.cell? ⟨w.heap.size, B.toNat, none⟩ = some (.int .i64 rB) := HrB.out ▸ rl B.toNat (by omega)
  have zA : Y14.cell? ⟨w.heap.size, A.toNat, none⟩ = some (.int .i64 rA) := HrA.out ▸ rl A.toNat (by omega)
  clear rl
  have l5 : U14.heap.size < Y14.heap.size := (hY14.l _ (.head _)).lt
  have l4 : U13.heap.size < Y14.heap.size := (hY14.l _ (.tail _ (.head _))).lt
  have l3 : U12.heap.size < Y14.heap.size := (hY14.l _ (.tail _ (.tail _ (.head _)))).lt
  have l2 : G2 < Y14.heap.size := (hY14.l _ (.tail _ (.tail _ (.tail _ (.head _))))).lt
  have l0 : w.heap.size < Y14.heap.size := (hY14.l _ (.tail _ (.tail _ (.tail _ (.tail _ (.tail _ (.tail _ (.head _)))))))).lt
  have hp5 := fun x => past_cell (w := Y14) l5 x
  have hp4 := fun x => past_cell (w := Y14) l4 x
  have hp3 := fun x => past_cell (w := Y14) l3 x
  have hp2 := fun x => past_cell (w := Y14) l2 x
  have hp0 := fun x => past_cell (w := Y14) l0 x
  obtain ⟨⟨s0, s1, s2, s3, s4, s5, s6, s7, s8, s9, s10, s11, s12⟩, sf⟩ := blk13 (hY14.l _ (.tail _ (.tail _ (.tail _ (.head _)))))
  obtain ⟨⟨u0, u1, u2, u3, u4, u5, u6, u7, u8, u9, u10, u11, u12⟩, uf⟩ := blk13 (hY14.l _ (.tail _ (.tail _ (.head _))))
  dsimp only at s0 s1 s2 s3 s4 s5 s6 s7 s8 s9 s10 s11 s12 u0 u1 u2 u3 u4 u5 u6 u7 u8 u9 u10 u11 u12
  clear sf uf
  have tc : T.cells = [] := by rw [HT.out]; rfl
  have ts : T.sends = [] := by rw [HT.out]; rfl
  have SM := Lib.hid (fun (x : Past Y14) => ((same_c T T F1 F2 M12 N12 0 0 0 0 f1 f2 m12_ n12_ x.W (by rw [tc]; exact reads_0) (by rw [ts]; exact reads_0) (by rw [tc]; exact reads_0) (by rw [ts]; exact reads_0) (by decide) (by decide)).mono (R' := fun e w' => e = .returned (.bool true) ∧ Below x.W.heap.size x.W w') fun e w' ⟨he, hb⟩ => ⟨he.trans (by rw [same_self]), hb⟩ : Calls Try.prog 30 #[.agg #[.int .i64 T.at_, .bool T.ended, .int .i64 (T.regs 0), .int .i64 (T.regs 1), .int .i64 (T.regs 2), .int .i64 (T.regs 3), .int .i64 (T.regs 4), .int .i64 (T.regs 5), .int .i64 (T.regs 6), .int .i64 (T.regs 7), .slice F1 0 f1, .int .i64 T.draws, .slice F2 0 f2], .agg #[.int .i64 T.at_, .bool T.ended, .int .i64 (T.regs 0), .int .i64 (T.regs 1), .int .i64 (T.regs 2), .int .i64 (T.regs 3), .int .i64 (T.regs 4), .int .i64 (T.regs 5), .int .i64 (T.regs 6), .int .i64 (T.regs 7), .slice M12 0 m12_, .int .i64 T.draws, .slice N12 0 n12_]] x.W _))
  have hbB := hY14.b
  clear hY14 hTr HT tc ts
  have J := J2.out
  have K := K2.out
  clear J2 K2 HrA HrB HrC
  by_cases hz : rA = 0
  · rw [if_pos hz] at J
    rw [if_neg (by omega)] at K
    rw [J] at g4
    rw [K] at g5
    subst hz
    clear J K
    (refine past_region (by kernel_rfl) (by kernel_rfl) ?_; (repeat (go_big_quiet_step (((go_at_call 30; exact past_of (SM.out _)))))); refine wpQuiet_nil ?_; rintro wp_ ⟨⟨wp_, hp_⟩, rfl⟩)
    go_wp2_with fail
    go_ret
    exact ⟨rfl, hbB.trans (hp_.mono hbB.size)⟩
  · rw [if_neg hz] at J
    rw [J] at g4
    have nz : (rA == 0) = false := by simp [hz]
    by_cases hn : rA < 0
    · rw [if_pos hn] at K
      rw [K] at g5
      have dn : decide (rA < 0) = true := decide_eq_true hn
      clear J K hz hn
      (refine past_region (by kernel_rfl) (by kernel_rfl) ?_; (repeat (go_big_quiet_step (((go_at_call 30; exact past_of (SM.out _)))))); refine wpQuiet_nil ?_; rintro wp_ ⟨⟨wp_, hp_⟩, rfl⟩)
      go_wp2_with fail
      go_ret
      exact ⟨rfl, hbB.trans (hp_.mono hbB.size)⟩
    · rw [if_neg hn] at K
      rw [K] at g5
      have dn : decide (rA < 0) = false := decide_eq_false hn
      clear J K hz hn
      (refine past_region (by kernel_rfl) (by kernel_rfl) ?_; (repeat (go_big_quiet_step (((go_at_call 30; exact past_of (SM.out _)))))); refine wpQuiet_nil ?_; rintro wp_ ⟨⟨wp_, hp_⟩, rfl⟩)
      go_wp2_with fail
      go_ret
      exact ⟨rfl, hbB.trans (hp_.mono hbB.size)⟩
end Go.Proofs.Ytmljmabbopkpiaa
