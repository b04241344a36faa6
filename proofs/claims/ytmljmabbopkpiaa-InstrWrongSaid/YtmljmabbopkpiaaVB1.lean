/- Between contracts that speak of lists in memory and walks over symbolic values. -/
import Derived.Test.YtmljmabbopkpiaaV17
import Derived.Test.YtmljmabbopkpiaaMem2
namespace Go.Proofs.Ytmljmabbopkpiaa.Vm
open Go.RowKit
set_option linter.unusedVariables false
set_option linter.unusedSimpArgs false
set_option maxRecDepth 100000

/-! ### what stands in a value -/
def iOf : SV → Int
  | .int _ n => n
  | .nat _ n => (n : Int)
  | _ => 0
def isI (k : IntKind) : SV → Bool
  | .int k' _ => keq k k'
  | .nat k' _ => keq k k'
  | _ => false
theorem isI_den {k : IntKind} {v : SV} {β : Env} (h : isI k v = true) : v.den β = .int k (iOf v) := by
  cases v <;> first | (cases h; done) | (have := keq_eq h; subst this; rfl)
theorem isI_cl {k : IntKind} {v : SV} {β : Env} (h : isI k v = true) : v.cl β = [.int k (iOf v)] := by
  unfold SV.cl; rw [isI_den h]; rfl

def insOf : SV → Ins
  | .agg [a, b, c, d, e] => ⟨iOf a, iOf b, iOf c, iOf d, iOf e⟩
  | _ => ⟨0, 0, 0, 0, 0⟩
def isIns : SV → Bool
  | .agg [a, b, c, d, e] => isI .u8 a && isI .u8 b && isI .u8 c && isI .u8 d && isI .i64 e
  | _ => false
theorem isIns_cl {v : SV} {β : Env} (h : isIns v = true) : v.cl β = (insOf v).cells := by
  unfold isIns at h
  split at h
  · rename_i a b c d e
    simp only [Bool.and_eq_true] at h
    obtain ⟨⟨⟨⟨h1, h2⟩, h3⟩, h4⟩, h5⟩ := h
    rw [cl_agg]
    simp only [clL_cons, clL_nil, isI_cl h1, isI_cl h2, isI_cl h3, isI_cl h4, isI_cl h5, insOf, Ins.cells, List.cons_append, List.nil_append]
  · cases h
def insS (i : Ins) : SV := .agg [.int .u8 i.op, .int .u8 i.a, .int .u8 i.b, .int .u8 i.c, .int .i64 i.n]
theorem insOf_insS (i : Ins) : insOf (insS i) = i := rfl
theorem isIns_insS (i : Ins) : isIns (insS i) = true := rfl
theorem insS_size (i : Ins) : (insS i).size = 5 := rfl

def sndOf : SV → Snd
  | .agg [a, b, c] => ⟨iOf a, iOf b, iOf c⟩
  | _ => ⟨0, 0, 0⟩
def isSnd : SV → Bool
  | .agg [a, b, c] => isI .i64 a && isI .i64 b && isI .i64 c
  | _ => false
theorem isSnd_cl {v : SV} {β : Env} (h : isSnd v = true) : v.cl β = (sndOf v).cells := by
  unfold isSnd at h
  split at h
  · rename_i a b c
    simp only [Bool.and_eq_true] at h
    obtain ⟨⟨h1, h2⟩, h3⟩ := h
    rw [cl_agg]
    simp only [clL_cons, clL_nil, isI_cl h1, isI_cl h2, isI_cl h3, sndOf, Snd.cells, List.cons_append, List.nil_append]
  · cases h
def sndS (s : Snd) : SV := .agg [.int .i64 s.port, .int .i64 s.delay, .int .i64 s.value]
theorem sndOf_sndS (s : Snd) : sndOf (sndS s) = s := rfl
theorem isSnd_sndS (s : Snd) : isSnd (sndS s) = true := rfl

/-- the elements of a slice that lie in a block known whole -/
def arrV (h : HM) (k : Nat) : SV → Option (Prop × Nat × (Nat → SV) × List Nat)
  | .sl z i pa k' s n c => match pa with
    | [] => match (h i).val with
      | some (.arr N k'' f) => bif Nat.beq k k' && Nat.beq k k'' then some (s + n ≤ N, n, fun q => f (s + q), [i]) else none
      | _ => none
    | _ :: _ => none
  | _ => none

def ls {α : Type} (g : SV → α) (n : Nat) (f : Nat → SV) : List α := (List.range n).map fun q => g (f q)
theorem ls_length {α : Type} (g : SV → α) (n : Nat) (f : Nat → SV) : (ls g n f).length = n := by simp [ls]
theorem ls_of {α : Type} {g : SV → α} {e : α → SV} (hg : ∀ x, g (e x) = x) (l : List α) (d : α) : ls g l.length (fun q => e (l.getD q d)) = l := by
  unfold ls
  apply List.ext_getElem
  · simp
  · intro i h1 h2
    simp [hg, h2]
theorem ls_congr {α : Type} {g : SV → α} {n : Nat} {f f' : Nat → SV} (h : ∀ q, q < n → f q = f' q) : ls g n f = ls g n f' := by
  unfold ls
  exact List.map_congr_left fun q hq => by rw [h q (List.mem_range.1 hq)]

section
variable {P : Program} {w0 w : World} {M : Nat → Prop} {β : Env} {h h' : HM}

theorem elems_ls {α : Type} {g : SV → α} {cells : α → List Value} {ok : SV → Bool} (hok : ∀ {v : SV}, ok v = true → v.cl β = cells (g v)) {k : Nat} (hk : ∀ x, (cells x).length = k) {n : Nat} {f : Nat → SV} (hf : ∀ q, q < n → ok (f q) = true) : elems β k n f = (ls g n f).flatMap cells := by
  unfold elems ls
  rw [List.flatMap_map, List.flatMap_def, List.flatMap_def]
  congr 1
  exact List.map_congr_left fun q hq => by rw [hok (hf q (List.mem_range.1 hq)), fit_eq (hk _)]
theorem elems_ins {n : Nat} {f : Nat → SV} (hf : ∀ q, q < n → isIns (f q) = true) : elems β 5 n f = insV (ls insOf n f) := elems_ls isIns_cl (fun _ => rfl) hf
theorem elems_snd {n : Nat} {f : Nat → SV} (hf : ∀ q, q < n → isSnd (f q) = true) : elems β 3 n f = sndsV (ls sndOf n f) := elems_ls isSnd_cl (fun _ => rfl) hf
theorem elems_i64 {n : Nat} {f : Nat → SV} (hf : ∀ q, q < n → isI .i64 (f q) = true) : elems β 1 n f = int64s (ls iOf n f) := by
  rw [elems_ls (cells := fun x => [.int .i64 x]) isI_cl (fun _ => rfl) hf]
  unfold int64s
  rw [List.flatMap_def]
  induction ls iOf n f with
  | nil => rfl
  | cons x l ih => simp [ih]

/-- a slice whose block is known reads as a list -/
theorem reads_of (R : Rep w0 M β h' w) {k : Nat} {v : SV} {c : Prop} {n : Nat} {f : Nat → SV} {rd : List Nat} (ha : arrV h k v = some (c, n, f, rd)) (hc : c) (hrd : ∀ i ∈ rd, h' i = h i) (hk : 0 < k) :
    ∃ A cap, v.den β = .slice A n cap ∧ n ≤ cap ∧ Reads w w.heap.size k A n (elems β k n f) := by
  unfold arrV at ha
  split at ha
  · rename_i z i pa k' s n' cp
    split at ha
    · split at ha
      · rename_i N k'' f' hv
        obtain ⟨hb, ha⟩ := bif_some ha
        simp only [Option.some.injEq, Prod.mk.injEq] at ha
        obtain ⟨rfl, rfl, rfl, rfl⟩ := ha
        rw [Bool.and_eq_true] at hb
        have hb1 := Nat.eq_of_beq_eq_true hb.1
        have hb2 := Nat.eq_of_beq_eq_true hb.2
        subst hb1 hb2
        have hi : h' i = h i := hrd i (.head _)
        have hB := R.blk i
        rw [hi] at hB
        by_cases h0 : n' = 0
        · subst h0
          exact ⟨(β z).1, max 0 (cp.getD (β z).2), by simp only [SV.den, if_true], Nat.zero_le _, by simp [elems], fun h => absurd h (by omega)⟩
        · refine ⟨_, _, den_sl_pos h0, by omega, elems_length, fun _ => ?_⟩
          have hpos : 0 < (SV.arr N k f').size := by
            simp only [SV.size]
            exact Nat.mul_pos (by omega) hk
          obtain ⟨ad, hba, hcell⟩ := cells_at (pa := []) hB hv (u := SV.arr N k f') (c := True) rfl trivial hpos
          have hblk : ad.block < w.heap.size := by
            cases hh : h i with
            | own t u ex => exact R.lt i ad (by rw [hi, hh]; rfl) hba
            | ro u =>
              rw [hh] at hv
              injection hv with hv
              subst hv
              exact Nat.lt_of_lt_of_le (R.ro i _ ad (hi.trans hh) hba hpos).1 R.size
            | raw o => rw [hh] at hv; cases hv
            | gone => rw [hh] at hv; cases hv
            | dead => rw [hh] at hv; cases hv
          refine ⟨_, rfl, ?_, fun j u hu => ?_⟩
          · rw [block_add, hba]; exact hblk
          · rw [hba]
            simp only [Option.getD_some, offp, Nat.zero_add]
            rw [add_add]
            have := hcell (s * k + j) u ?_
            · simpa [offp, add_add] using this
            · rw [cl_arr']
              have e2 : elems β k N f' = elems β k s f' ++ (elems β k n' (fun q => f' (s + q)) ++ elems β k (N - s - n') (fun q => f' (s + n' + q))) := by
                have : N = s + (n' + (N - s - n')) := by omega
                conv => lhs; rw [this]
                rw [elems_split, elems_split]
                simp only [Nat.add_assoc]
              rw [e2, List.getElem?_append_right (by rw [elems_length]; omega), elems_length, Nat.add_sub_cancel_left, List.getElem?_append_left]
              · exact hu
              · exact (List.getElem?_eq_some_iff.1 hu).1
      · cases ha
    · cases ha
  · cases ha

theorem Rep.below (R : Rep w0 M β h w) {w' : World} (hb : Below w.heap.size w w') : Rep w0 M β h w' := R.keep hb.os hb.tape hb.output hb.size hb.block

/-- a slice that a call has made: a block of the caller's own from now on -/
theorem Rep.made (R : Rep w0 M β h w) {B : Nat} {m k t n : Nat} {v : Value} {xs : List Value} {f : Nat → SV} (hm : h m = .dead) (ho : w.ownsRow B t k v n xs) (hB : w0.heap.size ≤ B) (hx : elems β k n f = xs) (hf : ∀ q, Stable h (f q))
    (hd : ∀ g i a', v.ownBlock = some g → (h i).mine = true → (β i).1 = some a' → a'.block ≠ g) :
    ∃ e, Rep w0 M (setE β m e) (upd h m (.own t (.arr n k f) false)) w ∧ v = (SV.sl m m [] k 0 n none).den (setE β m e) := by
  obtain ⟨hl, ⟨rfl, rfl⟩ | ⟨g, cap, cur, rfl, hb, hg, hn, hc, hs, ht⟩⟩ := ho
  · exact ⟨(none, 0), nothing R hm hf, by simp [SV.den, setE_same]⟩
  · refine ⟨(some ⟨g, 0, none⟩, cap), R.birth m hm _ _ (by simp only [HB.stable, Stable]; exact fun q => Stable.upd (hf q) rfl) rfl (.inl ⟨g, cur, by rw [setE_same], hg, ⟨cur.toList.drop (n * k), ?_, fun h => by cases h⟩, fun n' k' f' hv => ?_⟩) (fun a _ ha => ?_) (fun v a hv => by cases hv), (sl_new hn).symm⟩
    · have hst : Stable h (.arr n k f) := by simp only [Stable]; exact hf
      rw [← hst.cl (agree_setE hm), cl_arr', hx, ← ht]
      exact (List.take_append_drop _ _).symm
    · injection hv with h1 h2 _
      subst h1 h2
      rw [setE_same]
      exact ⟨hn, hs⟩
    · injection ha with ha
      subst ha
      exact ⟨.inl (Nat.le_trans hB hb), (Array.getElem?_eq_some_iff.1 hg).1, fun i a' hi hai => hd g i a' rfl hi hai⟩
end
end Go.Proofs.Ytmljmabbopkpiaa.Vm
