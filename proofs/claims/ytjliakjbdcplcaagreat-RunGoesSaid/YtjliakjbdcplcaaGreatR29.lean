import Derived.Test.YtjliakjbdcplcaaGreatR1
import Derived.Test.YtjliakjbdcplcaaGreatR24
import Derived.Test.YtjliakjbdcplcaaGreatR28
set_option linter.unusedSimpArgs false
set_option linter.unusedVariables false
set_option maxRecDepth 100000
set_option maxHeartbeats 4000000
section
namespace Go.Proofs.YtjliakjbdcplcaaGreat.Vm
open Go.RowKit
attribute [local push_cast] prS zm_ i64S xm_ y4_ y3_ y2_ y1_ y0_ xl_ yz_ yy_ yx_ zl_ zz_ z2_ zy_ zq_ zr_ iOf
section
variable {ρ : Nat → Nat} {h h' : HM} {g c k a b : Nat} {s : Sta} {v : Evi} {x : Ins} {ok : Prop}
theorem bun_mac (hp : macP h g = some (s, v, x, c, k, ok)) (hok : ok) (eg : h' g = h g) (ha : ρ a = c) (hb : ρ b = k) : Bun1 ρ (h' g) (mB s v x a b) := by
 obtain ⟨l, cf, sf, hg, hgl, _⟩ := mac_val hp hok
 show Less (h' g) (.own 186 ((macS s v x a b).ren ρ) true)
 rw [eg, hg, macS_ren, ha, hb]
 exact .val hgl (fun n k f e => by cases e) (fun n k f e => by cases e)
theorem bun_macR (hp : macP h g = some (s, v, x, c, k, ok)) (hok : ok) (eg : h' g = h g) (ha : ρ a = c) (hb : ρ b = k) : Bun1 ρ (h' g) (.ro (macS s v x a b)) := by
 obtain ⟨l, cf, sf, hg, hgl, _⟩ := mac_val hp hok
 show Fit ρ _ _
 exact .ro (u := .agg l) (by rw [eg, hg]; rfl) (fun β => by rw [macS_ren, ha, hb]; exact hgl β) (fun n k f e => by rw [macS_ren] at e; cases e)
theorem bun_cel (hp : macP h g = some (s, v, x, c, k, ok)) (hok : ok) (ec : h' c = h c) : Bun1 ρ (h' c) (cB s) := by
 obtain ⟨l, cf, sf, hg, hgl, hc, hcl, _⟩ := mac_val hp hok
 show Less (h' c) (.own 2 (.arr s.cells.length 1 (i64S s.cells)) false)
 rw [ec, hc]
 exact .val (fun β => arrCl (hcl β)) (fun n k f e => by injection e with e1 e2 e3; subst e1 e2; exact ⟨_, rfl⟩) (fun n k f e => by injection e with e1 e2 e3; subst e1 e2; exact ⟨_, rfl⟩)
theorem sndsS_ren (ρ : Nat → Nat) (l : List Snd) : (fun q => (zm_ l q).ren ρ) = zm_ l := by
 funext q; unfold zm_; simp only [sndS, SV.ren, renL]
theorem bun_snd (hp : macP h g = some (s, v, x, c, k, ok)) (hok : ok) (ek : h' k = h k) : Bun1 ρ (h' k) (sB s) := by
 obtain ⟨l, cf, sf, hg, hgl, hc, hcl, hk, hkl, _⟩ := mac_val hp hok
 show Less (h' k) (.own 125 (.arr s.sends.length 3 fun q => (zm_ s.sends q).ren ρ) false)
 rw [ek, hk, sndsS_ren]
 exact .val (fun β => arrCl (hkl β)) (fun n k f e => by injection e with e1 e2 e3; subst e1 e2; exact ⟨_, rfl⟩) (fun n k f e => by injection e with e1 e2 e3; subst e1 e2; exact ⟨_, rfl⟩)
theorem bun_cel0 (hp : macP h g = some (s, v, x, c, k, ok)) (hok : ok) (ec : h' c = h c) : Bun1 ρ (h' c) .gone := by
 obtain ⟨l, cf, sf, hg, hgl, hc, _⟩ := mac_val hp hok
 exact Fit.gone (by rw [ec, hc]; rfl)
theorem bun_snd0 (hp : macP h g = some (s, v, x, c, k, ok)) (hok : ok) (ek : h' k = h k) : Bun1 ρ (h' k) .gone := by
 obtain ⟨l, cf, sf, hg, hgl, hc, _, hk, _⟩ := mac_val hp hok
 exact Fit.gone (by rw [ek, hk]; rfl)
def prP (h : HM) (i : Nat) : Option (Nat × List Ins × Prop) := match h i with
 | .own t (.arr n 5 f) false => bif Nat.beq t 38 then some (n, ls zo_ n f, ∀ q, q < n → isIns (f q) = true) else none
 | _ => none
def prR (P : List Ins) : HB := .ro (.arr P.length 5 (prS P))
def prO (P : List Ins) : HB := .own 38 (.arr P.length 5 (prS P)) false
theorem prS_ren (ρ : Nat → Nat) (l : List Ins) : (fun q => (prS l q).ren ρ) = prS l := by
 funext q; unfold prS; simp only [yr_, SV.ren, renL]
variable {i n : Nat} {P : List Ins}
theorem prP_len (hp : prP h i = some (n, P, ok)) : n = P.length := by
 unfold prP at hp
 split at hp
 ·obtain ⟨hb, hs⟩ := zj_ hp
  simp only [Option.some.injEq, Prod.mk.injEq] at hs
  obtain ⟨rfl, rfl, rfl⟩ := hs
  rw [zb_]
 ·cases hp
theorem bun_pr (hp : prP h i = some (n, P, ok)) (hok : ok) (ei : h' i = h i) : Bun1 ρ (h' i) (prR P) := by
 unfold prP at hp
 split at hp
 ·rename_i t n f hi
  obtain ⟨hb, hs⟩ := zj_ hp
  simp only [Option.some.injEq, Prod.mk.injEq] at hs
  obtain ⟨rfl, rfl, rfl⟩ := hs
  refine Fit.ro (u := .arr n 5 f) (by rw [ei, hi]; rfl) (fun β => ?_) (fun n1 k1 f1 e => by
   simp only [SV.ren] at e
   injection e with e1 e2 e3
   rw [zb_] at e1
   subst e1 e2
   exact ⟨_, rfl⟩)
  simp only [SV.ren, prS_ren, zb_]
  refine arrCl fun q hq => ?_
  unfold prS
  rw [isIns_cl (hok q hq), ls_getD hq, isIns_cl (zl_ _), zz_]
 ·cases hp
theorem bun_pr0 (hp : prP h i = some (n, P, ok)) (ei : h' i = h i) : Bun1 ρ (h' i) .gone := by
 unfold prP at hp
 split at hp
 ·rename_i t n f hi
  exact Fit.gone (by rw [ei, hi]; rfl)
 ·cases hp
end
def pS : yt_ := fun args h m => match args with
 | [.ptr g [], .sl z i [] 5 0 n none] => match macP h g, prP h i with
  | some (s, v, x, c, k, ok), some (n', P, ok2) => bif Nat.beq z i && Nat.beq n n' && z8_ [0, g, c, k, i] then
    some ((ok ∧ ok2) ∧ PG P ∧ VOk v ∧ SG P s, .int .i64 (stepE P v s), [g, c, k, i], [(g, mB (stepS P v s) v (stepX P s x) c m), (c, cB (stepS P v s)), (k, .gone), (m, sB (stepS P v s))]) else none
  | _, _ => none
 | _ => none
def cSt : FuncId → Option yt_ := y6_ [(157, mS doF)]
theorem cSt_ok : ∀ f S, cSt f = some S → zh_ Tryz.prog f S := zn_ ⟨m_do, trivial⟩
theorem step_lit (P : List Ins) (s : Sta) (v : Evi) (x : Ins) (hP : PG P) (V : VOk v) (hS : SG P s) : zp_ Tryz.prog 122 [.ptr 1 [], .sl 4 4 [] 5 0 P.length none] [.gone, mB s v x 2 3, cB s, sB s, prR P] (.int .i64 (stepE P v s))
  [.gone, mB (stepS P v s) v (stepX P s x) 2 5, cB (stepS P v s), .gone, .gone, sB (stepS P v s)] := by
 have R := hS.ri hP
 have S := hS.sok hP
 have a0 := hS.a0
 have a1 := hS.a1
 have hlt : s.at_.toNat < P.length := by omega
 have hl := hP.len
 unfold insAt at R
 obtain ⟨at0, en, rg, ce, dr, se⟩ := s
 dsimp only at a0 a1 hlt R
 cases en
 ·have e1 : stepE P v ⟨at0, false, rg, ce, dr, se⟩ = doE ⟨at0, false, rg, ce, dr, se⟩ v (P.getD at0.toNat ⟨0, 0, 0, 0, 0⟩) := rfl
  have e2 : stepS P v ⟨at0, false, rg, ce, dr, se⟩ = doS ⟨at0, false, rg, ce, dr, se⟩ v (P.getD at0.toNat ⟨0, 0, 0, 0, 0⟩) := rfl
  have e3 : stepX P ⟨at0, false, rg, ce, dr, se⟩ x = P.getD at0.toNat ⟨0, 0, 0, 0, 0⟩ := rfl
  rw [e1, e2, e3]
  refine ze_ (fn := Tryz.f122) 5 23 0 rfl rfl rfl rfl rfl (by simp only [zd_, Stable, hp, i64S, prS, yr_, zm_, sndS, stS, evS, macS]; simp [HB.born, mB, cB, sB, prR]) rfl fun w0 M E hro => ?_
  repeat' (first | refine Ctl.h ?_ | ((with_reducible intro hif); first | (focus (cases hif; done)) | ((try simp only [JH] at hif); try (exfalso; omega))) | ((with_reducible first | apply J22 cSt_ok za_ | apply J23 fol cSt_ok za_ | apply J24); (·rfl); (· exact k95_); (try kernel_rfl); try exact k25_) | fail)
  apply At.endsPick [0, 1, 2, 3, 4, 5] za_ (fn := Tryz.f122) (rs := [.tmp 4]) Anc.refl hro (lb_ rfl) rfl
  ·exact yq_
  ·exact k12_
  ·rfl
  ·rfl
  ·rfl
  ·exact k29_
  ·rfl
  ·exact y8_
  ·exact zx_
  ·exact fun β => rfl
  ·exact y8_
 ·have e1 : stepE P v ⟨at0, true, rg, ce, dr, se⟩ = 183 := rfl
  have e2 : stepS P v ⟨at0, true, rg, ce, dr, se⟩ = ⟨at0, true, rg, ce, dr, se⟩ := rfl
  have e3 : stepX P ⟨at0, true, rg, ce, dr, se⟩ x = x := rfl
  rw [e1, e2, e3]
  refine ze_ (fn := Tryz.f122) 5 23 0 rfl rfl rfl rfl rfl (by simp only [zd_, Stable, hp, i64S, prS, yr_, zm_, sndS, stS, evS, macS]; simp [HB.born, mB, cB, sB, prR]) rfl fun w0 M E hro => ?_
  repeat' (first | refine Ctl.h ?_ | ((with_reducible intro hif); first | (focus (cases hif; done)) | ((try simp only [JH] at hif); try (exfalso; omega))) | ((with_reducible first | apply J22 cSt_ok za_ | apply J23 fol cSt_ok za_ | apply J24); (·rfl); (· exact k95_); (try kernel_rfl); try exact k25_) | fail)
  apply At.endsPick [0, 1, 2, 3, 4, 3] za_ (fn := Tryz.f122) (rs := [.tmp 4]) Anc.refl hro (lb_ rfl) rfl
  ·exact yq_
  ·exact k12_
  ·rfl
  ·rfl
  ·rfl
  ·exact k29_
  ·rfl
  ·exact y8_
  ·exact zx_
  ·exact fun β => rfl
  ·exact y8_
end Go.Proofs.YtjliakjbdcplcaaGreat.Vm
end
section
namespace Go.Proofs.YtjliakjbdcplcaaGreat.Vm
open Go.RowKit
def sRt18 : yt_ := fun args h m => match args with
 | [v1, .agg [v2, v3, v4, v5, v6], .agg [v7, .bool v8, .arr 8 1 v9, v10, v11, v12]] => match xv_ h 5 (.tup []) v1, xv_ h 1 (.tup []) v10, xv_ h 3 (.tup []) v12 with
  | some (c1, n1, f1, r1), some (c10, n10, f10, r10), some (c12, n12, f12, r12) => bif isI .u64 v2 && isI .i64 v3 && isI .i64 v4 && isI .i64 v5 && isI .i64 v6 && isI .i64 v7 && isI .i64 v11 then some (c1 ∧ c10 ∧ c12 ∧ (∀ q, q < n1 → isIns (f1 q) = true) ∧ (∀ q, q < n10 → isI .i64 (f10 q) = true) ∧ (∀ q, q < n12 → isSnd (f12 q) = true) ∧ (∀ q, q < 8 → isI .i64 (v9 q) = true) ∧ ((∀ x ∈ (ls zo_ n1 f1), x.ok)) ∧ (n1 ≤ 1000000) ∧ (n10 ≤ 1000000), .int .i64 (yv_ (ls zo_ n1 f1) ⟨(iOf v2), (iOf v3), (iOf v4), (iOf v5), (iOf v6)⟩ ⟨(iOf v7), v8, (fun q => iOf (v9 q)), (ls iOf n10 f10), (iOf v11), (ls zw_ n12 f12)⟩), r1 ++ r10 ++ r12, []) else none
  | _, _, _ => none
 | _ => none
theorem sRt18_ok : zh_ Tryz.prog 39 sRt18 := by
 refine ⟨zf_ (by kernel_rfl), fun args h m c v rd wr hs hm hc w0 M β h' w R hrd hwr hst => ?_⟩
 unfold sRt18 at hs
 split at hs
 ·rename_i v1 v2 v3 v4 v5 v6 v7 v8 v9 v10 v11 v12
  split at hs
  ·rename_i c1 n1 f1 r1 c10 n10 f10 r10 c12 n12 f12 r12 a1 a10 a12
   obtain ⟨hb, hs⟩ := zj_ hs
   simp only [Option.some.injEq, Prod.mk.injEq] at hs
   obtain ⟨rfl, rfl, rfl, rfl⟩ := hs
   simp only [Bool.and_eq_true] at hb
   obtain ⟨⟨⟨⟨⟨⟨b2, b3⟩, b4⟩, b5⟩, b6⟩, b7⟩, b11⟩ := hb
   obtain ⟨k1, k10, k12, g1, g10, g12, g9, y1, y2, y3⟩ := hc
   obtain ⟨A1, p1, d1, e1, t1⟩ := zi_ R a1 k1 (fun i hi => hrd i (List.mem_append_left _ (List.mem_append_left _ hi))) (by omega)
   obtain ⟨A10, p10, d10, e10, t10⟩ := zi_ R a10 k10 (fun i hi => hrd i (List.mem_append_left _ (List.mem_append_right _ hi))) (by omega)
   obtain ⟨A12, p12, d12, e12, t12⟩ := zi_ R a12 k12 (fun i hi => hrd i (List.mem_append_right _ hi)) (by omega)
   refine ym_ (views := [⟨5, (ls zo_ n1 f1).length, prS (ls zo_ n1 f1), A1, p1⟩, ⟨1, (ls iOf n10 f10).length, i64S (ls iOf n10 f10), A10, p10⟩, ⟨3, (ls zw_ n12 f12).length, zm_ (ls zw_ n12 f12), A12, p12⟩]) (right18_lit (ls zo_ n1 f1) ⟨(iOf v2), (iOf v3), (iOf v4), (iOf v5), (iOf v6)⟩ ⟨(iOf v7), v8, (fun q => iOf (v9 q)), (ls iOf n10 f10), (iOf v11), (ls zw_ n12 f12)⟩ p1 p10 p12 y1 (by rw [zb_]; exact y2) (by show List.length (ls _ _ _) ≤ _; rw [zb_]; exact y3)) ?_ R hm hwr ?_ ?_ ?_
   ·exact d41_
   ·intro β1 hv
    simp only [Vd, zb_, and_true] at hv
    obtain ⟨z1, z10, z12⟩ := hv
    simp only [denL, yh_, yg_, yf_, zv_, zb_, yr_, evS, sr, csl, ssl, z1, z10, z12, d1, d10, d12, zc_ b2, zc_ b3, zc_ b4, zc_ b5, zc_ b6, zc_ b7, zc_ b11, ← r8Den (β := β) (β1 := β1) g9]
   ·exact k56_
   ·exact k56_
  ·cases hs
 ·cases hs
def runB (P : List Ins) (v : Evi) : Nat → Sta → Bool → Bool → Bool × Bool
 | 0, _, c, d => (c, d)
 | n + 1, s, c, d => if s.ended = true then (c, d) else
  if stepE P v s = 0 then runB P v n (stepS P v s) (c || decide ((insAt P s.at_).op = 6)) (d || decide ((insAt P s.at_).op = 8)) else (c, d)
theorem runB_end {P : List Ins} {v : Evi} {n : Nat} {s : Sta} {c d : Bool} (h : s.ended = true) : runB P v n s c d = (c, d) := by cases n <;> simp [runB, h]
theorem runB_go {P : List Ins} {v : Evi} {n : Nat} {s : Sta} {c d : Bool} (h : s.ended = false) (hn : 0 < n) (he : stepE P v s = 0) : runB P v n s c d = runB P v (n - 1) (stepS P v s) (c || decide ((insAt P s.at_).op = 6)) (d || decide ((insAt P s.at_).op = 8)) := by
 obtain ⟨n, rfl⟩ : ∃ k, n = k + 1 := ⟨n - 1, by omega⟩
 simp [runB, h, he]
theorem runB_bad {P : List Ins} {v : Evi} {n : Nat} {s : Sta} {c d : Bool} (h : s.ended = false) (he : stepE P v s ≠ 0) : runB P v n s c d = (c, d) := by
 cases n
 ·rfl
 ·simp [runB, h, he]
structure FG (P : List Ins) (s : Sta) : Prop where
 sg : SG P s
 rg : ∀ q, R64 (s.regs q)
 cr : CR s
 sd : s.sends.length ≤ 256
theorem FG.ook {P : List Ins} {v : Evi} {s : Sta} (h : FG P s) (hP : PG P) (V : VOk v) : OOk s v (insAt P s.at_) := by
 have R := h.sg.ri hP
 have ⟨o0, o1, a0, a1, b0, b1, c0, c1, n0, n1⟩ := R.ok
 exact ⟨R, V, h.sg.sok hP, h.rg, n0, n1, by have := h.sd; omega⟩
theorem doS_sends {s : Sta} {v : Evi} {x : Ins} (h : s.sends.length ≤ 256) : (doS s v x).sends.length ≤ 256 := by
 by_cases hE : doE s v x = 0
 ·by_cases h8 : x.op = 8
  ·have hl : s.sends.length < 256 := by
    rcases Nat.lt_or_ge s.sends.length 256 with h' | h'
    ·exact h'
    ·exfalso
     have h3 : doE s v x = sendE s v x := by simp [doE, h8]
     unfold sendE at h3
     rw [hE, if_pos h'] at h3
     split at h3
     ·omega
     ·split at h3
      ·omega
      ·split at h3 <;> omega
   have e : doS s v x = { s with at_ := s.at_ + 1, sends := s.sends ++ [⟨x.n, s.regs x.a.toNat, s.regs x.b.toNat⟩] } := by simp [doS, hE, h8]
   rw [e]
   simp only [List.length_append, List.length_cons, List.length_nil]
   omega
  ·have e : (doS s v x).sends = s.sends := by
    unfold doS
    simp only [apply_ite Sta.sends, if_neg h8, Sta.put, ite_self]
   rw [e]; exact h
 ·rw [doS_bad hE]; exact h
theorem doS_cells6 {s : Sta} {v : Evi} {x : Ins} (h : x.op ≠ 6) : (doS s v x).cells = s.cells := by
 unfold doS
 simp only [apply_ite Sta.cells, if_neg h, Sta.put, ite_self]
theorem doS_sends8 {s : Sta} {v : Evi} {x : Ins} (h : x.op ≠ 8) : (doS s v x).sends = s.sends := by
 unfold doS
 simp only [apply_ite Sta.sends, if_neg h, Sta.put, ite_self]
theorem doS_clen (s : Sta) (v : Evi) (x : Ins) : (doS s v x).cells.length = s.cells.length := by
 unfold doS
 simp only [apply_ite Sta.cells, apply_ite List.length, Sta.put, List.length_set, ite_self]
theorem doS_slen {s : Sta} {v : Evi} {x : Ins} (hE : doE s v x = 0) (h : x.op = 8) : (doS s v x).sends.length = s.sends.length + 1 := by
 have e : doS s v x = { s with at_ := s.at_ + 1, sends := s.sends ++ [⟨x.n, s.regs x.a.toNat, s.regs x.b.toNat⟩] } := by simp [doS, hE, h]
 rw [e]
 simp only [List.length_append, List.length_cons, List.length_nil]
theorem FG.step {P : List Ins} {v : Evi} {s : Sta} (h : FG P s) (hP : PG P) (V : VOk v) (he : s.ended = false) : FG P (stepS P v s) := by
 have K := h.ook hP V
 have e : stepS P v s = doS s v (insAt P s.at_) := by unfold stepS; rw [if_neg (by rw [he]; exact Bool.noConfusion)]
 rw [e]
 have hR := doS_R K h.cr
 exact ⟨doS_good h.sg hP, hR.1, hR.2, doS_sends h.sd⟩
structure FS where
 k : Nat
 s : Sta
 x : Ins
 tr : List Int
 a : Int
 fc : Bool
 fs : Bool
 nc : Nat
 ns : Nat
def FS.ct (z : FS) : List Int := bif z.fc then z.s.cells else []
def FS.st (z : FS) : List Snd := bif z.fs then z.s.sends else []
structure FInv (P : List Ins) (v : Evi) (f : Nat) (s0 : Sta) (R : RR) (B : Bool × Bool) (z : FS) : Prop where
 hk : z.k ≤ f
 hg : FG P z.s
 hl : z.tr.length = z.k
 hr : xp_ P v (f - z.k) z.s z.x z.tr z.a = R
 hb : runB P v (f - z.k) z.s z.fc z.fs = B
 hc : z.s.cells.length = z.nc
 hs : z.s.sends.length = z.ns
 hc2 : z.fc = false → z.s.cells = s0.cells
 hs2 : z.fs = false → z.s.sends = s0.sends
theorem stepS_of {P : List Ins} {v : Evi} {s : Sta} (he : s.ended = false) : stepS P v s = doS s v (insAt P s.at_) := by unfold stepS; rw [if_neg (by rw [he]; exact Bool.noConfusion)]
theorem stepE_of {P : List Ins} {v : Evi} {s : Sta} (he : s.ended = false) : stepE P v s = doE s v (insAt P s.at_) := by unfold stepE; rw [if_neg (by rw [he]; exact Bool.noConfusion)]
theorem FInv.step {P : List Ins} {v : Evi} {f : Nat} {s0 : Sta} {R : RR} {B : Bool × Bool} {z : FS} (H : FInv P v f s0 R B z) (hP : PG P) (V : VOk v) (he : z.s.ended = false) (hkf : z.k < f) (x : Ins) (hx : insAt P z.s.at_ = x) (h : doE z.s v x = 0) (c d : Bool) (m : Nat)
  (hc : c = (z.fc || decide (x.op = 6))) (hd : d = (z.fs || decide (x.op = 8))) (hm : (doS z.s v x).sends.length = m) : FInv P v f s0 R B ⟨z.k + 1, doS z.s v x, stepX P z.s z.x, z.tr ++ [z.s.at_], z.s.at_, c, d, z.nc, m⟩ := by
 subst hx
 have e := stepS_of (P := P) (v := v) he
 have h' : stepE P v z.s = 0 := by rw [stepE_of he]; exact h
 refine ⟨hkf, ?_, by simp [H.hl], ?_, ?_, ?_, hm, fun hf => ?_, fun hf => ?_⟩
 ·have := H.hg.step hP V he; rwa [e] at this
 ·have := H.hr; rw [runA_go he (by omega) h', e] at this
  exact this
 ·have := H.hb; rw [runB_go he (by omega) h', e, ← hc, ← hd] at this
  exact this
 ·exact (doS_clen _ _ _).trans H.hc
 ·dsimp only at hf ⊢
  rw [hf] at hc
  have hc := hc.symm
  simp only [Bool.or_eq_false_iff, decide_eq_false_iff_not] at hc
  rw [doS_cells6 hc.2]; exact H.hc2 hc.1
 ·dsimp only at hf ⊢
  rw [hf] at hd
  have hd := hd.symm
  simp only [Bool.or_eq_false_iff, decide_eq_false_iff_not] at hd
  rw [doS_sends8 hd.2]; exact H.hs2 hd.1
def cRf (l : List Int) : HB := .own 2 (.arr l.length 1 (i64S l)) false
def sRf (l : List Snd) : HB := .own 177 (.arr l.length 3 (zm_ l)) false
def trO (l : List Int) : HB := .own 3 (.arr l.length 1 (i64S l)) false
theorem less_i64n {t n : Nat} {b : Bool} {σ : Nat → Nat} {l m : List Int} (hn : n = m.length) (hl : l = m) : Less (.own t (.arr n 1 (i64S l)) b) ((HB.own t (.arr m.length 1 (i64S m)) b).ren σ) := by
 subst hn hl; exact .same _
theorem less_sndn {t n : Nat} {b : Bool} {σ : Nat → Nat} {l m : List Snd} (hn : n = m.length) (hl : l = m) : Less (.own t (.arr n 3 (zm_ l)) b) ((HB.own t (.arr m.length 3 (zm_ m)) b).ren σ) := by
 subst hn hl
 have e : (HB.own t (.arr l.length 3 (zm_ l)) b).ren σ = .own t (.arr l.length 3 (zm_ l)) b := by
  simp only [HB.ren, SV.ren]; rw [sndsS_ren]
 rw [e]; exact .same _
theorem less_tr1 {t : Nat} {b : Bool} {σ : Nat → Nat} (D : List Int) (y : Int) {g : Nat → SV} {xv z : SV} (hg : g = fun q => SV.ite (decide (q < D.length)) (.int .i64 (D.getD q 0)) ([xv].getD (q - D.length) z)) (hx : ∀ β, xv.cl β = [.int .i64 y]) : Less (.own t (.arr (D.length + 1) 1 g) b) ((HB.own t (.arr (D.length + 1) 1 (i64S (D ++ [y]))) b).ren σ) := by
 refine less_arL (D ++ [y]) fun β q hq => ?_
 subst hg
 dsimp only
 rw [xf_]
 by_cases h : q < D.length
 ·simp only [h, decide_true, cond_true, List.getD_eq_getElem?_getD, List.getElem?_append_left h]; rfl
 ·obtain rfl : q = D.length := by omega
  simp only [Nat.lt_irrefl, decide_false, cond_false, Nat.sub_self, List.getD_cons_zero, hx, List.getD_eq_getElem?_getD, List.getElem?_append_right (Nat.le_refl _), List.getElem?_cons_zero, Option.getD_some]
theorem less_tr {t : Nat} {b : Bool} {σ : Nat → Nat} (D : List Int) (y : Int) {g : Nat → SV} {xv z : SV} (hg : g = fun q => SV.ite (decide (q < D.length)) (.int .i64 (D.getD q 0)) ([xv].getD (q - D.length) z)) (hx : ∀ β, xv.cl β = [.int .i64 y]) : Less (.own t (.arr (D.length + 1) 1 g) b) ((HB.own t (.arr (D ++ [y]).length 1 (i64S (D ++ [y]))) b).ren σ) := by
 rw [show (D ++ [y]).length = D.length + 1 from by simp]
 exact less_tr1 D y hg hx
end Go.Proofs.YtjliakjbdcplcaaGreat.Vm
end
