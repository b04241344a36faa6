import Derived.Test.YtmljmabbopkpiaaM8
import Derived.Test.YtmljmabbopkpiaaM9
import Derived.Test.YtmljmabbopkpiaaM17
import Derived.Test.YtmljmabbopkpiaaM19
set_option linter.unusedSimpArgs false
set_option linter.unusedVariables false
set_option maxRecDepth 100000
section
namespace Go.Proofs.Ytmljmabbopkpiaa.Vm
open Go.RowKit
def stS (s : Sta) (c k : Nat) : SV := .agg [.int .i64 s.at_, .bool s.ended, .arr 8 1 fun q => .int .i64 (s.regs q), .sl c c [] 1 0 s.cells.length none, .int .i64 s.draws, .sl k k [] 3 0 s.sends.length none]
def evS (v : Evi) : SV := .agg [.int .u64 v.seed, .int .i64 v.process, .int .i64 v.ports, .int .i64 v.look, .int .i64 v.now]
def macS (s : Sta) (v : Evi) (x : Ins) (c k : Nat) : SV := .agg [stS s c k, evS v, yo_ x]
def mB (s : Sta) (v : Evi) (x : Ins) (c k : Nat) : HB := .own 152 (macS s v x c k) true
def cB (s : Sta) : HB := .own 2 (.arr s.cells.length 1 (zo_ s.cells)) false
def sB (s : Sta) : HB := .own 64 (.arr s.sends.length 3 (zm_ s.sends)) false
theorem stS_eq (s : Sta) (c k : Nat) : stS s c k = .agg [.int .i64 s.at_, .bool s.ended, .arr 8 1 fun q => .int .i64 (s.regs q), .sl c c [] 1 0 s.cells.length none, .int .i64 s.draws, .sl k k [] 3 0 s.sends.length none] := rfl
theorem evS_eq (v : Evi) : evS v = .agg [.int .u64 v.seed, .int .i64 v.process, .int .i64 v.ports, .int .i64 v.look, .int .i64 v.now] := rfl
theorem macS_eq (s : Sta) (v : Evi) (x : Ins) (c k : Nat) : macS s v x c k = .agg [stS s c k, evS v, yo_ x] := rfl
theorem mB_eq (s : Sta) (v : Evi) (x : Ins) (c k : Nat) : mB s v x c k = .own 152 (macS s v x c k) true := rfl
theorem cB_eq (s : Sta) : cB s = .own 2 (.arr s.cells.length 1 (zo_ s.cells)) false := rfl
theorem sB_eq (s : Sta) : sB s = .own 64 (.arr s.sends.length 3 (zm_ s.sends)) false := rfl
set_option linter.defProp false in
def JM := And.intro @stS_eq (And.intro @evS_eq (And.intro @macS_eq (And.intro @mB_eq (And.intro @cB_eq @sB_eq))))
theorem ls_getD {α : Type} {g : SV → α} {n q : Nat} {f : Nat → SV} {d : α} (h : q < n) : (ls g n f).getD q d = g (f q) := by
 simp [ls, h]
def macP (h : HM) (g : Nat) : Option (Sta × Evi × Ins × Nat × Nat × Prop) := match h g with
 | .own t (.agg [.agg [a, .bool e, .arr 8 1 rg, .sl z c [] 1 0 nc none, d, .sl z2 k [] 3 0 ns none], .agg [e0, e1, e2, e3, e4], iv]) true => match h c, h k with
  | .own t1 (.arr n1 1 cf) false, .own t2 (.arr n2 3 sf) false =>
   bif (Nat.beq t 152 && Nat.beq t1 2 && Nat.beq t2 64) && (Nat.beq z c && Nat.beq z2 k && Nat.beq n1 nc && Nat.beq n2 ns) && (isI .i64 a && isI .i64 d) && (isI .u64 e0 && isI .i64 e1 && isI .i64 e2 && isI .i64 e3 && isI .i64 e4) && isIns iv then
    some (⟨iOf a, e, fun q => iOf (rg q), ls iOf nc cf, iOf d, ls zn_ ns sf⟩, ⟨iOf e0, iOf e1, iOf e2, iOf e3, iOf e4⟩, zt_ iv, c, k, (∀ q, q < 8 → isI .i64 (rg q) = true) ∧ (∀ q, q < nc → isI .i64 (cf q) = true) ∧ ∀ q, q < ns → isSnd (sf q) = true) else none
  | _, _ => none
 | _ => none
theorem mac_val {h : HM} {g c k : Nat} {s : Sta} {v : Evi} {x : Ins} {ok : Prop} (hp : macP h g = some (s, v, x, c, k, ok)) (hok : ok) :
  ∃ l cf sf, h g = .own 152 (.agg l) true ∧ (∀ β, (SV.agg l).cl β = (macS s v x c k).cl β) ∧ h c = .own 2 (.arr s.cells.length 1 cf) false ∧ (∀ β q, q < s.cells.length → (cf q).cl β = (zo_ s.cells q).cl β) ∧
   h k = .own 64 (.arr s.sends.length 3 sf) false ∧ (∀ β q, q < s.sends.length → (sf q).cl β = (zm_ s.sends q).cl β) ∧ g ≠ c ∧ g ≠ k ∧ c ≠ k := by
 unfold macP at hp
 split at hp
 ·rename_i t a e rg z c0 nc d z2 k0 ns e0 e1 e2 e3 e4 iv hg
  split at hp
  ·rename_i t1 n1 cf t2 n2 sf hc hk
   obtain ⟨hb, hs⟩ := zl_ hp
   simp only [Option.some.injEq, Prod.mk.injEq] at hs
   obtain ⟨rfl, rfl, rfl, rfl, rfl, rfl⟩ := hs
   simp only [Bool.and_eq_true] at hb
   obtain ⟨⟨⟨⟨⟨⟨b1, b2⟩, b3⟩, ⟨⟨b4, b5⟩, b6⟩, b7⟩, b8, b9⟩, ⟨⟨⟨b10, b11⟩, b12⟩, b13⟩, b14⟩, b15⟩ := hb
   have b1 := Nat.eq_of_beq_eq_true b1
   have b2 := Nat.eq_of_beq_eq_true b2
   have b3 := Nat.eq_of_beq_eq_true b3
   have b4 := Nat.eq_of_beq_eq_true b4
   have b5 := Nat.eq_of_beq_eq_true b5
   have b6 := Nat.eq_of_beq_eq_true b6
   have b7 := Nat.eq_of_beq_eq_true b7
   subst b1 b2 b3 b4 b5 b6 b7
   obtain ⟨hr, hcf, hsf⟩ := hok
   refine ⟨_, cf, sf, hg, fun β => ?_, by rw [hc, zc_], fun β q hq => ?_, by rw [hk, zc_], fun β q hq => ?_, ?_, ?_, ?_⟩
   ·have h8 : (SV.arr 8 1 rg).cl β = (SV.arr 8 1 fun q => .int .i64 (iOf (rg q))).cl β := arrCl fun q hq => by rw [isI_cl (hr q hq)]; rfl
    simp only [macS, stS, evS, cl_agg, clL_cons, clL_nil, h8, isI_cl b8, isI_cl b9, isI_cl b10, isI_cl b11, isI_cl b12, isI_cl b13, isI_cl b14, isIns_cl b15, isIns_cl (zu_ _), z7_, zc_]
    rfl
   ·rw [zc_] at hq
    rw [isI_cl (hcf q hq)]
    unfold zo_
    rw [ls_getD hq]; rfl
   ·rw [zc_] at hq
    rw [isSnd_cl (hsf q hq)]
    unfold zm_
    rw [ls_getD hq, isSnd_cl (yf_ _), z5_]
   ·rintro rfl; rw [hg] at hc; cases hc
   ·rintro rfl; rw [hg] at hk; cases hk
   ·rintro rfl; rw [hc] at hk; cases hk
  ·cases hp
 ·cases hp
def macH (h : HM) (g c k : Nat) (s : Sta) (v : Evi) (x : Ins) : HM := upd (upd (upd h g (mB s v x c k)) c (cB s)) k (sB s)
theorem macH_g {h : HM} {g c k : Nat} {s : Sta} {v : Evi} {x : Ins} (n1 : g ≠ c) (n2 : g ≠ k) : macH h g c k s v x g = mB s v x c k := by
 unfold macH; rw [z8_ n2, z8_ n1, zr_]
theorem macH_c {h : HM} {g c k : Nat} {s : Sta} {v : Evi} {x : Ins} (n3 : c ≠ k) : macH h g c k s v x c = cB s := by
 unfold macH; rw [z8_ n3, zr_]
theorem macH_k {h : HM} {g c k : Nat} {s : Sta} {v : Evi} {x : Ins} : macH h g c k s v x k = sB s := by
 unfold macH; rw [zr_]
theorem macH_o {h : HM} {g c k i : Nat} {s : Sta} {v : Evi} {x : Ins} (n1 : i ≠ g) (n2 : i ≠ c) (n3 : i ≠ k) : macH h g c k s v x i = h i := by
 unfold macH; rw [z8_ n3, z8_ n2, z8_ n1]
theorem macH_born {h : HM} {g c k i : Nat} {s : Sta} {v : Evi} {x : Ins} (hi : (h i).born = true) : (macH h g c k s v x i).born = true := by
 unfold macH Vm.upd
 split
 ·rfl
 ·split
  ·rfl
  ·split
   ·rfl
   ·exact hi
theorem cB_st {h : HM} {s : Sta} : (cB s).stable h := fun q => i64S_stable q
theorem sB_st {h : HM} {s : Sta} : (sB s).stable h := fun q => sndsS_stable q
theorem mB_st {h : HM} {s : Sta} {v : Evi} {x : Ins} {c k : Nat} (hc : (h c).born = true) (hk : (h k).born = true) : (mB s v x c k).stable h := by
 simp [mB, HB.stable, macS, stS, evS, yo_, zb_, ze_, hc, hk]
theorem macS_ren (ρ : Nat → Nat) (s : Sta) (v : Evi) (x : Ins) (c k : Nat) : (macS s v x c k).ren ρ = macS s v x (ρ c) (ρ k) := by
 simp [macS, stS, evS, yo_, SV.ren, renL]
theorem mB_ren (ρ : Nat → Nat) (s : Sta) (v : Evi) (x : Ins) (c k : Nat) : (mB s v x c k).ren ρ = mB s v x (ρ c) (ρ k) := by
 simp [mB, HB.ren, macS_ren]
theorem cB_ren (ρ : Nat → Nat) (s : Sta) : (cB s).ren ρ = cB s := rfl
theorem sB_ren (ρ : Nat → Nat) (s : Sta) : (sB s).ren ρ = sB s := by
 have : (fun q => (zm_ s.sends q).ren ρ) = zm_ s.sends := by
  funext q; unfold zm_; simp only [sndS, SV.ren, renL]
 simp [sB, HB.ren, SV.ren, this]
section
variable {w0 w : World} {M : Nat → Prop} {β : Env} {h h' : HM} {g c k : Nat} {s : Sta} {v : Evi} {x : Ins} {ok : Prop}
theorem mac_canon (hp : macP h g = some (s, v, x, c, k, ok)) (hok : ok) (R : Rep w0 M β h' w) (eg : h' g = h g) (ec : h' c = h c) (ek : h' k = h k) :
  Rep w0 M β (macH h' g c k s v x) w ∧ g ≠ c ∧ g ≠ k ∧ c ≠ k ∧ 0 ≠ g ∧ 0 ≠ c ∧ 0 ≠ k := by
 obtain ⟨l, cf, sf, hg, hgl, hc, hcl, hk, hkl, n1, n2, n3⟩ := mac_val hp hok
 have z : ∀ {j : Nat} {b : HB}, h' j = b → b.mine = true → 0 ≠ j := fun {j b} hj hb e => by
  subst e; rw [R.nil0] at hj; subst hj; cases hb
 have z1 := z (eg.trans hg) rfl
 have z2 := z (ec.trans hc) rfl
 have z3 := z (ek.trans hk) rfl
 have hnn : (macH h' g c k s v x) 0 = .gone := by rw [macH_o z1 z2 z3]; exact R.nil0
 refine ⟨R.less (fun i => ?_) hnn (fun i => ?_), n1, n2, n3, z1, z2, z3⟩
 ·by_cases e1 : i = g
  ·subst e1
   rw [macH_g n1 n2, eg, hg]
   exact .val hgl (fun n k f e => by cases e) (fun n k f e => by cases e)
  ·by_cases e2 : i = c
   ·subst e2
    rw [macH_c n3, ec, hc]
    exact .val (fun β => arrCl (hcl β)) (fun n k f e => by injection e with e1 e2 e3; subst e1 e2; exact ⟨_, rfl⟩) (fun n k f e => by injection e with e1 e2 e3; subst e1 e2; exact ⟨_, rfl⟩)
   ·by_cases e3 : i = k
    ·subst e3
     rw [macH_k, ek, hk]
     exact .val (fun β => arrCl (hkl β)) (fun n k f e => by injection e with e1 e2 e3; subst e1 e2; exact ⟨_, rfl⟩) (fun n k f e => by injection e with e1 e2 e3; subst e1 e2; exact ⟨_, rfl⟩)
    ·rw [macH_o e1 e2 e3]; exact .same _
 ·by_cases e1 : i = g
  ·subst e1
   rw [macH_g n1 n2]
   exact mB_st (by rw [macH_c n3]; rfl) (by rw [macH_k]; rfl)
  ·by_cases e2 : i = c
   ·subst e2
    rw [macH_c n3]; exact cB_st
   ·by_cases e3 : i = k
    ·subst e3
     rw [macH_k]; exact sB_st
    ·rw [macH_o e1 e2 e3]
     exact HB.stable_more (R.st i) fun j hj => macH_born hj
end
abbrev MF := List SV → Sta → Evi → Ins → Option (Prop × (Nat → SV) × Sta × Ins × Bool)
def mS (F : MF) : yp_ := fun args h m => match args with
 | .ptr g [] :: ar => match macP h g with
  | some (s, v, x, c, k, ok) => match F ar s v x with
   | some (cond, val, s', x', mv) => some (ok ∧ cond, val c, [g, c, k], bif mv then [(g, mB s' v x' c m), (c, cB s'), (k, .gone), (m, sB s')] else [(g, mB s' v x' c k), (c, cB s'), (k, sB s')])
   | none => none
  | none => none
 | _ => none
theorem inj4 {g c k : Nat} {a b d : HB} (n1 : g ≠ c) (n2 : g ≠ k) (n3 : c ≠ k) : ∀ i j, i < [HB.gone, a, b, d].length → j < [HB.gone, a, b, d].length → i ≠ j → (hp [HB.gone, a, b, d] i).mine = true → (hp [HB.gone, a, b, d] j).mine = true ∨ (hp [HB.gone, a, b, d] j).isRo = true → [0, g, c, k].getD i 0 ≠ [0, g, c, k].getD j 0 := by
 intro i j hi hj hne hmi hmj
 simp only [List.length_cons, List.length_nil] at hi hj
 have hi0 : i ≠ 0 := by rintro rfl; cases hmi
 have hj0 : j ≠ 0 := by
  rintro rfl
  rcases hmj with h | h <;> cases h
 rcases i with _ | _ | _ | _ | i
 ·exact absurd rfl hi0
 all_goals rcases j with _ | _ | _ | _ | j
 all_goals first | exact absurd rfl hj0 | exact absurd rfl hne | (simp only [List.getD_cons_succ, List.getD_cons_zero]; first | exact n1 | exact n2 | exact n3 | exact n1.symm | exact n2.symm | exact n3.symm) | omega
theorem mS_ok {f : FuncId} {F : MF} (hf : named Try.prog f = true)
  (H : ∀ ar s v x cond val s' x' mv, F ar s v x = some (cond, val, s', x', mv) → cond → (∀ ρ, renL ρ ar = ar) ∧ (∀ h, ze_ h ar) ∧ (∀ ρ : Nat → Nat, ρ 0 = 0 → (val 2).ren ρ = val (ρ 2)) ∧ (∀ h : HM, (h 0).born = true → (h 2).born = true → zb_ h (val 2)) ∧
   zp_ Try.prog f (.ptr 1 [] :: ar) [.gone, mB s v x 2 3, cB s, sB s] (val 2) (bif mv then [.gone, mB s' v x' 2 4, cB s', .gone, sB s'] else [.gone, mB s' v x' 2 3, cB s', sB s'])) : zj_ Try.prog f (mS F) := by
 refine ⟨zi_ hf, fun args h m c v rd wr hs hm hc w0 M β h' w R hrd hwr hst => ?_⟩
 unfold mS at hs
 split at hs
 ·rename_i g ar
  split at hs
  ·rename_i s v x c k ok hmp
   split at hs
   ·rename_i cond val s' x' mv hF
    simp only [Option.some.injEq, Prod.mk.injEq] at hs
    obtain ⟨rfl, rfl, rfl, rfl⟩ := hs
    obtain ⟨hok, hcond⟩ := hc
    obtain ⟨q1, q2, q3, q4, hl⟩ := H ar s v x _ _ _ _ _ hF hcond
    obtain ⟨R1, n1, n2, n3, z1, z2, z3⟩ := mac_canon hmp hok R (hrd g (by simp)) (hrd c (by simp)) (hrd k (by simp))
    have hfit : FitL (rhoL [0, g, c, k] m) (macH h' g c k s v x) [.gone, mB s v x 2 3, cB s, sB s] [0, g, c, k] := by
     refine ⟨.gone ?_, ?_, ?_, ?_, trivial⟩
     ·rw [R1.nil0]; rfl
     ·rw [macH_g n1 n2]
      have e : mB s v x c k = .own 152 ((macS s v x 2 3).ren (rhoL [0, g, c, k] m)) true := by rw [macS_ren]; rfl
      rw [e]; exact .own
     ·rw [macH_c n3]
      exact .own (v := .arr s.cells.length 1 (zo_ s.cells))
     ·rw [macH_k]
      have e : sB s = (sB s).ren (rhoL [0, g, c, k] m) := (sB_ren _ _).symm
      rw [e]; exact .own (v := .arr s.sends.length 3 (zm_ s.sends))
    have hargs : renL (rhoL [0, g, c, k] m) (.ptr 1 [] :: ar) = .ptr g [] :: ar := by
     simp only [renL, SV.ren, q1]; rfl
    have hval : (val 2).ren (rhoL [0, g, c, k] m) = val c := q3 _ rfl
    have hst0 : y5_ (hp [.gone, mB s v x 2 3, cB s, sB s]) [.gone, mB s v x 2 3, cB s, sB s] := ⟨trivial, mB_st rfl rfl, cB_st, sB_st, trivial⟩
    cases mv with
    | false =>
     have C := callRW (h := h) (m := m) [0, g, c, k] hl R1 rfl (by simp) rfl rfl hfit (inj4 n1 n2 n3) hm (fun p hp => by cases hp) (by simp) rfl hst0 ⟨rfl, q2 _⟩
      ⟨trivial, mB_st rfl rfl, cB_st, sB_st, trivial⟩ (q4 _ rfl rfl)
     rw [hargs] at C
     have hw : wrs (macH h' g c k s v x) (oldB (rhoL [0, g, c, k] m) [.gone, mB s v x 2 3, cB s, sB s] [.gone, mB s' v x' 2 3, cB s', sB s'] [0, g, c, k] ++ newB (rhoL [0, g, c, k] m) m ([HB.gone, mB s' v x' 2 3, cB s', sB s'].drop 4)) = wrs h' [(g, mB s' v x' c k), (c, cB s'), (k, sB s')] := by
      simp only [oldB, newB, mB_ren, cB_ren, sB_ren, List.drop, List.append_nil]
      funext i
      show upd (upd (upd (macH h' g c k s v x) g (mB s' v x' c k)) c (cB s')) k (sB s') i = upd (upd (upd h' g (mB s' v x' c k)) c (cB s')) k (sB s') i
      unfold macH Vm.upd
      split
      ·rfl
      ·split
       ·rfl
       ·split <;> rfl
     refine C.mono fun e w' ⟨β', g1, g2, g3, g4⟩ => ⟨β', fun i hi => g1 i (macH_born hi), ?_, ?_, ?_⟩
     ·rw [cond_false, ← hw]; exact g2
     ·rw [cond_false, ← hval, ← hw]; exact g3
     ·rw [← hval]; exact g4
    | true =>
     have hmd : h m = .dead := hm m (Nat.le_refl _)
     have hm' : h' m = .dead := (hwr (m, sB s') (by simp)).trans hmd
     have mg : m ≠ g := by rintro rfl; have := mac_val hmp hok; obtain ⟨l, cf, sf, e, _⟩ := this; rw [hmd] at e; cases e
     have mc : m ≠ c := by rintro rfl; have := mac_val hmp hok; obtain ⟨l, cf, sf, _, _, e, _⟩ := this; rw [hmd] at e; cases e
     have mk : m ≠ k := by rintro rfl; have := mac_val hmp hok; obtain ⟨l, cf, sf, _, _, _, _, e, _⟩ := this; rw [hmd] at e; cases e
     have C := callRW (h := h) (m := m) [0, g, c, k] hl R1 rfl (by simp) rfl rfl hfit (inj4 n1 n2 n3) hm (fun p hp => by
       simp only [newB, List.drop, cond_true, List.length_cons, List.length_nil, List.mem_cons, List.not_mem_nil, or_false] at hp
       subst hp
       show macH h' g c k s v x m = h m
       rw [macH_o mg mc mk, hm', hmd]) (by simp) rfl hst0 ⟨rfl, q2 _⟩
      ⟨trivial, mB_st rfl rfl, cB_st, trivial, sB_st, trivial⟩ (q4 _ rfl rfl)
     rw [hargs] at C
     have hw : wrs (macH h' g c k s v x) (oldB (rhoL [0, g, c, k] m) [.gone, mB s v x 2 3, cB s, sB s] [.gone, mB s' v x' 2 4, cB s', .gone, sB s'] [0, g, c, k] ++ newB (rhoL [0, g, c, k] m) m ([HB.gone, mB s' v x' 2 4, cB s', .gone, sB s'].drop 4)) = wrs h' [(g, mB s' v x' c m), (c, cB s'), (k, .gone), (m, sB s')] := by
      have e4 : rhoL [0, g, c, k] m 4 = m := by simp [rhoL]
      simp only [oldB, newB, mB_ren, cB_ren, sB_ren, List.drop, e4]
      funext i
      show upd (upd (upd (upd (macH h' g c k s v x) g (mB s' v x' c m)) c (cB s')) k .gone) m (sB s') i = upd (upd (upd (upd h' g (mB s' v x' c m)) c (cB s')) k .gone) m (sB s') i
      unfold macH Vm.upd
      split
      ·rfl
      ·split
       ·rfl
       ·split
        ·rfl
        ·split <;> rfl
     refine C.mono fun e w' ⟨β', g1, g2, g3, g4⟩ => ⟨β', fun i hi => g1 i (macH_born hi), ?_, ?_, ?_⟩
     ·rw [cond_true, ← hw]; exact g2
     ·rw [cond_true, ← hval, ← hw]; exact g3
     ·rw [← hval]; exact g4
   ·cases hs
  ·cases hs
 ·cases hs
abbrev RF := Sta → Evi → Ins → Option (Prop × SV)
def rS (F : RF) : yp_ := fun args h m => match args with
 | [.ptr g []] => match macP h g with
  | some (s, v, x, c, k, ok) => match F s v x with
   | some (cond, val) => some (ok ∧ cond, val, [g, c, k], [])
   | none => none
  | none => none
 | _ => none
theorem rS_ok {f : FuncId} {F : RF} (hf : named Try.prog f = true)
  (H : ∀ s v x cond val, F s v x = some (cond, val) → cond → (∀ ρ, val.ren ρ = val) ∧ (∀ h : HM, zb_ h val) ∧
   zp_ Try.prog f [.ptr 1 []] [.gone, .ro (macS s v x 2 3), .gone, .gone] val [.gone, .gone, .gone, .gone]) : zj_ Try.prog f (rS F) := by
 refine ⟨zi_ hf, fun args h m c v rd wr hs hm hc w0 M β h' w R hrd hwr hst => ?_⟩
 unfold rS at hs
 split at hs
 ·rename_i g
  split at hs
  ·rename_i s v x c k ok hmp
   split at hs
   ·rename_i cond val hF
    simp only [Option.some.injEq, Prod.mk.injEq] at hs
    obtain ⟨rfl, rfl, rfl, rfl⟩ := hs
    obtain ⟨hok, hcond⟩ := hc
    obtain ⟨q1, q2, hl⟩ := H s v x _ _ hF hcond
    obtain ⟨l, cf, sf, hg, hgl, hcc, _, hk, _⟩ := mac_val hmp hok
    have hfit : FitL (rhoL [0, g, c, k] m) h' [.gone, .ro (macS s v x 2 3), .gone, .gone] [0, g, c, k] := by
     refine ⟨.gone ?_, .ro (u := .agg l) (by rw [hrd g (by simp), hg]; rfl) (fun β => by rw [macS_ren]; exact hgl β) (fun n k f e => by rw [macS_ren] at e; cases e), .gone (by rw [hrd c (by simp), hcc]; rfl), .gone (by rw [hrd k (by simp), hk]; rfl), trivial⟩
     rw [R.nil0]; rfl
    have C := callG (h := h) (m := m) [0, g, c, k] hl R rfl (by simp) rfl rfl rfl hfit hm (fun p hp => by cases hp) (by simp)
     (by simp [y5_, HB.stable, macS, stS, evS, yo_, zb_, ze_, hp, HB.born]) ⟨rfl, trivial⟩ trivial (q2 _)
    refine C.mono fun e w' ⟨β', g1, g2, g3, g4⟩ => ⟨β', g1, g2, q2 _, by rw [← q1 (rhoL [0, g, c, k] m)]; exact g4⟩
   ·cases hs
  ·cases hs
 ·cases hs
end Go.Proofs.Ytmljmabbopkpiaa.Vm
end
section
namespace Go.Proofs.Ytmljmabbopkpiaa.Vm
open Go.RowKit
theorem viewL_len : ∀ l : List View, (viewL l).length = 2 * l.length
 | [] => rfl
 | x :: l => by rw [viewL, List.length_cons, List.length_cons, viewL_len l, List.length_cons]; omega
theorem Vd.envTo {β β' : Env} : ∀ {l : List View} {m : Nat}, (∀ i, m ≤ i → i < m + 2 * l.length → β i = β' i) → Vd β m l → Vd β' m l
 | [], _, _, _ => trivial
 | x :: l, m, hb, h => by
  have hl : (x :: l).length = l.length + 1 := rfl
  refine ⟨?_, Vd.envTo (fun i h1 h2 => hb i (by omega) (by omega)) h.2⟩
  rw [← h.1]
  simp only [SV.den, hb m (Nat.le_refl _) (by omega), hb (m + 1) (by omega) (by omega)]
theorem callRoV {P : Program} {f : FuncId} {args : List SV} {views : List View} {L1 : List HB} {v v' V : SV} {w0 w : World} {M : Nat → Prop} {β : Env} {h h' : HM} {m : Nat} {vals : List Value} (H : zp_ P f args (.gone :: viewL views) v L1) (hok : ∀ x ∈ views, x.Ok w) (R : Rep w0 M β h' w) (hm : ∀ i, m ≤ i → h i = .dead)
  (hwr : ∀ p ∈ newB (rho ((viewL views).length + 1) m) m (L1.drop ((viewL views).length + 1)), h' p.1 = h p.1)
  (hargs : ∀ β1 : Env, Vd β1 1 views → denL β1 args = vals) (hnew : NewL (hN ((viewL views).length + 1) L1) (L1.drop ((viewL views).length + 1))) (hv : zb_ (hN ((viewL views).length + 1) L1) v')
  (hVs : ∀ h2 : HM, (∀ i, (h' i).born = true → (h2 i).born = true) → zb_ h2 (v'.ren (rho ((viewL views).length + 1) m)) → zb_ h2 V)
  (hV : ∀ β2 β' : Env, Vd β2 1 views → v'.den β2 = (v'.ren (rho ((viewL views).length + 1) m)).den β' → (∀ i, (h' i).born = true → β i = β' i) → v.den β2 = V.den β') :
  Calls P f vals.toArray w fun e w' => ∃ β', (∀ i, (h' i).born = true → β i = β' i) ∧ Rep w0 M β' (wrs h' (newB (rho ((viewL views).length + 1) m) m (L1.drop ((viewL views).length + 1)))) w' ∧ zb_ (wrs h' (newB (rho ((viewL views).length + 1) m) m (L1.drop ((viewL views).length + 1)))) V ∧ e = .returned (V.den β') := by
 obtain ⟨β1, a1, R0, d1⟩ := handedAll views hok (start w)
 rw [← hargs β1 d1]
 refine (H w _ β1 w R0).mono fun e w' ⟨β2, k1, R2, k3, k4⟩ => ?_
 have hdead : ∀ i, m ≤ i → i < m + (L1.length - ((viewL views).length + 1)) → h' i = .dead := fun i hi hlt => by
  obtain ⟨b, hb⟩ := newB_mem (ρ := rho ((viewL views).length + 1) m) (l := L1.drop ((viewL views).length + 1)) hi (by rw [List.length_drop]; exact hlt)
  exact (hwr _ hb).trans (hm i hi)
 obtain ⟨β', g1, g2, g3, g4⟩ := graftRo R R2 (Nat.succ_pos _) hdead (newL_spec hnew) hv
 have d2 : Vd β2 1 views := d1.envTo fun i h1 h2 => k1 i (by rw [List.length_cons, viewL_len]; omega)
 refine ⟨β', g1, g2, hVs _ (fun i hi => ?_) g3, by rw [k4, hV β2 β' d2 g4 g1]⟩
 rw [wrs_newB, if_neg]
 ·exact hi
 ·intro ⟨h1, h2⟩
  rw [List.length_drop] at h2
  rw [hdead i h1 h2] at hi
  cases hi
theorem insS_agg (i : Ins) : (yo_ i).isAgg = true := rfl
theorem insS_plain (i : Ins) : (yo_ i).plain = true := rfl
theorem nav_ins (i : Ins) : nav (yo_ i) [] = some (True, yo_ i) := rfl
theorem xe_ (i : Ins) (pa : List Stp) : nav (yo_ i) (.f 0 0 :: pa) = nav (.int .u8 i.op) pa := rfl
theorem xd_ (i : Ins) (pa : List Stp) : nav (yo_ i) (.f 1 1 :: pa) = nav (.int .u8 i.a) pa := rfl
theorem xc_ (i : Ins) (pa : List Stp) : nav (yo_ i) (.f 2 2 :: pa) = nav (.int .u8 i.b) pa := rfl
theorem xb_ (i : Ins) (pa : List Stp) : nav (yo_ i) (.f 3 3 :: pa) = nav (.int .u8 i.c) pa := rfl
theorem xa_ (i : Ins) (pa : List Stp) : nav (yo_ i) (.f 4 4 :: pa) = nav (.int .i64 i.n) pa := rfl
theorem sndS_size (i : Snd) : (sndS i).size = 3 := rfl
theorem sndS_agg (i : Snd) : (sndS i).isAgg = true := rfl
theorem sndS_plain (i : Snd) : (sndS i).plain = true := rfl
theorem nav_snd (i : Snd) : nav (sndS i) [] = some (True, sndS i) := rfl
theorem y9_ (i : Snd) (pa : List Stp) : nav (sndS i) (.f 0 0 :: pa) = nav (.int .i64 i.port) pa := rfl
theorem y8_ (i : Snd) (pa : List Stp) : nav (sndS i) (.f 1 1 :: pa) = nav (.int .i64 i.delay) pa := rfl
theorem y7_ (i : Snd) (pa : List Stp) : nav (sndS i) (.f 2 2 :: pa) = nav (.int .i64 i.value) pa := rfl
set_option linter.defProp false
def JK := And.intro @insS_size (And.intro @insS_agg (And.intro @insS_plain (And.intro @sndS_size (And.intro @sndS_agg @sndS_plain))))
end Go.Proofs.Ytmljmabbopkpiaa.Vm
end
