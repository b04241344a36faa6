/- Contracts of instr, Made, Env and Same for walks over symbolic values. -/
import Derived.Test.YtmljmabbopkpiaaVB1
import Derived.Test.YtmljmabbopkpiaaWrongP
import Derived.Test.YtmljmabbopkpiaaEnv
import Derived.Test.YtmljmabbopkpiaaClone
namespace Go.Proofs.Ytmljmabbopkpiaa.Vm
open Go.RowKit
set_option linter.unusedVariables false
set_option linter.unusedSimpArgs false
set_option maxRecDepth 100000

/-- what a call does that only reads, and yields a plain value -/
theorem post_read {w0 w : World} {M : Nat → Prop} {β : Env} {h' : HM} {v : SV} {x : Value} {e : Ending} {w' : World} (R : Rep w0 M β h' w) (hs : Stable h' v) (hx : x = v.den β) (he : e = .returned x) (hb : Below w.heap.size w w') :
    ∃ β', (∀ i, (h' i).born = true → β i = β' i) ∧ Rep w0 M β' (wrs h' []) w' ∧ Stable (wrs h' []) v ∧ e = .returned (v.den β') :=
  ⟨β, fun _ _ => rfl, R.below hb, hs, by rw [he, hx]⟩

def named (P : Program) (f : FuncId) : Bool := match P.funcs[f]? with
  | some fn => !(fn.name == "runtime.NumGoroutine") && !fn.body.isNone
  | none => false
theorem named_spec {P : Program} {f : FuncId} (h : named P f = true) : ∃ fn, P.funcs[f]? = some fn ∧ (fn.name == "runtime.NumGoroutine") = false ∧ fn.body.isNone = false := by
  unfold named at h
  split at h
  · rename_i fn hf
    rw [Bool.and_eq_true] at h
    exact ⟨fn, hf, by simpa using h.1, by simpa using h.2⟩
  · cases h

/-! ### awake -/
def sAwake : Spec := fun args _ _ => match args with
  | [] => some (True, .bool true, [], [])
  | _ => none
theorem awake_ok : CallOk Try.prog 23 sAwake := by
  refine ⟨named_spec (by kernel_rfl), fun args h m c v rd wr hs hm hc w0 M β h' w R hrd hwr hst => ?_⟩
  unfold sAwake at hs
  split at hs
  · simp only [Option.some.injEq, Prod.mk.injEq] at hs
    obtain ⟨rfl, rfl, rfl, rfl⟩ := hs
    exact (awake18_c w).mono fun e w' he => post_read R trivial rfl he.1 he.2
  · cases hs

/-! ### Env -/
def sEnv : Spec := fun args _ _ => match args with
  | [a, b, c, d, e] => bif isI .u64 a && isI .u16 b && isI .u8 c && isI .u8 d && isI .u32 e then
      some ((0 ≤ iOf b ∧ iOf b ≤ 65535) ∧ (0 ≤ iOf c ∧ iOf c ≤ 255) ∧ (0 ≤ iOf d ∧ iOf d ≤ 255) ∧ (0 ≤ iOf e ∧ iOf e ≤ 4294967295), .agg [.int .u64 (iOf a), .int .i64 (iOf b), .int .i64 (iOf c % 17), .int .i64 (1 + iOf d), .int .i64 (iOf e)], [], []) else none
  | _ => none
theorem env_ok : CallOk Try.prog 26 sEnv := by
  refine ⟨named_spec (by kernel_rfl), fun args h m c v rd wr hs hm hc w0 M β h' w R hrd hwr hst => ?_⟩
  unfold sEnv at hs
  split at hs
  · rename_i a b c' d e
    obtain ⟨hb, hs⟩ := bif_some hs
    simp only [Option.some.injEq, Prod.mk.injEq] at hs
    obtain ⟨rfl, rfl, rfl, rfl⟩ := hs
    simp only [Bool.and_eq_true] at hb
    obtain ⟨⟨⟨⟨b1, b2⟩, b3⟩, b4⟩, b5⟩ := hb
    obtain ⟨⟨c1, c2⟩, ⟨c3, c4⟩, ⟨c5, c6⟩, c7, c8⟩ := hc
    simp only [denL, isI_den b1, isI_den b2, isI_den b3, isI_den b4, isI_den b5]
    exact (env_c (iOf a) (iOf b) (iOf c') (iOf d) (iOf e) w c1 c2 c3 c4 c5 c6 c7 c8).mono fun e w' he => post_read R (by simp [Stable, StableL]) rfl he.1 he.2
  · cases hs

theorem arrV_n {h : HM} {k z i k' s n' n : Nat} {pa : List Stp} {cp : Option Nat} {c : Prop} {f : Nat → SV} {rd : List Nat} (ha : arrV h k (.sl z i pa k' s n' cp) = some (c, n, f, rd)) : n = n' := by
  simp only [arrV] at ha
  split at ha
  · split at ha
    · have := (bif_some ha).2
      simp only [Option.some.injEq, Prod.mk.injEq] at this
      exact this.2.1.symm
    · cases ha
  · cases ha

/-! ### Made of law 14 -/
def prS (p : List Ins) : Nat → SV := fun q => insS (p.getD q ⟨0, 0, 0, 0, 0⟩)
def sMade14 : Spec := fun args h m => match args with
  | [v] => match v, arrV h 5 v with
    | .sl _ _ _ _ _ _ (some cp), some (c, n, f, rd) =>
        some (c ∧ (∀ q, q < n → isIns (f q) = true) ∧ (∀ x ∈ ls insOf n f, x.ok) ∧ max n cp ≤ 9223372036854775807, .sl m m [] 5 0 (made14 (ls insOf n f)).length none, rd, [(m, .own 28 (.arr (made14 (ls insOf n f)).length 5 (prS (made14 (ls insOf n f)))) false)])
    | _, _ => none
  | _ => none
theorem prS_stable {h : HM} {p : List Ins} (q : Nat) : Stable h (prS p q) := by simp [prS, insS, Stable, StableL]
theorem elems_prS {β : Env} (p : List Ins) : elems β 5 p.length (prS p) = insV p := by
  rw [elems_ins fun q _ => rfl]
  congr 1
  exact ls_of insOf_insS p _
theorem made14_ok' : CallOk Try.prog 19 sMade14 := by
  refine ⟨named_spec (by kernel_rfl), fun args h m c v rd wr hs hm hc w0 M β h' w R hrd hwr hst => ?_⟩
  unfold sMade14 at hs
  split at hs
  · rename_i v0
    split at hs
    · rename_i z i pa k' s n' cp c' n f rd' ha
      simp only [Option.some.injEq, Prod.mk.injEq] at hs
      obtain ⟨rfl, rfl, rfl, rfl⟩ := hs
      obtain ⟨hc1, hi, hok, hcp⟩ := hc
      obtain ⟨A, cap, hden, hnc, hr⟩ := reads_of R ha hc1 hrd (by omega)
      rw [elems_ins hi] at hr
      have hcap : cap ≤ 9223372036854775807 := by
        have hn : n' = n := (arrV_n ha).symm
        simp only [SV.den, Option.getD_some] at hden
        injection hden with _ _ h3
        omega
      simp only [denL, hden]
      refine (made14_c (ls insOf n f) hok A n cap w hr hnc hcap).mono fun e w' he => ?_
      obtain ⟨p, rfl, ho, hb⟩ := he
      have hmd : h' m = .dead := (hwr _ (.head _)).trans (hm m (Nat.le_refl _))
      obtain ⟨e', R', hv⟩ := (R.below hb).made (f := prS (made14 (ls insOf n f))) hmd ho R.size (elems_prS _) prS_stable (fun g i a' hg hmi hai e => by
        have := R.lt i a' hmi hai
        obtain ⟨_, ⟨rfl, _⟩ | ⟨g', cap', cur, rfl, hg', _⟩⟩ := ho
        · cases hg
        · simp [Value.ownBlock] at hg
          omega)
      exact ⟨_, agree_setE hmd, R', stable_new, by rw [hv]⟩
    · cases hs
  · cases hs

/-! ### states -/
abbrev Sta := Go.Proofs.Ytmljmabbopkpiaa.St
def stS (s : Sta) (zc ic zs is_ : Nat) : SV := .agg [.int .i64 s.at_, .bool s.ended, .arr 8 1 fun q => .int .i64 (s.regs q), .sl zc ic [] 1 0 s.cells.length none, .int .i64 s.draws, .sl zs is_ [] 3 0 s.sends.length none]
def isSl : SV → Bool
  | .sl .. => true
  | _ => false
theorem isSl_cl {v : SV} {β : Env} (h : isSl v = true) : v.cl β = [v.den β] := by cases v <;> first | (cases h; done) | rfl
theorem den_state {β : Env} {a d cv xv : SV} {e : Bool} {rg : Nat → SV} (ha : isI .i64 a = true) (hr : ∀ q, q < 8 → isI .i64 (rg q) = true) (hd : isI .i64 d = true) (hc : isSl cv = true) (hx : isSl xv = true) (cs : List Int) (ss : List Snd) :
    (SV.agg [a, .bool e, .arr 8 1 rg, cv, d, xv]).den β = Go.Proofs.Ytmljmabbopkpiaa.St.v ⟨iOf a, e, fun q => iOf (rg q), cs, iOf d, ss⟩ (cv.den β) (xv.den β) := by
  rw [den_agg rfl, cl_agg]
  have h8 : (SV.arr 8 1 rg).cl β = int64s (ls iOf 8 rg) := by rw [cl_arr', elems_i64 hr]
  simp only [clL_cons, clL_nil, isI_cl ha, isI_cl hd, isSl_cl hc, isSl_cl hx, h8]
  rfl
theorem den_small {β : Env} {a d s cv : SV} {rg : Nat → SV} (ha : isI .u8 a = true) (hr : ∀ q, q < 8 → isI .i64 (rg q) = true) (hd : isI .u32 d = true) (hs : isI .u8 s = true) (hc : isSl cv = true) (cs : List Int) :
    (SV.agg [a, .arr 8 1 rg, cv, d, s]).den β = .agg (Sm.cs ⟨iOf a, fun q => iOf (rg q), cs, iOf d, iOf s⟩ (cv.den β)) := by
  rw [den_agg rfl, cl_agg]
  have h8 : (SV.arr 8 1 rg).cl β = int64s (ls iOf 8 rg) := by rw [cl_arr', elems_i64 hr]
  simp only [clL_cons, clL_nil, isI_cl ha, isI_cl hd, isI_cl hs, isSl_cl hc, h8]
  rfl
theorem den_env {β : Env} {a b c d e : SV} (ha : isI .u64 a = true) (hb : isI .i64 b = true) (hc : isI .i64 c = true) (hd : isI .i64 d = true) (he : isI .i64 e = true) :
    (SV.agg [a, b, c, d, e]).den β = Envi.v ⟨iOf a, iOf b, iOf c, iOf d, iOf e⟩ := by
  rw [den_agg rfl, cl_agg]
  simp only [clL_cons, clL_nil, isI_cl ha, isI_cl hb, isI_cl hc, isI_cl hd, isI_cl he]
  rfl
theorem arrV_sl {h : HM} {k : Nat} {v : SV} {x : Prop × Nat × (Nat → SV) × List Nat} (ha : arrV h k v = some x) : isSl v = true := by
  unfold arrV at ha
  split at ha
  · rfl
  · cases ha
def i64S (l : List Int) : Nat → SV := fun q => .int .i64 (l.getD q 0)
def sndsS (l : List Snd) : Nat → SV := fun q => sndS (l.getD q ⟨0, 0, 0⟩)
theorem i64S_stable {h : HM} {l : List Int} (q : Nat) : Stable h (i64S l q) := trivial
theorem sndsS_stable {h : HM} {l : List Snd} (q : Nat) : Stable h (sndsS l q) := by simp [sndsS, sndS, Stable, StableL]
theorem elems_i64S {β : Env} (l : List Int) : elems β 1 l.length (i64S l) = int64s l := by
  rw [elems_i64 fun q _ => rfl]
  congr 1
  exact ls_of (g := iOf) (e := fun x => .int .i64 x) (fun _ => rfl) l 0
theorem elems_sndsS {β : Env} (l : List Snd) : elems β 3 l.length (sndsS l) = sndsV l := by
  rw [elems_snd fun q _ => rfl]
  congr 1
  exact ls_of sndOf_sndS l _

/-! ### Do, where it fails -/
def zeroS (m : Nat) : SV := .agg [.int .i64 0, .bool false, .arr 8 1 fun _ => .int .i64 0, .sl m m [] 1 0 0 none, .int .i64 0, .sl (m + 1) (m + 1) [] 3 0 0 none]
def sDoFail : Spec := fun args h m => match args with
  | [pv, .agg [e0, e1, e2, e3, e4], .agg [s0, .bool s1, .arr 8 1 rg, cv, s4, xv]] => match arrV h 5 pv, arrV h 1 cv, arrV h 3 xv with
    | some (c1, n, f, r1), some (c2, nc, cf, r2), some (c3, ns, sf, r3) => bif isI .u64 e0 && isI .i64 e1 && isI .i64 e2 && isI .i64 e3 && isI .i64 e4 && isI .i64 s0 && isI .i64 s4 then
        some ((c1 ∧ c2 ∧ c3) ∧ (∀ q, q < n → isIns (f q) = true) ∧ (∀ x ∈ ls insOf n f, x.ok) ∧ (∀ q, q < 8 → isI .i64 (rg q) = true) ∧ (∀ q, q < nc → isI .i64 (cf q) = true) ∧ (∀ q, q < ns → isSnd (sf q) = true) ∧ n ≤ 1000000 ∧ ns ≤ 1000000 ∧
            topE (ls insOf n f) ⟨iOf e0, iOf e1, iOf e2, iOf e3, iOf e4⟩ ⟨iOf s0, s1, fun q => iOf (rg q), ls iOf nc cf, iOf s4, ls sndOf ns sf⟩ ≠ 0,
          .tup [zeroS m, .int .i64 (topE (ls insOf n f) ⟨iOf e0, iOf e1, iOf e2, iOf e3, iOf e4⟩ ⟨iOf s0, s1, fun q => iOf (rg q), ls iOf nc cf, iOf s4, ls sndOf ns sf⟩)], r1 ++ r2 ++ r3, [(m, .gone), (m + 1, .gone)]) else none
    | _, _, _ => none
  | _ => none
theorem gone2 {w0 w : World} {M : Nat → Prop} {β : Env} {h : HM} (R : Rep w0 M β h w) {m : Nat} (h1 : h m = .dead) (h2 : h (m + 1) = .dead) (e1 e2 : Option Addr × Nat) : Rep w0 M (setE (setE β m e1) (m + 1) e2) (wrs h [(m, .gone), (m + 1, .gone)]) w := by
  have R1 := R.birth m h1 e1 .gone trivial rfl trivial (fun a hm _ => by cases hm) (fun v a hv => by cases hv)
  exact R1.birth (m + 1) (by rw [upd_ne (by omega)]; exact h2) e2 .gone trivial rfl trivial (fun a hm _ => by cases hm) (fun v a hv => by cases hv)
theorem agree2 {β : Env} {h : HM} {m : Nat} (h1 : h m = .dead) (h2 : h (m + 1) = .dead) (e1 e2 : Option Addr × Nat) : ∀ i, (h i).born = true → β i = setE (setE β m e1) (m + 1) e2 i := fun i hi => by
  rw [setE_ne (by rintro rfl; rw [h2] at hi; cases hi), setE_ne (by rintro rfl; rw [h1] at hi; cases hi)]
theorem doFail_ok : CallOk Try.prog 31 sDoFail := by
  refine ⟨named_spec (by kernel_rfl), fun args h m c v rd wr hs hm hc w0 M β h' w R hrd hwr hst => ?_⟩
  unfold sDoFail at hs
  split at hs
  · rename_i pv e0 e1 e2 e3 e4 s0 s1 rg cv s4 xv
    split at hs
    · rename_i c1 n f r1 c2 nc cf r2 c3 ns sf r3 a1 a2 a3
      obtain ⟨hb, hs⟩ := bif_some hs
      simp only [Option.some.injEq, Prod.mk.injEq] at hs
      obtain ⟨rfl, rfl, rfl, rfl⟩ := hs
      simp only [Bool.and_eq_true] at hb
      obtain ⟨⟨⟨⟨⟨⟨b0, b1⟩, b2⟩, b3⟩, b4⟩, b5⟩, b6⟩ := hb
      obtain ⟨⟨k1, k2, k3⟩, hi, hok, hrg, hcf, hsf, hn, hns, hE⟩ := hc
      obtain ⟨A, cA, dA, _, rA⟩ := reads_of R a1 k1 (fun i hi => hrd i (List.mem_append_left _ (List.mem_append_left _ hi))) (by omega)
      obtain ⟨B, cB, dB, _, rB⟩ := reads_of R a2 k2 (fun i hi => hrd i (List.mem_append_left _ (List.mem_append_right _ hi))) (by omega)
      obtain ⟨D, cD, dD, _, rD⟩ := reads_of R a3 k3 (fun i hi => hrd i (List.mem_append_right _ hi)) (by omega)
      rw [elems_ins hi] at rA
      rw [elems_i64 hcf] at rB
      rw [elems_snd hsf] at rD
      have d1 := den_env (β := β) b0 b1 b2 b3 b4
      have d2 := den_state (β := β) (e := s1) b5 hrg b6 (arrV_sl a2) (arrV_sl a3) (ls iOf nc cf) (ls sndOf ns sf)
      simp only [denL, d1, d2, dA, dB, dD]
      refine (do_z (ls insOf n f) hok _ _ _ rfl hE A B D n cA nc ns cB cD (by omega) hns w rA rB rD).mono fun e w' he => ?_
      obtain ⟨A1, j1, A2, j2, rfl, hbl⟩ := he
      have hm1 : h' m = .dead := (hwr _ (.head _)).trans (hm m (Nat.le_refl _))
      have hm2 : h' (m + 1) = .dead := (hwr _ (.tail _ (.head _))).trans (hm (m + 1) (by omega))
      refine ⟨_, agree2 hm1 hm2 (A1, j1) (A2, j2), gone2 (R.below hbl) hm1 hm2 (A1, j1) (A2, j2), ?_, ?_⟩
      · have q1 : (wrs h' [(m, HB.gone), (m + 1, HB.gone)] m).born = true := by show (upd (upd h' m .gone) (m + 1) .gone m).born = true; rw [upd_ne (by omega), upd_same]; rfl
        have q2 : (wrs h' [(m, HB.gone), (m + 1, HB.gone)] (m + 1)).born = true := by show (upd (upd h' m .gone) (m + 1) .gone (m + 1)).born = true; rw [upd_same]; rfl
        simp only [zeroS, Stable, StableL, q1, q2, implies_true, and_self]
      · have z1 : (setE (setE β m (A1, j1)) (m + 1) (A2, j2)) m = (A1, j1) := by rw [setE_ne (by omega), setE_same]
        have z2 : (setE (setE β m (A1, j1)) (m + 1) (A2, j2)) (m + 1) = (A2, j2) := setE_same ..
        have dz := den_state (β := setE (setE β m (A1, j1)) (m + 1) (A2, j2)) (a := .int .i64 0) (d := .int .i64 0) (e := false) (rg := fun _ => .int .i64 0) (cv := .sl m m [] 1 0 0 none) (xv := .sl (m + 1) (m + 1) [] 3 0 0 none) rfl (fun _ _ => rfl) rfl rfl rfl [] []
        congr 1
        simp only [SV.den, denL]
        have e1 : (zeroS m).den (setE (setE β m (A1, j1)) (m + 1) (A2, j2)) = .agg #[.int .i64 0, .bool false, .int .i64 0, .int .i64 0, .int .i64 0, .int .i64 0, .int .i64 0, .int .i64 0, .int .i64 0, .int .i64 0, .slice A1 0 j1, .int .i64 0, .slice A2 0 j2] := by
          unfold zeroS
          rw [dz]
          simp [Go.Proofs.Ytmljmabbopkpiaa.St.v, SV.den, z1, z2, iOf]
        rw [e1]
    · cases hs
  · cases hs

/-! ### Clone of instructions -/
def sClone5 : Spec := fun args h m => match args with
  | [v] => match arrV h 5 v with
    | some (c, n, f, rd) => some (c ∧ (∀ q, q < n → isIns (f q) = true) ∧ n ≤ 1000000, .sl m m [] 5 0 n none, rd, [(m, .own 28 (.arr n 5 fun q => insS (insOf (f q))) false)])
    | _ => none
  | _ => none
theorem clone5_ok : CallOk Try.prog 32 sClone5 := by
  refine ⟨named_spec (by kernel_rfl), fun args h m c v rd wr hs hm hc w0 M β h' w R hrd hwr hst => ?_⟩
  unfold sClone5 at hs
  split at hs
  · rename_i v0
    split at hs
    · rename_i c' n f rd' ha
      simp only [Option.some.injEq, Prod.mk.injEq] at hs
      obtain ⟨rfl, rfl, rfl, rfl⟩ := hs
      obtain ⟨hc1, hi, hn⟩ := hc
      obtain ⟨A, cap, hden, hnc, hr⟩ := reads_of R ha hc1 hrd (by omega)
      simp only [denL, hden]
      refine (cloneIns_c A n cap _ w hr (fun u hu => elems_sane u hu) (by omega)).mono fun e w' he => ?_
      obtain ⟨p, rfl, ho, hb⟩ := he
      have hmd : h' m = .dead := (hwr _ (.head _)).trans (hm m (Nat.le_refl _))
      obtain ⟨e', R', hv⟩ := (R.below hb).made (f := fun q => insS (insOf (f q))) hmd ho R.size (by
          rw [elems_ins hi, elems_ins (fun q _ => rfl)]
          congr 1) (fun q => by simp [insS, Stable, StableL]) (fun g i a' hg hmi hai e => by
        have := R.lt i a' hmi hai
        obtain ⟨_, ⟨rfl, _⟩ | ⟨g', cap', cur, rfl, hg', _⟩⟩ := ho
        · cases hg
        · simp [Value.ownBlock] at hg
          omega)
      exact ⟨_, agree_setE hmd, R', stable_new, by rw [hv]⟩
    · cases hs
  · cases hs

/-! ### Same -/
/-- the same; of a slice of no elements nothing is asked -/
def arrV0 (h : HM) (k : Nat) (v : SV) : Option (Prop × Nat × (Nat → SV) × List Nat) := match v with
  | .sl z i pa k' s n c => match n with
    | 0 => some (True, 0, fun _ => .tup [], [])
    | _ + 1 => arrV h k v
  | _ => none
theorem reads_of0 {w0 w : World} {M : Nat → Prop} {β : Env} {h h' : HM} (R : Rep w0 M β h' w) {k : Nat} {v : SV} {c : Prop} {n : Nat} {f : Nat → SV} {rd : List Nat} (ha : arrV0 h k v = some (c, n, f, rd)) (hc : c) (hrd : ∀ i ∈ rd, h' i = h i) (hk : 0 < k) :
    isSl v = true ∧ ∃ A cap, v.den β = .slice A n cap ∧ Reads w w.heap.size k A n (elems β k n f) := by
  unfold arrV0 at ha
  split at ha
  · rename_i z i pa k' s n' cp
    split at ha
    · simp only [Option.some.injEq, Prod.mk.injEq] at ha
      obtain ⟨rfl, rfl, rfl, rfl⟩ := ha
      exact ⟨rfl, (β z).1, max 0 (cp.getD (β z).2), by simp only [SV.den, if_true], by simp [elems], fun h => absurd h (by omega)⟩
    · obtain ⟨A, cap, h1, _, h3⟩ := reads_of R ha hc hrd hk
      exact ⟨rfl, A, cap, h1, h3⟩
  · cases ha
def sSame : Spec := fun args h _ => match args with
  | [.agg [s0, .bool s1, .arr 8 1 rg, cv, s4, xv], .agg [t0, .bool t1, .arr 8 1 rg', cv', t4, xv']] => match arrV0 h 1 cv, arrV0 h 3 xv, arrV0 h 1 cv', arrV0 h 3 xv' with
    | some (c1, nc, cf, r1), some (c2, ns, sf, r2), some (c3, nc', cf', r3), some (c4, ns', sf', r4) => bif isI .i64 s0 && isI .i64 s4 && isI .i64 t0 && isI .i64 t4 then
        some ((c1 ∧ c2 ∧ c3 ∧ c4) ∧ ((∀ q, q < 8 → isI .i64 (rg q) = true) ∧ (∀ q, q < 8 → isI .i64 (rg' q) = true)) ∧ ((∀ q, q < nc → isI .i64 (cf q) = true) ∧ (∀ q, q < nc' → isI .i64 (cf' q) = true)) ∧ ((∀ q, q < ns → isSnd (sf q) = true) ∧ (∀ q, q < ns' → isSnd (sf' q) = true)) ∧ nc ≤ 1000000 ∧ ns ≤ 1000000,
          .bool (sameB ⟨iOf s0, s1, fun q => iOf (rg q), ls iOf nc cf, iOf s4, ls sndOf ns sf⟩ ⟨iOf t0, t1, fun q => iOf (rg' q), ls iOf nc' cf', iOf t4, ls sndOf ns' sf'⟩), r1 ++ r2 ++ r3 ++ r4, []) else none
    | _, _, _, _ => none
  | _ => none
theorem same_ok : CallOk Try.prog 30 sSame := by
  refine ⟨named_spec (by kernel_rfl), fun args h m c v rd wr hs hm hc w0 M β h' w R hrd hwr hst => ?_⟩
  unfold sSame at hs
  split at hs
  · rename_i s0 s1 rg cv s4 xv t0 t1 rg' cv' t4 xv'
    split at hs
    · rename_i c1 nc cf r1 c2 ns sf r2 c3 nc' cf' r3 c4 ns' sf' r4 a1 a2 a3 a4
      obtain ⟨hb, hs⟩ := bif_some hs
      simp only [Option.some.injEq, Prod.mk.injEq] at hs
      obtain ⟨rfl, rfl, rfl, rfl⟩ := hs
      simp only [Bool.and_eq_true] at hb
      obtain ⟨⟨⟨b0, b1⟩, b2⟩, b3⟩ := hb
      obtain ⟨⟨k1, k2, k3, k4⟩, ⟨g1, g2⟩, ⟨g3, g4⟩, ⟨g5, g6⟩, hnc, hns⟩ := hc
      obtain ⟨l1, A, cA, dA, rA⟩ := reads_of0 R a1 k1 (fun i hi => hrd i (List.mem_append_left _ (List.mem_append_left _ (List.mem_append_left _ hi)))) (by omega)
      obtain ⟨l2, B, cB, dB, rB⟩ := reads_of0 R a2 k2 (fun i hi => hrd i (List.mem_append_left _ (List.mem_append_left _ (List.mem_append_right _ hi)))) (by omega)
      obtain ⟨l3, C, cC, dC, rC⟩ := reads_of0 R a3 k3 (fun i hi => hrd i (List.mem_append_left _ (List.mem_append_right _ hi))) (by omega)
      obtain ⟨l4, D, cD, dD, rD⟩ := reads_of0 R a4 k4 (fun i hi => hrd i (List.mem_append_right _ hi)) (by omega)
      rw [elems_i64 g3] at rA
      rw [elems_snd g5] at rB
      rw [elems_i64 g4] at rC
      rw [elems_snd g6] at rD
      have d1 := den_state (β := β) (e := s1) b0 g1 b1 l1 l2 (ls iOf nc cf) (ls sndOf ns sf)
      have d2 := den_state (β := β) (e := t1) b2 g2 b3 l3 l4 (ls iOf nc' cf') (ls sndOf ns' sf')
      simp only [denL, d1, d2, dA, dB, dC, dD]
      exact (same_c ⟨iOf s0, s1, fun q => iOf (rg q), ls iOf nc cf, iOf s4, ls sndOf ns sf⟩ ⟨iOf t0, t1, fun q => iOf (rg' q), ls iOf nc' cf', iOf t4, ls sndOf ns' sf'⟩ A B C D nc ns nc' ns' cA cB cC cD w rA rB rC rD hnc hns).mono fun e w' he => post_read R trivial rfl he.1 he.2
    · cases hs
  · cases hs

/-! ### Made of law 18 -/
def isSmall (a d s : SV) : Bool := isI .u8 a && isI .u32 d && isI .u8 s
def made18V (a d s : SV) (rg : Nat → SV) (n : Nat) (f : Nat → SV) (l : Nat) : Sta := made18 ⟨iOf a, fun q => iOf (rg q), ls iOf n f, iOf d, iOf s⟩ l
def sMade18 : Spec := fun args h m => match args with
  | [.agg [a, .arr 8 1 rg, cv, d, s], .sl _ _ _ _ _ l _] => match cv, arrV h 1 cv with
    | .sl _ _ _ _ _ _ (some cp), some (c, n, f, rd) => bif isSmall a d s then
        some (c ∧ (∀ q, q < 8 → isI .i64 (rg q) = true) ∧ (∀ q, q < n → isI .i64 (f q) = true) ∧ (Sm.ok ⟨iOf a, fun q => iOf (rg q), ls iOf n f, iOf d, iOf s⟩) ∧ max n cp ≤ 9223372036854775807 ∧ l ≤ 1000000,
          stS (made18V a d s rg n f l) m m (m + 1) (m + 1), rd, [(m, .own 2 (.arr (made18V a d s rg n f l).cells.length 1 (i64S (made18V a d s rg n f l).cells)) false), (m + 1, .own 64 (.arr (made18V a d s rg n f l).sends.length 3 (sndsS (made18V a d s rg n f l).sends)) false)]) else none
    | _, _ => none
  | _ => none
theorem made18_ok : CallOk Try.prog 24 sMade18 := by
  refine ⟨named_spec (by kernel_rfl), fun args h m c v rd wr hs hm hc w0 M β h' w R hrd hwr hst => ?_⟩
  unfold sMade18 at hs
  split at hs
  · rename_i a rg cv d s z0 i0 pa0 k0 s00 l c0
    split at hs
    · rename_i z i pa k' s' n' cp c' n f rd' ha
      obtain ⟨hb, hs⟩ := bif_some hs
      simp only [Option.some.injEq, Prod.mk.injEq] at hs
      obtain ⟨rfl, rfl, rfl, rfl⟩ := hs
      simp only [isSmall, Bool.and_eq_true] at hb
      obtain ⟨⟨b0, b1⟩, b2⟩ := hb
      obtain ⟨hc1, hrg, hi, hok, hcp, hl⟩ := hc
      obtain ⟨A, cap, hden, hnc, hr⟩ := reads_of R ha hc1 hrd (by omega)
      rw [elems_i64 hi] at hr
      have hcap : cap ≤ 9223372036854775807 := by
        have hn : n' = n := (arrV_n ha).symm
        simp only [SV.den, Option.getD_some] at hden
        injection hden with _ _ h3
        omega
      have d1 := den_small (β := β) b0 hrg b1 b2 (arrV_sl ha) (ls iOf n f)
      have d2 : (SV.sl z0 i0 pa0 k0 s00 l c0).den β = .slice (if l = 0 then (β z0).1 else some (((β i0).1.getD ⟨0, 0, none⟩).add (offp pa0 + s00 * k0))) l (max l (c0.getD (β z0).2)) := rfl
      simp only [denL, d1, d2, hden]
      refine (made18_c ⟨iOf a, fun q => iOf (rg q), ls iOf n f, iOf d, iOf s⟩ hok A _ n cap l _ w hr hnc hcap hl).mono fun e w' he => ?_
      obtain ⟨Cv, Sv, rfl, ho1, ho2, hbl⟩ := he
      have hm1 : h' m = .dead := (hwr _ (.head _)).trans (hm m (Nat.le_refl _))
      have hm2 : h' (m + 1) = .dead := (hwr _ (.tail _ (.head _))).trans (hm (m + 1) (by omega))
      have newblk : ∀ {t k n : Nat} {v : Value} {xs : List Value}, w'.ownsRow w.heap.size t k v n xs → ∀ g i a', v.ownBlock = some g → (h' i).mine = true → (β i).1 = some a' → a'.block ≠ g := fun ho g i a' hg hmi hai e => by
        have := R.lt i a' hmi hai
        obtain ⟨_, ⟨rfl, _⟩ | ⟨g', cap', cur, rfl, hg', _⟩⟩ := ho
        · cases hg
        · simp [Value.ownBlock] at hg
          omega
      obtain ⟨e1, R1, hv1⟩ := (R.below hbl).made (f := i64S (made18V a d s rg n f l).cells) hm1 ho1 R.size (elems_i64S _) i64S_stable (newblk ho1)
      have hm2' : upd h' m (.own 2 (.arr (made18V a d s rg n f l).cells.length 1 (i64S (made18V a d s rg n f l).cells)) false) (m + 1) = .dead := by rw [upd_ne (by omega)]; exact hm2
      obtain ⟨e2, R2, hv2⟩ := R1.made (f := sndsS (made18V a d s rg n f l).sends) hm2' ho2 R.size (by exact elems_sndsS _) sndsS_stable (fun g i a' hg hmi hai e => by
        by_cases him : i = m
        · subst him
          rw [setE_same] at hai
          have ht1 := R1.blk i
          rw [upd_same] at ht1
          rcases ht1 with ⟨g1, cs1, hb1, hc1, _⟩ | ⟨hb1, _⟩
          · rw [setE_same] at hb1
            rw [hai] at hb1
            injection hb1 with hb1
            subst hb1
            obtain ⟨_, ⟨rfl, _⟩ | ⟨g', cap', cur, rfl, hg', hcur, _⟩⟩ := ho2
            · cases hg
            · simp [Value.ownBlock] at hg
              subst hg
              simp only at e
              subst e
              rw [hc1] at hcur
              injection hcur with hcur
              injection hcur with _ ht
              revert ht
              decide
          · rw [setE_same] at hb1; rw [hb1] at hai; cases hai
        · rw [upd_ne him] at hmi
          rw [setE_ne him] at hai
          exact newblk ho2 g i a' hg hmi hai e)
      refine ⟨_, fun i hi => ?_, R2, ?_, ?_⟩
      · rw [setE_ne (by rintro rfl; rw [hm2] at hi; cases hi), setE_ne (by rintro rfl; rw [hm1] at hi; cases hi)]
      · have q1 : (wrs h' [(m, .own 2 (.arr (made18V a d s rg n f l).cells.length 1 (i64S (made18V a d s rg n f l).cells)) false), (m + 1, .own 64 (.arr (made18V a d s rg n f l).sends.length 3 (sndsS (made18V a d s rg n f l).sends)) false)] m).born = true := by
          show (upd (upd h' m _) (m + 1) _ m).born = true
          rw [upd_ne (by omega), upd_same]; rfl
        have q2 : (wrs h' [(m, .own 2 (.arr (made18V a d s rg n f l).cells.length 1 (i64S (made18V a d s rg n f l).cells)) false), (m + 1, .own 64 (.arr (made18V a d s rg n f l).sends.length 3 (sndsS (made18V a d s rg n f l).sends)) false)] (m + 1)).born = true := by
          show (upd (upd h' m _) (m + 1) _ (m + 1)).born = true
          rw [upd_same]; rfl
        simp only [stS, Stable, StableL, q1, q2, implies_true, and_self]
      · congr 1
        have dz := den_state (β := setE (setE β m e1) (m + 1) e2) (a := .int .i64 (made18V a d s rg n f l).at_) (d := .int .i64 (made18V a d s rg n f l).draws) (e := (made18V a d s rg n f l).ended) (rg := fun q => .int .i64 ((made18V a d s rg n f l).regs q)) (cv := .sl m m [] 1 0 (made18V a d s rg n f l).cells.length none) (xv := .sl (m + 1) (m + 1) [] 3 0 (made18V a d s rg n f l).sends.length none) rfl (fun _ _ => rfl) rfl rfl rfl (made18V a d s rg n f l).cells (made18V a d s rg n f l).sends
        have z1 : Cv = (SV.sl m m [] 1 0 (made18V a d s rg n f l).cells.length none).den (setE (setE β m e1) (m + 1) e2) := by
          rw [hv1]
          simp only [SV.den, setE_same, setE_ne (show m ≠ m + 1 by omega)]
          rfl
        unfold stS
        rw [dz, ← z1, hv2]
        rfl
    · cases hs
  · cases hs
end Go.Proofs.Ytmljmabbopkpiaa.Vm
