import Derived.Test.YtmljmabbopkpiaaK1
import Derived.Test.YtmljmabbopkpiaaK37
import Derived.Test.YtmljmabbopkpiaaK38
import Derived.Test.YtmljmabbopkpiaaK39
set_option linter.unusedSimpArgs false
set_option linter.unusedVariables false
set_option maxRecDepth 100000
set_option maxHeartbeats 4000000
section
namespace Go.Proofs.Ytmljmabbopkpiaa.Vm
open Go.RowKit
attribute [local push_cast] prS sndsS i64S nav_ins xa_ y9_ y8_ y7_ y6_ nav_snd y5_ y4_ y3_ zq_ z1_ ya_ z5_ zx_ zw_ iOf JE inR inN
def sTh18 : yp_ := fun args h m => match args with
 | [.agg [v1, .bool v2, .arr 8 1 v3, v4, v5, v6]] => match y2_ h 1 (.tup []) v4, y2_ h 3 (.tup []) v6 with
  | some (c4, n4, f4, r4), some (c6, n6, f6, r6) => bif isI .i64 v1 && isI .i64 v5 then some (c4 ∧ c6 ∧ (∀ q, q < n4 → isI .i64 (f4 q) = true) ∧ (∀ q, q < n6 → isSnd (f6 q) = true) ∧ (∀ q, q < 8 → isI .i64 (v3 q) = true) ∧ (n4 ≤ 1000000) ∧ (n6 ≤ 1000000), sr ⟨(iOf v1), v2, (fun q => iOf (v3 q)), (ls iOf n4 f4), (iOf v5), (ls zm_ n6 f6)⟩ (.sl m m [] 1 0 (ls iOf n4 f4).length none) (.sl (m + 1) (m + 1) [] 3 0 (ls zm_ n6 f6).length none), r4 ++ r6, [(m, cRf (ls iOf n4 f4)), (m + 1, sRf (ls zm_ n6 f6))]) else none
  | _, _ => none
 | _ => none
theorem sTh18_ok : zj_ Try.prog 65 sTh18 := by
 refine ⟨zg_ (by kernel_rfl), fun args h m c v rd wr hs hm hc w0 M β h' w R hrd hwr hst => ?_⟩
 unfold sTh18 at hs
 split at hs
 ·rename_i v1 v2 v3 v4 v5 v6
  split at hs
  ·rename_i c4 n4 f4 r4 c6 n6 f6 r6 a4 a6
   obtain ⟨hb, hs⟩ := zk_ hs
   simp only [Option.some.injEq, Prod.mk.injEq] at hs
   obtain ⟨rfl, rfl, rfl, rfl⟩ := hs
   simp only [Bool.and_eq_true] at hb
   obtain ⟨b1, b5⟩ := hb
   obtain ⟨k4, k6, g4, g6, g3, y1, y2⟩ := hc
   obtain ⟨A4, p4, d4, e4, t4⟩ := zi_ R a4 k4 (fun i hi => hrd i (List.mem_append_left _ hi)) (by omega)
   obtain ⟨A6, p6, d6, e6, t6⟩ := zi_ R a6 k6 (fun i hi => hrd i (List.mem_append_right _ hi)) (by omega)
   refine yj_ (views := [⟨1, (ls iOf n4 f4).length, i64S (ls iOf n4 f4), A4, p4⟩, ⟨3, (ls zm_ n6 f6).length, sndsS (ls zm_ n6 f6), A6, p6⟩]) (th18_lit ⟨(iOf v1), v2, (fun q => iOf (v3 q)), (ls iOf n4 f4), (iOf v5), (ls zm_ n6 f6)⟩ p4 p6 (by rw [zc_]; exact y1) (by rw [zc_]; exact y2)) ?_ R hm hwr ?_ ?_ ?_
   ·intro x hx
    simp only [List.mem_cons, List.not_mem_nil, or_false] at hx
    rcases hx with rfl | rfl
    ·exact yf_ t4 e4 g4
    ·exact y0_ t6 e6 g6
   ·intro β1 hv
    simp only [Vd, zc_, and_true] at hv
    obtain ⟨z4, z6⟩ := hv
    simp only [denL, z8_, z6_, z9_, zs_, zc_, ym_, evS, sr, csl, ssl, z4, z6, d4, d6, zd_ b1, zd_ b5, ← r8Den (β := β) (β1 := β1) g3]
   ·exact k118_
   ·exact k118_
  ·cases hs
 ·cases hs
theorem bun_own1 {ρ : Nat → Nat} {h' : HM} {z t n : Nat} {cf : Nat → SV} (e : h' z = .own t (.arr n 1 cf) false) (hcf : ∀ q, q < n → isI .i64 (cf q) = true) : Bun1 ρ (h' z) (.own t (.arr (ls iOf n cf).length 1 (i64S (ls iOf n cf))) false) := by
 rw [zc_]
 show Less (h' z) (.own t (.arr n 1 (i64S (ls iOf n cf))) false)
 rw [e]
 refine .val (fun β => arrCl fun q hq => ?_) (fun n k f e => by injection e with e1 e2 e3; subst e1 e2; exact ⟨_, rfl⟩) (fun n k f e => by injection e with e1 e2 e3; subst e1 e2; exact ⟨_, rfl⟩)
 rw [isI_cl (hcf q hq)]
 show _ = [Value.int .i64 ((ls iOf n cf).getD q 0)]
 rw [ls_getD hq]
theorem bun_own3 {ρ : Nat → Nat} {h' : HM} {z t n : Nat} {cf : Nat → SV} (e : h' z = .own t (.arr n 3 cf) false) (hcf : ∀ q, q < n → isSnd (cf q) = true) : Bun1 ρ (h' z) (.own t (.arr (ls zm_ n cf).length 3 (sndsS (ls zm_ n cf))) false) := by
 rw [zc_]
 show Less (h' z) (.own t (.arr n 3 fun q => (sndsS (ls zm_ n cf) q).ren ρ) false)
 rw [e, sndsS_ren]
 refine .val (fun β => arrCl fun q hq => ?_) (fun n k f e => by injection e with e1 e2 e3; subst e1 e2; exact ⟨_, rfl⟩) (fun n k f e => by injection e with e1 e2 e3; subst e1 e2; exact ⟨_, rfl⟩)
 unfold sndsS
 rw [ls_getD hq, isSnd_cl (hcf q hq), isSnd_cl (ya_ _), z5_]
def sSpl : yp_ := fun args h m => match args with
 | [.agg [a, .bool e, .arr 8 1 r, .sl z i [] 1 0 n none, d, .sl z2 j [] 3 0 n2 none]] => match h i, h j with
  | .own t1 (.arr n1 1 cf) false, .own t2 (.arr m2 3 sf) false => bif (isI .i64 a && isI .i64 d) && (Nat.beq t1 2 && Nat.beq t2 64) && (Nat.beq z i && Nat.beq z2 j && Nat.beq n1 n && Nat.beq m2 n2) && nodupN [0, i, j] then
    some ((∀ q, q < 8 → isI .i64 (r q) = true) ∧ ((∀ q, q < n → isI .i64 (cf q) = true) ∧ (∀ q, q < n2 → isSnd (sf q) = true)) ∧ n ≤ 1000000 ∧ n2 ≤ 1000000, .tup [], [i, j], [(i, .gone), (j, .gone)]) else none
  | _, _ => none
 | [.agg [a, .bool e, .arr 8 1 r, .sl z i [] 1 0 n none, d, .sl 0 0 [] 0 0 0 (some 0)]] => match h i with
  | .own t1 (.arr n1 1 cf) false => bif (isI .i64 a && isI .i64 d) && Nat.beq t1 2 && (Nat.beq z i && Nat.beq n1 n) && nodupN [0, i] then
    some ((∀ q, q < 8 → isI .i64 (r q) = true) ∧ (∀ q, q < n → isI .i64 (cf q) = true) ∧ n ≤ 1000000, .tup [], [i], [(i, .gone)]) else none
  | _ => none
 | [.agg [a, .bool e, .arr 8 1 r, .sl 0 0 [] 0 0 0 (some 0), d, .sl 0 0 [] 0 0 0 (some 0)]] => bif isI .i64 a && isI .i64 d then some (∀ q, q < 8 → isI .i64 (r q) = true, .tup [], [], []) else none
 | _ => none
theorem sSpl_ok : zj_ Try.prog 69 sSpl := by
 refine ⟨zg_ (by kernel_rfl), fun args h m c v rd wr hs hm hc w0 M β h' w R hrd hwr hst => ?_⟩
 unfold sSpl at hs
 split at hs
 ·rename_i a e r z i n d z2 j n2
  split at hs
  ·rename_i t1 n1 cf t2 m2 sf hi hj
   obtain ⟨hb, hs⟩ := zk_ hs
   simp only [Option.some.injEq, Prod.mk.injEq] at hs
   obtain ⟨rfl, rfl, rfl, rfl⟩ := hs
   simp only [Bool.and_eq_true] at hb
   obtain ⟨⟨⟨⟨ba, bd⟩, b1, b2⟩, ⟨⟨⟨b3, b4⟩, b5⟩, b6⟩⟩, hnd⟩ := hb
   have b1 := Nat.eq_of_beq_eq_true b1
   have b2 := Nat.eq_of_beq_eq_true b2
   have b3 := Nat.eq_of_beq_eq_true b3
   have b4 := Nat.eq_of_beq_eq_true b4
   have b5 := Nat.eq_of_beq_eq_true b5
   have b6 := Nat.eq_of_beq_eq_true b6
   subst b1 b2 b3 b4 b5 b6
   obtain ⟨gr, ⟨hcf, hsf⟩, hn1, hn2⟩ := hc
   have ei := hrd z (by simp)
   have ej := hrd z2 (by simp)
   rw [show denL β [.agg [a, .bool e, .arr 8 1 r, .sl z z [] 1 0 n1 none, d, .sl z2 z2 [] 3 0 m2 none]] = denL β [.agg [.int .i64 (iOf a), .bool e, .arr 8 1 (fun q => .int .i64 (iOf (r q))), .sl z z [] 1 0 n1 none, .int .i64 (iOf d), .sl z2 z2 [] 3 0 m2 none]] from by simp only [denL, z8_, zs_, z6_, zd_ ba, zd_ bd, r8Den (β := β) (β1 := β) gr]]
   exact bun_ok (h := h) (m := m) [0, z, z2] (spl_oo (ls iOf n1 cf) (ls zm_ m2 sf) (iOf a) (iOf d) e (fun q => iOf (r q)) (by rw [zc_]; exact hn1) (by rw [zc_]; exact hn2)) R rfl (by simp) rfl rfl hnd
    ⟨Fit.gone (by rw [R.nil0]; rfl), bun_own1 (ei.trans hi) hcf, bun_own3 (ej.trans hj) hsf, trivial⟩ hm
    (fun p hp => by cases hp) (by simp) rfl
    ⟨trivial, fun q => i64S_stable q, fun q => sndsS_stable q, trivial⟩ (by simp [ze_, zb_, hp, HB.born])
    ⟨trivial, trivial, trivial, trivial⟩ trivial (by simp only [zc_]; rfl) rfl rfl
  ·cases hs
 ·rename_i a e r z i n d
  split at hs
  ·rename_i t1 n1 cf hi
   obtain ⟨hb, hs⟩ := zk_ hs
   simp only [Option.some.injEq, Prod.mk.injEq] at hs
   obtain ⟨rfl, rfl, rfl, rfl⟩ := hs
   simp only [Bool.and_eq_true] at hb
   obtain ⟨⟨⟨⟨ba, bd⟩, b1⟩, b3, b5⟩, hnd⟩ := hb
   have b1 := Nat.eq_of_beq_eq_true b1
   have b3 := Nat.eq_of_beq_eq_true b3
   have b5 := Nat.eq_of_beq_eq_true b5
   subst b1 b3 b5
   obtain ⟨gr, hcf, hn1⟩ := hc
   have ei := hrd z (by simp)
   rw [show denL β [.agg [a, .bool e, .arr 8 1 r, .sl z z [] 1 0 n1 none, d, .sl 0 0 [] 0 0 0 (some 0)]] = denL β [.agg [.int .i64 (iOf a), .bool e, .arr 8 1 (fun q => .int .i64 (iOf (r q))), .sl z z [] 1 0 n1 none, .int .i64 (iOf d), .sl 0 0 [] 0 0 0 (some 0)]] from by simp only [denL, z8_, zs_, z6_, zd_ ba, zd_ bd, r8Den (β := β) (β1 := β) gr]]
   exact bun_ok (h := h) (m := m) [0, z] (spl_on (ls iOf n1 cf) (iOf a) (iOf d) e (fun q => iOf (r q)) (by rw [zc_]; exact hn1)) R rfl (by simp) rfl rfl hnd
    ⟨Fit.gone (by rw [R.nil0]; rfl), bun_own1 (ei.trans hi) hcf, trivial⟩ hm
    (fun p hp => by cases hp) (by simp) rfl
    ⟨trivial, fun q => i64S_stable q, trivial⟩ (by simp [ze_, zb_, hp, HB.born])
    ⟨trivial, trivial, trivial⟩ trivial (by simp only [zc_]; rfl) rfl rfl
  ·cases hs
 ·rename_i a e r d
  obtain ⟨hb, hs⟩ := zk_ hs
  simp only [Option.some.injEq, Prod.mk.injEq] at hs
  obtain ⟨rfl, rfl, rfl, rfl⟩ := hs
  simp only [Bool.and_eq_true] at hb
  obtain ⟨ba, bd⟩ := hb
  rw [show denL β [.agg [a, .bool e, .arr 8 1 r, .sl 0 0 [] 0 0 0 (some 0), d, .sl 0 0 [] 0 0 0 (some 0)]] = denL β [.agg [.int .i64 (iOf a), .bool e, .arr 8 1 (fun q => .int .i64 (iOf (r q))), .sl 0 0 [] 0 0 0 (some 0), .int .i64 (iOf d), .sl 0 0 [] 0 0 0 (some 0)]] from by simp only [denL, z8_, zs_, z6_, zd_ ba, zd_ bd, r8Den (β := β) (β1 := β) hc]]
  exact bun_ok (h := h) (m := m) [0] (spl_nn (iOf a) (iOf d) e (fun q => iOf (r q))) R rfl (by simp) rfl rfl rfl
   ⟨Fit.gone (by rw [R.nil0]; rfl), trivial⟩ hm (fun p hp => by cases hp) (by simp) rfl
   ⟨trivial, trivial⟩ (by simp [ze_, zb_, hp, HB.born]) ⟨trivial, trivial⟩ trivial rfl rfl rfl
 ·cases hs
theorem sameB_rf (s : Sta) : sameB s s = true := by simp [sameB, regsB]
end Go.Proofs.Ytmljmabbopkpiaa.Vm
end
section
namespace Go.Proofs.Ytmljmabbopkpiaa.Vm
open Go.RowKit
attribute [local push_cast] prS sndsS i64S nav_ins xa_ y9_ y8_ y7_ y6_ nav_snd y5_ y4_ y3_ zq_ z1_ ya_ z5_ zx_ zw_ iOf
def eS (g i n : Nat) : SV := .agg [.ptr g [], .sl i i [] 5 0 n none]
section
variable {ρ : Nat → Nat} {h h' : HM} {g c k e i n : Nat} {s : Sta} {v : Evi} {x : Ins} {P : List Ins} {ok : Prop}
theorem bun_celR (hp : macP h g = some (s, v, x, c, k, ok)) (hok : ok) (ec : h' c = h c) : Bun1 ρ (h' c) (.ro (.arr s.cells.length 1 (i64S s.cells))) := by
 obtain ⟨l, cf, sf, hg, hgl, hc, hcl, _⟩ := mac_val hp hok
 exact Fit.ro (u := .arr s.cells.length 1 cf) (by rw [ec, hc]; rfl) (fun β => arrCl (hcl β)) (fun n k f e => by injection e with e1 e2 e3; subst e1 e2; exact ⟨_, rfl⟩)
theorem bun_sndR (hp : macP h g = some (s, v, x, c, k, ok)) (hok : ok) (ek : h' k = h k) : Bun1 ρ (h' k) (.ro (.arr s.sends.length 3 (sndsS s.sends))) := by
 obtain ⟨l, cf, sf, hg, hgl, hc, hcl, hk, hkl, _⟩ := mac_val hp hok
 exact Fit.ro (u := .arr s.sends.length 3 sf) (by rw [ek, hk]; rfl) (fun β => by simp only [SV.ren, sndsS_ren]; exact arrCl (hkl β)) (fun n k f e => by simp only [SV.ren] at e; injection e with e1 e2 e3; subst e1 e2; exact ⟨_, rfl⟩)
def engP (h : HM) (e : Nat) : Option (Sta × Evi × Ins × List Ins × (Nat × Nat × Nat × Nat) × Prop) := match h e with
 | .own t (.agg [.ptr g [], .sl z i [] 5 0 n none]) true => match macP h g, prP h i with
  | some (s, v, x, c, k, ok), some (n', P, ok2) => bif Nat.beq t 102 && (Nat.beq z i && Nat.beq n n') && nodupN [0, e, g, c, k, i] then some (s, v, x, P, (g, c, k, i), ok ∧ ok2) else none
  | _, _ => none
 | _ => none
theorem engP_val {q : Nat × Nat × Nat × Nat} (hp : engP h e = some (s, v, x, P, q, ok)) : ∃ ok1 ok2, ok = (ok1 ∧ ok2) ∧ macP h q.1 = some (s, v, x, q.2.1, q.2.2.1, ok1) ∧ prP h q.2.2.2 = some (P.length, P, ok2) ∧ h e = .own 102 (eS q.1 q.2.2.2 P.length) true ∧ nodupN [0, e, q.1, q.2.1, q.2.2.1, q.2.2.2] = true := by
 unfold engP at hp
 split at hp
 ·rename_i t g z i n he
  split at hp
  ·rename_i s v x c k ok1 n' P ok2 hmp hpp
   obtain ⟨hb, hs⟩ := zk_ hp
   simp only [Option.some.injEq, Prod.mk.injEq] at hs
   obtain ⟨rfl, rfl, rfl, rfl, rfl, rfl⟩ := hs
   simp only [Bool.and_eq_true] at hb
   obtain ⟨⟨b1, b2, b3⟩, b4⟩ := hb
   have b1 := Nat.eq_of_beq_eq_true b1
   have b2 := Nat.eq_of_beq_eq_true b2
   have b3 := Nat.eq_of_beq_eq_true b3
   subst b1 b2 b3
   have hl := prP_len hpp
   subst hl
   exact ⟨ok1, ok2, rfl, hmp, hpp, he, b4⟩
  ·cases hp
 ·cases hp
theorem bun_eng {t g i n a b : Nat} {ex : Bool} (he : h e = .own t (eS g i n) ex) (ee : h' e = h e) (ha : ρ a = g) (hb : ρ b = i) : Bun1 ρ (h' e) (.ro (eS a b n)) := by
 exact Fit.ro (u := eS g i n) (by rw [ee, he]; rfl) (fun β => by simp only [eS, SV.ren, renL, ha, hb]) (fun n k f e => by cases e)
end
def eN : yp_ := fun args h m => match args with
 | [.ptr e []] => match h e with
  | .own t (.agg [.ptr g [], .sl z i [] 5 0 n none]) true => bif (h g).born && (h i).born && Nat.beq z i then some (True, .bool false, [e, g, i], []) else none
  | _ => none
 | _ => none
theorem none_lit (n : Nat) : zo_ Try.prog 85 [.ptr 1 []] [.gone, .ro (eS 2 3 n), .gone, .gone] (.bool false) [.gone, .gone, .gone, .gone] := by
 refine zf_ (fn := Try.f85) 4 12 0 rfl rfl rfl rfl rfl u21_ rfl fun w0 M E hro => ?_
 repeat' (first | refine Ctl.h ?_ | ((with_reducible intro hif); first | (focus (cases hif; done)) | ((try simp only [JH] at hif); try (exfalso; omega))) | ((with_reducible first | apply J22 zv_ za_ | apply J23 fol zv_ za_ | apply J24); (·rfl); (· (simp only [push_cast, ↓JP, Nat.reduceAdd, Nat.reduceEqDiff, Nat.reduceLT, Nat.reduceMul, Nat.reduceLeDiff, reduceCtorEq, reduceIte, ↓JK, eS, inR, inN]; rfl)); (try kernel_rfl); try exact k26_) | fail)
 apply At.endsPick [0, 1, 2, 3] za_ (fn := Try.f85) (rs := [.tmp 2]) Anc.refl hro (lb_ rfl) rfl
 ·exact yo_
 ·exact k14_
 ·rfl
 ·rfl
 ·rfl
 ·exact k30_
 ·rfl
 ·exact k119_
 ·exact k7_
 ·exact fun β => rfl
 ·exact k119_
theorem eN_ok : zj_ Try.prog 85 eN := by
 refine ⟨zg_ (by kernel_rfl), fun args h m c v rd wr hs hm hc w0 M β h' w R hrd hwr hst => ?_⟩
 unfold eN at hs
 split at hs
 ·rename_i e
  split at hs
  ·rename_i t g z i n he
   obtain ⟨hb, hs⟩ := zk_ hs
   simp only [Option.some.injEq, Prod.mk.injEq] at hs
   obtain ⟨rfl, rfl, rfl, rfl⟩ := hs
   simp only [Bool.and_eq_true] at hb
   obtain ⟨⟨b1, b2⟩, b3⟩ := hb
   have b3 := Nat.eq_of_beq_eq_true b3
   subst b3
   have C := callG (h := h) (m := m) [0, e, g, z] (none_lit n) R rfl (by simp) rfl rfl rfl
    ⟨.gone (by rw [R.nil0]; rfl), bun_eng (t := t) (ex := true) he (hrd e (by simp)) rfl rfl, .gone (by rw [hrd g (by simp)]; exact b1), .gone (by rw [hrd z (by simp)]; exact b2), trivial⟩ hm (fun p hp => by cases hp) (by simp)
    (by simp [yz_, HB.stable, eS, zb_, ze_, hp, HB.born]) ⟨rfl, trivial⟩ trivial trivial
   exact C
  ·cases hs
 ·cases hs
def cEn : FuncId → Option yp_ := yx_ [(85, eN), (76, pS), (86, sCopied)]
theorem cEn_ok : ∀ f S, cEn f = some S → zj_ Try.prog f S := zn_ ⟨eN_ok, pS_ok, sCopied_ok, trivial⟩
theorem ended_lit (n : Nat) (s : Sta) (v : Evi) (x : Ins) : zo_ Try.prog 44 [.ptr 1 []] [.gone, .own 102 (eS 2 5 n) true, .ro (macS s v x 3 4), .gone, .gone, .gone] (.bool s.ended) [.gone, .own 102 (eS 2 5 n) true, .gone, .gone, .gone, .gone] := by
 refine zf_ (fn := Try.f44) 6 16 0 rfl rfl rfl rfl rfl u21_ rfl fun w0 M E hro => ?_
 repeat' (first | refine Ctl.h ?_ | ((with_reducible intro hif); first | (focus (cases hif; done)) | ((try simp only [JH] at hif); try (exfalso; omega))) | ((with_reducible first | apply J22 cEn_ok za_ | apply J23 fol cEn_ok za_ | apply J24); (·rfl); (· exact k120_); (try kernel_rfl); try exact k26_) | fail)
 apply At.endsPick [0, 1, 2, 3, 4, 5] za_ (fn := Try.f44) (rs := [.tmp 2]) Anc.refl hro (lb_ rfl) rfl
 ·exact yo_
 ·exact k14_
 ·rfl
 ·rfl
 ·rfl
 ·exact k30_
 ·rfl
 ·exact k119_
 ·exact k7_
 ·exact fun β => rfl
 ·exact k119_
theorem at_lit (n : Nat) (s : Sta) (v : Evi) (x : Ins) : zo_ Try.prog 43 [.ptr 1 []] [.gone, .own 102 (eS 2 5 n) true, .ro (macS s v x 3 4), .gone, .gone, .gone] (.int .i64 s.at_) [.gone, .own 102 (eS 2 5 n) true, .gone, .gone, .gone, .gone] := by
 refine zf_ (fn := Try.f43) 6 13 0 rfl rfl rfl rfl rfl u21_ rfl fun w0 M E hro => ?_
 repeat' (first | refine Ctl.h ?_ | ((with_reducible intro hif); first | (focus (cases hif; done)) | ((try simp only [JH] at hif); try (exfalso; omega))) | ((with_reducible first | apply J22 cEn_ok za_ | apply J23 fol cEn_ok za_ | apply J24); (·rfl); (· exact k120_); (try kernel_rfl); try exact k26_) | fail)
 apply At.endsPick [0, 1, 2, 3, 4, 5] za_ (fn := Try.f43) (rs := [.tmp 2]) Anc.refl hro (lb_ rfl) rfl
 ·exact yo_
 ·exact k14_
 ·rfl
 ·rfl
 ·rfl
 ·exact k30_
 ·rfl
 ·exact k119_
 ·exact k7_
 ·exact fun β => rfl
 ·exact k119_
theorem state_lit (n : Nat) (s : Sta) (v : Evi) (x : Ins) (hc : s.cells.length ≤ 1000000) (hs : s.sends.length ≤ 1000000) : zo_ Try.prog 42 [.ptr 1 []] [.gone, .own 102 (eS 2 5 n) true, .ro (macS s v x 3 4), .ro (.arr s.cells.length 1 (i64S s.cells)), .ro (.arr s.sends.length 3 (sndsS s.sends)), .gone] (stS s 6 7) [.gone, .own 102 (eS 2 5 n) true, .gone, .gone, .gone, .gone, cB s, sB s] := by
 refine zf_ (fn := Try.f42) 6 14 0 rfl rfl rfl rfl rfl u21_ rfl fun w0 M E hro => ?_
 repeat' (first | refine Ctl.h ?_ | ((with_reducible intro hif); first | (focus (cases hif; done)) | ((try simp only [JH] at hif); try (exfalso; omega))) | ((with_reducible first | apply J22 cEn_ok za_ | apply J23 fol cEn_ok za_ | apply J24); (·rfl); (· (simp only [push_cast, ↓JP, Nat.reduceAdd, Nat.reduceEqDiff, Nat.reduceLT, Nat.reduceMul, Nat.reduceLeDiff, reduceCtorEq, reduceIte, ↓JK, JM, JE, eS, cEn, eN, sCopied, inR, inN]; rfl)); (try kernel_rfl); try exact k26_) | fail)
 apply At.endsPick [0, 1, 2, 3, 4, 5, 7, 8] za_ (fn := Try.f42) (rs := [.cell 2 53]) Anc.refl hro (lb_ rfl) rfl
 ·exact yo_
 ·exact k14_
 ·rfl
 ·rfl
 ·rfl
 ·exact k30_
 ·rfl
 ·exact k119_
 ·exact k7_
 ·exact fun β => rfl
 ·exact k119_
theorem Step_lit (P : List Ins) (s : Sta) (v : Evi) (x : Ins) (hP : PG P) (V : VOk v) (hS : SG P s) : zo_ Try.prog 41 [.ptr 1 []] [.gone, .own 102 (eS 2 5 P.length) true, mB s v x 3 4, cB s, sB s, prO P] (.int .i64 (stepE P v s))
  [.gone, .own 102 (eS 2 5 P.length) true, mB (yl_ P v s) v (stepX P s x) 3 6, cB (yl_ P v s), .gone, prO P, sB (yl_ P v s)] := by
 refine zf_ (fn := Try.f41) 6 14 0 rfl rfl rfl rfl rfl (by simp only [ze_, zb_, hp, i64S, prS, ym_, sndsS, sndS, stS, evS, macS, mB, cB, sB, eS, prO, prR, HB.stable]; simp [HB.born, mB, cB, sB, prO]) rfl fun w0 M E hro => ?_
 repeat' (first | refine Ctl.h ?_ | ((with_reducible intro hif); first | (focus (cases hif; done)) | ((try simp only [JH] at hif); try (exfalso; omega))) | ((with_reducible first | apply J22 cEn_ok za_ | apply J23 fol cEn_ok za_ | apply J24); (·rfl); (· (simp only [push_cast, ↓JP, Nat.reduceAdd, Nat.reduceEqDiff, Nat.reduceLT, Nat.reduceMul, Nat.reduceLeDiff, reduceCtorEq, reduceIte, ↓JK, JM, JE, eS, prO, prP, macP, nodupN, memN, cEn, eN, pS, inR, inN]; rfl)); (try kernel_rfl); try exact k26_) | fail)
 apply At.endsPick [0, 1, 2, 3, 4, 5, 6] za_ (fn := Try.f41) (rs := [.tmp 2]) Anc.refl hro (lb_ rfl) rfl
 ·exact yo_
 ·exact k14_
 ·rfl
 ·rfl
 ·rfl
 ·exact k30_
 ·rfl
 ·exact k119_
 ·exact k7_
 ·exact fun β => rfl
 ·exact k119_
end Go.Proofs.Ytmljmabbopkpiaa.Vm
end
section
namespace Go.Proofs.Ytmljmabbopkpiaa.Vm
open Go.RowKit
theorem eB_ren (ρ : Nat → Nat) (g i n : Nat) : (eB g i n).ren ρ = eB (ρ g) (ρ i) n := rfl
theorem prO_ren (ρ : Nat → Nat) (P : List Ins) : (prO P).ren ρ = prO P := by
 simp only [prO, HB.ren, SV.ren, prS_ren]
theorem prO_st {h : HM} {P : List Ins} : (prO P).stable h := fun q => prS_stable q
theorem eB_st {h : HM} {g i n : Nat} (hg : (h g).born = true) (hi : (h i).born = true) : (eB g i n).stable h := by
 simp [eB, HB.stable, zb_, ze_, hg, hi]
theorem bun_engO {ρ : Nat → Nat} {h h' : HM} {e g i n a b : Nat} (he : h e = .own 102 (eS g i n) true) (ee : h' e = h e) (ha : ρ a = g) (hb : ρ b = i) : Bun1 ρ (h' e) (eB a b n) := by
 show Less (h' e) (.own 102 ((eS a b n).ren ρ) true)
 rw [ee, he]
 simp only [eS, SV.ren, renL, ha, hb]
 exact .same _
theorem bun_prO {ρ : Nat → Nat} {h h' : HM} {i n : Nat} {P : List Ins} {ok : Prop} (hp : prP h i = some (n, P, ok)) (hok : ok) (ei : h' i = h i) : Bun1 ρ (h' i) (prO P) := by
 unfold prP at hp
 split at hp
 ·rename_i t n f hi
  obtain ⟨hb, hs⟩ := zk_ hp
  simp only [Option.some.injEq, Prod.mk.injEq] at hs
  obtain ⟨rfl, rfl, rfl⟩ := hs
  have := Nat.eq_of_beq_eq_true hb
  subst this
  show Less (h' i) (.own 28 (.arr (ls zr_ n f).length 5 fun q => (prS (ls zr_ n f) q).ren ρ) false)
  rw [ei, hi, prS_ren, zc_]
  refine .val (fun β => arrCl fun q hq => ?_) (fun n k f e => by injection e with e1 e2 e3; subst e1 e2; exact ⟨_, rfl⟩) (fun n k f e => by injection e with e1 e2 e3; subst e1 e2; exact ⟨_, rfl⟩)
  unfold prS
  rw [isIns_cl (hok q hq), ls_getD hq, isIns_cl (zq_ _), z1_]
 ·cases hp
theorem macS_st {h : HM} {s : Sta} {v : Evi} {x : Ins} {c k : Nat} (hc : (h c).born = true) (hk : (h k).born = true) : (HB.ro (macS s v x c k)).stable h := by
 simp [HB.stable, macS, stS, evS, ym_, zb_, ze_, hc, hk]
theorem celR_st {h : HM} {l : List Int} : (HB.ro (.arr l.length 1 (i64S l))).stable h := fun q => i64S_stable q
theorem sndR_st {h : HM} {l : List Snd} : (HB.ro (.arr l.length 3 (sndsS l))).stable h := fun q => sndsS_stable q
def eEnded : yp_ := fun args h m => match args with
 | [.ptr e []] => match engP h e with
  | some (s, v, x, P, (g, c, k, i), ok) => some (ok ∧ True, .bool s.ended, [e, g, c, k, i], [(e, eB g i P.length)])
  | none => none
 | _ => none
theorem eEnded_ok : zj_ Try.prog 44 eEnded := by
 refine ⟨zg_ (by kernel_rfl), fun args h m c v rd wr hs hm hc w0 M β h' w R hrd hwr hst => ?_⟩
 unfold eEnded at hs
 split at hs
 ·rename_i e
  split at hs
  ·rename_i s v x P g c k i ok hep
   simp only [Option.some.injEq, Prod.mk.injEq] at hs
   obtain ⟨rfl, rfl, rfl, rfl⟩ := hs
   obtain ⟨ok1, ok2, rfl, hmp, hpp, he, hnd⟩ := engP_val hep
   obtain ⟨⟨hok, hok2⟩, _⟩ := hc
   have ee := hrd e (by simp)
   have eg := hrd g (by simp)
   have ec := hrd c (by simp)
   have ek := hrd k (by simp)
   have ei := hrd i (by simp)
   exact bun_ok (h := h) (m := m) [0, e, g, c, k, i] (ended_lit P.length s v x) R rfl (by simp) rfl rfl hnd
    ⟨Fit.gone (by rw [R.nil0]; rfl), bun_engO he ee rfl rfl, bun_macR hmp hok eg rfl rfl, bun_cel0 hmp hok ec, bun_snd0 hmp hok ek, bun_pr0 hpp ei, trivial⟩ hm
    (fun p hp => by cases hp) (by simp) rfl
    ⟨trivial, eB_st rfl rfl, macS_st rfl rfl, trivial, trivial, trivial, trivial⟩ ⟨rfl, trivial⟩
    ⟨trivial, eB_st rfl rfl, macS_st rfl rfl, trivial, trivial, trivial, trivial⟩ (trivial) rfl rfl (by rfl)
  ·cases hs
 ·cases hs
def eAt : yp_ := fun args h m => match args with
 | [.ptr e []] => match engP h e with
  | some (s, v, x, P, (g, c, k, i), ok) => some (ok ∧ True, .int .i64 s.at_, [e, g, c, k, i], [(e, eB g i P.length)])
  | none => none
 | _ => none
theorem eAt_ok : zj_ Try.prog 43 eAt := by
 refine ⟨zg_ (by kernel_rfl), fun args h m c v rd wr hs hm hc w0 M β h' w R hrd hwr hst => ?_⟩
 unfold eAt at hs
 split at hs
 ·rename_i e
  split at hs
  ·rename_i s v x P g c k i ok hep
   simp only [Option.some.injEq, Prod.mk.injEq] at hs
   obtain ⟨rfl, rfl, rfl, rfl⟩ := hs
   obtain ⟨ok1, ok2, rfl, hmp, hpp, he, hnd⟩ := engP_val hep
   obtain ⟨⟨hok, hok2⟩, _⟩ := hc
   have ee := hrd e (by simp)
   have eg := hrd g (by simp)
   have ec := hrd c (by simp)
   have ek := hrd k (by simp)
   have ei := hrd i (by simp)
   exact bun_ok (h := h) (m := m) [0, e, g, c, k, i] (at_lit P.length s v x) R rfl (by simp) rfl rfl hnd
    ⟨Fit.gone (by rw [R.nil0]; rfl), bun_engO he ee rfl rfl, bun_macR hmp hok eg rfl rfl, bun_cel0 hmp hok ec, bun_snd0 hmp hok ek, bun_pr0 hpp ei, trivial⟩ hm
    (fun p hp => by cases hp) (by simp) rfl
    ⟨trivial, eB_st rfl rfl, macS_st rfl rfl, trivial, trivial, trivial, trivial⟩ ⟨rfl, trivial⟩
    ⟨trivial, eB_st rfl rfl, macS_st rfl rfl, trivial, trivial, trivial, trivial⟩ (trivial) rfl rfl (by rfl)
  ·cases hs
 ·cases hs
def eState : yp_ := fun args h m => match args with
 | [.ptr e []] => match engP h e with
  | some (s, v, x, P, (g, c, k, i), ok) => some (ok ∧ s.cells.length ≤ 1000000 ∧ s.sends.length ≤ 1000000, stS s m (m + 1), [e, g, c, k, i], [(e, eB g i P.length), (m, cB s), (m + 1, sB s)])
  | none => none
 | _ => none
theorem eState_ok : zj_ Try.prog 42 eState := by
 refine ⟨zg_ (by kernel_rfl), fun args h m c v rd wr hs hm hc w0 M β h' w R hrd hwr hst => ?_⟩
 unfold eState at hs
 split at hs
 ·rename_i e
  split at hs
  ·rename_i s v x P g c k i ok hep
   simp only [Option.some.injEq, Prod.mk.injEq] at hs
   obtain ⟨rfl, rfl, rfl, rfl⟩ := hs
   obtain ⟨ok1, ok2, rfl, hmp, hpp, he, hnd⟩ := engP_val hep
   obtain ⟨⟨hok, hok2⟩, hc1, hs1⟩ := hc
   have ee := hrd e (by simp)
   have eg := hrd g (by simp)
   have ec := hrd c (by simp)
   have ek := hrd k (by simp)
   have ei := hrd i (by simp)
   exact bun_ok (h := h) (m := m) [0, e, g, c, k, i] (state_lit P.length s v x hc1 hs1) R rfl (by simp) rfl rfl hnd
    ⟨Fit.gone (by rw [R.nil0]; rfl), bun_engO he ee rfl rfl, bun_macR hmp hok eg rfl rfl, bun_celR hmp hok ec, bun_sndR hmp hok ek, bun_pr0 hpp ei, trivial⟩ hm
    (fun p hp => by
     simp only [newB, List.drop, List.length_cons, List.length_nil, List.mem_cons, List.not_mem_nil, or_false] at hp
     rcases hp with rfl | rfl
     ·exact hwr (m, cB s) (by simp)
     ·exact hwr (m + 1, sB s) (by simp)) (by simp) rfl
    ⟨trivial, eB_st rfl rfl, macS_st rfl rfl, celR_st, sndR_st, trivial, trivial⟩ ⟨rfl, trivial⟩
    ⟨trivial, eB_st rfl rfl, macS_st rfl rfl, celR_st, sndR_st, trivial, cB_st, sB_st, trivial⟩ (by simp [stS, zb_, ze_]; exact ⟨rfl, rfl⟩) rfl rfl (by show [(e, (eB 2 5 _).ren _), (m, (cB s).ren _), (m + 1, (sB s).ren _)] = _; rw [eB_ren, cB_ren, sB_ren]; rfl)
  ·cases hs
 ·cases hs
def eStep : yp_ := fun args h m => match args with
 | [.ptr e []] => match engP h e with
  | some (s, v, x, P, (g, c, k, i), ok) => some (ok ∧ PG P ∧ VOk v ∧ SG P s, .int .i64 (stepE P v s), [e, g, c, k, i], [(e, eB g i P.length), (g, mB (yl_ P v s) v (stepX P s x) c m), (c, cB (yl_ P v s)), (k, .gone), (i, prO P), (m, sB (yl_ P v s))])
  | none => none
 | _ => none
theorem eStep_ok : zj_ Try.prog 41 eStep := by
 refine ⟨zg_ (by kernel_rfl), fun args h m c v rd wr hs hm hc w0 M β h' w R hrd hwr hst => ?_⟩
 unfold eStep at hs
 split at hs
 ·rename_i e
  split at hs
  ·rename_i s v x P g c k i ok hep
   simp only [Option.some.injEq, Prod.mk.injEq] at hs
   obtain ⟨rfl, rfl, rfl, rfl⟩ := hs
   obtain ⟨ok1, ok2, rfl, hmp, hpp, he, hnd⟩ := engP_val hep
   obtain ⟨⟨hok, hok2⟩, hP, hV, hS⟩ := hc
   have ee := hrd e (by simp)
   have eg := hrd g (by simp)
   have ec := hrd c (by simp)
   have ek := hrd k (by simp)
   have ei := hrd i (by simp)
   exact bun_ok (h := h) (m := m) [0, e, g, c, k, i] (Step_lit P s v x hP hV hS) R rfl (by simp) rfl rfl hnd
    ⟨Fit.gone (by rw [R.nil0]; rfl), bun_engO he ee rfl rfl, bun_mac hmp hok eg rfl rfl, bun_cel hmp hok ec, bun_snd hmp hok ek, bun_prO hpp hok2 ei, trivial⟩ hm
    (fun p hp => by
     simp only [newB, List.drop, List.length_cons, List.length_nil, List.mem_cons, List.not_mem_nil, or_false] at hp
     subst hp
     exact hwr (m, sB (yl_ P v s)) (by simp)) (by simp) rfl
    ⟨trivial, eB_st rfl rfl, mB_st rfl rfl, cB_st, sB_st, prO_st, trivial⟩ ⟨rfl, trivial⟩
    ⟨trivial, eB_st rfl rfl, mB_st rfl rfl, cB_st, trivial, prO_st, sB_st, trivial⟩ (trivial) rfl rfl (by show [(e, (eB 2 5 _).ren _), (g, (mB _ v _ 3 6).ren _), (c, (cB _).ren _), (k, HB.gone.ren _), (i, (prO P).ren _), (m, (sB _).ren _)] = _; rw [eB_ren, mB_ren, cB_ren, sB_ren, prO_ren]; simp [rhoL, HB.ren])
  ·cases hs
 ·cases hs
end Go.Proofs.Ytmljmabbopkpiaa.Vm
end
