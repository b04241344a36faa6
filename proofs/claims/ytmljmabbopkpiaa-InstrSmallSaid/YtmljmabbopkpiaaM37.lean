import Derived.Test.YtmljmabbopkpiaaM1
import Derived.Test.YtmljmabbopkpiaaM35
import Derived.Test.YtmljmabbopkpiaaM36
set_option linter.unusedSimpArgs false
set_option linter.unusedVariables false
set_option maxRecDepth 100000
set_option maxHeartbeats 4000000
section
namespace Go.Proofs.Ytmljmabbopkpiaa.Vm
open Go.RowKit
attribute [local push_cast] prS zm_ zo_ nav_ins xe_ xd_ xc_ xb_ xa_ nav_snd y9_ y8_ y7_ zu_ z7_ yf_ z5_ ya_ z9_ iOf
def cLm : FuncId → Option yp_ := yy_ [(28, sTells18)]
theorem cLm_ok : ∀ f S, cLm f = some S → zj_ Try.prog f S := zq_ ⟨sTells18_ok, trivial⟩
def limP : List Ins := [⟨8, 3, 4, 0, 1⟩, ⟨7, 1, 3, 0, 0⟩, ⟨5, 1, 3, 0, 0⟩, ⟨1, 0, 0, 0, 0⟩]
def limN : List Int := [-9223372036854775808, -1, 0, 1, 2, 3, 4, 255, 256, 257, 1023, 1024, 1025, 65536, 65537, 1099511627775, 1099511627776, 1099511627777, 281474976710651, 281474976710652, 281474976710656, 281474976710657, 9223372036854775807]
theorem limP_less (t : Nat) (b : Bool) : Less (.own t (.arr 4 5 (fun i => [SV.agg [.nat .u8 8, .nat .u8 3, .nat .u8 4, .nat .u8 0, .nat .i64 1], SV.agg [.nat .u8 7, .nat .u8 1, .nat .u8 3, .nat .u8 0, .nat .i64 0], SV.agg [.nat .u8 5, .nat .u8 1, .nat .u8 3, .nat .u8 0, .nat .i64 0], SV.agg [.nat .u8 1, .nat .u8 0, .nat .u8 0, .nat .u8 0, .nat .i64 0]].getD i (.agg [.nat .u8 0, .nat .u8 0, .nat .u8 0, .nat .u8 0, .nat .i64 0]))) b) (.own t (.arr 4 5 (prS limP)) b) :=
 .val (fun β => arrCl fun q hq => by rcases q with _ | _ | _ | _ | q <;> first | rfl | (exfalso; omega)) (fun n1 k1 f1 e => by injection e with e1 e2 e3; subst e1 e2; exact ⟨_, rfl⟩) (fun n1 k1 f1 e => by injection e with e1 e2 e3; subst e1 e2; exact ⟨_, rfl⟩)
theorem limN_less (t : Nat) (b : Bool) : Less (.own t (.arr 23 1 (fun i => [SV.int .i64 (-9223372036854775808), SV.int .i64 (-1), SV.nat .i64 0, SV.nat .i64 1, SV.nat .i64 2, SV.nat .i64 3, SV.nat .i64 4, SV.nat .i64 255, SV.nat .i64 256, SV.nat .i64 257, SV.nat .i64 1023, SV.nat .i64 1024, SV.nat .i64 1025, SV.nat .i64 65536, SV.nat .i64 65537, SV.nat .i64 1099511627775, SV.nat .i64 1099511627776, SV.nat .i64 1099511627777, SV.nat .i64 281474976710651, SV.nat .i64 281474976710652, SV.nat .i64 281474976710656, SV.nat .i64 281474976710657, SV.nat .i64 9223372036854775807].getD i (.nat .i64 0))) b) (.own t (.arr 23 1 (zo_ limN)) b) :=
 .val (fun β => arrCl fun q hq => by rcases q with _ | _ | _ | _ | _ | _ | _ | _ | _ | _ | _ | _ | _ | _ | _ | _ | _ | _ | _ | _ | _ | _ | _ | q <;> first | rfl | (exfalso; omega)) (fun n1 k1 f1 e => by injection e with e1 e2 e3; subst e1 e2; exact ⟨_, rfl⟩) (fun n1 k1 f1 e => by injection e with e1 e2 e3; subst e1 e2; exact ⟨_, rfl⟩)
theorem limN_R (q : Nat) : R64 (limN.getD q 0) := by
 rcases q with _ | _ | _ | _ | _ | _ | _ | _ | _ | _ | _ | _ | _ | _ | _ | _ | _ | _ | _ | _ | _ | _ | _ | q <;> first | (constructor <;> decide) | exact zero_R
theorem limP_ok : ∀ x ∈ limP, x.ok := by
 intro x hx
 simp only [limP, List.mem_cons, List.not_mem_nil, or_false] at hx
 rcases hx with rfl | rfl | rfl | rfl <;> (refine ⟨?_, ?_, ?_, ?_, ?_, ?_, ?_, ?_, ?_, ?_⟩ <;> decide)
def oddF (sd n : Int) (j : Nat) : SV := SV.ite (decide (j = 3)) (.agg [.int .u64 sd, .nat .i64 0, .nat .i64 2, .nat .i64 1, .int .i64 n]) (SV.ite (decide (j = 2)) (.agg [.int .u64 sd, .nat .i64 0, .nat .i64 2, .int .i64 n, .nat .i64 0]) (SV.ite (decide (j = 1)) (.agg [.int .u64 sd, .nat .i64 0, .int .i64 n, .nat .i64 1, .nat .i64 0]) (.agg [.int .u64 sd, .int .i64 n, .nat .i64 2, .nat .i64 1, .nat .i64 0])))
theorem limits_lit : zp_ Try.prog 45 [] [.gone] (.bool true) [.gone] := by
 have hl1 := limP_less 28 true
 have hl2 := limN_less 3 true
 have hR := limN_R
 have hP := limP_ok
 obtain ⟨P0, hP0⟩ : ∃ P0, limP = P0 := ⟨_, rfl⟩
 obtain ⟨N0, hN0⟩ : ∃ N0, limN = N0 := ⟨_, rfl⟩
 have lP : P0.length = 4 := by rw [← hP0]; rfl
 have lN : N0.length = 23 := by rw [← hN0]; rfl
 rw [hP0] at hl1 hP
 rw [hN0] at hl2 hR
 clear hP0 hN0
 refine zf_ (fn := Try.f45) 1 155 0 rfl rfl rfl rfl rfl trivial rfl fun w0 M E hro => ?_
 repeat' (first | refine Ctl.h ?_ | ((with_reducible intro hif); first | (focus (cases hif; done)) | ((try simp only [JH] at hif); try (exfalso; omega))) | ((with_reducible first | apply J22 cLm_ok za_ | apply J23 fol cLm_ok za_ | apply J24); (·rfl); (· exact k125_); (try kernel_rfl); try exact k124_) | fail)
 refine WF.loopAt (fun (k : Nat) => k ≤ 23) (fun (k : Nat) => [(1, .sl 1 1 [] 5 0 4 none), (20, .sl 2 2 [] 1 0 23 none), (21, .nat .i64 23), (22, .nat .i64 k)]) (fun (k : Nat) => [.gone, .own 28 (.arr 4 5 (prS P0)) true, .own 3 (.arr 23 1 (zo_ N0)) true]) (fun (k : Nat) => 23 - k) 0 (Nat.zero_le _) ?_ ?_ rfl ?_ ?_ rfl ?_
 ·exact k8_
 ·exact k5_
 ·exact k122_
 ·exact k122_
 intro k hk
 by_cases hk2 : k < 23
 case neg =>
  obtain rfl : k = 23 := by omega
  repeat' (first | refine Ctl.h ?_ | ((with_reducible intro hif); first | (focus (cases hif; done)) | ((try simp only [JH] at hif); try (exfalso; omega))) | ((with_reducible first | apply J22 cLm_ok za_ | apply J23 fol cLm_ok za_ | apply J24); (·rfl); (· exact k126_); (try kernel_rfl); try exact k26_) | fail)
  apply At.endsRet za_ (fn := Try.f45) (rs := [.tmp 0]) Anc.refl hro (lb_ rfl) rfl
  ·exact yq_
  ·exact k4_
  ·exact k5_
  ·rfl
  ·exact k122_
  ·exact k7_
  ·exact fun β => rfl
  ·exact k122_
 obtain ⟨n, hn⟩ : ∃ n, N0.getD k 0 = n := ⟨_, rfl⟩
 have hnR := hR k
 rw [hn] at hnR
 have hn0 := hnR.1
 have hn1 := hnR.2
 repeat' (first | refine Ctl.h ?_ | ((with_reducible intro hif); first | (focus (cases hif; done)) | ((try simp only [JH] at hif); try (exfalso; omega))) | ((with_reducible first | apply J22 cLm_ok za_ | apply J23 fol cLm_ok za_ | apply J24); (·rfl); (· (simp only [push_cast, ↓JP, Nat.reduceAdd, Nat.reduceEqDiff, Nat.reduceLT, Nat.reduceMul, Nat.reduceLeDiff, reduceCtorEq, reduceIte, ↓JK, hk2, zo_, hn, inR, inN]; rfl)); (try kernel_rfl); try exact k26_) | fail)
 refine WF.loopAt (fun (j : Nat) => j ≤ 4) (fun (j : Nat) => [(1, .sl 1 1 [] 5 0 4 none), (3, .nat .i64 k), (4, .int .i64 n), (20, .sl 2 2 [] 1 0 23 none), (21, .nat .i64 23), (22, .nat .i64 k), (27, .sl 1 1 [] 5 0 4 none), (28, .nat .i64 4), (29, .nat .i64 j)]) (fun (j : Nat) => [.gone, .own 28 (.arr 4 5 (prS P0)) true, .own 3 (.arr 23 1 (zo_ N0)) true]) (fun (j : Nat) => 4 - j) 0 (Nat.zero_le _) ?_ ?_ rfl ?_ ?_ rfl ?_
 ·exact k8_
 ·exact k5_
 ·exact k122_
 ·exact k122_
 intro j hj
 by_cases hj4 : j < 4
 case neg =>
  obtain rfl : j = 4 := by omega
  repeat' (first | refine Ctl.h ?_ | ((with_reducible intro hif); first | (focus (cases hif; done)) | ((try simp only [JH] at hif); try (exfalso; omega))) | ((with_reducible first | apply J22 cLm_ok za_ | apply J23 fol cLm_ok za_ | apply J24); (·rfl); (· exact k126_); (try kernel_rfl); try exact k26_) | fail)
  refine At.next (k + 1) ?_ ?_ ?_ rfl ?_ ?_ rfl
  ·exact ⟨hk2, by omega⟩
  ·exact k8_
  ·exact k5_
  ·exact k122_
  ·exact k122_
 iterate 9 (try (first | refine Ctl.h ?_ | ((with_reducible intro hif); first | (focus (cases hif; done)) | ((try simp only [JH] at hif); try (exfalso; omega))) | ((with_reducible first | apply J22 cLm_ok za_ | apply J23 fol cLm_ok za_ | apply J24); (·rfl); (· (simp only [push_cast, ↓JP, Nat.reduceAdd, Nat.reduceEqDiff, Nat.reduceLT, Nat.reduceMul, Nat.reduceLeDiff, reduceCtorEq, reduceIte, ↓JK, hj4, inR, inN, List.all_cons, List.all_nil]; rfl)); (try kernel_rfl); try exact k124_) | fail))
 all_goals try (intro hif; cases hif; done)
 iterate 12 (try (first | refine Ctl.h ?_ | ((with_reducible intro hif); first | (focus (cases hif; done)) | ((try simp only [JH] at hif); try (exfalso; omega))) | ((with_reducible first | apply J22 cLm_ok za_ | apply J23 fol cLm_ok za_ | apply J24); (·rfl); (· exact k125_); (try kernel_rfl); try exact k124_) | fail))
 with_reducible apply WF.split 1 3
 ·rfl
 with_reducible apply At.run cLm_ok za_
 ·rfl
 ·rfl
 ·rfl
 ·exact k123_
 ·(repeat' (first | exact True.intro | apply And.intro | omega | decide))
 with_reducible apply At.conv za_
 ·rfl
 ·rfl
 ·rfl
 ·rfl
 ·rfl
 ·rfl
 ·rfl
 ·simp only [push_cast, ↓JP, Nat.reduceAdd, Nat.reduceEqDiff, Nat.reduceLT, Nat.reduceMul, Nat.reduceLeDiff, reduceCtorEq, reduceIte, ↓JK]; rfl
 ·exact True.intro
 ·exact fun β => rfl
 with_reducible apply At.runEnd cLm_ok za_
 ·rfl
 ·rfl
 ·rfl
 ·exact k123_
 ·(repeat' (first | exact True.intro | apply And.intro | omega | decide))
 generalize IntKind.wrap .u64 n = sd
 repeat' (first | refine Ctl.h ?_ | ((with_reducible intro hif); first | (focus (cases hif; done)) | ((try simp only [JH] at hif); try (exfalso; omega))) | ((with_reducible first | apply J22 cLm_ok za_ | apply J23 fol cLm_ok za_ | apply J24); (·rfl); (· exact k125_); (try kernel_rfl); try exact k124_) | fail)
 have hl3 : Less (.own 56 (.arr 4 5 (fun j => SV.ite (decide (j = 3)) (.agg [.int .u64 sd, .nat .i64 0, .nat .i64 2, .nat .i64 1, .int .i64 n]) (SV.ite (decide (j = 2)) (.agg [.int .u64 sd, .nat .i64 0, .nat .i64 2, .int .i64 n, .nat .i64 0]) (SV.ite (decide (j = 1)) (.agg [.int .u64 sd, .nat .i64 0, .int .i64 n, .nat .i64 1, .nat .i64 0]) (SV.ite (decide (j = 0)) (.agg [.int .u64 sd, .int .i64 n, .nat .i64 2, .nat .i64 1, .nat .i64 0]) ([SV.agg [.int .u64 sd, .nat .i64 0, .nat .i64 2, .nat .i64 1, .nat .i64 0], SV.agg [.int .u64 sd, .nat .i64 0, .nat .i64 2, .nat .i64 1, .nat .i64 0], SV.agg [.int .u64 sd, .nat .i64 0, .nat .i64 2, .nat .i64 1, .nat .i64 0], SV.agg [.int .u64 sd, .nat .i64 0, .nat .i64 2, .nat .i64 1, .nat .i64 0]].getD j (.agg [.nat .u64 0, .nat .i64 0, .nat .i64 0, .nat .i64 0, .nat .i64 0]))))))) true) (.own 56 (.arr 4 5 (oddF sd n)) true) := .arr fun q hq => by rcases q with _ | _ | _ | _ | q <;> first | rfl | (exfalso; omega)
 have hlsP : ls zt_ 4 (prS P0) = P0 := by rw [← lP]; exact ls_prS P0
 have hP4 : ∀ x : Ins, (x ∈ ls zt_ 4 fun q => yo_ (P0.getD q ⟨0, 0, 0, 0, 0⟩)) → x.ok := by
  intro x hx
  exact hP x (by rw [← hlsP]; exact hx)
 have hP3 : ∀ x : Ins, (x ∈ ls zt_ 3 fun q => yo_ (P0.getD q ⟨0, 0, 0, 0, 0⟩)) → x.ok := by
  intro x hx
  rw [show (ls zt_ 3 fun q => yo_ (P0.getD q ⟨0, 0, 0, 0, 0⟩)) = [P0.getD 0 ⟨0, 0, 0, 0, 0⟩, P0.getD 1 ⟨0, 0, 0, 0, 0⟩, P0.getD 2 ⟨0, 0, 0, 0, 0⟩] from rfl] at hx
  have hk : ∀ k, k < 4 → (P0.getD k ⟨0, 0, 0, 0, 0⟩).ok := fun k hk => by
   have hk' : k < P0.length := by omega
   rw [List.getD_eq_getElem?_getD, List.getElem?_eq_getElem hk', Option.getD_some]
   exact hP _ (List.getElem_mem hk')
  simp only [List.mem_cons, List.not_mem_nil, or_false] at hx
  rcases hx with rfl | rfl | rfl
  ·exact hk 0 (by omega)
  ·exact hk 1 (by omega)
  ·exact hk 2 (by omega)
 have hR5 : ∀ q : Nat, R64 (((bif decide (q = 3) then 5 else 0 : Nat)) : Int) := fun q => by
  cases decide (q = 3) <;> (constructor <;> decide)
 have hRn : ∀ q : Nat, R64 (iOf (SV.ite (decide (q = 3)) (.int .i64 n) (.nat .i64 (bif decide (q = 3) then 5 else 0)))) := fun q => by
  cases decide (q = 3)
  ·exact zero_R
  ·exact ⟨hn0, hn1⟩
 have hI3 : ∀ q : Nat, q < 8 → isI .i64 (SV.ite (decide (q = 3)) (.int .i64 n) (.nat .i64 (bif decide (q = 3) then 5 else 0))) = true := fun q _ => by
  cases decide (q = 3) <;> rfl
 refine WF.loopAt (fun (c : Nat) => c ≤ 4) (fun (c : Nat) => [(1, .sl 1 1 [] 5 0 4 none), (3, .nat .i64 k), (4, .int .i64 n), (20, .sl 2 2 [] 1 0 23 none), (21, .nat .i64 23), (22, .nat .i64 k), (27, .sl 1 1 [] 5 0 4 none), (28, .nat .i64 4), (29, .nat .i64 j), (5, .nat .i64 j), (6, .ptr 4 []), (7, .ptr 5 []), (8, .sl 6 6 [] 5 0 4 none), (60, .sl 6 6 [] 5 0 4 none), (61, .nat .i64 4), (62, .nat .i64 c)]) (fun (c : Nat) => [.gone, .own 28 (.arr 4 5 (prS P0)) true, .own 3 (.arr 23 1 (zo_ N0)) true, .own 2 (.arr 6 1 fun _ => .nat .i64 0) true, .own 53 (.agg [.nat .i64 j, .bool false, .arr 8 1 (fun j => .nat .i64 (bif decide (j = 3) then 5 else 0)), .sl 3 3 [] 1 0 6 none, .nat .i64 0, .sl 0 0 [] 0 0 0 (some 0)]) true, .own 56 (.agg [.int .u64 sd, .nat .i64 0, .nat .i64 2, .nat .i64 1, .nat .i64 0]) true, .own 56 (.arr 4 5 (oddF sd n)) true]) (fun (c : Nat) => 4 - c) 0 (Nat.zero_le _) ?_ ?_ rfl ?_ ?_ rfl ?_
 ·exact k8_
 ·exact k5_
 ·exact k122_
 ·exact k122_
 intro c hc
 by_cases hc4 : c < 4
 case pos =>
  rcases c with _ | _ | _ | _ | c
  rotate_left 4
  ·omega
  all_goals
   repeat' (first | refine Ctl.h ?_ | ((with_reducible intro hif); first | (focus (cases hif; done)) | ((try simp only [JH] at hif); try (exfalso; omega))) | ((with_reducible first | apply J22 cLm_ok za_ | apply J23 fol cLm_ok za_ | apply J24); (·rfl); (· exact k128_); (try kernel_rfl); try exact k127_) | fail)
  ·refine At.next 1 ?_ ?_ ?_ rfl ?_ ?_ rfl
   ·exact ⟨by decide, by decide⟩
   ·exact k8_
   ·exact k5_
   ·exact k122_
   ·exact k122_
  ·refine At.next 2 ?_ ?_ ?_ rfl ?_ ?_ rfl
   ·exact ⟨by decide, by decide⟩
   ·exact k8_
   ·exact k5_
   ·exact k122_
   ·exact k122_
  ·refine At.next 3 ?_ ?_ ?_ rfl ?_ ?_ rfl
   ·exact ⟨by decide, by decide⟩
   ·exact k8_
   ·exact k5_
   ·exact k122_
   ·exact k122_
  ·refine At.next 4 ?_ ?_ ?_ rfl ?_ ?_ rfl
   ·exact ⟨by decide, by decide⟩
   ·exact k8_
   ·exact k5_
   ·exact k122_
   ·exact k122_
 obtain rfl : c = 4 := by omega
 repeat' (first | refine Ctl.h ?_ | ((with_reducible intro hif); first | (focus (cases hif; done)) | ((try simp only [JH] at hif); try (exfalso; omega))) | ((with_reducible first | apply J22 cLm_ok za_ | apply J23 fol cLm_ok za_ | apply J24); (·rfl); (· exact k128_); (try kernel_rfl); try exact k127_) | fail)
 all_goals
  refine At.next (j + 1) ?_ ?_ ?_ rfl ?_ ?_ rfl
  ·exact ⟨by omega, by omega⟩
  ·exact k8_
  ·exact k5_
  ·exact k122_
  ·exact k122_
end Go.Proofs.Ytmljmabbopkpiaa.Vm
end
