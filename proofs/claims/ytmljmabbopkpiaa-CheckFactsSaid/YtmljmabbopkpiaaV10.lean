import Derived.Test.YtmljmabbopkpiaaV1
import Derived.Test.YtmljmabbopkpiaaV7
import Derived.Test.YtmljmabbopkpiaaV8
import Derived.Test.YtmljmabbopkpiaaV9
import Derived.Test.YtmljmabbopkpiaaProg
import Derived.Handy
import Derived.Deep.RegionHeld3
import Derived.Deep.DeepCutAuto
set_option linter.unusedSimpArgs false
set_option linter.unusedVariables false
set_option maxRecDepth 100000
set_option maxHeartbeats 4000000
section
namespace Go.Proofs.Ytmljmabbopkpiaa
open Go.RowKit
set_option maxRecDepth 100000 in
theorem registers_c (op a b c n:Int)(w:World):Calls Try.prog 124 #[.agg #[.int .u8 op,.int .u8 a,.int .u8 b,.int .u8 c,.int .i64 n]] w fun e w'=>
  e=.returned (.agg #[.int .u8 a,.int .u8 b,.int .u8 c])∧Below w.heap.size w w':=by
 go_enter Try.func124,Try.ntmps124
 go_wp2
 exact bodyPost_ret (v:=.agg #[.int .u8 a,.int .u8 b,.int .u8 c]) (by simp[results,Try.results124,go_sem]) rfl ⟨rfl,((Below.refl _ _).alloc (Nat.le_refl _) _).alloc (by simp) _⟩
set_option maxRecDepth 100000 in
set_option maxHeartbeats 4000000 in
theorem one_k1 (op a b c n:Int)(w:World)(a0:0≤a)(a1:a≤255)(b0:0≤b)(b1:b≤255)(c0:0≤c)(c1:c≤255)
   (hform:∀w,Calls Try.prog 39 #[.int .u8 op] w fun e w'=>e=.returned (.tuple #[.string ⟨#[114,114,114]⟩,.bool true])∧Below w.heap.size w w') :
    Calls Try.prog 97 #[.agg #[.int .u8 op,.int .u8 a,.int .u8 b,.int .u8 c,.int .i64 n]] w fun e w'=>e=.returned (.int .i64 (oneK 1 a b c n))∧Below w.heap.size w w':=by
  go_enter Try.func97,Try.ntmps97
  have HF:=Lib.hid hform
  clear hform
  go_wp2_with fail
  refine(HF.out _).mono ?_
  rintro e w1 ⟨rfl,hb1⟩
  have hz1:=hb1.size
  simp at hz1
  have hz1':w.heap.size < w1.heap.size:=by omega
  have c1_:∀o,w1.cell? ⟨w.heap.size,o,none⟩ = #[Value.int .u8 op,.int .u8 a,.int .u8 b,.int .u8 c,.int .i64 n][o]? := fun o=>by
    rw[hb1.cell (p:=⟨w.heap.size,o,none⟩) (by simp)];exact cell_of_row _ _ _ _ _ _ (heap_alloc_new w _)
  have HB1:=Lib.hid (((Below.refl _ w).alloc (Nat.le_refl _) _).trans (hb1.mono (by simp)))
  clear hb1 HF
  go_upto_region 4 with fail
  go_cut [5,6] (fun p m W=>∃g,p=.pointer (some ⟨g,0,none⟩)∧m=.int .i64 n∧w.heap.size≤g∧g < W.heap.size∧Below w.heap.size w W∧W.cell? ⟨g,0,none⟩=some (.int .u8 a)∧W.cell? ⟨g,1,none⟩=some (.int .u8 b)∧W.cell? ⟨g,2,none⟩=some (.int .u8 c)∧(∀o,W.frozen? ⟨g,o,none⟩=false))
  case first=>
    go_region_held3 (fun W=>Below w1.heap.size w1 W∧∀b o,b < w1.heap.size→W.cell? ⟨b,o,none⟩=w1.cell? ⟨b,o,none⟩)
      (repeat' (first|exact preD|assumption|exact preR|refine preB ?_ hb2|refine preE ?_|refine preA ?_ _|refine preS ?_ ?_ _|omega |(simp;done) |(simp;omega)))
      ((go_at_call 124;refine(registers_c _ _ _ _ _ _).mono ?_;rintro e w2 ⟨rfl,hb2⟩;obtain⟨hc2,hf2⟩:=bcell hb2;have hz2:=hb2.size;simp at hz2))
    all_goals (go_wp2_with fail;go_meet)
    all_goals refine⟨_,rfl,rfl,?_,?_,HB1.out.trans (Below.mono (And.left (by assumption)) (by omega)),?_,?_,?_,?_⟩
    all_goals first|omega |(simp;omega)|go_simp|skip
  case rest=>
    obtain⟨g,rfl,rfl,hg1,hg2,hB,h0,h1,h2,hf⟩:=hcut
    have hz:=hB.size
    have HB:=Lib.hid hB
    have e3:=fun x y z w=>eq3 x y z 0 0 0 w
    clear hB HB1 c1_ hz1 hz1'
    have i1:=fun W (p i:Nat) v=>iter_setCell W ⟨#[114,114,114]⟩ p g i v
    have i2:=fun W (p i:Nat)=>iter_cell W ⟨#[114,114,114]⟩ p g i
    have i3:=fun W (p i:Nat)=>iter_frozen W ⟨#[114,114,114]⟩ p g i
    have n0_:=fun W n ty hn=>next_at (P:=Try.prog) W ⟨#[114,114,114]⟩ 0 1 n 114 ty hn (by decide) (by decide) (by decide) rfl
    have n1_:=fun W n ty hn=>next_at (P:=Try.prog) W ⟨#[114,114,114]⟩ 1 2 n 114 ty hn (by decide) (by decide) (by decide) rfl
    have n2_:=fun W n ty hn=>next_at (P:=Try.prog) W ⟨#[114,114,114]⟩ 2 3 n 114 ty hn (by decide) (by decide) (by decide) rfl
    have n3_:=fun W n ty hn=>next_end (P:=Try.prog) W ⟨#[114,114,114]⟩ 3 n ty hn (by decide)
    go_wp2
    refine wp_loop_rounds 4 ?_
    all_goals (rw[rounds_succ];go_wp2)
    any_goals (rw[rounds_succ];go_wp2)
    any_goals (rw[rounds_succ];go_wp2)
    any_goals (rw[rounds_succ];go_wp2)
    all_goals (go_ret;refine⟨ret_i64 ?_,?_⟩)
    all_goals first
      | exact HB.out.alloc hz _
      | exact(HB.out.setCell (p:=⟨g,_,none⟩) hg1 _).alloc (by simp;omega) _
      | exact((HB.out.setCell (p:=⟨g,_,none⟩) hg1 _).setCell (p:=⟨g,_,none⟩) hg1 _).alloc (by simp;omega) _
      | exact(((HB.out.setCell (p:=⟨g,_,none⟩) hg1 _).setCell (p:=⟨g,_,none⟩) hg1 _).setCell (p:=⟨g,_,none⟩) hg1 _).alloc (by simp;omega) _
      |(rw[y2_ (by simp only[y3_];omega)])
      |(rw[yd_ (by simp only[y3_];omega)])
      | (have hn:(n != 0)=true:=by assumption
         rw[bne_iff_ne]at hn
         rw[yd_ (by simp only[y3_];omega)])
      | (have hn:(n != 0)=false:=by assumption
         rw[bne_eq_false_iff_eq]at hn
         rw[y2_ (by simp only[y3_];omega)])
      | (have hn:(n != 0)=false:=by assumption
         rw[bne_eq_false_iff_eq]at hn
         rw[yd_ (by simp only[y3_];omega)])
set_option maxRecDepth 100000 in
set_option maxHeartbeats 4000000 in
theorem one_k2 (op a b c n:Int)(w:World)(a0:0≤a)(a1:a≤255)(b0:0≤b)(b1:b≤255)(c0:0≤c)(c1:c≤255)
   (hform:∀w,Calls Try.prog 39 #[.int .u8 op] w fun e w'=>e=.returned (.tuple #[.string ⟨#[]⟩,.bool true])∧Below w.heap.size w w') :
    Calls Try.prog 97 #[.agg #[.int .u8 op,.int .u8 a,.int .u8 b,.int .u8 c,.int .i64 n]] w fun e w'=>e=.returned (.int .i64 (oneK 2 a b c n))∧Below w.heap.size w w':=by
  go_enter Try.func97,Try.ntmps97
  have HF:=Lib.hid hform
  clear hform
  go_wp2_with fail
  refine(HF.out _).mono ?_
  rintro e w1 ⟨rfl,hb1⟩
  have hz1:=hb1.size
  simp at hz1
  have hz1':w.heap.size < w1.heap.size:=by omega
  have c1_:∀o,w1.cell? ⟨w.heap.size,o,none⟩ = #[Value.int .u8 op,.int .u8 a,.int .u8 b,.int .u8 c,.int .i64 n][o]? := fun o=>by
    rw[hb1.cell (p:=⟨w.heap.size,o,none⟩) (by simp)];exact cell_of_row _ _ _ _ _ _ (heap_alloc_new w _)
  have HB1:=Lib.hid (((Below.refl _ w).alloc (Nat.le_refl _) _).trans (hb1.mono (by simp)))
  clear hb1 HF
  go_upto_region 4 with fail
  go_cut [5,6] (fun p m W=>∃g,p=.pointer (some ⟨g,0,none⟩)∧m=.int .i64 n∧w.heap.size≤g∧g < W.heap.size∧Below w.heap.size w W∧W.cell? ⟨g,0,none⟩=some (.int .u8 a)∧W.cell? ⟨g,1,none⟩=some (.int .u8 b)∧W.cell? ⟨g,2,none⟩=some (.int .u8 c)∧(∀o,W.frozen? ⟨g,o,none⟩=false))
  case first=>
    go_region_held3 (fun W=>Below w1.heap.size w1 W∧∀b o,b < w1.heap.size→W.cell? ⟨b,o,none⟩=w1.cell? ⟨b,o,none⟩)
      (repeat' (first|exact preD|assumption|exact preR|refine preB ?_ hb2|refine preE ?_|refine preA ?_ _|refine preS ?_ ?_ _|omega |(simp;done) |(simp;omega)))
      ((go_at_call 124;refine(registers_c _ _ _ _ _ _).mono ?_;rintro e w2 ⟨rfl,hb2⟩;obtain⟨hc2,hf2⟩:=bcell hb2;have hz2:=hb2.size;simp at hz2))
    all_goals (go_wp2_with fail;go_meet)
    all_goals refine⟨_,rfl,rfl,?_,?_,HB1.out.trans (Below.mono (And.left (by assumption)) (by omega)),?_,?_,?_,?_⟩
    all_goals first|omega |(simp;omega)|go_simp|skip
  case rest=>
    obtain⟨g,rfl,rfl,hg1,hg2,hB,h0,h1,h2,hf⟩:=hcut
    have hz:=hB.size
    have HB:=Lib.hid hB
    have e3:=fun x y z w=>eq3 x y z 0 0 0 w
    clear hB HB1 c1_ hz1 hz1'
    have i1:=fun W (p i:Nat) v=>iter_setCell W ⟨#[]⟩ p g i v
    have i2:=fun W (p i:Nat)=>iter_cell W ⟨#[]⟩ p g i
    have i3:=fun W (p i:Nat)=>iter_frozen W ⟨#[]⟩ p g i
    have n0_:=fun W n ty hn=>next_end (P:=Try.prog) W ⟨#[]⟩ 0 n ty hn (by decide)
    go_wp2
    refine wp_loop_rounds 1 ?_
    all_goals (rw[rounds_succ];go_wp2)
    all_goals (go_ret;refine⟨ret_i64 ?_,?_⟩)
    all_goals first
      | exact HB.out.alloc hz _
      | exact(HB.out.setCell (p:=⟨g,_,none⟩) hg1 _).alloc (by simp;omega) _
      | exact((HB.out.setCell (p:=⟨g,_,none⟩) hg1 _).setCell (p:=⟨g,_,none⟩) hg1 _).alloc (by simp;omega) _
      | exact(((HB.out.setCell (p:=⟨g,_,none⟩) hg1 _).setCell (p:=⟨g,_,none⟩) hg1 _).setCell (p:=⟨g,_,none⟩) hg1 _).alloc (by simp;omega) _
      |(rw[y2_ (by simp only[y3_];omega)])
      |(rw[yd_ (by simp only[y3_];omega)])
      | (have hn:(n != 0)=true:=by assumption
         rw[bne_iff_ne]at hn
         rw[yd_ (by simp only[y3_];omega)])
      | (have hn:(n != 0)=false:=by assumption
         rw[bne_eq_false_iff_eq]at hn
         rw[y2_ (by simp only[y3_];omega)])
      | (have hn:(n != 0)=false:=by assumption
         rw[bne_eq_false_iff_eq]at hn
         rw[yd_ (by simp only[y3_];omega)])
set_option maxRecDepth 100000 in
set_option maxHeartbeats 4000000 in
theorem one_k3 (op a b c n:Int)(w:World)(a0:0≤a)(a1:a≤255)(b0:0≤b)(b1:b≤255)(c0:0≤c)(c1:c≤255)
   (hform:∀w,Calls Try.prog 39 #[.int .u8 op] w fun e w'=>e=.returned (.tuple #[.string ⟨#[114,110]⟩,.bool true])∧Below w.heap.size w w') :
    Calls Try.prog 97 #[.agg #[.int .u8 op,.int .u8 a,.int .u8 b,.int .u8 c,.int .i64 n]] w fun e w'=>e=.returned (.int .i64 (oneK 3 a b c n))∧Below w.heap.size w w':=by
  go_enter Try.func97,Try.ntmps97
  have HF:=Lib.hid hform
  clear hform
  go_wp2_with fail
  refine(HF.out _).mono ?_
  rintro e w1 ⟨rfl,hb1⟩
  have hz1:=hb1.size
  simp at hz1
  have hz1':w.heap.size < w1.heap.size:=by omega
  have c1_:∀o,w1.cell? ⟨w.heap.size,o,none⟩ = #[Value.int .u8 op,.int .u8 a,.int .u8 b,.int .u8 c,.int .i64 n][o]? := fun o=>by
    rw[hb1.cell (p:=⟨w.heap.size,o,none⟩) (by simp)];exact cell_of_row _ _ _ _ _ _ (heap_alloc_new w _)
  have HB1:=Lib.hid (((Below.refl _ w).alloc (Nat.le_refl _) _).trans (hb1.mono (by simp)))
  clear hb1 HF
  go_upto_region 4 with fail
  go_cut [5,6] (fun p m W=>∃g,p=.pointer (some ⟨g,0,none⟩)∧m=.int .i64 n∧w.heap.size≤g∧g < W.heap.size∧Below w.heap.size w W∧W.cell? ⟨g,0,none⟩=some (.int .u8 a)∧W.cell? ⟨g,1,none⟩=some (.int .u8 b)∧W.cell? ⟨g,2,none⟩=some (.int .u8 c)∧(∀o,W.frozen? ⟨g,o,none⟩=false))
  case first=>
    go_region_held3 (fun W=>Below w1.heap.size w1 W∧∀b o,b < w1.heap.size→W.cell? ⟨b,o,none⟩=w1.cell? ⟨b,o,none⟩)
      (repeat' (first|exact preD|assumption|exact preR|refine preB ?_ hb2|refine preE ?_|refine preA ?_ _|refine preS ?_ ?_ _|omega |(simp;done) |(simp;omega)))
      ((go_at_call 124;refine(registers_c _ _ _ _ _ _).mono ?_;rintro e w2 ⟨rfl,hb2⟩;obtain⟨hc2,hf2⟩:=bcell hb2;have hz2:=hb2.size;simp at hz2))
    all_goals (go_wp2_with fail;go_meet)
    all_goals refine⟨_,rfl,rfl,?_,?_,HB1.out.trans (Below.mono (And.left (by assumption)) (by omega)),?_,?_,?_,?_⟩
    all_goals first|omega |(simp;omega)|go_simp|skip
  case rest=>
    obtain⟨g,rfl,rfl,hg1,hg2,hB,h0,h1,h2,hf⟩:=hcut
    have hz:=hB.size
    have HB:=Lib.hid hB
    have e3:=fun x y z w=>eq3 x y z 0 0 0 w
    clear hB HB1 c1_ hz1 hz1'
    have i1:=fun W (p i:Nat) v=>iter_setCell W ⟨#[114,110]⟩ p g i v
    have i2:=fun W (p i:Nat)=>iter_cell W ⟨#[114,110]⟩ p g i
    have i3:=fun W (p i:Nat)=>iter_frozen W ⟨#[114,110]⟩ p g i
    have n0_:=fun W n ty hn=>next_at (P:=Try.prog) W ⟨#[114,110]⟩ 0 1 n 114 ty hn (by decide) (by decide) (by decide) rfl
    have n1_:=fun W n ty hn=>next_at (P:=Try.prog) W ⟨#[114,110]⟩ 1 2 n 110 ty hn (by decide) (by decide) (by decide) rfl
    have n2_:=fun W n ty hn=>next_end (P:=Try.prog) W ⟨#[114,110]⟩ 2 n ty hn (by decide)
    go_wp2
    refine wp_loop_rounds 3 ?_
    all_goals (rw[rounds_succ];go_wp2)
    any_goals (rw[rounds_succ];go_wp2)
    any_goals (rw[rounds_succ];go_wp2)
    all_goals (go_ret;refine⟨ret_i64 ?_,?_⟩)
    all_goals first
      | exact HB.out.alloc hz _
      | exact(HB.out.setCell (p:=⟨g,_,none⟩) hg1 _).alloc (by simp;omega) _
      | exact((HB.out.setCell (p:=⟨g,_,none⟩) hg1 _).setCell (p:=⟨g,_,none⟩) hg1 _).alloc (by simp;omega) _
      | exact(((HB.out.setCell (p:=⟨g,_,none⟩) hg1 _).setCell (p:=⟨g,_,none⟩) hg1 _).setCell (p:=⟨g,_,none⟩) hg1 _).alloc (by simp;omega) _
      |(rw[y2_ (by simp only[y3_];omega)])
      |(rw[yd_ (by simp only[y3_];omega)])
      | (have hn:(n != 0)=true:=by assumption
         rw[bne_iff_ne]at hn
         rw[yd_ (by simp only[y3_];omega)])
      | (have hn:(n != 0)=false:=by assumption
         rw[bne_eq_false_iff_eq]at hn
         rw[y2_ (by simp only[y3_];omega)])
      | (have hn:(n != 0)=false:=by assumption
         rw[bne_eq_false_iff_eq]at hn
         rw[yd_ (by simp only[y3_];omega)])
set_option maxRecDepth 100000 in
set_option maxHeartbeats 4000000 in
theorem one_k4 (op a b c n:Int)(w:World)(a0:0≤a)(a1:a≤255)(b0:0≤b)(b1:b≤255)(c0:0≤c)(c1:c≤255)
   (hform:∀w,Calls Try.prog 39 #[.int .u8 op] w fun e w'=>e=.returned (.tuple #[.string ⟨#[114,114]⟩,.bool true])∧Below w.heap.size w w') :
    Calls Try.prog 97 #[.agg #[.int .u8 op,.int .u8 a,.int .u8 b,.int .u8 c,.int .i64 n]] w fun e w'=>e=.returned (.int .i64 (oneK 4 a b c n))∧Below w.heap.size w w':=by
  go_enter Try.func97,Try.ntmps97
  have HF:=Lib.hid hform
  clear hform
  go_wp2_with fail
  refine(HF.out _).mono ?_
  rintro e w1 ⟨rfl,hb1⟩
  have hz1:=hb1.size
  simp at hz1
  have hz1':w.heap.size < w1.heap.size:=by omega
  have c1_:∀o,w1.cell? ⟨w.heap.size,o,none⟩ = #[Value.int .u8 op,.int .u8 a,.int .u8 b,.int .u8 c,.int .i64 n][o]? := fun o=>by
    rw[hb1.cell (p:=⟨w.heap.size,o,none⟩) (by simp)];exact cell_of_row _ _ _ _ _ _ (heap_alloc_new w _)
  have HB1:=Lib.hid (((Below.refl _ w).alloc (Nat.le_refl _) _).trans (hb1.mono (by simp)))
  clear hb1 HF
  go_upto_region 4 with fail
  go_cut [5,6] (fun p m W=>∃g,p=.pointer (some ⟨g,0,none⟩)∧m=.int .i64 n∧w.heap.size≤g∧g < W.heap.size∧Below w.heap.size w W∧W.cell? ⟨g,0,none⟩=some (.int .u8 a)∧W.cell? ⟨g,1,none⟩=some (.int .u8 b)∧W.cell? ⟨g,2,none⟩=some (.int .u8 c)∧(∀o,W.frozen? ⟨g,o,none⟩=false))
  case first=>
    go_region_held3 (fun W=>Below w1.heap.size w1 W∧∀b o,b < w1.heap.size→W.cell? ⟨b,o,none⟩=w1.cell? ⟨b,o,none⟩)
      (repeat' (first|exact preD|assumption|exact preR|refine preB ?_ hb2|refine preE ?_|refine preA ?_ _|refine preS ?_ ?_ _|omega |(simp;done) |(simp;omega)))
      ((go_at_call 124;refine(registers_c _ _ _ _ _ _).mono ?_;rintro e w2 ⟨rfl,hb2⟩;obtain⟨hc2,hf2⟩:=bcell hb2;have hz2:=hb2.size;simp at hz2))
    all_goals (go_wp2_with fail;go_meet)
    all_goals refine⟨_,rfl,rfl,?_,?_,HB1.out.trans (Below.mono (And.left (by assumption)) (by omega)),?_,?_,?_,?_⟩
    all_goals first|omega |(simp;omega)|go_simp|skip
  case rest=>
    obtain⟨g,rfl,rfl,hg1,hg2,hB,h0,h1,h2,hf⟩:=hcut
    have hz:=hB.size
    have HB:=Lib.hid hB
    have e3:=fun x y z w=>eq3 x y z 0 0 0 w
    clear hB HB1 c1_ hz1 hz1'
    have i1:=fun W (p i:Nat) v=>iter_setCell W ⟨#[114,114]⟩ p g i v
    have i2:=fun W (p i:Nat)=>iter_cell W ⟨#[114,114]⟩ p g i
    have i3:=fun W (p i:Nat)=>iter_frozen W ⟨#[114,114]⟩ p g i
    have n0_:=fun W n ty hn=>next_at (P:=Try.prog) W ⟨#[114,114]⟩ 0 1 n 114 ty hn (by decide) (by decide) (by decide) rfl
    have n1_:=fun W n ty hn=>next_at (P:=Try.prog) W ⟨#[114,114]⟩ 1 2 n 114 ty hn (by decide) (by decide) (by decide) rfl
    have n2_:=fun W n ty hn=>next_end (P:=Try.prog) W ⟨#[114,114]⟩ 2 n ty hn (by decide)
    go_wp2
    refine wp_loop_rounds 3 ?_
    all_goals (rw[rounds_succ];go_wp2)
    any_goals (rw[rounds_succ];go_wp2)
    any_goals (rw[rounds_succ];go_wp2)
    all_goals (go_ret;refine⟨ret_i64 ?_,?_⟩)
    all_goals first
      | exact HB.out.alloc hz _
      | exact(HB.out.setCell (p:=⟨g,_,none⟩) hg1 _).alloc (by simp;omega) _
      | exact((HB.out.setCell (p:=⟨g,_,none⟩) hg1 _).setCell (p:=⟨g,_,none⟩) hg1 _).alloc (by simp;omega) _
      | exact(((HB.out.setCell (p:=⟨g,_,none⟩) hg1 _).setCell (p:=⟨g,_,none⟩) hg1 _).setCell (p:=⟨g,_,none⟩) hg1 _).alloc (by simp;omega) _
      |(rw[y2_ (by simp only[y3_];omega)])
      |(rw[yd_ (by simp only[y3_];omega)])
      | (have hn:(n != 0)=true:=by assumption
         rw[bne_iff_ne]at hn
         rw[yd_ (by simp only[y3_];omega)])
      | (have hn:(n != 0)=false:=by assumption
         rw[bne_eq_false_iff_eq]at hn
         rw[y2_ (by simp only[y3_];omega)])
      | (have hn:(n != 0)=false:=by assumption
         rw[bne_eq_false_iff_eq]at hn
         rw[yd_ (by simp only[y3_];omega)])
set_option maxRecDepth 100000 in
set_option maxHeartbeats 4000000 in
theorem one_k5 (op a b c n:Int)(w:World)(a0:0≤a)(a1:a≤255)(b0:0≤b)(b1:b≤255)(c0:0≤c)(c1:c≤255)
   (hform:∀w,Calls Try.prog 39 #[.int .u8 op] w fun e w'=>e=.returned (.tuple #[.string ⟨#[114,114,112]⟩,.bool true])∧Below w.heap.size w w') :
    Calls Try.prog 97 #[.agg #[.int .u8 op,.int .u8 a,.int .u8 b,.int .u8 c,.int .i64 n]] w fun e w'=>e=.returned (.int .i64 (oneK 5 a b c n))∧Below w.heap.size w w':=by
  go_enter Try.func97,Try.ntmps97
  have HF:=Lib.hid hform
  clear hform
  go_wp2_with fail
  refine(HF.out _).mono ?_
  rintro e w1 ⟨rfl,hb1⟩
  have hz1:=hb1.size
  simp at hz1
  have hz1':w.heap.size < w1.heap.size:=by omega
  have c1_:∀o,w1.cell? ⟨w.heap.size,o,none⟩ = #[Value.int .u8 op,.int .u8 a,.int .u8 b,.int .u8 c,.int .i64 n][o]? := fun o=>by
    rw[hb1.cell (p:=⟨w.heap.size,o,none⟩) (by simp)];exact cell_of_row _ _ _ _ _ _ (heap_alloc_new w _)
  have HB1:=Lib.hid (((Below.refl _ w).alloc (Nat.le_refl _) _).trans (hb1.mono (by simp)))
  clear hb1 HF
  go_upto_region 4 with fail
  go_cut [5,6] (fun p m W=>∃g,p=.pointer (some ⟨g,0,none⟩)∧m=.int .i64 n∧w.heap.size≤g∧g < W.heap.size∧Below w.heap.size w W∧W.cell? ⟨g,0,none⟩=some (.int .u8 a)∧W.cell? ⟨g,1,none⟩=some (.int .u8 b)∧W.cell? ⟨g,2,none⟩=some (.int .u8 c)∧(∀o,W.frozen? ⟨g,o,none⟩=false))
  case first=>
    go_region_held3 (fun W=>Below w1.heap.size w1 W∧∀b o,b < w1.heap.size→W.cell? ⟨b,o,none⟩=w1.cell? ⟨b,o,none⟩)
      (repeat' (first|exact preD|assumption|exact preR|refine preB ?_ hb2|refine preE ?_|refine preA ?_ _|refine preS ?_ ?_ _|omega |(simp;done) |(simp;omega)))
      ((go_at_call 124;refine(registers_c _ _ _ _ _ _).mono ?_;rintro e w2 ⟨rfl,hb2⟩;obtain⟨hc2,hf2⟩:=bcell hb2;have hz2:=hb2.size;simp at hz2))
    all_goals (go_wp2_with fail;go_meet)
    all_goals refine⟨_,rfl,rfl,?_,?_,HB1.out.trans (Below.mono (And.left (by assumption)) (by omega)),?_,?_,?_,?_⟩
    all_goals first|omega |(simp;omega)|go_simp|skip
  case rest=>
    obtain⟨g,rfl,rfl,hg1,hg2,hB,h0,h1,h2,hf⟩:=hcut
    have hz:=hB.size
    have HB:=Lib.hid hB
    have e3:=fun x y z w=>eq3 x y z 0 0 0 w
    clear hB HB1 c1_ hz1 hz1'
    have i1:=fun W (p i:Nat) v=>iter_setCell W ⟨#[114,114,112]⟩ p g i v
    have i2:=fun W (p i:Nat)=>iter_cell W ⟨#[114,114,112]⟩ p g i
    have i3:=fun W (p i:Nat)=>iter_frozen W ⟨#[114,114,112]⟩ p g i
    have n0_:=fun W n ty hn=>next_at (P:=Try.prog) W ⟨#[114,114,112]⟩ 0 1 n 114 ty hn (by decide) (by decide) (by decide) rfl
    have n1_:=fun W n ty hn=>next_at (P:=Try.prog) W ⟨#[114,114,112]⟩ 1 2 n 114 ty hn (by decide) (by decide) (by decide) rfl
    have n2_:=fun W n ty hn=>next_at (P:=Try.prog) W ⟨#[114,114,112]⟩ 2 3 n 112 ty hn (by decide) (by decide) (by decide) rfl
    have n3_:=fun W n ty hn=>next_end (P:=Try.prog) W ⟨#[114,114,112]⟩ 3 n ty hn (by decide)
    go_wp2
    refine wp_loop_rounds 4 ?_
    all_goals (rw[rounds_succ];go_wp2)
    any_goals (rw[rounds_succ];go_wp2)
    any_goals (rw[rounds_succ];go_wp2)
    any_goals (rw[rounds_succ];go_wp2)
    all_goals (go_ret;refine⟨ret_i64 ?_,?_⟩)
    all_goals first
      | exact HB.out.alloc hz _
      | exact(HB.out.setCell (p:=⟨g,_,none⟩) hg1 _).alloc (by simp;omega) _
      | exact((HB.out.setCell (p:=⟨g,_,none⟩) hg1 _).setCell (p:=⟨g,_,none⟩) hg1 _).alloc (by simp;omega) _
      | exact(((HB.out.setCell (p:=⟨g,_,none⟩) hg1 _).setCell (p:=⟨g,_,none⟩) hg1 _).setCell (p:=⟨g,_,none⟩) hg1 _).alloc (by simp;omega) _
      |(rw[y2_ (by simp only[y3_];omega)])
      |(rw[yd_ (by simp only[y3_];omega)])
      | (have hn:(n != 0)=true:=by assumption
         rw[bne_iff_ne]at hn
         rw[yd_ (by simp only[y3_];omega)])
      | (have hn:(n != 0)=false:=by assumption
         rw[bne_eq_false_iff_eq]at hn
         rw[y2_ (by simp only[y3_];omega)])
      | (have hn:(n != 0)=false:=by assumption
         rw[bne_eq_false_iff_eq]at hn
         rw[yd_ (by simp only[y3_];omega)])
set_option maxRecDepth 100000 in
set_option maxHeartbeats 4000000 in
theorem one_k6 (op a b c n:Int)(w:World)(a0:0≤a)(a1:a≤255)(b0:0≤b)(b1:b≤255)(c0:0≤c)(c1:c≤255)
   (hform:∀w,Calls Try.prog 39 #[.int .u8 op] w fun e w'=>e=.returned (.tuple #[.string ⟨#[116]⟩,.bool true])∧Below w.heap.size w w') :
    Calls Try.prog 97 #[.agg #[.int .u8 op,.int .u8 a,.int .u8 b,.int .u8 c,.int .i64 n]] w fun e w'=>e=.returned (.int .i64 (oneK 6 a b c n))∧Below w.heap.size w w':=by
  go_enter Try.func97,Try.ntmps97
  have HF:=Lib.hid hform
  clear hform
  go_wp2_with fail
  refine(HF.out _).mono ?_
  rintro e w1 ⟨rfl,hb1⟩
  have hz1:=hb1.size
  simp at hz1
  have hz1':w.heap.size < w1.heap.size:=by omega
  have c1_:∀o,w1.cell? ⟨w.heap.size,o,none⟩ = #[Value.int .u8 op,.int .u8 a,.int .u8 b,.int .u8 c,.int .i64 n][o]? := fun o=>by
    rw[hb1.cell (p:=⟨w.heap.size,o,none⟩) (by simp)];exact cell_of_row _ _ _ _ _ _ (heap_alloc_new w _)
  have HB1:=Lib.hid (((Below.refl _ w).alloc (Nat.le_refl _) _).trans (hb1.mono (by simp)))
  clear hb1 HF
  go_upto_region 4 with fail
  go_cut [5,6] (fun p m W=>∃g,p=.pointer (some ⟨g,0,none⟩)∧m=.int .i64 n∧w.heap.size≤g∧g < W.heap.size∧Below w.heap.size w W∧W.cell? ⟨g,0,none⟩=some (.int .u8 a)∧W.cell? ⟨g,1,none⟩=some (.int .u8 b)∧W.cell? ⟨g,2,none⟩=some (.int .u8 c)∧(∀o,W.frozen? ⟨g,o,none⟩=false))
  case first=>
    go_region_held3 (fun W=>Below w1.heap.size w1 W∧∀b o,b < w1.heap.size→W.cell? ⟨b,o,none⟩=w1.cell? ⟨b,o,none⟩)
      (repeat' (first|exact preD|assumption|exact preR|refine preB ?_ hb2|refine preE ?_|refine preA ?_ _|refine preS ?_ ?_ _|omega |(simp;done) |(simp;omega)))
      ((go_at_call 124;refine(registers_c _ _ _ _ _ _).mono ?_;rintro e w2 ⟨rfl,hb2⟩;obtain⟨hc2,hf2⟩:=bcell hb2;have hz2:=hb2.size;simp at hz2))
    all_goals (go_wp2_with fail;go_meet)
    all_goals refine⟨_,rfl,rfl,?_,?_,HB1.out.trans (Below.mono (And.left (by assumption)) (by omega)),?_,?_,?_,?_⟩
    all_goals first|omega |(simp;omega)|go_simp|skip
  case rest=>
    obtain⟨g,rfl,rfl,hg1,hg2,hB,h0,h1,h2,hf⟩:=hcut
    have hz:=hB.size
    have HB:=Lib.hid hB
    have e3:=fun x y z w=>eq3 x y z 0 0 0 w
    clear hB HB1 c1_ hz1 hz1'
    have i1:=fun W (p i:Nat) v=>iter_setCell W ⟨#[116]⟩ p g i v
    have i2:=fun W (p i:Nat)=>iter_cell W ⟨#[116]⟩ p g i
    have i3:=fun W (p i:Nat)=>iter_frozen W ⟨#[116]⟩ p g i
    have n0_:=fun W n ty hn=>next_at (P:=Try.prog) W ⟨#[116]⟩ 0 1 n 116 ty hn (by decide) (by decide) (by decide) rfl
    have n1_:=fun W n ty hn=>next_end (P:=Try.prog) W ⟨#[116]⟩ 1 n ty hn (by decide)
    go_wp2
    refine wp_loop_rounds 2 ?_
    all_goals (rw[rounds_succ];go_wp2)
    any_goals (rw[rounds_succ];go_wp2)
    all_goals (go_ret;refine⟨ret_i64 ?_,?_⟩)
    all_goals first
      | exact HB.out.alloc hz _
      | exact(HB.out.setCell (p:=⟨g,_,none⟩) hg1 _).alloc (by simp;omega) _
      | exact((HB.out.setCell (p:=⟨g,_,none⟩) hg1 _).setCell (p:=⟨g,_,none⟩) hg1 _).alloc (by simp;omega) _
      | exact(((HB.out.setCell (p:=⟨g,_,none⟩) hg1 _).setCell (p:=⟨g,_,none⟩) hg1 _).setCell (p:=⟨g,_,none⟩) hg1 _).alloc (by simp;omega) _
      |(rw[y2_ (by simp only[y3_];omega)])
      |(rw[yd_ (by simp only[y3_];omega)])
      | (have hn:(n != 0)=true:=by assumption
         rw[bne_iff_ne]at hn
         rw[yd_ (by simp only[y3_];omega)])
      | (have hn:(n != 0)=false:=by assumption
         rw[bne_eq_false_iff_eq]at hn
         rw[y2_ (by simp only[y3_];omega)])
      | (have hn:(n != 0)=false:=by assumption
         rw[bne_eq_false_iff_eq]at hn
         rw[yd_ (by simp only[y3_];omega)])
set_option maxRecDepth 100000 in
set_option maxHeartbeats 4000000 in
theorem one_k7 (op a b c n:Int)(w:World)(a0:0≤a)(a1:a≤255)(b0:0≤b)(b1:b≤255)(c0:0≤c)(c1:c≤255)
   (hform:∀w,Calls Try.prog 39 #[.int .u8 op] w fun e w'=>e=.returned (.tuple #[.string ⟨#[114,116]⟩,.bool true])∧Below w.heap.size w w') :
    Calls Try.prog 97 #[.agg #[.int .u8 op,.int .u8 a,.int .u8 b,.int .u8 c,.int .i64 n]] w fun e w'=>e=.returned (.int .i64 (oneK 7 a b c n))∧Below w.heap.size w w':=by
  go_enter Try.func97,Try.ntmps97
  have HF:=Lib.hid hform
  clear hform
  go_wp2_with fail
  refine(HF.out _).mono ?_
  rintro e w1 ⟨rfl,hb1⟩
  have hz1:=hb1.size
  simp at hz1
  have hz1':w.heap.size < w1.heap.size:=by omega
  have c1_:∀o,w1.cell? ⟨w.heap.size,o,none⟩ = #[Value.int .u8 op,.int .u8 a,.int .u8 b,.int .u8 c,.int .i64 n][o]? := fun o=>by
    rw[hb1.cell (p:=⟨w.heap.size,o,none⟩) (by simp)];exact cell_of_row _ _ _ _ _ _ (heap_alloc_new w _)
  have HB1:=Lib.hid (((Below.refl _ w).alloc (Nat.le_refl _) _).trans (hb1.mono (by simp)))
  clear hb1 HF
  go_upto_region 4 with fail
  go_cut [5,6] (fun p m W=>∃g,p=.pointer (some ⟨g,0,none⟩)∧m=.int .i64 n∧w.heap.size≤g∧g < W.heap.size∧Below w.heap.size w W∧W.cell? ⟨g,0,none⟩=some (.int .u8 a)∧W.cell? ⟨g,1,none⟩=some (.int .u8 b)∧W.cell? ⟨g,2,none⟩=some (.int .u8 c)∧(∀o,W.frozen? ⟨g,o,none⟩=false))
  case first=>
    go_region_held3 (fun W=>Below w1.heap.size w1 W∧∀b o,b < w1.heap.size→W.cell? ⟨b,o,none⟩=w1.cell? ⟨b,o,none⟩)
      (repeat' (first|exact preD|assumption|exact preR|refine preB ?_ hb2|refine preE ?_|refine preA ?_ _|refine preS ?_ ?_ _|omega |(simp;done) |(simp;omega)))
      ((go_at_call 124;refine(registers_c _ _ _ _ _ _).mono ?_;rintro e w2 ⟨rfl,hb2⟩;obtain⟨hc2,hf2⟩:=bcell hb2;have hz2:=hb2.size;simp at hz2))
    all_goals (go_wp2_with fail;go_meet)
    all_goals refine⟨_,rfl,rfl,?_,?_,HB1.out.trans (Below.mono (And.left (by assumption)) (by omega)),?_,?_,?_,?_⟩
    all_goals first|omega |(simp;omega)|go_simp|skip
  case rest=>
    obtain⟨g,rfl,rfl,hg1,hg2,hB,h0,h1,h2,hf⟩:=hcut
    have hz:=hB.size
    have HB:=Lib.hid hB
    have e3:=fun x y z w=>eq3 x y z 0 0 0 w
    clear hB HB1 c1_ hz1 hz1'
    have i1:=fun W (p i:Nat) v=>iter_setCell W ⟨#[114,116]⟩ p g i v
    have i2:=fun W (p i:Nat)=>iter_cell W ⟨#[114,116]⟩ p g i
    have i3:=fun W (p i:Nat)=>iter_frozen W ⟨#[114,116]⟩ p g i
    have n0_:=fun W n ty hn=>next_at (P:=Try.prog) W ⟨#[114,116]⟩ 0 1 n 114 ty hn (by decide) (by decide) (by decide) rfl
    have n1_:=fun W n ty hn=>next_at (P:=Try.prog) W ⟨#[114,116]⟩ 1 2 n 116 ty hn (by decide) (by decide) (by decide) rfl
    have n2_:=fun W n ty hn=>next_end (P:=Try.prog) W ⟨#[114,116]⟩ 2 n ty hn (by decide)
    go_wp2
    refine wp_loop_rounds 3 ?_
    all_goals (rw[rounds_succ];go_wp2)
    any_goals (rw[rounds_succ];go_wp2)
    any_goals (rw[rounds_succ];go_wp2)
    all_goals (go_ret;refine⟨ret_i64 ?_,?_⟩)
    all_goals first
      | exact HB.out.alloc hz _
      | exact(HB.out.setCell (p:=⟨g,_,none⟩) hg1 _).alloc (by simp;omega) _
      | exact((HB.out.setCell (p:=⟨g,_,none⟩) hg1 _).setCell (p:=⟨g,_,none⟩) hg1 _).alloc (by simp;omega) _
      | exact(((HB.out.setCell (p:=⟨g,_,none⟩) hg1 _).setCell (p:=⟨g,_,none⟩) hg1 _).setCell (p:=⟨g,_,none⟩) hg1 _).alloc (by simp;omega) _
      |(rw[y2_ (by simp only[y3_];omega)])
      |(rw[yd_ (by simp only[y3_];omega)])
      | (have hn:(n != 0)=true:=by assumption
         rw[bne_iff_ne]at hn
         rw[yd_ (by simp only[y3_];omega)])
      | (have hn:(n != 0)=false:=by assumption
         rw[bne_eq_false_iff_eq]at hn
         rw[y2_ (by simp only[y3_];omega)])
      | (have hn:(n != 0)=false:=by assumption
         rw[bne_eq_false_iff_eq]at hn
         rw[yd_ (by simp only[y3_];omega)])
set_option maxHeartbeats 1000000 in
theorem one_k0 (op a b c n:Int)(w:World)
   (hform:∀w,Calls Try.prog 39 #[.int .u8 op] w fun e w'=>e=.returned (.tuple #[.string ⟨#[]⟩,.bool false])∧Below w.heap.size w w') :
    Calls Try.prog 97 #[.agg #[.int .u8 op,.int .u8 a,.int .u8 b,.int .u8 c,.int .i64 n]] w fun e w'=>e=.returned (.int .i64 140)∧Below w.heap.size w w':=by
  go_enter Try.func97,Try.ntmps97
  have HF:=Lib.hid hform
  clear hform
  go_wp2_with fail
  refine(HF.out _).mono ?_
  rintro e w1 ⟨rfl,hb1⟩
  go_wp2
  go_ret
  exact⟨rfl,((Below.refl _ w).alloc (Nat.le_refl _) _).trans (hb1.mono (by simp))⟩
theorem form_c (op:Int)(h0:0≤op)(w:World):Calls Try.prog 39 #[.int .u8 op] w fun e w'=>e=.returned (.tuple #[.string (formS (yo_ op)),.bool (yo_ op != 0)])∧Below w.heap.size w w':=by
 by_cases h:32 < op
 ·by_cases h':op≤49
  ·have hc:yo_ op=1:=by unfold yo_;rw[if_pos ⟨h,h'⟩]
   rw[hc]
   exact form_rrr op w h h'
  ·exact form_hi op w (by omega)
 ·exact form_lo op w h0 (by omega)
theorem one_c (i:Ins)(hi:i.ok)(w:World):Calls Try.prog 97 #[i.v] w fun e w'=>e=.returned (.int .i64 (oneE i))∧Below w.heap.size w w':=by
 obtain⟨op,a,b,c,n⟩:=i
 obtain⟨o0,o1,a0,a1,b0,b1,c0,c1,n0,n1⟩:=hi
 dsimp only at *
 have hf:=form_c op o0
 unfold Ins.v oneE
 dsimp only
 have hk:yo_ op=0∨yo_ op=1∨yo_ op=2∨yo_ op=3∨yo_ op=4∨yo_ op=5∨yo_ op=6∨yo_ op=7:=by
  unfold yo_;repeat (first |(split;· simp)|simp)
 rcases hk with h|h|h|h|h|h|h|h<;>rw[h]at hf<;>rw[h]
 ·exact one_k0 op a b c n w hf
 ·exact one_k1 op a b c n w a0 a1 b0 b1 c0 c1 hf
 ·exact one_k2 op a b c n w a0 a1 b0 b1 c0 c1 hf
 ·exact one_k3 op a b c n w a0 a1 b0 b1 c0 c1 hf
 ·exact one_k4 op a b c n w a0 a1 b0 b1 c0 c1 hf
 ·exact one_k5 op a b c n w a0 a1 b0 b1 c0 c1 hf
 ·exact one_k6 op a b c n w a0 a1 b0 b1 c0 c1 hf
 ·exact one_k7 op a b c n w a0 a1 b0 b1 c0 c1 hf
def goesB (i:Ins):Bool:=oneE i == 0 && (i.op != 1 && (i.op != 2 && i.op != 9))
set_option maxRecDepth 100000 in
set_option maxHeartbeats 1000000 in
theorem goes_c (i:Ins)(hi:i.ok)(w:World):Calls Try.prog 99 #[i.v] w fun e w'=>e=.returned (.bool (goesB i))∧Below w.heap.size w w':=by
 have h1:=fun w=>one_c i hi w
 obtain⟨E,hE⟩:∃E,E=oneE i:=⟨_,rfl⟩
 unfold goesB
 rw[←hE]at h1 ⊢
 obtain⟨op,a,b,c,n⟩:=i
 unfold Ins.v at h1 ⊢
 dsimp only at h1 ⊢
 have H1:=Lib.hid h1
 clear h1 hE hi
 go_enter Try.func99,Try.ntmps99
 go_wp2_with fail
 refine(H1.out _).mono ?_
 rintro e w1 ⟨rfl,hb1⟩
 have hB:=Lib.hid (((Below.refl _ w).alloc (Nat.le_refl _) _).trans (hb1.mono (by simp)))
 have q0:w1.cell? ⟨w.heap.size,0,none⟩=some (.int .u8 op):=by
  rw[hb1.cell (p:=⟨w.heap.size,0,none⟩) (by simp)];exact cell_of_row _ _ _ _ _ _ (heap_alloc_new w _)
 clear hb1
 go_wp2
 all_goals (go_ret;refine⟨?_,hB.out⟩)
 all_goals first |(simp[*];done) |(simp[*,Bool.and_assoc];done)
def y0_ (i:Ins):Bool:=oneE i == 0 && (i.op == 9 ||(i.op == 10 || i.op == 11))
def zv_ (i:Ins):Int:=if y0_ i then i.n else 0
set_option maxRecDepth 100000 in
set_option maxHeartbeats 1000000 in
theorem target_c (i:Ins)(hi:i.ok)(w:World):Calls Try.prog 98 #[i.v] w fun e w'=>e=.returned (.tuple #[.int .i64 (zv_ i),.bool (y0_ i)])∧Below w.heap.size w w':=by
 have h1:=fun w=>one_c i hi w
 obtain⟨E,hE⟩:∃E,E=oneE i:=⟨_,rfl⟩
 obtain⟨V,hV⟩:∃V,V=zv_ i:=⟨_,rfl⟩
 obtain⟨T,hT⟩:∃T,T=y0_ i:=⟨_,rfl⟩
 have hV':=hV
 unfold zv_ at hV'
 rw[←hT]at hV'
 have hT':=hT
 unfold y0_ at hT'
 rw[←hE]at h1 hT'
 rw[←hT,←hV]
 obtain⟨op,a,b,c,n⟩:=i
 unfold Ins.v at h1 ⊢
 dsimp only at h1 hT' hV' ⊢
 have H1:=Lib.hid h1
 have HT:=Lib.hid hT'
 have HV:=Lib.hid hV'
 clear h1 hE hi hT hT' hV hV'
 go_enter Try.func98,Try.ntmps98
 go_wp2_with fail
 refine(H1.out _).mono ?_
 rintro e w1 ⟨rfl,hb1⟩
 have hB:=Lib.hid (((Below.refl _ w).alloc (Nat.le_refl _) _).trans (hb1.mono (by simp)))
 have q0:w1.cell? ⟨w.heap.size,0,none⟩=some (.int .u8 op):=by
  rw[hb1.cell (p:=⟨w.heap.size,0,none⟩) (by simp)];exact cell_of_row _ _ _ _ _ _ (heap_alloc_new w _)
 have q4:w1.cell? ⟨w.heap.size,4,none⟩=some (.int .i64 n):=by
  rw[hb1.cell (p:=⟨w.heap.size,4,none⟩) (by simp)];exact cell_of_row _ _ _ _ _ _ (heap_alloc_new w _)
 clear hb1
 go_wp2
 all_goals go_ret2
 all_goals refine⟨?_,hB.out⟩
 all_goals rw[HV.out,HT.out]
 all_goals first |(simp[*];done) |(simp_all;done) |((have hq:((op != 9)=false∨(op != 10)=false)∨(op != 11)=false:=(by assumption));simp at hq;(have h11:op=11:=(by omega));simp[*];done)
def badAt (n:Int)(i:Ins):Int:=if oneE i≠0 then oneE i else if y0_ i=true∧n≤zv_ i then 142 else 0
def checkK (p:List Ins):Int×Int:=
 match p.findIdx? (fun i=>badAt p.length i != 0)with
 | some k=>(k,badAt p.length (p.getD k ⟨0,0,0,0,0⟩))
 | none=>if goesB (p.getD (p.length - 1) ⟨0,0,0,0,0⟩)then((p.length:Int) - 1,143)else(-1,0)
def z7_ (p:List Ins):Int×Int:=if p.length=0 then(-1,6)else if 256 < p.length then(-1,5)else checkK p
theorem checkK_bad {p:List Ins}{j:Nat}{x:Ins}{v:Int}(h:∀i,i < j→∀y,p[i]? = some y→badAt p.length y=0)(hx:p[j]? = some x)(hv:badAt p.length x=v)(hn:v≠0):checkK p=((j:Int),v):=by
 have hj:j < p.length:=(List.getElem?_eq_some_iff.1 hx).1
 have hf:p.findIdx? (fun i=>badAt p.length i != 0)=some j:=by
  rw[List.findIdx?_eq_some_iff_getElem]
  refine⟨hj,?_,fun i hi=>?_⟩
  ·have:p[j]=x:=(List.getElem?_eq_some_iff.1 hx).2
   rw[this,hv];simpa using hn
  ·simp[h i hi _ (List.getElem?_eq_getElem (by omega))]
 unfold checkK
 rw[hf]
 simp[List.getD,hx,hv]
theorem checkK_none {p:List Ins}(h:∀i,i < p.length→∀y,p[i]? = some y→badAt p.length y=0):checkK p=if goesB (p.getD (p.length - 1) ⟨0,0,0,0,0⟩)then((p.length:Int) - 1,143)else(-1,0):=by
 have hf:p.findIdx? (fun i=>badAt p.length i != 0)=none:=by
  rw[List.findIdx?_eq_none_iff]
  intro x hx
  obtain⟨i,hi,rfl⟩:=List.getElem_of_mem hx
  simp[h i hi _ (List.getElem?_eq_getElem hi)]
 unfold checkK
 rw[hf]
set_option maxRecDepth 100000 in
set_option maxHeartbeats 2000000 in
theorem check_mid (A:Option Addr)(n c:Nat)(p:List Ins)(hok:∀i∈p,i.ok)(w:World)(h:yj_ w w.heap.size 5 A n (insV p))(h0:((n:Int) == 0)=false)(h0':0 < n)(h1:n≤256) :
  Calls Try.prog 55 #[.slice A n c] w fun e w'=>e=.returned (.tuple #[.int .i64 (checkK p).1,.int .i64 (checkK p).2])∧Below w.heap.size w w':=by
 have hpl:=h.ins_len
 have HL:=Lib.hid hpl
 clear hpl
 go_enter Try.func55,Try.ntmps55
 go_wp2
 go_loopw [4,5,6,7,8,20] (fun _ _ _ _ _ k wr=>∃j:Nat,k=.int .i64 j∧j≤n∧(∀i,i < j→∀y,p[i]? = some y→badAt n y=0)∧Below w.heap.size w wr) (fun _ _ _ _ _ k _=>n - (intOf k).toNat)
 case atStart=>exact⟨0,rfl,by omega,fun i hi=>by omega,Below.refl _ _⟩
 case round=>
  obtain⟨j,rfl,hj,hbad,hb⟩:=hrel
  have HBad:=Lib.hid hbad
  clear hbad
  by_cases hlt:j < n
  ·obtain⟨b,o,x,rfl,hl1,hx,hc0,hc1,hc2,hc3,hc4⟩:=(h.below hb).ins_at hlt
   have hxok:=hok x (List.mem_of_getElem? hx)
   obtain⟨op,a,b',c',m⟩:=x
   have HX:=Lib.hid hx
   have HO:=Lib.hid hxok
   have HB:=Lib.hid hb
   have hz:=hb.size
   clear hb hx h hxok hok
   dsimp only at hc0 hc1 hc2 hc3 hc4
   obtain⟨I,hI⟩:∃I:Ins,I=⟨op,a,b',c',m⟩:=⟨_,rfl⟩
   rw[←hI]at HO HX
   have HI:=Lib.hid hI
   clear hI
   have h1:∀w,Calls Try.prog 97 #[.agg #[.int .u8 op,.int .u8 a,.int .u8 b',.int .u8 c',.int .i64 m]] w fun e w'=>e=.returned (.int .i64 (oneE I))∧Below w.heap.size w w':=fun w=>by
    have:=one_c I HO.out w;rw[HI.out]at this ⊢;exact this
   have h2:∀w,Calls Try.prog 98 #[.agg #[.int .u8 op,.int .u8 a,.int .u8 b',.int .u8 c',.int .i64 m]] w fun e w'=>e=.returned (.tuple #[.int .i64 (zv_ I),.bool (y0_ I)])∧Below w.heap.size w w':=fun w=>by
    have:=target_c I HO.out w;rw[HI.out]at this ⊢;exact this
   have hbadE:badAt n I=if oneE I≠0 then oneE I else if y0_ I=true∧(n:Int)≤zv_ I then 142 else 0:=rfl
   obtain⟨V,hV⟩:∃V,V=zv_ I:=⟨_,rfl⟩
   obtain⟨T,hT⟩:∃T,T=y0_ I:=⟨_,rfl⟩
   obtain⟨E,hE⟩:∃E,E=oneE I:=⟨_,rfl⟩
   rw[←hE]at h1 hbadE
   rw[←hV,←hT]at h2 hbadE
   have H1:=Lib.hid h1
   have H2:=Lib.hid h2
   have HE:=Lib.hid hbadE
   clear h1 h2 hbadE hV hT hE
   go_wp2_with fail
   refine(H1.out _).mono ?_
   rintro e w2 ⟨rfl,hb2⟩
   have hz2:=hb2.size
   simp at hz2
   have q:∀k u,#[Value.int .u8 op,.int .u8 a,.int .u8 b',.int .u8 c',.int .i64 m][k]? = some u→w2.cell? ⟨wr.heap.size,k,none⟩=some u:=fun k u hu=>by
    rw[hb2.cell (p:=⟨wr.heap.size,k,none⟩) (by simp),cell_of_row _ _ _ _ _ _ (heap_alloc_new wr _)];exact hu
   have q0:=q 0 _ rfl
   have q1:=q 1 _ rfl
   have q2:=q 2 _ rfl
   have q3:=q 3 _ rfl
   have q4:=q 4 _ rfl
   have HB2:=Lib.hid ((HB.out.alloc hz _).trans (hb2.mono (by simp;omega)))
   clear q hb2
   by_cases hE0:E=0
   ·subst hE0
    go_wp2_with fail
    refine(H2.out _).mono ?_
    rintro e w3 ⟨rfl,hb3⟩
    have hz3:=hb3.size
    have HB3:=Lib.hid (HB2.out.trans (hb3.mono (by omega)))
    clear hb3
    by_cases hbad:T=true∧(n:Int)≤V
    ·obtain⟨rfl,hnV⟩:=hbad
     go_wp2
     go_ret2
     refine⟨?_,HB3.out⟩
     have hv:badAt p.length I=142:=by rw[HL.out,HE.out];simp[hnV]
     rw[checkK_bad (by rw[HL.out];exact HBad.out) HX.out hv (by decide)]
     rfl
    ·cases T with
     | false=>
      go_wp2
      go_roundw
      case rel => 
       refine⟨j+1,by go_num,by omega,fun i hi y hy=>?_,HB3.out⟩
       by_cases hij:i < j
       ·exact HBad.out i hij y hy
       ·obtain rfl:i=j:=by omega
        rw[HX.out]at hy
        obtain rfl:I=y:=by cases hy;rfl
        rw[HE.out];simp
      case measure=>simp[intOf];omega
     | true=>
      have hV:V < (n:Int):=by simp at hbad;omega
      clear hbad
      go_wp2
      go_roundw
      case rel => 
       refine⟨j+1,by go_num,by omega,fun i hi y hy=>?_,HB3.out⟩
       by_cases hij:i < j
       ·exact HBad.out i hij y hy
       ·obtain rfl:i=j:=by omega
        rw[HX.out]at hy
        obtain rfl:I=y:=by cases hy;rfl
        rw[HE.out];simp;omega
      case measure=>simp[intOf];omega
   ·have hE1:(E != 0)=true:=by rw[bne_iff_ne];exact hE0
    have HE0:=Lib.hid hE0
    clear hE0
    go_wp2
    go_ret2
    refine⟨?_,HB2.out⟩
    have hv:badAt p.length I=E:=by rw[HL.out,HE.out,if_pos HE0.out]
    rw[checkK_bad (by rw[HL.out];exact HBad.out) HX.out hv HE0.out]
    rfl
  ·obtain rfl:j=n:=by omega
   have hk:=checkK_none (p:=p) (by rw[HL.out];exact HBad.out)
   obtain⟨b,o,x,rfl,hl1,hx,hc0,hc1,hc2,hc3,hc4⟩:=(h.below hb).ins_at (k:=j - 1) (by omega)
   have hxok:=hok x (List.mem_of_getElem? hx)
   have hg:p.getD (p.length - 1) ⟨0,0,0,0,0⟩=x:=by rw[HL.out];simp[List.getD,hx]
   rw[hg,HL.out]at hk
   have hi:(((j:Int) - 1).toNat)=j - 1:=by omega
   have hs1:(0:Int)≤(j:Int) - 1:=by omega
   have hg1:=fun w=>goes_c x hxok w
   obtain⟨G,hG⟩:∃G,G=goesB x:=⟨_,rfl⟩
   rw[←hG]at hk hg1
   have HK:=Lib.hid hk
   have HB:=Lib.hid hb
   have HG:=Lib.hid hg1
   obtain⟨op,a,b',c',m⟩:=x
   dsimp only at hc0 hc1 hc2 hc3 hc4
   clear hk hb h hok hx hxok hg hG hg1 hi
   go_wp2_with fail
   refine(HG.out _).mono ?_
   rintro e w2 ⟨rfl,hb2⟩
   have HB2:=Lib.hid (HB.out.trans (hb2.mono HB.out.size))
   clear hb2
   cases G with
   | false=>
    go_wp2
    go_ret2
    refine⟨?_,HB2.out⟩
    rw[HK.out]
    rfl
   | true=>
    go_wp2
    go_ret2
    refine⟨?_,HB2.out⟩
    rw[HK.out]
    rfl
set_option maxRecDepth 100000 in
set_option maxHeartbeats 2000000 in
theorem check_c (A:Option Addr)(n c:Nat)(hn:n < 2^62)(p:List Ins)(hok:∀i∈p,i.ok)(w:World)(h:yj_ w w.heap.size 5 A n (insV p)) :
  Calls Try.prog 55 #[.slice A n c] w fun e w'=>e=.returned (.tuple #[.int .i64 (z7_ p).1,.int .i64 (z7_ p).2])∧Below w.heap.size w w':=by
 have hpl:=h.ins_len
 unfold z7_
 rw[hpl]
 by_cases h0:n=0
 ·subst h0
  go_enter Try.func55,Try.ntmps55
  go_wp2
  go_ret2
  exact⟨rfl,Below.refl _ _⟩
 ·rw[if_neg h0]
  by_cases h1:256 < n
  ·rw[if_pos h1]
   have h0':((n:Int) == 0)=false:=by simp;exact h0
   have h1':(256:Int) < n:=by omega
   clear h h0 hok hpl
   go_enter Try.func55,Try.ntmps55
   go_wp2
   go_ret2
   exact⟨rfl,Below.refl _ _⟩
  ·rw[if_neg h1]
   exact check_mid A n c p hok w h (by simp;exact h0) (by omega) (by omega)
end Go.Proofs.Ytmljmabbopkpiaa
end
section
namespace Go.Proofs.Ytmljmabbopkpiaa.Vm
open Go.RowKit
def sCheck:Spec:=fun args h m=>match args with
 | [v1]=>match srcV h 5 (.tup []) v1 with
  | some (c1,n1,f1,r1)=>some (c1∧(∀q,q < n1→isIns (f1 q)=true)∧((∀x∈(ls zg_ n1 f1),x.ok))∧(n1≤281474976710656),.tup [.int .i64 (z7_ (ls zg_ n1 f1)).1,.int .i64 (z7_ (ls zg_ n1 f1)).2],r1,[])
  | _=>none
 | _=>none
theorem sCheck_ok:zs_ Try.prog 55 sCheck:=by
 refine⟨zp_ (by kernel_rfl),fun args h m c v rd wr hs hm hc w0 M β h' w R hrd hwr hst=>?_⟩
 unfold sCheck at hs
 split at hs
 ·rename_i v1
  split at hs
  ·rename_i c1 n1 f1 r1 a1
   simp only[Option.some.injEq,Prod.mk.injEq]at hs
   obtain⟨rfl,rfl,rfl,rfl⟩:=hs
   obtain⟨k1,g1,y1,y2⟩:=hc
   obtain⟨A1,p1,d1,e1,t1⟩:=yn_ R a1 k1 (fun i hi=>hrd i hi) (by omega)
   rw[elems_ins g1]at t1
   simp only[denL,aggDen,intDen,natDen,yr_,d1]
   exact(check_c A1 n1 p1 (by omega) (ls zg_ n1 f1) y1 w t1).mono fun e w' he=>post_read R u1_ rfl he.1 he.2
  ·cases hs
 ·cases hs
end Go.Proofs.Ytmljmabbopkpiaa.Vm
end
section
namespace Go.Proofs.Ytmljmabbopkpiaa.Vm
open Go.RowKit
attribute [local push_cast] eqB eqBL allB
def sGoes:Spec:=fun args h m=>match args with
 | [v1]=>bif isIns v1 then some (((zg_ v1).ok),.bool (goesB (zg_ v1)),[],[])else none
 | _=>none
theorem sGoes_ok:zs_ Try.prog 99 sGoes:=by
 refine⟨zp_ (by kernel_rfl),fun args h m c v rd wr hs hm hc w0 M β h' w R hrd hwr hst=>?_⟩
 unfold sGoes at hs
 split at hs
 ·rename_i v1
  obtain⟨hb,hs⟩:=zq_ hs
  simp only[Option.some.injEq,Prod.mk.injEq]at hs
  obtain⟨rfl,rfl,rfl,rfl⟩:=hs
  have b1:=hb
  have y1:=hc
  simp only[denL,aggDen,intDen,natDen,yr_,den_insOf b1]
  exact(goes_c (zg_ v1) y1 w).mono fun e w' he=>post_read R u1_ rfl he.1 he.2
 ·cases hs
def yg_:Spec:=fun args h m=>match args with
 | [v1]=>bif isIns v1 then some (((zg_ v1).ok),.tup [.int .i64 (zv_ (zg_ v1)),.bool (y0_ (zg_ v1))],[],[])else none
 | _=>none
theorem sTarget_ok:zs_ Try.prog 98 yg_:=by
 refine⟨zp_ (by kernel_rfl),fun args h m c v rd wr hs hm hc w0 M β h' w R hrd hwr hst=>?_⟩
 unfold yg_ at hs
 split at hs
 ·rename_i v1
  obtain⟨hb,hs⟩:=zq_ hs
  simp only[Option.some.injEq,Prod.mk.injEq]at hs
  obtain⟨rfl,rfl,rfl,rfl⟩:=hs
  have b1:=hb
  have y1:=hc
  simp only[denL,aggDen,intDen,natDen,yr_,den_insOf b1]
  exact(target_c (zg_ v1) y1 w).mono fun e w' he=>post_read R u1_ rfl he.1 he.2
 ·cases hs
def cRight:FuncId→Option Spec:=look2 [(55,sCheck)]
theorem cRight_ok:∀f S,cRight f=some S→zs_ Try.prog f S:=yi_ ⟨sCheck_ok,trivial⟩
def rightI (p:List Ins):Int:=if (z7_ p).2=0 then 0 else 160
theorem right_lit (xs:List Ins)(p1:Nat)(hx:∀x∈xs,x.ok)(hl:xs.length≤281474976710656):LitOk Try.prog 93 [.sl 1 2 [] 5 0 xs.length (some p1)] [.gone,.gone,.ro (.arr xs.length 5 (prS xs))] (.int .i64 (rightI xs)) [.gone]:=by
 refine litOkM (fn:=Try.f93) 3 12 0 rfl rfl rfl rfl rfl u2_ rfl fun w0 M E hro=>?_
 repeat' (first|refine Ctl.h ?_ |((with_reducible intro hif);first |(focus (cases hif;done)) |((try simp only[JH]at hif);try exact hy_)) |((with_reducible first|apply J22 cRight_ok za_|apply J23 fol cRight_ok za_|apply J24);(·rfl);(· (simp only[push_cast,↓JP,Nat.reduceAdd,Nat.reduceEqDiff,Nat.reduceLT,Nat.reduceMul,Nat.reduceLeDiff,reduceCtorEq,reduceIte,cRight,sCheck,z9_,zy_];rfl));(try kernel_rfl);try exact k8_)|fail)
 ·exact d15_
 ·exact d15_
def yv_:Spec:=fun args h m=>match args with
 | [v1]=>match srcV h 5 (.tup []) v1 with
  | some (c1,n1,f1,r1)=>some (c1∧(∀q,q < n1→isIns (f1 q)=true)∧((∀x∈(ls zg_ n1 f1),x.ok))∧(n1≤281474976710656),.int .i64 (rightI (ls zg_ n1 f1)),r1,[])
  | _=>none
 | _=>none
theorem sRight_ok:zs_ Try.prog 93 yv_:=by
 refine⟨zp_ (by kernel_rfl),fun args h m c v rd wr hs hm hc w0 M β h' w R hrd hwr hst=>?_⟩
 unfold yv_ at hs
 split at hs
 ·rename_i v1
  split at hs
  ·rename_i c1 n1 f1 r1 a1
   simp only[Option.some.injEq,Prod.mk.injEq]at hs
   obtain⟨rfl,rfl,rfl,rfl⟩:=hs
   obtain⟨k1,g1,y1,y2⟩:=hc
   obtain⟨A1,p1,d1,e1,t1⟩:=yn_ R a1 k1 (fun i hi=>hrd i hi) (by omega)
   refine callRo (views:=[⟨5,(ls zg_ n1 f1).length,prS (ls zg_ n1 f1),A1,p1⟩]) (right_lit (ls zg_ n1 f1) p1 y1 (by rw[zi_];exact y2)) ?_ R hm hwr ?_ ?_ ?_
   ·exact d16_
   ·exact d17_
   ·exact k6_
   ·exact k6_
  ·cases hs
 ·cases hs
end Go.Proofs.Ytmljmabbopkpiaa.Vm
end
section
namespace Go.Proofs.Ytmljmabbopkpiaa.Vm
open Go.RowKit
theorem insS_agg (i:Ins):(insS i).isAgg=true:=rfl
theorem insS_plain (i:Ins):(insS i).plain=true:=rfl
theorem nav_ins (i:Ins):nav (insS i) []=some (True,insS i):=rfl
theorem nav_ins0 (i:Ins)(pa:List Stp):nav (insS i) (.f 0 0::pa)=nav (.int .u8 i.op) pa:=rfl
theorem nav_ins1 (i:Ins)(pa:List Stp):nav (insS i) (.f 1 1::pa)=nav (.int .u8 i.a) pa:=rfl
theorem nav_ins2 (i:Ins)(pa:List Stp):nav (insS i) (.f 2 2::pa)=nav (.int .u8 i.b) pa:=rfl
theorem nav_ins3 (i:Ins)(pa:List Stp):nav (insS i) (.f 3 3::pa)=nav (.int .u8 i.c) pa:=rfl
theorem nav_ins4 (i:Ins)(pa:List Stp):nav (insS i) (.f 4 4::pa)=nav (.int .i64 i.n) pa:=rfl
theorem sndS_size (i:Snd):(sndS i).size=3:=rfl
theorem sndS_agg (i:Snd):(sndS i).isAgg=true:=rfl
theorem sndS_plain (i:Snd):(sndS i).plain=true:=rfl
theorem nav_snd (i:Snd):nav (sndS i) []=some (True,sndS i):=rfl
theorem nav_snd0 (i:Snd)(pa:List Stp):nav (sndS i) (.f 0 0::pa)=nav (.int .i64 i.port) pa:=rfl
theorem nav_snd1 (i:Snd)(pa:List Stp):nav (sndS i) (.f 1 1::pa)=nav (.int .i64 i.delay) pa:=rfl
theorem nav_snd2 (i:Snd)(pa:List Stp):nav (sndS i) (.f 2 2::pa)=nav (.int .i64 i.value) pa:=rfl
set_option linter.defProp false
def JK:=And.intro @zj_ (And.intro @insS_agg (And.intro @insS_plain (And.intro @sndS_size (And.intro @sndS_agg @sndS_plain))))
end Go.Proofs.Ytmljmabbopkpiaa.Vm
end
section
namespace Go.Proofs.Ytmljmabbopkpiaa.Vm
open Go.RowKit
attribute [local push_cast] eqB eqBL allB prS sndsS i64S nav_ins nav_ins0 nav_ins1 nav_ins2 nav_ins3 nav_ins4 nav_snd nav_snd0 nav_snd1 nav_snd2 yz_ zf_ yy_ yx_ isI_int isI_nat iOf
def ya_ (x:Ins)(i:Int):List Int:=(if y0_ x=true∧zv_ x≤i then [zv_ x] else [])++(if goesB x=true then [i+1] else [])++(if y0_ x=true∧i < zv_ x∧(i+1 < zv_ x∨goesB x=false)then [zv_ x] else [])
def cEd:FuncId→Option Spec:=look2 [(99,sGoes),(98,yg_)]
theorem cEd_ok:∀f S,cEd f=some S→zs_ Try.prog f S:=yi_ ⟨sGoes_ok,sTarget_ok,trivial⟩
end Go.Proofs.Ytmljmabbopkpiaa.Vm
end
