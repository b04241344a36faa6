import Derived.Test.YtmljmabbopkpiaaC1
import Derived.Test.YtmljmabbopkpiaaC7
import Derived.Test.YtmljmabbopkpiaaC8
import Derived.Test.YtmljmabbopkpiaaC9
import Derived.Test.YtmljmabbopkpiaaC10
import Derived.Test.YtmljmabbopkpiaaProg
import Derived.Handy
import Derived.Deep.RegionHeld3
import Derived.Deep.DeepCutAuto
set_option linter.unusedSimpArgs false
set_option linter.unusedVariables false
set_option maxRecDepth 100000
set_option maxHeartbeats 4000000
section
namespace Go.Proofs.Ytmljmabbopkpiaa
open Go.RowKit
set_option maxRecDepth 100000 in
theorem registers_c (op a b c n:Int)(w:World):Calls Try.prog 124 #[.agg #[.int .u8 op,.int .u8 a,.int .u8 b,.int .u8 c,.int .i64 n]] w fun e w'=>
  e=.returned (.agg #[.int .u8 a,.int .u8 b,.int .u8 c])∧Below w.heap.size w w':=by
 go_enter Try.func124,Try.ntmps124
 go_wp2
 exact bodyPost_ret (v:=.agg #[.int .u8 a,.int .u8 b,.int .u8 c]) (by simp[results,Try.results124,go_sem]) rfl ⟨rfl,((Below.refl _ _).alloc (Nat.le_refl _) _).alloc (by simp) _⟩
set_option maxRecDepth 100000 in
set_option maxHeartbeats 4000000 in
theorem one_k1 (op a b c n:Int)(w:World)(a0:0≤a)(a1:a≤255)(b0:0≤b)(b1:b≤255)(c0:0≤c)(c1:c≤255)
   (hform:∀w,Calls Try.prog 39 #[.int .u8 op] w fun e w'=>e=.returned (.tuple #[.string ⟨#[114,114,114]⟩,.bool true])∧Below w.heap.size w w') :
    Calls Try.prog 97 #[.agg #[.int .u8 op,.int .u8 a,.int .u8 b,.int .u8 c,.int .i64 n]] w fun e w'=>e=.returned (.int .i64 (oneK 1 a b c n))∧Below w.heap.size w w':=by
  go_enter Try.func97,Try.ntmps97
  have HF:=Lib.hid hform
  clear hform
  go_wp2_with fail
  refine(HF.out _).mono ?_
  rintro e w1 ⟨rfl,hb1⟩
  have hz1:=hb1.size
  simp at hz1
  have hz1':w.heap.size < w1.heap.size:=by omega
  have c1_:∀o,w1.cell? ⟨w.heap.size,o,none⟩ = #[Value.int .u8 op,.int .u8 a,.int .u8 b,.int .u8 c,.int .i64 n][o]? := fun o=>by
    rw[hb1.cell (p:=⟨w.heap.size,o,none⟩) (by simp)];exact cell_of_row _ _ _ _ _ _ (heap_alloc_new w _)
  have HB1:=Lib.hid (((Below.refl _ w).alloc (Nat.le_refl _) _).trans (hb1.mono (by simp)))
  clear hb1 HF
  go_upto_region 4 with fail
  go_cut [5,6] (fun p m W=>∃g,p=.pointer (some ⟨g,0,none⟩)∧m=.int .i64 n∧w.heap.size≤g∧g < W.heap.size∧Below w.heap.size w W∧W.cell? ⟨g,0,none⟩=some (.int .u8 a)∧W.cell? ⟨g,1,none⟩=some (.int .u8 b)∧W.cell? ⟨g,2,none⟩=some (.int .u8 c)∧(∀o,W.frozen? ⟨g,o,none⟩=false))
  case first=>
    go_region_held3 (fun W=>Below w1.heap.size w1 W∧∀b o,b < w1.heap.size→W.cell? ⟨b,o,none⟩=w1.cell? ⟨b,o,none⟩)
      (repeat' (first|exact preD|assumption|exact preR|refine preB ?_ hb2|refine preE ?_|refine preA ?_ _|refine preS ?_ ?_ _|omega |(simp;done) |(simp;omega)))
      ((go_at_call 124;refine(registers_c _ _ _ _ _ _).mono ?_;rintro e w2 ⟨rfl,hb2⟩;obtain⟨hc2,hf2⟩:=bcell hb2;have hz2:=hb2.size;simp at hz2))
    all_goals (go_wp2_with fail;go_meet)
    all_goals refine⟨_,rfl,rfl,?_,?_,HB1.out.trans (Below.mono (And.left (by assumption)) (by omega)),?_,?_,?_,?_⟩
    all_goals first|omega |(simp;omega)|go_simp|skip
  case rest=>
    obtain⟨g,rfl,rfl,hg1,hg2,hB,h0,h1,h2,hf⟩:=hcut
    have hz:=hB.size
    have HB:=Lib.hid hB
    have e3:=fun x y z w=>eq3 x y z 0 0 0 w
    clear hB HB1 c1_ hz1 hz1'
    have i1:=fun W (p i:Nat) v=>iter_setCell W ⟨#[114,114,114]⟩ p g i v
    have i2:=fun W (p i:Nat)=>iter_cell W ⟨#[114,114,114]⟩ p g i
    have i3:=fun W (p i:Nat)=>iter_frozen W ⟨#[114,114,114]⟩ p g i
    have n0_:=fun W n ty hn=>next_at (P:=Try.prog) W ⟨#[114,114,114]⟩ 0 1 n 114 ty hn (by decide) (by decide) (by decide) rfl
    have n1_:=fun W n ty hn=>next_at (P:=Try.prog) W ⟨#[114,114,114]⟩ 1 2 n 114 ty hn (by decide) (by decide) (by decide) rfl
    have n2_:=fun W n ty hn=>next_at (P:=Try.prog) W ⟨#[114,114,114]⟩ 2 3 n 114 ty hn (by decide) (by decide) (by decide) rfl
    have n3_:=fun W n ty hn=>next_end (P:=Try.prog) W ⟨#[114,114,114]⟩ 3 n ty hn (by decide)
    go_wp2
    refine wp_loop_rounds 4 ?_
    all_goals (rw[rounds_succ];go_wp2)
    any_goals (rw[rounds_succ];go_wp2)
    any_goals (rw[rounds_succ];go_wp2)
    any_goals (rw[rounds_succ];go_wp2)
    all_goals (go_ret;refine⟨ret_i64 ?_,?_⟩)
    all_goals first
      | exact HB.out.alloc hz _
      | exact(HB.out.setCell (p:=⟨g,_,none⟩) hg1 _).alloc (by simp;omega) _
      | exact((HB.out.setCell (p:=⟨g,_,none⟩) hg1 _).setCell (p:=⟨g,_,none⟩) hg1 _).alloc (by simp;omega) _
      | exact(((HB.out.setCell (p:=⟨g,_,none⟩) hg1 _).setCell (p:=⟨g,_,none⟩) hg1 _).setCell (p:=⟨g,_,none⟩) hg1 _).alloc (by simp;omega) _
      |(rw[oneK_pos (by simp only[x0_];omega)])
      |(rw[y1_ (by simp only[x0_];omega)])
      | (have hn:(n != 0)=true:=by assumption
         rw[bne_iff_ne]at hn
         rw[y1_ (by simp only[x0_];omega)])
      | (have hn:(n != 0)=false:=by assumption
         rw[bne_eq_false_iff_eq]at hn
         rw[oneK_pos (by simp only[x0_];omega)])
      | (have hn:(n != 0)=false:=by assumption
         rw[bne_eq_false_iff_eq]at hn
         rw[y1_ (by simp only[x0_];omega)])
set_option maxRecDepth 100000 in
set_option maxHeartbeats 4000000 in
theorem one_k2 (op a b c n:Int)(w:World)(a0:0≤a)(a1:a≤255)(b0:0≤b)(b1:b≤255)(c0:0≤c)(c1:c≤255)
   (hform:∀w,Calls Try.prog 39 #[.int .u8 op] w fun e w'=>e=.returned (.tuple #[.string ⟨#[]⟩,.bool true])∧Below w.heap.size w w') :
    Calls Try.prog 97 #[.agg #[.int .u8 op,.int .u8 a,.int .u8 b,.int .u8 c,.int .i64 n]] w fun e w'=>e=.returned (.int .i64 (oneK 2 a b c n))∧Below w.heap.size w w':=by
  go_enter Try.func97,Try.ntmps97
  have HF:=Lib.hid hform
  clear hform
  go_wp2_with fail
  refine(HF.out _).mono ?_
  rintro e w1 ⟨rfl,hb1⟩
  have hz1:=hb1.size
  simp at hz1
  have hz1':w.heap.size < w1.heap.size:=by omega
  have c1_:∀o,w1.cell? ⟨w.heap.size,o,none⟩ = #[Value.int .u8 op,.int .u8 a,.int .u8 b,.int .u8 c,.int .i64 n][o]? := fun o=>by
    rw[hb1.cell (p:=⟨w.heap.size,o,none⟩) (by simp)];exact cell_of_row _ _ _ _ _ _ (heap_alloc_new w _)
  have HB1:=Lib.hid (((Below.refl _ w).alloc (Nat.le_refl _) _).trans (hb1.mono (by simp)))
  clear hb1 HF
  go_upto_region 4 with fail
  go_cut [5,6] (fun p m W=>∃g,p=.pointer (some ⟨g,0,none⟩)∧m=.int .i64 n∧w.heap.size≤g∧g < W.heap.size∧Below w.heap.size w W∧W.cell? ⟨g,0,none⟩=some (.int .u8 a)∧W.cell? ⟨g,1,none⟩=some (.int .u8 b)∧W.cell? ⟨g,2,none⟩=some (.int .u8 c)∧(∀o,W.frozen? ⟨g,o,none⟩=false))
  case first=>
    go_region_held3 (fun W=>Below w1.heap.size w1 W∧∀b o,b < w1.heap.size→W.cell? ⟨b,o,none⟩=w1.cell? ⟨b,o,none⟩)
      (repeat' (first|exact preD|assumption|exact preR|refine preB ?_ hb2|refine preE ?_|refine preA ?_ _|refine preS ?_ ?_ _|omega |(simp;done) |(simp;omega)))
      ((go_at_call 124;refine(registers_c _ _ _ _ _ _).mono ?_;rintro e w2 ⟨rfl,hb2⟩;obtain⟨hc2,hf2⟩:=bcell hb2;have hz2:=hb2.size;simp at hz2))
    all_goals (go_wp2_with fail;go_meet)
    all_goals refine⟨_,rfl,rfl,?_,?_,HB1.out.trans (Below.mono (And.left (by assumption)) (by omega)),?_,?_,?_,?_⟩
    all_goals first|omega |(simp;omega)|go_simp|skip
  case rest=>
    obtain⟨g,rfl,rfl,hg1,hg2,hB,h0,h1,h2,hf⟩:=hcut
    have hz:=hB.size
    have HB:=Lib.hid hB
    have e3:=fun x y z w=>eq3 x y z 0 0 0 w
    clear hB HB1 c1_ hz1 hz1'
    have i1:=fun W (p i:Nat) v=>iter_setCell W ⟨#[]⟩ p g i v
    have i2:=fun W (p i:Nat)=>iter_cell W ⟨#[]⟩ p g i
    have i3:=fun W (p i:Nat)=>iter_frozen W ⟨#[]⟩ p g i
    have n0_:=fun W n ty hn=>next_end (P:=Try.prog) W ⟨#[]⟩ 0 n ty hn (by decide)
    go_wp2
    refine wp_loop_rounds 1 ?_
    all_goals (rw[rounds_succ];go_wp2)
    all_goals (go_ret;refine⟨ret_i64 ?_,?_⟩)
    all_goals first
      | exact HB.out.alloc hz _
      | exact(HB.out.setCell (p:=⟨g,_,none⟩) hg1 _).alloc (by simp;omega) _
      | exact((HB.out.setCell (p:=⟨g,_,none⟩) hg1 _).setCell (p:=⟨g,_,none⟩) hg1 _).alloc (by simp;omega) _
      | exact(((HB.out.setCell (p:=⟨g,_,none⟩) hg1 _).setCell (p:=⟨g,_,none⟩) hg1 _).setCell (p:=⟨g,_,none⟩) hg1 _).alloc (by simp;omega) _
      |(rw[oneK_pos (by simp only[x0_];omega)])
      |(rw[y1_ (by simp only[x0_];omega)])
      | (have hn:(n != 0)=true:=by assumption
         rw[bne_iff_ne]at hn
         rw[y1_ (by simp only[x0_];omega)])
      | (have hn:(n != 0)=false:=by assumption
         rw[bne_eq_false_iff_eq]at hn
         rw[oneK_pos (by simp only[x0_];omega)])
      | (have hn:(n != 0)=false:=by assumption
         rw[bne_eq_false_iff_eq]at hn
         rw[y1_ (by simp only[x0_];omega)])
set_option maxRecDepth 100000 in
set_option maxHeartbeats 4000000 in
theorem one_k3 (op a b c n:Int)(w:World)(a0:0≤a)(a1:a≤255)(b0:0≤b)(b1:b≤255)(c0:0≤c)(c1:c≤255)
   (hform:∀w,Calls Try.prog 39 #[.int .u8 op] w fun e w'=>e=.returned (.tuple #[.string ⟨#[114,110]⟩,.bool true])∧Below w.heap.size w w') :
    Calls Try.prog 97 #[.agg #[.int .u8 op,.int .u8 a,.int .u8 b,.int .u8 c,.int .i64 n]] w fun e w'=>e=.returned (.int .i64 (oneK 3 a b c n))∧Below w.heap.size w w':=by
  go_enter Try.func97,Try.ntmps97
  have HF:=Lib.hid hform
  clear hform
  go_wp2_with fail
  refine(HF.out _).mono ?_
  rintro e w1 ⟨rfl,hb1⟩
  have hz1:=hb1.size
  simp at hz1
  have hz1':w.heap.size < w1.heap.size:=by omega
  have c1_:∀o,w1.cell? ⟨w.heap.size,o,none⟩ = #[Value.int .u8 op,.int .u8 a,.int .u8 b,.int .u8 c,.int .i64 n][o]? := fun o=>by
    rw[hb1.cell (p:=⟨w.heap.size,o,none⟩) (by simp)];exact cell_of_row _ _ _ _ _ _ (heap_alloc_new w _)
  have HB1:=Lib.hid (((Below.refl _ w).alloc (Nat.le_refl _) _).trans (hb1.mono (by simp)))
  clear hb1 HF
  go_upto_region 4 with fail
  go_cut [5,6] (fun p m W=>∃g,p=.pointer (some ⟨g,0,none⟩)∧m=.int .i64 n∧w.heap.size≤g∧g < W.heap.size∧Below w.heap.size w W∧W.cell? ⟨g,0,none⟩=some (.int .u8 a)∧W.cell? ⟨g,1,none⟩=some (.int .u8 b)∧W.cell? ⟨g,2,none⟩=some (.int .u8 c)∧(∀o,W.frozen? ⟨g,o,none⟩=false))
  case first=>
    go_region_held3 (fun W=>Below w1.heap.size w1 W∧∀b o,b < w1.heap.size→W.cell? ⟨b,o,none⟩=w1.cell? ⟨b,o,none⟩)
      (repeat' (first|exact preD|assumption|exact preR|refine preB ?_ hb2|refine preE ?_|refine preA ?_ _|refine preS ?_ ?_ _|omega |(simp;done) |(simp;omega)))
      ((go_at_call 124;refine(registers_c _ _ _ _ _ _).mono ?_;rintro e w2 ⟨rfl,hb2⟩;obtain⟨hc2,hf2⟩:=bcell hb2;have hz2:=hb2.size;simp at hz2))
    all_goals (go_wp2_with fail;go_meet)
    all_goals refine⟨_,rfl,rfl,?_,?_,HB1.out.trans (Below.mono (And.left (by assumption)) (by omega)),?_,?_,?_,?_⟩
    all_goals first|omega |(simp;omega)|go_simp|skip
  case rest=>
    obtain⟨g,rfl,rfl,hg1,hg2,hB,h0,h1,h2,hf⟩:=hcut
    have hz:=hB.size
    have HB:=Lib.hid hB
    have e3:=fun x y z w=>eq3 x y z 0 0 0 w
    clear hB HB1 c1_ hz1 hz1'
    have i1:=fun W (p i:Nat) v=>iter_setCell W ⟨#[114,110]⟩ p g i v
    have i2:=fun W (p i:Nat)=>iter_cell W ⟨#[114,110]⟩ p g i
    have i3:=fun W (p i:Nat)=>iter_frozen W ⟨#[114,110]⟩ p g i
    have n0_:=fun W n ty hn=>next_at (P:=Try.prog) W ⟨#[114,110]⟩ 0 1 n 114 ty hn (by decide) (by decide) (by decide) rfl
    have n1_:=fun W n ty hn=>next_at (P:=Try.prog) W ⟨#[114,110]⟩ 1 2 n 110 ty hn (by decide) (by decide) (by decide) rfl
    have n2_:=fun W n ty hn=>next_end (P:=Try.prog) W ⟨#[114,110]⟩ 2 n ty hn (by decide)
    go_wp2
    refine wp_loop_rounds 3 ?_
    all_goals (rw[rounds_succ];go_wp2)
    any_goals (rw[rounds_succ];go_wp2)
    any_goals (rw[rounds_succ];go_wp2)
    all_goals (go_ret;refine⟨ret_i64 ?_,?_⟩)
    all_goals first
      | exact HB.out.alloc hz _
      | exact(HB.out.setCell (p:=⟨g,_,none⟩) hg1 _).alloc (by simp;omega) _
      | exact((HB.out.setCell (p:=⟨g,_,none⟩) hg1 _).setCell (p:=⟨g,_,none⟩) hg1 _).alloc (by simp;omega) _
      | exact(((HB.out.setCell (p:=⟨g,_,none⟩) hg1 _).setCell (p:=⟨g,_,none⟩) hg1 _).setCell (p:=⟨g,_,none⟩) hg1 _).alloc (by simp;omega) _
      |(rw[oneK_pos (by simp only[x0_];omega)])
      |(rw[y1_ (by simp only[x0_];omega)])
      | (have hn:(n != 0)=true:=by assumption
         rw[bne_iff_ne]at hn
         rw[y1_ (by simp only[x0_];omega)])
      | (have hn:(n != 0)=false:=by assumption
         rw[bne_eq_false_iff_eq]at hn
         rw[oneK_pos (by simp only[x0_];omega)])
      | (have hn:(n != 0)=false:=by assumption
         rw[bne_eq_false_iff_eq]at hn
         rw[y1_ (by simp only[x0_];omega)])
set_option maxRecDepth 100000 in
set_option maxHeartbeats 4000000 in
theorem one_k4 (op a b c n:Int)(w:World)(a0:0≤a)(a1:a≤255)(b0:0≤b)(b1:b≤255)(c0:0≤c)(c1:c≤255)
   (hform:∀w,Calls Try.prog 39 #[.int .u8 op] w fun e w'=>e=.returned (.tuple #[.string ⟨#[114,114]⟩,.bool true])∧Below w.heap.size w w') :
    Calls Try.prog 97 #[.agg #[.int .u8 op,.int .u8 a,.int .u8 b,.int .u8 c,.int .i64 n]] w fun e w'=>e=.returned (.int .i64 (oneK 4 a b c n))∧Below w.heap.size w w':=by
  go_enter Try.func97,Try.ntmps97
  have HF:=Lib.hid hform
  clear hform
  go_wp2_with fail
  refine(HF.out _).mono ?_
  rintro e w1 ⟨rfl,hb1⟩
  have hz1:=hb1.size
  simp at hz1
  have hz1':w.heap.size < w1.heap.size:=by omega
  have c1_:∀o,w1.cell? ⟨w.heap.size,o,none⟩ = #[Value.int .u8 op,.int .u8 a,.int .u8 b,.int .u8 c,.int .i64 n][o]? := fun o=>by
    rw[hb1.cell (p:=⟨w.heap.size,o,none⟩) (by simp)];exact cell_of_row _ _ _ _ _ _ (heap_alloc_new w _)
  have HB1:=Lib.hid (((Below.refl _ w).alloc (Nat.le_refl _) _).trans (hb1.mono (by simp)))
  clear hb1 HF
  go_upto_region 4 with fail
  go_cut [5,6] (fun p m W=>∃g,p=.pointer (some ⟨g,0,none⟩)∧m=.int .i64 n∧w.heap.size≤g∧g < W.heap.size∧Below w.heap.size w W∧W.cell? ⟨g,0,none⟩=some (.int .u8 a)∧W.cell? ⟨g,1,none⟩=some (.int .u8 b)∧W.cell? ⟨g,2,none⟩=some (.int .u8 c)∧(∀o,W.frozen? ⟨g,o,none⟩=false))
  case first=>
    go_region_held3 (fun W=>Below w1.heap.size w1 W∧∀b o,b < w1.heap.size→W.cell? ⟨b,o,none⟩=w1.cell? ⟨b,o,none⟩)
      (repeat' (first|exact preD|assumption|exact preR|refine preB ?_ hb2|refine preE ?_|refine preA ?_ _|refine preS ?_ ?_ _|omega |(simp;done) |(simp;omega)))
      ((go_at_call 124;refine(registers_c _ _ _ _ _ _).mono ?_;rintro e w2 ⟨rfl,hb2⟩;obtain⟨hc2,hf2⟩:=bcell hb2;have hz2:=hb2.size;simp at hz2))
    all_goals (go_wp2_with fail;go_meet)
    all_goals refine⟨_,rfl,rfl,?_,?_,HB1.out.trans (Below.mono (And.left (by assumption)) (by omega)),?_,?_,?_,?_⟩
    all_goals first|omega |(simp;omega)|go_simp|skip
  case rest=>
    obtain⟨g,rfl,rfl,hg1,hg2,hB,h0,h1,h2,hf⟩:=hcut
    have hz:=hB.size
    have HB:=Lib.hid hB
    have e3:=fun x y z w=>eq3 x y z 0 0 0 w
    clear hB HB1 c1_ hz1 hz1'
    have i1:=fun W (p i:Nat) v=>iter_setCell W ⟨#[114,114]⟩ p g i v
    have i2:=fun W (p i:Nat)=>iter_cell W ⟨#[114,114]⟩ p g i
    have i3:=fun W (p i:Nat)=>iter_frozen W ⟨#[114,114]⟩ p g i
    have n0_:=fun W n ty hn=>next_at (P:=Try.prog) W ⟨#[114,114]⟩ 0 1 n 114 ty hn (by decide) (by decide) (by decide) rfl
    have n1_:=fun W n ty hn=>next_at (P:=Try.prog) W ⟨#[114,114]⟩ 1 2 n 114 ty hn (by decide) (by decide) (by decide) rfl
    have n2_:=fun W n ty hn=>next_end (P:=Try.prog) W ⟨#[114,114]⟩ 2 n ty hn (by decide)
    go_wp2
    refine wp_loop_rounds 3 ?_
    all_goals (rw[rounds_succ];go_wp2)
    any_goals (rw[rounds_succ];go_wp2)
    any_goals (rw[rounds_succ];go_wp2)
    all_goals (go_ret;refine⟨ret_i64 ?_,?_⟩)
    all_goals first
      | exact HB.out.alloc hz _
      | exact(HB.out.setCell (p:=⟨g,_,none⟩) hg1 _).alloc (by simp;omega) _
      | exact((HB.out.setCell (p:=⟨g,_,none⟩) hg1 _).setCell (p:=⟨g,_,none⟩) hg1 _).alloc (by simp;omega) _
      | exact(((HB.out.setCell (p:=⟨g,_,none⟩) hg1 _).setCell (p:=⟨g,_,none⟩) hg1 _).setCell (p:=⟨g,_,none⟩) hg1 _).alloc (by simp;omega) _
      |(rw[oneK_pos (by simp only[x0_];omega)])
      |(rw[y1_ (by simp only[x0_];omega)])
      | (have hn:(n != 0)=true:=by assumption
         rw[bne_iff_ne]at hn
         rw[y1_ (by simp only[x0_];omega)])
      | (have hn:(n != 0)=false:=by assumption
         rw[bne_eq_false_iff_eq]at hn
         rw[oneK_pos (by simp only[x0_];omega)])
      | (have hn:(n != 0)=false:=by assumption
         rw[bne_eq_false_iff_eq]at hn
         rw[y1_ (by simp only[x0_];omega)])
set_option maxRecDepth 100000 in
set_option maxHeartbeats 4000000 in
theorem one_k5 (op a b c n:Int)(w:World)(a0:0≤a)(a1:a≤255)(b0:0≤b)(b1:b≤255)(c0:0≤c)(c1:c≤255)
   (hform:∀w,Calls Try.prog 39 #[.int .u8 op] w fun e w'=>e=.returned (.tuple #[.string ⟨#[114,114,112]⟩,.bool true])∧Below w.heap.size w w') :
    Calls Try.prog 97 #[.agg #[.int .u8 op,.int .u8 a,.int .u8 b,.int .u8 c,.int .i64 n]] w fun e w'=>e=.returned (.int .i64 (oneK 5 a b c n))∧Below w.heap.size w w':=by
  go_enter Try.func97,Try.ntmps97
  have HF:=Lib.hid hform
  clear hform
  go_wp2_with fail
  refine(HF.out _).mono ?_
  rintro e w1 ⟨rfl,hb1⟩
  have hz1:=hb1.size
  simp at hz1
  have hz1':w.heap.size < w1.heap.size:=by omega
  have c1_:∀o,w1.cell? ⟨w.heap.size,o,none⟩ = #[Value.int .u8 op,.int .u8 a,.int .u8 b,.int .u8 c,.int .i64 n][o]? := fun o=>by
    rw[hb1.cell (p:=⟨w.heap.size,o,none⟩) (by simp)];exact cell_of_row _ _ _ _ _ _ (heap_alloc_new w _)
  have HB1:=Lib.hid (((Below.refl _ w).alloc (Nat.le_refl _) _).trans (hb1.mono (by simp)))
  clear hb1 HF
  go_upto_region 4 with fail
  go_cut [5,6] (fun p m W=>∃g,p=.pointer (some ⟨g,0,none⟩)∧m=.int .i64 n∧w.heap.size≤g∧g < W.heap.size∧Below w.heap.size w W∧W.cell? ⟨g,0,none⟩=some (.int .u8 a)∧W.cell? ⟨g,1,none⟩=some (.int .u8 b)∧W.cell? ⟨g,2,none⟩=some (.int .u8 c)∧(∀o,W.frozen? ⟨g,o,none⟩=false))
  case first=>
    go_region_held3 (fun W=>Below w1.heap.size w1 W∧∀b o,b < w1.heap.size→W.cell? ⟨b,o,none⟩=w1.cell? ⟨b,o,none⟩)
      (repeat' (first|exact preD|assumption|exact preR|refine preB ?_ hb2|refine preE ?_|refine preA ?_ _|refine preS ?_ ?_ _|omega |(simp;done) |(simp;omega)))
      ((go_at_call 124;refine(registers_c _ _ _ _ _ _).mono ?_;rintro e w2 ⟨rfl,hb2⟩;obtain⟨hc2,hf2⟩:=bcell hb2;have hz2:=hb2.size;simp at hz2))
    all_goals (go_wp2_with fail;go_meet)
    all_goals refine⟨_,rfl,rfl,?_,?_,HB1.out.trans (Below.mono (And.left (by assumption)) (by omega)),?_,?_,?_,?_⟩
    all_goals first|omega |(simp;omega)|go_simp|skip
  case rest=>
    obtain⟨g,rfl,rfl,hg1,hg2,hB,h0,h1,h2,hf⟩:=hcut
    have hz:=hB.size
    have HB:=Lib.hid hB
    have e3:=fun x y z w=>eq3 x y z 0 0 0 w
    clear hB HB1 c1_ hz1 hz1'
    have i1:=fun W (p i:Nat) v=>iter_setCell W ⟨#[114,114,112]⟩ p g i v
    have i2:=fun W (p i:Nat)=>iter_cell W ⟨#[114,114,112]⟩ p g i
    have i3:=fun W (p i:Nat)=>iter_frozen W ⟨#[114,114,112]⟩ p g i
    have n0_:=fun W n ty hn=>next_at (P:=Try.prog) W ⟨#[114,114,112]⟩ 0 1 n 114 ty hn (by decide) (by decide) (by decide) rfl
    have n1_:=fun W n ty hn=>next_at (P:=Try.prog) W ⟨#[114,114,112]⟩ 1 2 n 114 ty hn (by decide) (by decide) (by decide) rfl
    have n2_:=fun W n ty hn=>next_at (P:=Try.prog) W ⟨#[114,114,112]⟩ 2 3 n 112 ty hn (by decide) (by decide) (by decide) rfl
    have n3_:=fun W n ty hn=>next_end (P:=Try.prog) W ⟨#[114,114,112]⟩ 3 n ty hn (by decide)
    go_wp2
    refine wp_loop_rounds 4 ?_
    all_goals (rw[rounds_succ];go_wp2)
    any_goals (rw[rounds_succ];go_wp2)
    any_goals (rw[rounds_succ];go_wp2)
    any_goals (rw[rounds_succ];go_wp2)
    all_goals (go_ret;refine⟨ret_i64 ?_,?_⟩)
    all_goals first
      | exact HB.out.alloc hz _
      | exact(HB.out.setCell (p:=⟨g,_,none⟩) hg1 _).alloc (by simp;omega) _
      | exact((HB.out.setCell (p:=⟨g,_,none⟩) hg1 _).setCell (p:=⟨g,_,none⟩) hg1 _).alloc (by simp;omega) _
      | exact(((HB.out.setCell (p:=⟨g,_,none⟩) hg1 _).setCell (p:=⟨g,_,none⟩) hg1 _).setCell (p:=⟨g,_,none⟩) hg1 _).alloc (by simp;omega) _
      |(rw[oneK_pos (by simp only[x0_];omega)])
      |(rw[y1_ (by simp only[x0_];omega)])
      | (have hn:(n != 0)=true:=by assumption
         rw[bne_iff_ne]at hn
         rw[y1_ (by simp only[x0_];omega)])
      | (have hn:(n != 0)=false:=by assumption
         rw[bne_eq_false_iff_eq]at hn
         rw[oneK_pos (by simp only[x0_];omega)])
      | (have hn:(n != 0)=false:=by assumption
         rw[bne_eq_false_iff_eq]at hn
         rw[y1_ (by simp only[x0_];omega)])
set_option maxRecDepth 100000 in
set_option maxHeartbeats 4000000 in
theorem one_k6 (op a b c n:Int)(w:World)(a0:0≤a)(a1:a≤255)(b0:0≤b)(b1:b≤255)(c0:0≤c)(c1:c≤255)
   (hform:∀w,Calls Try.prog 39 #[.int .u8 op] w fun e w'=>e=.returned (.tuple #[.string ⟨#[116]⟩,.bool true])∧Below w.heap.size w w') :
    Calls Try.prog 97 #[.agg #[.int .u8 op,.int .u8 a,.int .u8 b,.int .u8 c,.int .i64 n]] w fun e w'=>e=.returned (.int .i64 (oneK 6 a b c n))∧Below w.heap.size w w':=by
  go_enter Try.func97,Try.ntmps97
  have HF:=Lib.hid hform
  clear hform
  go_wp2_with fail
  refine(HF.out _).mono ?_
  rintro e w1 ⟨rfl,hb1⟩
  have hz1:=hb1.size
  simp at hz1
  have hz1':w.heap.size < w1.heap.size:=by omega
  have c1_:∀o,w1.cell? ⟨w.heap.size,o,none⟩ = #[Value.int .u8 op,.int .u8 a,.int .u8 b,.int .u8 c,.int .i64 n][o]? := fun o=>by
    rw[hb1.cell (p:=⟨w.heap.size,o,none⟩) (by simp)];exact cell_of_row _ _ _ _ _ _ (heap_alloc_new w _)
  have HB1:=Lib.hid (((Below.refl _ w).alloc (Nat.le_refl _) _).trans (hb1.mono (by simp)))
  clear hb1 HF
  go_upto_region 4 with fail
  go_cut [5,6] (fun p m W=>∃g,p=.pointer (some ⟨g,0,none⟩)∧m=.int .i64 n∧w.heap.size≤g∧g < W.heap.size∧Below w.heap.size w W∧W.cell? ⟨g,0,none⟩=some (.int .u8 a)∧W.cell? ⟨g,1,none⟩=some (.int .u8 b)∧W.cell? ⟨g,2,none⟩=some (.int .u8 c)∧(∀o,W.frozen? ⟨g,o,none⟩=false))
  case first=>
    go_region_held3 (fun W=>Below w1.heap.size w1 W∧∀b o,b < w1.heap.size→W.cell? ⟨b,o,none⟩=w1.cell? ⟨b,o,none⟩)
      (repeat' (first|exact preD|assumption|exact preR|refine preB ?_ hb2|refine preE ?_|refine preA ?_ _|refine preS ?_ ?_ _|omega |(simp;done) |(simp;omega)))
      ((go_at_call 124;refine(registers_c _ _ _ _ _ _).mono ?_;rintro e w2 ⟨rfl,hb2⟩;obtain⟨hc2,hf2⟩:=bcell hb2;have hz2:=hb2.size;simp at hz2))
    all_goals (go_wp2_with fail;go_meet)
    all_goals refine⟨_,rfl,rfl,?_,?_,HB1.out.trans (Below.mono (And.left (by assumption)) (by omega)),?_,?_,?_,?_⟩
    all_goals first|omega |(simp;omega)|go_simp|skip
  case rest=>
    obtain⟨g,rfl,rfl,hg1,hg2,hB,h0,h1,h2,hf⟩:=hcut
    have hz:=hB.size
    have HB:=Lib.hid hB
    have e3:=fun x y z w=>eq3 x y z 0 0 0 w
    clear hB HB1 c1_ hz1 hz1'
    have i1:=fun W (p i:Nat) v=>iter_setCell W ⟨#[116]⟩ p g i v
    have i2:=fun W (p i:Nat)=>iter_cell W ⟨#[116]⟩ p g i
    have i3:=fun W (p i:Nat)=>iter_frozen W ⟨#[116]⟩ p g i
    have n0_:=fun W n ty hn=>next_at (P:=Try.prog) W ⟨#[116]⟩ 0 1 n 116 ty hn (by decide) (by decide) (by decide) rfl
    have n1_:=fun W n ty hn=>next_end (P:=Try.prog) W ⟨#[116]⟩ 1 n ty hn (by decide)
    go_wp2
    refine wp_loop_rounds 2 ?_
    all_goals (rw[rounds_succ];go_wp2)
    any_goals (rw[rounds_succ];go_wp2)
    all_goals (go_ret;refine⟨ret_i64 ?_,?_⟩)
    all_goals first
      | exact HB.out.alloc hz _
      | exact(HB.out.setCell (p:=⟨g,_,none⟩) hg1 _).alloc (by simp;omega) _
      | exact((HB.out.setCell (p:=⟨g,_,none⟩) hg1 _).setCell (p:=⟨g,_,none⟩) hg1 _).alloc (by simp;omega) _
      | exact(((HB.out.setCell (p:=⟨g,_,none⟩) hg1 _).setCell (p:=⟨g,_,none⟩) hg1 _).setCell (p:=⟨g,_,none⟩) hg1 _).alloc (by simp;omega) _
      |(rw[oneK_pos (by simp only[x0_];omega)])
      |(rw[y1_ (by simp only[x0_];omega)])
      | (have hn:(n != 0)=true:=by assumption
         rw[bne_iff_ne]at hn
         rw[y1_ (by simp only[x0_];omega)])
      | (have hn:(n != 0)=false:=by assumption
         rw[bne_eq_false_iff_eq]at hn
         rw[oneK_pos (by simp only[x0_];omega)])
      | (have hn:(n != 0)=false:=by assumption
         rw[bne_eq_false_iff_eq]at hn
         rw[y1_ (by simp only[x0_];omega)])
set_option maxRecDepth 100000 in
set_option maxHeartbeats 4000000 in
theorem one_k7 (op a b c n:Int)(w:World)(a0:0≤a)(a1:a≤255)(b0:0≤b)(b1:b≤255)(c0:0≤c)(c1:c≤255)
   (hform:∀w,Calls Try.prog 39 #[.int .u8 op] w fun e w'=>e=.returned (.tuple #[.string ⟨#[114,116]⟩,.bool true])∧Below w.heap.size w w') :
    Calls Try.prog 97 #[.agg #[.int .u8 op,.int .u8 a,.int .u8 b,.int .u8 c,.int .i64 n]] w fun e w'=>e=.returned (.int .i64 (oneK 7 a b c n))∧Below w.heap.size w w':=by
  go_enter Try.func97,Try.ntmps97
  have HF:=Lib.hid hform
  clear hform
  go_wp2_with fail
  refine(HF.out _).mono ?_
  rintro e w1 ⟨rfl,hb1⟩
  have hz1:=hb1.size
  simp at hz1
  have hz1':w.heap.size < w1.heap.size:=by omega
  have c1_:∀o,w1.cell? ⟨w.heap.size,o,none⟩ = #[Value.int .u8 op,.int .u8 a,.int .u8 b,.int .u8 c,.int .i64 n][o]? := fun o=>by
    rw[hb1.cell (p:=⟨w.heap.size,o,none⟩) (by simp)];exact cell_of_row _ _ _ _ _ _ (heap_alloc_new w _)
  have HB1:=Lib.hid (((Below.refl _ w).alloc (Nat.le_refl _) _).trans (hb1.mono (by simp)))
  clear hb1 HF
  go_upto_region 4 with fail
  go_cut [5,6] (fun p m W=>∃g,p=.pointer (some ⟨g,0,none⟩)∧m=.int .i64 n∧w.heap.size≤g∧g < W.heap.size∧Below w.heap.size w W∧W.cell? ⟨g,0,none⟩=some (.int .u8 a)∧W.cell? ⟨g,1,none⟩=some (.int .u8 b)∧W.cell? ⟨g,2,none⟩=some (.int .u8 c)∧(∀o,W.frozen? ⟨g,o,none⟩=false))
  case first=>
    go_region_held3 (fun W=>Below w1.heap.size w1 W∧∀b o,b < w1.heap.size→W.cell? ⟨b,o,none⟩=w1.cell? ⟨b,o,none⟩)
      (repeat' (first|exact preD|assumption|exact preR|refine preB ?_ hb2|refine preE ?_|refine preA ?_ _|refine preS ?_ ?_ _|omega |(simp;done) |(simp;omega)))
      ((go_at_call 124;refine(registers_c _ _ _ _ _ _).mono ?_;rintro e w2 ⟨rfl,hb2⟩;obtain⟨hc2,hf2⟩:=bcell hb2;have hz2:=hb2.size;simp at hz2))
    all_goals (go_wp2_with fail;go_meet)
    all_goals refine⟨_,rfl,rfl,?_,?_,HB1.out.trans (Below.mono (And.left (by assumption)) (by omega)),?_,?_,?_,?_⟩
    all_goals first|omega |(simp;omega)|go_simp|skip
  case rest=>
    obtain⟨g,rfl,rfl,hg1,hg2,hB,h0,h1,h2,hf⟩:=hcut
    have hz:=hB.size
    have HB:=Lib.hid hB
    have e3:=fun x y z w=>eq3 x y z 0 0 0 w
    clear hB HB1 c1_ hz1 hz1'
    have i1:=fun W (p i:Nat) v=>iter_setCell W ⟨#[114,116]⟩ p g i v
    have i2:=fun W (p i:Nat)=>iter_cell W ⟨#[114,116]⟩ p g i
    have i3:=fun W (p i:Nat)=>iter_frozen W ⟨#[114,116]⟩ p g i
    have n0_:=fun W n ty hn=>next_at (P:=Try.prog) W ⟨#[114,116]⟩ 0 1 n 114 ty hn (by decide) (by decide) (by decide) rfl
    have n1_:=fun W n ty hn=>next_at (P:=Try.prog) W ⟨#[114,116]⟩ 1 2 n 116 ty hn (by decide) (by decide) (by decide) rfl
    have n2_:=fun W n ty hn=>next_end (P:=Try.prog) W ⟨#[114,116]⟩ 2 n ty hn (by decide)
    go_wp2
    refine wp_loop_rounds 3 ?_
    all_goals (rw[rounds_succ];go_wp2)
    any_goals (rw[rounds_succ];go_wp2)
    any_goals (rw[rounds_succ];go_wp2)
    all_goals (go_ret;refine⟨ret_i64 ?_,?_⟩)
    all_goals first
      | exact HB.out.alloc hz _
      | exact(HB.out.setCell (p:=⟨g,_,none⟩) hg1 _).alloc (by simp;omega) _
      | exact((HB.out.setCell (p:=⟨g,_,none⟩) hg1 _).setCell (p:=⟨g,_,none⟩) hg1 _).alloc (by simp;omega) _
      | exact(((HB.out.setCell (p:=⟨g,_,none⟩) hg1 _).setCell (p:=⟨g,_,none⟩) hg1 _).setCell (p:=⟨g,_,none⟩) hg1 _).alloc (by simp;omega) _
      |(rw[oneK_pos (by simp only[x0_];omega)])
      |(rw[y1_ (by simp only[x0_];omega)])
      | (have hn:(n != 0)=true:=by assumption
         rw[bne_iff_ne]at hn
         rw[y1_ (by simp only[x0_];omega)])
      | (have hn:(n != 0)=false:=by assumption
         rw[bne_eq_false_iff_eq]at hn
         rw[oneK_pos (by simp only[x0_];omega)])
      | (have hn:(n != 0)=false:=by assumption
         rw[bne_eq_false_iff_eq]at hn
         rw[y1_ (by simp only[x0_];omega)])
set_option maxHeartbeats 1000000 in
theorem one_k0 (op a b c n:Int)(w:World)
   (hform:∀w,Calls Try.prog 39 #[.int .u8 op] w fun e w'=>e=.returned (.tuple #[.string ⟨#[]⟩,.bool false])∧Below w.heap.size w w') :
    Calls Try.prog 97 #[.agg #[.int .u8 op,.int .u8 a,.int .u8 b,.int .u8 c,.int .i64 n]] w fun e w'=>e=.returned (.int .i64 140)∧Below w.heap.size w w':=by
  go_enter Try.func97,Try.ntmps97
  have HF:=Lib.hid hform
  clear hform
  go_wp2_with fail
  refine(HF.out _).mono ?_
  rintro e w1 ⟨rfl,hb1⟩
  go_wp2
  go_ret
  exact⟨rfl,((Below.refl _ w).alloc (Nat.le_refl _) _).trans (hb1.mono (by simp))⟩
theorem form_c (op:Int)(h0:0≤op)(w:World):Calls Try.prog 39 #[.int .u8 op] w fun e w'=>e=.returned (.tuple #[.string (y6_ (formC op)),.bool (formC op != 0)])∧Below w.heap.size w w':=by
 by_cases h:32 < op
 ·by_cases h':op≤49
  ·have hc:formC op=1:=by unfold formC;rw[if_pos ⟨h,h'⟩]
   rw[hc]
   exact form_rrr op w h h'
  ·exact form_hi op w (by omega)
 ·exact form_lo op w h0 (by omega)
theorem one_c (i:Ins)(hi:i.ok)(w:World):Calls Try.prog 97 #[i.v] w fun e w'=>e=.returned (.int .i64 (oneE i))∧Below w.heap.size w w':=by
 obtain⟨op,a,b,c,n⟩:=i
 obtain⟨o0,o1,a0,a1,b0,b1,c0,c1,n0,n1⟩:=hi
 dsimp only at *
 have hf:=form_c op o0
 unfold Ins.v oneE
 dsimp only
 have hk:formC op=0∨formC op=1∨formC op=2∨formC op=3∨formC op=4∨formC op=5∨formC op=6∨formC op=7:=by
  unfold formC;repeat (first |(split;· simp)|simp)
 rcases hk with h|h|h|h|h|h|h|h<;>rw[h]at hf<;>rw[h]
 ·exact one_k0 op a b c n w hf
 ·exact one_k1 op a b c n w a0 a1 b0 b1 c0 c1 hf
 ·exact one_k2 op a b c n w a0 a1 b0 b1 c0 c1 hf
 ·exact one_k3 op a b c n w a0 a1 b0 b1 c0 c1 hf
 ·exact one_k4 op a b c n w a0 a1 b0 b1 c0 c1 hf
 ·exact one_k5 op a b c n w a0 a1 b0 b1 c0 c1 hf
 ·exact one_k6 op a b c n w a0 a1 b0 b1 c0 c1 hf
 ·exact one_k7 op a b c n w a0 a1 b0 b1 c0 c1 hf
def goesB (i:Ins):Bool:=oneE i == 0 && (i.op != 1 && (i.op != 2 && i.op != 9))
set_option maxRecDepth 100000 in
set_option maxHeartbeats 1000000 in
theorem goes_c (i:Ins)(hi:i.ok)(w:World):Calls Try.prog 99 #[i.v] w fun e w'=>e=.returned (.bool (goesB i))∧Below w.heap.size w w':=by
 have h1:=fun w=>one_c i hi w
 obtain⟨E,hE⟩:∃E,E=oneE i:=⟨_,rfl⟩
 unfold goesB
 rw[←hE]at h1 ⊢
 obtain⟨op,a,b,c,n⟩:=i
 unfold Ins.v at h1 ⊢
 dsimp only at h1 ⊢
 have H1:=Lib.hid h1
 clear h1 hE hi
 go_enter Try.func99,Try.ntmps99
 go_wp2_with fail
 refine(H1.out _).mono ?_
 rintro e w1 ⟨rfl,hb1⟩
 have hB:=Lib.hid (((Below.refl _ w).alloc (Nat.le_refl _) _).trans (hb1.mono (by simp)))
 have q0:w1.cell? ⟨w.heap.size,0,none⟩=some (.int .u8 op):=by
  rw[hb1.cell (p:=⟨w.heap.size,0,none⟩) (by simp)];exact cell_of_row _ _ _ _ _ _ (heap_alloc_new w _)
 clear hb1
 go_wp2
 all_goals (go_ret;refine⟨?_,hB.out⟩)
 all_goals first |(simp[*];done) |(simp[*,Bool.and_assoc];done)
def xj_ (i:Ins):Bool:=oneE i == 0 && (i.op == 9 ||(i.op == 10 || i.op == 11))
def targV (i:Ins):Int:=if xj_ i then i.n else 0
set_option maxRecDepth 100000 in
set_option maxHeartbeats 1000000 in
theorem target_c (i:Ins)(hi:i.ok)(w:World):Calls Try.prog 98 #[i.v] w fun e w'=>e=.returned (.tuple #[.int .i64 (targV i),.bool (xj_ i)])∧Below w.heap.size w w':=by
 have h1:=fun w=>one_c i hi w
 obtain⟨E,hE⟩:∃E,E=oneE i:=⟨_,rfl⟩
 obtain⟨V,hV⟩:∃V,V=targV i:=⟨_,rfl⟩
 obtain⟨T,hT⟩:∃T,T=xj_ i:=⟨_,rfl⟩
 have hV':=hV
 unfold targV at hV'
 rw[←hT]at hV'
 have hT':=hT
 unfold xj_ at hT'
 rw[←hE]at h1 hT'
 rw[←hT,←hV]
 obtain⟨op,a,b,c,n⟩:=i
 unfold Ins.v at h1 ⊢
 dsimp only at h1 hT' hV' ⊢
 have H1:=Lib.hid h1
 have HT:=Lib.hid hT'
 have HV:=Lib.hid hV'
 clear h1 hE hi hT hT' hV hV'
 go_enter Try.func98,Try.ntmps98
 go_wp2_with fail
 refine(H1.out _).mono ?_
 rintro e w1 ⟨rfl,hb1⟩
 have hB:=Lib.hid (((Below.refl _ w).alloc (Nat.le_refl _) _).trans (hb1.mono (by simp)))
 have q0:w1.cell? ⟨w.heap.size,0,none⟩=some (.int .u8 op):=by
  rw[hb1.cell (p:=⟨w.heap.size,0,none⟩) (by simp)];exact cell_of_row _ _ _ _ _ _ (heap_alloc_new w _)
 have q4:w1.cell? ⟨w.heap.size,4,none⟩=some (.int .i64 n):=by
  rw[hb1.cell (p:=⟨w.heap.size,4,none⟩) (by simp)];exact cell_of_row _ _ _ _ _ _ (heap_alloc_new w _)
 clear hb1
 go_wp2
 all_goals go_ret2
 all_goals refine⟨?_,hB.out⟩
 all_goals rw[HV.out,HT.out]
 all_goals first |(simp[*];done) |(simp_all;done) |((have hq:((op != 9)=false∨(op != 10)=false)∨(op != 11)=false:=(by assumption));simp at hq;(have h11:op=11:=(by omega));simp[*];done)
structure Kn where
 is_:Bool
 n:Int
deriving DecidableEq
structure Ft where
 reached:Bool
 regs:Nat→Kn
def K0:Kn:=⟨false,0⟩
def divB (op:Int):Bool:=op == 36 ||(op == 37 || op == 38)
def resK (i:Ins)(r:Nat→Kn):Kn×Bool:=
 if i.op=3 then(⟨true,i.n⟩,true)
 else if i.op=4 then(r i.b.toNat,true)
 else if i.op≤32 then(K0,true)
 else if divB i.op=true∧r i.c.toNat=⟨true,0⟩ then(K0,false)
 else if (r i.b.toNat).is_=false∨(r i.c.toNat).is_=false then(K0,true)
 else(⟨z9_ (i.op - 32) (r i.c.toNat).n == 0,ye_ (i.op - 32) (r i.b.toNat).n (r i.c.toNat).n⟩,z9_ (i.op - 32) (r i.c.toNat).n == 0)
theorem kn_beq (x y:Kn):(x.is_ == y.is_ && x.n == y.n)=decide (x=y):=by
 obtain⟨a,b⟩:=x
 obtain⟨c,d⟩:=y
 by_cases h1:a=c<;>by_cases h2:b=d<;>simp[h1,h2]
def meetK (a b:Kn):Kn:=if a=b then a else K0
def meetR (a b:Nat→Kn):Nat→Kn:=fun k=>meetK (a k) (b k)
def setK (r:Nat→Kn)(k:Nat)(y:Kn):Nat→Kn:=fun j=>if j=k then y else r j
def emitL (i:Ins)(k:Int)(g t:Bool)(f:Ft):List (Int×Ft):=(if g then [(k+1,f)] else [])++(if t then [(targV i,f)] else [])
def xf_ (i:Ins)(k:Int)(f:Ft):List (Int×Ft):=
 if i.op=3∨i.op=4∨i.op=5∨i.op=7 then emitL i k (goesB i) (xj_ i) ⟨f.reached,setK f.regs i.a.toNat (resK i f.regs).1⟩
 else if i.op=6∨i.op=8 then emitL i k (goesB i) (xj_ i) f
 else if i.op=10∨i.op=11 then
  if (f.regs i.a.toNat).is_ then
   (if (i.op == 10 && (f.regs i.a.toNat).n == 0) ||(i.op == 11 && decide ((f.regs i.a.toNat).n < 0))then emitL i k false true f else emitL i k true false f)
  else emitL i k (goesB i) (xj_ i) f
 else if 32 < i.op then
  if (resK i f.regs).2 then emitL i k true (xj_ i) ⟨f.reached,setK f.regs i.a.toNat (resK i f.regs).1⟩ else []
 else emitL i k (goesB i) (xj_ i) f
def ftB (a b:Ft):Bool:=a.reached == b.reached && (a.regs 0 == b.regs 0 && (a.regs 1 == b.regs 1 && (a.regs 2 == b.regs 2 && (a.regs 3 == b.regs 3 && (a.regs 4 == b.regs 4 && (a.regs 5 == b.regs 5 && (a.regs 6 == b.regs 6 && a.regs 7 == b.regs 7)))))))
def F0:Ft:=⟨false,fun _=>K0⟩
def zs_ (F:List Ft)(k:Nat):Ft:=F.getD k F0
def joinF (o f:Ft):Ft:=if o.reached then ⟨o.reached,meetR o.regs f.regs⟩ else f
def updF (F:List Ft)(tt:Nat)(f:Ft):Option (List Ft):=if ftB (joinF (zs_ F tt) f) (zs_ F tt)then none else some (F.set tt (joinF (zs_ F tt) f))
def scanY (F:List Ft):List (Int×Ft)→Option (List Ft)
 | []=>none
 |(tt,f)::r=>match updF F tt.toNat f with|some G=>some G|none=>scanY F r
def scanK (p:List Ins)(F:List Ft):Nat→Option (List Ft)
 | 0=>none
 | j+1=>match scanK p F j with
  | some G=>some G
  | none=>if (zs_ F j).reached then scanY F (xf_ (p.getD j ⟨0,0,0,0,0⟩) j (zs_ F j))else none
def stepF (p:List Ins)(F:List Ft):Option (List Ft):=scanK p F p.length
def initF (n:Nat):List Ft:=(List.replicate n F0).set 0 ⟨true,fun k=>if 3≤k∧k < 8 then ⟨true,0⟩ else K0⟩
def iterF (p:List Ins):Nat→List Ft→List Ft
 | 0,F=>F
 | j+1,F=>match stepF p F with|some G=>iterF p j G|none=>F
def zr_ (p:List Ins):List Ft:=iterF p (p.length*9) (initF p.length)
def one01 (k:Kn):Nat:=if k=K0 then 0 else 1
def cntR (r:Nat→Kn):Nat:=one01 (r 0)+one01 (r 1)+one01 (r 2)+one01 (r 3)+one01 (r 4)+one01 (r 5)+one01 (r 6)+one01 (r 7)
def wF (f:Ft):Nat:=if f.reached then cntR f.regs else 9
def sumF (F:List Ft):Nat:=(F.map wF).sum
theorem one01_le (k:Kn):one01 k≤1:=by unfold one01;split<;>omega
theorem cntR_le (r:Nat→Kn):cntR r≤8:=by
 unfold cntR
 have h0:=one01_le (r 0);have h1:=one01_le (r 1);have h2:=one01_le (r 2);have h3:=one01_le (r 3)
 have h4:=one01_le (r 4);have h5:=one01_le (r 5);have h6:=one01_le (r 6);have h7:=one01_le (r 7)
 omega
theorem meet01 (a b:Kn):one01 (meetK a b)≤one01 a∧(meetK a b≠a→one01 (meetK a b) < one01 a):=by
 unfold meetK
 by_cases h:a=b
 ·rw[if_pos h];exact⟨Nat.le_refl _,fun h=>absurd rfl h⟩
 ·rw[if_neg h]
  refine⟨by simp[one01],fun h2=>?_⟩
  have:a≠K0:=fun e=>h2 e.symm
  simp[one01,this]
theorem meet_lt {a b:Nat→Kn}(h:∃k,k < 8∧meetR a b k≠a k):cntR (meetR a b) < cntR a:=by
 have m:=fun k=>meet01 (a k) (b k)
 unfold cntR
 have h0:=(m 0).1;have h1:=(m 1).1;have h2:=(m 2).1;have h3:=(m 3).1
 have h4:=(m 4).1;have h5:=(m 5).1;have h6:=(m 6).1;have h7:=(m 7).1
 obtain⟨k,hk,hne⟩:=h
 have hs:=(m k).2 hne
 unfold meetR
 match k,hk with
 | 0,_=>omega
 | 1,_=>omega
 | 2,_=>omega
 | 3,_=>omega
 | 4,_=>omega
 | 5,_=>omega
 | 6,_=>omega
 | 7,_=>omega
theorem ftB_regs {a b:Ft}(hr:a.reached=b.reached)(h:ftB a b=false):∃k,k < 8∧a.regs k≠b.regs k:=by
 apply Classical.byContradiction
 intro hn
 have e:∀k,k < 8→a.regs k=b.regs k:=fun k hk=>Classical.byContradiction fun hne=>hn ⟨k,hk,hne⟩
 unfold ftB at h
 rw[hr,e 0 (by decide),e 1 (by decide),e 2 (by decide),e 3 (by decide),e 4 (by decide),e 5 (by decide),e 6 (by decide),e 7 (by decide)]at h
 simp at h
theorem joinF_lt {o f:Ft}(hf:f.reached=true)(h:ftB (joinF o f) o=false):wF (joinF o f) < wF o:=by
 unfold joinF at h ⊢
 cases ho:o.reached with
 | true=>
  rw[ho]at h
  simp only[if_true]at h ⊢
  obtain⟨k,hk,hne⟩:=ftB_regs (by rw[ho]) h
  unfold wF
  rw[ho]
  exact meet_lt ⟨k,hk,hne⟩
 | false=>
  simp only[Bool.false_eq_true,if_false]
  unfold wF
  rw[hf,ho]
  have:=cntR_le f.regs
  simp only[if_true,Bool.false_eq_true,if_false]
  omega
theorem sum_set:∀(l:List Nat) (k:Nat) (x:Nat) (y:Nat),l[k]? = some y→x < y→(l.set k x).sum < l.sum
 | [],k,x,y,h,_=>by simp at h
 | a::l,0,x,y,h,hl=>by
  simp at h
  subst h
  simp
  exact hl
 | a::l,k+1,x,y,h,hl=>by
  have:=sum_set l k x y (by simpa using h) hl
  simp
  exact this
theorem updF_lt {F G:List Ft}{tt:Nat}{f:Ft}(ht:tt < F.length)(hf:f.reached=true)(h:updF F tt f=some G):sumF G < sumF F∧G.length=F.length:=by
 unfold updF at h
 cases hb:ftB (joinF (zs_ F tt) f) (zs_ F tt)with
 | true=>rw[hb]at h;cases h
 | false=>
  rw[hb]at h
  simp only[Bool.false_eq_true,if_false,Option.some.injEq]at h
  subst h
  refine⟨?_,by simp⟩
  have hg:F[tt]? = some (zs_ F tt):=by unfold zs_;rw[List.getD_eq_getElem?_getD,List.getElem?_eq_getElem ht];rfl
  unfold sumF
  rw[List.map_set]
  refine sum_set _ _ _ (wF (zs_ F tt)) (by rw[List.getElem?_map,hg];rfl) (joinF_lt hf hb)
end Go.Proofs.Ytmljmabbopkpiaa
end
section
namespace Go.Proofs.Ytmljmabbopkpiaa.Vm
open Go.RowKit
def kS (k:Kn):SV:=.agg [.bool k.is_,.int .i64 k.n]
def kaS (r:Nat→Kn):SV:=.arr 8 2 fun q=>kS (r q)
def ftS (f:Ft):SV:=.agg [.bool f.reached,kaS f.regs]
def y0_ (F:List Ft):Nat→SV:=fun q=>ftS (zs_ F q)
theorem kS_size (k:Kn):(kS k).size=2:=rfl
theorem kS_agg (k:Kn):(kS k).isAgg=true:=rfl
theorem kS_plain (k:Kn):(kS k).plain=true:=rfl
theorem kaS_size (k:Nat→Kn):(kaS k).size=16:=rfl
theorem kaS_agg (k:Nat→Kn):(kaS k).isAgg=true:=rfl
theorem kaS_plain (k:Nat→Kn):(kaS k).plain=true:=rfl
theorem ftS_size (k:Ft):(ftS k).size=17:=rfl
theorem ftS_agg (k:Ft):(ftS k).isAgg=true:=rfl
theorem ftS_plain (k:Ft):(ftS k).plain=true:=rfl
theorem nav_k (k:Kn):nav (kS k) []=some (True,kS k):=rfl
theorem nav_k0 (k:Kn)(pa:List Stp):nav (kS k) (.f 0 0::pa)=nav (.bool k.is_) pa:=rfl
theorem nav_k1 (k:Kn)(pa:List Stp):nav (kS k) (.f 1 1::pa)=nav (.int .i64 k.n) pa:=rfl
theorem nav_ka (r:Nat→Kn):nav (kaS r) []=some (True,kaS r):=rfl
theorem nav_kai (r:Nat→Kn)(m:Nat)(pa:List Stp):nav (kaS r) (.i m 2::pa)=(match nav (kS (r m)) pa with|some (c,u)=>some (m < 8∧c,u)|none=>none):=rfl
theorem nav_ft (f:Ft):nav (ftS f) []=some (True,ftS f):=rfl
theorem nav_ft0 (f:Ft)(pa:List Stp):nav (ftS f) (.f 0 0::pa)=nav (.bool f.reached) pa:=rfl
theorem nav_ft1 (f:Ft)(pa:List Stp):nav (ftS f) (.f 1 1::pa)=nav (kaS f.regs) pa:=rfl
theorem ftS_stable {h:HM}(f:Ft):zb_ h (ftS f):=by simp[ftS,kaS,kS,zb_,zh_]
theorem ftsS_stable {h:HM}{F:List Ft}(q:Nat):zb_ h (y0_ F q):=ftS_stable _
theorem ite_kS (r:Nat→Kn)(m:Nat)(y:Kn):(fun j=>SV.ite (decide (j=m)) (kS y) (kS (r j)))=fun j=>kS (setK r m y j):=by
 funext j
 unfold setK
 rw[x1_]
 by_cases h:j=m
 ·simp[h]
 ·simp[h]
theorem setp_ka (r:Nat→Kn)(m o:Nat)(y:Kn):setp (kaS r) [.i m o] (kS y)=some (kaS (setK r m y)):=by
 show some (SV.arr 8 2 fun j=>SV.ite (decide (j=m)) (kS y) (kS (r j)))=_
 rw[ite_kS];rfl
theorem setp_ftk (f:Ft)(m o o':Nat)(y:Kn):setp (ftS f) [.f 1 o',.i m o] (kS y)=some (ftS ⟨f.reached,setK f.regs m y⟩):=by
 show some (SV.agg [.bool f.reached,SV.arr 8 2 fun j=>SV.ite (decide (j=m)) (kS y) (kS (f.regs j))])=_
 rw[ite_kS];rfl
theorem setp_ftr (f:Ft)(o:Nat)(b:Bool):setp (ftS f) [.f 0 o] (.bool b)=some (ftS ⟨b,f.regs⟩):=rfl
theorem setp_fti (f:Ft)(m o o' o2:Nat)(b:Bool):setp (ftS f) [.f 1 o',.i m o,.f 0 o2] (.bool b)=some (ftS ⟨f.reached,setK f.regs m ⟨b,(f.regs m).n⟩⟩):=by
 show some (SV.agg [.bool f.reached,SV.arr 8 2 fun j=>SV.ite (decide (j=m)) (kS ⟨b,(f.regs m).n⟩) (kS (f.regs j))])=_
 rw[ite_kS];rfl
theorem ftsS_set {F:List Ft}{t:Nat}{g:Ft}(ht:t < F.length)(q:Nat):SV.ite (decide (q=t)) (ftS g) (y0_ F q)=y0_ (F.set t g) q:=by
 unfold y0_ zs_
 rw[x1_]
 by_cases h:q=t
 ·subst h
  simp[List.getElem?_set_self ht]
 ·simp[h,List.getElem?_set_ne (fun e=>h e.symm)]
theorem kn_eq (x y:Kn):eqB (.struct [.bool,.int .i64]) (kS x) (kS y)=(x == y):=by
 show ((x.is_ == y.is_) && (decide (x.n=y.n) && true))=_
 rw[Bool.and_true,show decide (x.n=y.n)=(x.n == y.n) from rfl,kn_beq]
 rfl
theorem ft_eq (a b:Ft):eqB (.struct [.bool,.arr 8 2 (.struct [.bool,.int .i64])]) (ftS a) (ftS b)=ftB a b:=by
 have e:eqB (.struct [.bool,.arr 8 2 (.struct [.bool,.int .i64])]) (ftS a) (ftS b)=((a.reached == b.reached) && (allB 8 (fun q=>eqB (.struct [.bool,.int .i64]) (kS (a.regs q)) (kS (b.regs q))) && true)):=rfl
 rw[e]
 simp only[kn_eq,allB,Bool.true_and,Bool.and_true,ftB,Bool.and_assoc]
theorem ym_ (a:Ft):yc_ (.struct [.bool,.arr 8 2 (.struct [.bool,.int .i64])]) (ftS a)=True:=by
 simp[yc_,yf_,ftS,kaS,kS,kndOf]
theorem kn_shaped (a:Kn):yc_ (.struct [.bool,.int .i64]) (kS a)=True:=by
 simp[yc_,yf_,kS,kndOf]
theorem evm_ins (i:Ins)(a:Bool→SV→Option (Prop×SV))(b:SV→Option (Prop×SV))(c:Unit→Option (Prop×SV)):ev.match_1 (fun _=>Option (Prop×SV)) (some (insS i)) a b c=b (insS i):=rfl
theorem evm_snd (i:Snd)(a:Bool→SV→Option (Prop×SV))(b:SV→Option (Prop×SV))(c:Unit→Option (Prop×SV)):ev.match_1 (fun _=>Option (Prop×SV)) (some (sndS i)) a b c=b (sndS i):=rfl
theorem evm_k (i:Kn)(a:Bool→SV→Option (Prop×SV))(b:SV→Option (Prop×SV))(c:Unit→Option (Prop×SV)):ev.match_1 (fun _=>Option (Prop×SV)) (some (kS i)) a b c=b (kS i):=rfl
theorem evm_ka (i:Nat→Kn)(a:Bool→SV→Option (Prop×SV))(b:SV→Option (Prop×SV))(c:Unit→Option (Prop×SV)):ev.match_1 (fun _=>Option (Prop×SV)) (some (kaS i)) a b c=b (kaS i):=rfl
theorem evm_ft (i:Ft)(a:Bool→SV→Option (Prop×SV))(b:SV→Option (Prop×SV))(c:Unit→Option (Prop×SV)):ev.match_1 (fun _=>Option (Prop×SV)) (some (ftS i)) a b c=b (ftS i):=rfl
def knOf:SV→Kn
 | .agg [.bool b,x]=>⟨b,iOf x⟩
 | _=>K0
def isKn:SV→Bool
 | .agg [.bool b,x]=>isI .i64 x
 | _=>false
def kaOf:SV→Nat→Kn
 | .arr _ _ f=>fun q=>knOf (f q)
 | _=>fun _=>K0
def isKa:SV→Bool
 | .arr n k f=>Nat.beq n 8 && (Nat.beq k 2 && (isKn (f 0) && (isKn (f 1) && (isKn (f 2) && (isKn (f 3) && (isKn (f 4) && (isKn (f 5) && (isKn (f 6) && isKn (f 7)))))))))
 | _=>false
def ftOf:SV→Ft
 | .agg [.bool b,x]=>⟨b,kaOf x⟩
 | _=>F0
def isFt:SV→Bool
 | .agg [.bool b,x]=>isKa x
 | _=>false
theorem isKn_kS (k:Kn):isKn (kS k)=true:=rfl
theorem knOf_kS (k:Kn):knOf (kS k)=k:=rfl
theorem isKa_kaS (r:Nat→Kn):isKa (kaS r)=true:=rfl
theorem kaOf_kaS (r:Nat→Kn):kaOf (kaS r)=r:=rfl
theorem isFt_ftS (f:Ft):isFt (ftS f)=true:=rfl
theorem ftOf_ftS (f:Ft):ftOf (ftS f)=f:=rfl
theorem knOf_cl {β : Env}{v:SV}(h:isKn v=true):v.cl β = [.bool (knOf v).is_,.int .i64 (knOf v).n]:=by
 unfold isKn at h
 split at h
 ·rename_i b x
  have e:=zo_ (β:=β) h
  rw[cl_agg]
  have hx:x.cl β = [.int .i64 (iOf x)]:=by
   have h2:x.cl β =(x.den β).cells.toList.map sane:=rfl
   rw[h2,e];rfl
  rw[yk_,yk_,hx,clL_nil];rfl
 ·cases h
def kcsL (r:Nat→Kn):List Value:=[.bool (r 0).is_,.int .i64 (r 0).n,.bool (r 1).is_,.int .i64 (r 1).n,.bool (r 2).is_,.int .i64 (r 2).n,.bool (r 3).is_,.int .i64 (r 3).n,.bool (r 4).is_,.int .i64 (r 4).n,.bool (r 5).is_,.int .i64 (r 5).n,.bool (r 6).is_,.int .i64 (r 6).n,.bool (r 7).is_,.int .i64 (r 7).n]
theorem kaOf_cl {β : Env}{v:SV}(h:isKa v=true):v.cl β = kcsL (kaOf v):=by
 unfold isKa at h
 split at h
 ·rename_i n k f
  simp only[Bool.and_eq_true]at h
  obtain⟨h1,h2,g0,g1,g2,g3,g4,g5,g6,g7⟩:=h
  have h1:=Nat.eq_of_beq_eq_true h1
  have h2:=Nat.eq_of_beq_eq_true h2
  subst h1 h2
  rw[cl_arr]
  have e:List.range 8=[0,1,2,3,4,5,6,7]:=rfl
  rw[e]
  simp only[List.flatMap_cons,List.flatMap_nil,knOf_cl g0,knOf_cl g1,knOf_cl g2,knOf_cl g3,knOf_cl g4,knOf_cl g5,knOf_cl g6,knOf_cl g7]
  rfl
 ·cases h
theorem isKa_agg {v:SV}(h:isKa v=true):v.isAgg=true:=by
 unfold isKa at h
 split at h
 ·rfl
 ·cases h
def kaDen (r:Nat→Kn):Value:=.agg (kcsL r).toArray
def ftDen (f:Ft):Value:=.agg (.bool f.reached::kcsL f.regs).toArray
theorem kaOf_den {β : Env}{v:SV}(h:isKa v=true):v.den β = kaDen (kaOf v):=by
 rw[den_agg (isKa_agg h),kaOf_cl h];rfl
theorem ftOf_den {β : Env}{v:SV}(h:isFt v=true):v.den β = ftDen (ftOf v):=by
 unfold isFt at h
 split at h
 ·rename_i b x
  rw[den_agg (v:=.agg [.bool b,x]) rfl,cl_agg,yk_,yk_,clL_nil,kaOf_cl h,List.append_nil]
  rfl
 ·cases h
theorem kaS_den {β : Env}(r:Nat→Kn):(kaS r).den β = kaDen r:=kaOf_den (isKa_kaS r)
theorem ftS_den {β : Env}(f:Ft):(ftS f).den β = ftDen f:=ftOf_den (isFt_ftS f)
theorem less_ft {t:Nat}{ex c:Bool}{F:Nat→SV}{r:Nat→Kn}(h:∀q,q < 8→∀β,(F q).cl β =(kS (r q)).cl β):Less (.own t (.agg [.bool c,.arr 8 2 F]) ex) (.own t (ftS ⟨c,r⟩) ex):=by
 refine .val (fun β=>?_) (fun n k f e=>by cases e) (fun n k f e=>by cases e)
 show (SV.agg [.bool c,.arr 8 2 F]).cl β =(SV.agg [.bool c,kaS r]).cl β
 rw[cl_agg,cl_agg,yk_,yk_,clL_nil,yk_,yk_,clL_nil]
 unfold kaS
 rw[cl_arr,cl_arr,List.flatMap_def,List.flatMap_def]
 congr 3
 exact List.map_congr_left fun q hq=>by rw[h q (List.mem_range.1 hq) β]
theorem kn_eqZ (x:Kn)(l:List SV):eqB (.struct [.bool,.int .i64]) (kS x) (.agg l)=eqBL [.bool,.int .i64] [.bool x.is_,.int .i64 x.n] l:=rfl
theorem xk_ (f:Ft)(m o o':Nat)(l:List SV):setp (ftS f) [.f 1 o',.i m o] (.agg l)=some (.agg [.bool f.reached,.arr 8 2 fun j=>SV.ite (decide (j=m)) (.agg l) (kS (f.regs j))]):=rfl
set_option linter.defProp false
def JF:=And.intro @kS_size (And.intro @kS_agg (And.intro @kS_plain (And.intro @kaS_size (And.intro @kaS_agg (And.intro @kaS_plain (And.intro @ftS_size (And.intro @ftS_agg (And.intro @ftS_plain (And.intro @ft_eq (And.intro @ym_ (And.intro @kn_eq @kn_shaped)))))))))))
end Go.Proofs.Ytmljmabbopkpiaa.Vm
end
section
open Go.Proofs.Ytmljmabbopkpiaa.Vm Go.RowKit
attribute [push_cast] runR opG gtmp gval gus opX tmpsOf tm tmO tmP restr look xz_ tab tys zs ets numOf ieq Int.cast_ofNat_Int Int.ofNat_zero beq_true beq_false frameOf ev evL ofV opV loadV noW pushF wrsL setH allBorn allGone HB.born HB.isGone HB.val SV.plain dstOk hp nav fitsT SV.size sizeL SV.isAgg TK.size TK.agg bin binE binN binI arN arI cmpN cmpI keq kn narrow callV storeV setp fillV buildV buildSliceV makeV sliceV appendV appendFV slice3V isC1 sliceRV Option.isNone_none Option.isNone_some copyV copyPV List.isEmpty_nil srcV evO asN ite_t ite_f ite_bool ite_int ite_nat maxV v_beq v_ble v_blt cond_true cond_false List.getElem?_cons_zero List.getElem?_cons_succ List.getD_cons_zero List.getD_cons_succ List.getD_nil List.length_cons List.length_nil List.take_succ_cons List.take_zero List.set_cons_zero List.set_cons_succ List.cons_append List.nil_append List.append_assoc List.replicate_succ List.replicate_zero Nat.zero_add Nat.add_zero decide_true decide_false Bool.true_and Bool.and_true Bool.false_and Bool.and_false Bool.true_or Bool.or_true Bool.false_or Bool.or_false beq_self_eq_true Bool.or_self Nat.lt_irrefl Nat.not_lt_zero Nat.le_refl Option.getD_some Option.getD_none BEq.rfl Bool.not_true Bool.not_false Bool.cond_true_left Bool.cond_false_right
attribute [local push_cast] eqB eqBL allB
section
namespace Go.Proofs.Ytmljmabbopkpiaa.Vm
open Go.RowKit
theorem ext_getD {α : Type}{xs ys:List α}(d:α)(hl:xs.length=ys.length)(h:∀q,q < xs.length→xs.getD q d=ys.getD q d):xs=ys:=by
 apply List.ext_getElem hl
 intro q h1 h2
 have:=h q h1
 simpa [List.getD_eq_getElem?_getD,List.getElem?_eq_getElem h1,List.getElem?_eq_getElem h2]using this
theorem ins_ext {a b:Ins}(h1:a.op=b.op)(h2:a.a=b.a)(h3:a.b=b.b)(h4:a.c=b.c)(h5:a.n=b.n):a=b:=by cases a;cases b;simp_all
def eqL {α : Type}[DecidableEq α](xs ys:List α):Bool:=decide (xs=ys)
theorem eqL_true {α : Type}[DecidableEq α]{xs ys:List α}(h:xs=ys):eqL xs ys=true:=by unfold eqL;simp[h]
theorem eqL_false {α : Type}[DecidableEq α]{xs ys:List α}(h:xs≠ys):eqL xs ys=false:=by unfold eqL;simp[h]
theorem yz_ (k k':IntKind)(n:Int):isI k (.int k' n)=keq k k':=rfl
theorem yy_ (k k':IntKind)(n:Nat):isI k (.nat k' n)=keq k k':=rfl
theorem yu_ (l:List Int):ls iOf l.length (zw_ l)=l:=ls_of (g:=iOf) (e:=fun x=>.int .i64 x) (fun _=>rfl) l 0
theorem yl_ (l:List Int):ls iOf l.length (fun q=>zw_ l q)=l:=yu_ l
theorem y9_ (l:List Ins):ls zd_ l.length (prS l)=l:=ls_of yi_ l _
theorem yt_ (l:List Ins):ls zd_ l.length (fun q=>prS l q)=l:=y9_ l
theorem ys_ (l:List Ins):ls zd_ l.length (fun q=>insS (l.getD q ⟨0,0,0,0,0⟩))=l:=y9_ l
theorem ls_sndsS (l:List Snd):ls sndOf l.length (sndsS l)=l:=ls_of yq_ l _
theorem ls_sndsS' (l:List Snd):ls sndOf l.length (fun q=>sndsS l q)=l:=ls_sndsS l
theorem prS_ren (ρ : Nat→Nat)(l:List Ins):(fun q=>(prS l q).ren ρ)=prS l:=by
 funext q;unfold prS;simp only[insS,SV.ren,renL]
end Go.Proofs.Ytmljmabbopkpiaa.Vm
end
end
section
namespace Go.Proofs.Ytmljmabbopkpiaa
open Go.RowKit
def badAt (n:Int)(i:Ins):Int:=if oneE i≠0 then oneE i else if xj_ i=true∧n≤targV i then 142 else 0
def checkK (p:List Ins):Int×Int:=
 match p.findIdx? (fun i=>badAt p.length i != 0)with
 | some k=>(k,badAt p.length (p.getD k ⟨0,0,0,0,0⟩))
 | none=>if goesB (p.getD (p.length - 1) ⟨0,0,0,0,0⟩)then((p.length:Int) - 1,143)else(-1,0)
def zu_ (p:List Ins):Int×Int:=if p.length=0 then(-1,6)else if 256 < p.length then(-1,5)else checkK p
theorem checkK_bad {p:List Ins}{j:Nat}{x:Ins}{v:Int}(h:∀i,i < j→∀y,p[i]? = some y→badAt p.length y=0)(hx:p[j]? = some x)(hv:badAt p.length x=v)(hn:v≠0):checkK p=((j:Int),v):=by
 have hj:j < p.length:=(List.getElem?_eq_some_iff.1 hx).1
 have hf:p.findIdx? (fun i=>badAt p.length i != 0)=some j:=by
  rw[List.findIdx?_eq_some_iff_getElem]
  refine⟨hj,?_,fun i hi=>?_⟩
  ·have:p[j]=x:=(List.getElem?_eq_some_iff.1 hx).2
   rw[this,hv];simpa using hn
  ·simp[h i hi _ (List.getElem?_eq_getElem (by omega))]
 unfold checkK
 rw[hf]
 simp[List.getD,hx,hv]
theorem checkK_none {p:List Ins}(h:∀i,i < p.length→∀y,p[i]? = some y→badAt p.length y=0):checkK p=if goesB (p.getD (p.length - 1) ⟨0,0,0,0,0⟩)then((p.length:Int) - 1,143)else(-1,0):=by
 have hf:p.findIdx? (fun i=>badAt p.length i != 0)=none:=by
  rw[List.findIdx?_eq_none_iff]
  intro x hx
  obtain⟨i,hi,rfl⟩:=List.getElem_of_mem hx
  simp[h i hi _ (List.getElem?_eq_getElem hi)]
 unfold checkK
 rw[hf]
set_option maxRecDepth 100000 in
set_option maxHeartbeats 2000000 in
theorem check_mid (A:Option Addr)(n c:Nat)(p:List Ins)(hok:∀i∈p,i.ok)(w:World)(h:xi_ w w.heap.size 5 A n (insV p))(h0:((n:Int) == 0)=false)(h0':0 < n)(h1:n≤256) :
  Calls Try.prog 55 #[.slice A n c] w fun e w'=>e=.returned (.tuple #[.int .i64 (checkK p).1,.int .i64 (checkK p).2])∧Below w.heap.size w w':=by
 have hpl:=h.ins_len
 have HL:=Lib.hid hpl
 clear hpl
 go_enter Try.func55,Try.ntmps55
 go_wp2
 go_loopw [4,5,6,7,8,20] (fun _ _ _ _ _ k wr=>∃j:Nat,k=.int .i64 j∧j≤n∧(∀i,i < j→∀y,p[i]? = some y→badAt n y=0)∧Below w.heap.size w wr) (fun _ _ _ _ _ k _=>n - (intOf k).toNat)
 case atStart=>exact⟨0,rfl,by omega,fun i hi=>by omega,Below.refl _ _⟩
 case round=>
  obtain⟨j,rfl,hj,hbad,hb⟩:=hrel
  have HBad:=Lib.hid hbad
  clear hbad
  by_cases hlt:j < n
  ·obtain⟨b,o,x,rfl,hl1,hx,hc0,hc1,hc2,hc3,hc4⟩:=(h.below hb).ins_at hlt
   have hxok:=hok x (List.mem_of_getElem? hx)
   obtain⟨op,a,b',c',m⟩:=x
   have HX:=Lib.hid hx
   have HO:=Lib.hid hxok
   have HB:=Lib.hid hb
   have hz:=hb.size
   clear hb hx h hxok hok
   dsimp only at hc0 hc1 hc2 hc3 hc4
   obtain⟨I,hI⟩:∃I:Ins,I=⟨op,a,b',c',m⟩:=⟨_,rfl⟩
   rw[←hI]at HO HX
   have HI:=Lib.hid hI
   clear hI
   have h1:∀w,Calls Try.prog 97 #[.agg #[.int .u8 op,.int .u8 a,.int .u8 b',.int .u8 c',.int .i64 m]] w fun e w'=>e=.returned (.int .i64 (oneE I))∧Below w.heap.size w w':=fun w=>by
    have:=one_c I HO.out w;rw[HI.out]at this ⊢;exact this
   have h2:∀w,Calls Try.prog 98 #[.agg #[.int .u8 op,.int .u8 a,.int .u8 b',.int .u8 c',.int .i64 m]] w fun e w'=>e=.returned (.tuple #[.int .i64 (targV I),.bool (xj_ I)])∧Below w.heap.size w w':=fun w=>by
    have:=target_c I HO.out w;rw[HI.out]at this ⊢;exact this
   have hbadE:badAt n I=if oneE I≠0 then oneE I else if xj_ I=true∧(n:Int)≤targV I then 142 else 0:=rfl
   obtain⟨V,hV⟩:∃V,V=targV I:=⟨_,rfl⟩
   obtain⟨T,hT⟩:∃T,T=xj_ I:=⟨_,rfl⟩
   obtain⟨E,hE⟩:∃E,E=oneE I:=⟨_,rfl⟩
   rw[←hE]at h1 hbadE
   rw[←hV,←hT]at h2 hbadE
   have H1:=Lib.hid h1
   have H2:=Lib.hid h2
   have HE:=Lib.hid hbadE
   clear h1 h2 hbadE hV hT hE
   go_wp2_with fail
   refine(H1.out _).mono ?_
   rintro e w2 ⟨rfl,hb2⟩
   have hz2:=hb2.size
   simp at hz2
   have q:∀k u,#[Value.int .u8 op,.int .u8 a,.int .u8 b',.int .u8 c',.int .i64 m][k]? = some u→w2.cell? ⟨wr.heap.size,k,none⟩=some u:=fun k u hu=>by
    rw[hb2.cell (p:=⟨wr.heap.size,k,none⟩) (by simp),cell_of_row _ _ _ _ _ _ (heap_alloc_new wr _)];exact hu
   have q0:=q 0 _ rfl
   have q1:=q 1 _ rfl
   have q2:=q 2 _ rfl
   have q3:=q 3 _ rfl
   have q4:=q 4 _ rfl
   have HB2:=Lib.hid ((HB.out.alloc hz _).trans (hb2.mono (by simp;omega)))
   clear q hb2
   by_cases hE0:E=0
   ·subst hE0
    go_wp2_with fail
    refine(H2.out _).mono ?_
    rintro e w3 ⟨rfl,hb3⟩
    have hz3:=hb3.size
    have HB3:=Lib.hid (HB2.out.trans (hb3.mono (by omega)))
    clear hb3
    by_cases hbad:T=true∧(n:Int)≤V
    ·obtain⟨rfl,hnV⟩:=hbad
     go_wp2
     go_ret2
     refine⟨?_,HB3.out⟩
     have hv:badAt p.length I=142:=by rw[HL.out,HE.out];simp[hnV]
     rw[checkK_bad (by rw[HL.out];exact HBad.out) HX.out hv (by decide)]
     rfl
    ·cases T with
     | false=>
      go_wp2
      go_roundw
      case rel => 
       refine⟨j+1,by go_num,by omega,fun i hi y hy=>?_,HB3.out⟩
       by_cases hij:i < j
       ·exact HBad.out i hij y hy
       ·obtain rfl:i=j:=by omega
        rw[HX.out]at hy
        obtain rfl:I=y:=by cases hy;rfl
        rw[HE.out];simp
      case measure=>simp[intOf];omega
     | true=>
      have hV:V < (n:Int):=by simp at hbad;omega
      clear hbad
      go_wp2
      go_roundw
      case rel => 
       refine⟨j+1,by go_num,by omega,fun i hi y hy=>?_,HB3.out⟩
       by_cases hij:i < j
       ·exact HBad.out i hij y hy
       ·obtain rfl:i=j:=by omega
        rw[HX.out]at hy
        obtain rfl:I=y:=by cases hy;rfl
        rw[HE.out];simp;omega
      case measure=>simp[intOf];omega
   ·have hE1:(E != 0)=true:=by rw[bne_iff_ne];exact hE0
    have HE0:=Lib.hid hE0
    clear hE0
    go_wp2
    go_ret2
    refine⟨?_,HB2.out⟩
    have hv:badAt p.length I=E:=by rw[HL.out,HE.out,if_pos HE0.out]
    rw[checkK_bad (by rw[HL.out];exact HBad.out) HX.out hv HE0.out]
    rfl
  ·obtain rfl:j=n:=by omega
   have hk:=checkK_none (p:=p) (by rw[HL.out];exact HBad.out)
   obtain⟨b,o,x,rfl,hl1,hx,hc0,hc1,hc2,hc3,hc4⟩:=(h.below hb).ins_at (k:=j - 1) (by omega)
   have hxok:=hok x (List.mem_of_getElem? hx)
   have hg:p.getD (p.length - 1) ⟨0,0,0,0,0⟩=x:=by rw[HL.out];simp[List.getD,hx]
   rw[hg,HL.out]at hk
   have hi:(((j:Int) - 1).toNat)=j - 1:=by omega
   have hs1:(0:Int)≤(j:Int) - 1:=by omega
   have hg1:=fun w=>goes_c x hxok w
   obtain⟨G,hG⟩:∃G,G=goesB x:=⟨_,rfl⟩
   rw[←hG]at hk hg1
   have HK:=Lib.hid hk
   have HB:=Lib.hid hb
   have HG:=Lib.hid hg1
   obtain⟨op,a,b',c',m⟩:=x
   dsimp only at hc0 hc1 hc2 hc3 hc4
   clear hk hb h hok hx hxok hg hG hg1 hi
   go_wp2_with fail
   refine(HG.out _).mono ?_
   rintro e w2 ⟨rfl,hb2⟩
   have HB2:=Lib.hid (HB.out.trans (hb2.mono HB.out.size))
   clear hb2
   cases G with
   | false=>
    go_wp2
    go_ret2
    refine⟨?_,HB2.out⟩
    rw[HK.out]
    rfl
   | true=>
    go_wp2
    go_ret2
    refine⟨?_,HB2.out⟩
    rw[HK.out]
    rfl
set_option maxRecDepth 100000 in
set_option maxHeartbeats 2000000 in
theorem check_c (A:Option Addr)(n c:Nat)(hn:n < 2^62)(p:List Ins)(hok:∀i∈p,i.ok)(w:World)(h:xi_ w w.heap.size 5 A n (insV p)) :
  Calls Try.prog 55 #[.slice A n c] w fun e w'=>e=.returned (.tuple #[.int .i64 (zu_ p).1,.int .i64 (zu_ p).2])∧Below w.heap.size w w':=by
 have hpl:=h.ins_len
 unfold zu_
 rw[hpl]
 by_cases h0:n=0
 ·subst h0
  go_enter Try.func55,Try.ntmps55
  go_wp2
  go_ret2
  exact⟨rfl,Below.refl _ _⟩
 ·rw[if_neg h0]
  by_cases h1:256 < n
  ·rw[if_pos h1]
   have h0':((n:Int) == 0)=false:=by simp;exact h0
   have h1':(256:Int) < n:=by omega
   clear h h0 hok hpl
   go_enter Try.func55,Try.ntmps55
   go_wp2
   go_ret2
   exact⟨rfl,Below.refl _ _⟩
  ·rw[if_neg h1]
   exact check_mid A n c p hok w h (by simp;exact h0) (by omega) (by omega)
end Go.Proofs.Ytmljmabbopkpiaa
end
section
namespace Go.Proofs.Ytmljmabbopkpiaa.Vm
open Go.RowKit
def sCheck:y4_:=fun args h m=>match args with
 | [v1]=>match srcV h 5 (.tup []) v1 with
  | some (c1,n1,f1,r1)=>some (c1∧(∀q,q < n1→xt_ (f1 q)=true)∧((∀x∈(ls zd_ n1 f1),x.ok))∧(n1≤281474976710656),.tup [.int .i64 (zu_ (ls zd_ n1 f1)).1,.int .i64 (zu_ (ls zd_ n1 f1)).2],r1,[])
  | _=>none
 | _=>none
theorem sCheck_ok:zm_ Try.prog 55 sCheck:=by
 refine⟨zg_ (by kernel_rfl),fun args h m c v rd wr hs hm hc w0 M β h' w R hrd hwr hst=>?_⟩
 unfold sCheck at hs
 split at hs
 ·rename_i v1
  split at hs
  ·rename_i c1 n1 f1 r1 a1
   simp only[Option.some.injEq,Prod.mk.injEq]at hs
   obtain⟨rfl,rfl,rfl,rfl⟩:=hs
   obtain⟨k1,g1,y1,y2⟩:=hc
   obtain⟨A1,p1,d1,e1,t1⟩:=zp_ R a1 k1 (fun i hi=>hrd i hi) (by omega)
   rw[elems_ins g1]at t1
   simp only[denL,z7_,z6_,z5_,zt_,d1]
   exact(check_c A1 n1 p1 (by omega) (ls zd_ n1 f1) y1 w t1).mono fun e w' he=>post_read R u2_ rfl he.1 he.2
  ·cases hs
 ·cases hs
end Go.Proofs.Ytmljmabbopkpiaa.Vm
end
