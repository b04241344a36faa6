import Derived.Test.YtjliakjbdcplcaaU1
import Derived.Test.YtjliakjbdcplcaaU7
import Derived.Test.YtjliakjbdcplcaaU9
import Derived.Test.YtjliakjbdcplcaaProg
import Derived.Handy
import Derived.Deep.RegionHeld3
import Derived.Deep.DeepCutAuto
set_option linter.unusedSimpArgs false
set_option linter.unusedVariables false
section
namespace Go.Proofs.Ytjliakjbdcplcaa
open Go.RowKit
set_option maxRecDepth 100000 in
theorem registers_c (op a b c n:Int)(w:World):Calls Try.prog 112 #[.agg #[.int .u8 op,.int .u8 a,.int .u8 b,.int .u8 c,.int .i64 n]] w fun e w'=>
  e=.returned (.agg #[.int .u8 a,.int .u8 b,.int .u8 c])∧Below w.heap.size w w':=by
 go_enter Try.func112,Try.ntmps112
 go_wp2
 exact bodyPost_ret (v:=.agg #[.int .u8 a,.int .u8 b,.int .u8 c]) (by simp[results,Try.results112,go_sem]) rfl ⟨rfl,((Below.refl _ _).alloc (Nat.le_refl _) _).alloc (by simp) _⟩
set_option maxRecDepth 100000 in
set_option maxHeartbeats 4000000 in
theorem one_k1 (op a b c n:Int)(w:World)(a0:0≤a)(a1:a≤255)(b0:0≤b)(b1:b≤255)(c0:0≤c)(c1:c≤255)
   (hform:∀w,Calls Try.prog 103 #[.int .u8 op] w fun e w'=>e=.returned (.tuple #[.string ⟨#[114,114,114]⟩,.bool true])∧Below w.heap.size w w') :
    Calls Try.prog 92 #[.agg #[.int .u8 op,.int .u8 a,.int .u8 b,.int .u8 c,.int .i64 n]] w fun e w'=>e=.returned (.int .i64 (oneK 1 a b c n))∧Below w.heap.size w w':=by
  go_enter Try.func92,Try.ntmps92
  have HF:=Lib.hid hform
  clear hform
  go_wp2_with fail
  refine(HF.out _).mono ?_
  rintro e w1 ⟨rfl,hb1⟩
  have hz1:=hb1.size
  simp at hz1
  have hz1':w.heap.size < w1.heap.size:=by omega
  have c1_:∀o,w1.cell? ⟨w.heap.size,o,none⟩ = #[Value.int .u8 op,.int .u8 a,.int .u8 b,.int .u8 c,.int .i64 n][o]? := fun o=>by
    rw[hb1.cell (p:=⟨w.heap.size,o,none⟩) (by simp)];exact cell_of_row _ _ _ _ _ _ (heap_alloc_new w _)
  have HB1:=Lib.hid (((Below.refl _ w).alloc (Nat.le_refl _) _).trans (hb1.mono (by simp)))
  clear hb1 HF
  go_upto_region 4 with fail
  go_cut [5,6] (fun p m W=>∃g,p=.pointer (some ⟨g,0,none⟩)∧m=.int .i64 n∧w.heap.size≤g∧g < W.heap.size∧Below w.heap.size w W∧W.cell? ⟨g,0,none⟩=some (.int .u8 a)∧W.cell? ⟨g,1,none⟩=some (.int .u8 b)∧W.cell? ⟨g,2,none⟩=some (.int .u8 c)∧(∀o,W.frozen? ⟨g,o,none⟩=false))
  case first=>
    go_region_held3 (fun W=>Below w1.heap.size w1 W∧∀b o,b < w1.heap.size→W.cell? ⟨b,o,none⟩=w1.cell? ⟨b,o,none⟩)
      (repeat' (first|exact preD|assumption|exact preR|refine preB ?_ hb2|refine preE ?_|refine preA ?_ _|refine preS ?_ ?_ _|omega |(simp;done) |(simp;omega)))
      ((go_at_call 112;refine(registers_c _ _ _ _ _ _).mono ?_;rintro e w2 ⟨rfl,hb2⟩;obtain⟨hc2,hf2⟩:=bcell hb2;have hz2:=hb2.size;simp at hz2))
    all_goals (go_wp2_with fail;go_meet)
    all_goals refine⟨_,rfl,rfl,?_,?_,HB1.out.trans (Below.mono (And.left (by assumption)) (by omega)),?_,?_,?_,?_⟩
    all_goals first|omega |(simp;omega)|go_simp|skip
  case rest=>
    obtain⟨g,rfl,rfl,hg1,hg2,hB,h0,h1,h2,hf⟩:=hcut
    have hz:=hB.size
    have HB:=Lib.hid hB
    have e3:=fun x y z w=>eq3 x y z 0 0 0 w
    clear hB HB1 c1_ hz1 hz1'
    have i1:=fun W (p i:Nat) v=>iter_setCell W ⟨#[114,114,114]⟩ p g i v
    have i2:=fun W (p i:Nat)=>iter_cell W ⟨#[114,114,114]⟩ p g i
    have i3:=fun W (p i:Nat)=>iter_frozen W ⟨#[114,114,114]⟩ p g i
    have n0_:=fun W n ty hn=>next_at (P:=Try.prog) W ⟨#[114,114,114]⟩ 0 1 n 114 ty hn (by decide) (by decide) (by decide) rfl
    have n1_:=fun W n ty hn=>next_at (P:=Try.prog) W ⟨#[114,114,114]⟩ 1 2 n 114 ty hn (by decide) (by decide) (by decide) rfl
    have n2_:=fun W n ty hn=>next_at (P:=Try.prog) W ⟨#[114,114,114]⟩ 2 3 n 114 ty hn (by decide) (by decide) (by decide) rfl
    have n3_:=fun W n ty hn=>next_end (P:=Try.prog) W ⟨#[114,114,114]⟩ 3 n ty hn (by decide)
    go_wp2
    refine wp_loop_rounds 4 ?_
    all_goals (rw[rounds_succ];go_wp2)
    any_goals (rw[rounds_succ];go_wp2)
    any_goals (rw[rounds_succ];go_wp2)
    any_goals (rw[rounds_succ];go_wp2)
    all_goals (go_ret;refine⟨ret_i64 ?_,?_⟩)
    all_goals first
      | exact HB.out.alloc hz _
      | exact(HB.out.setCell (p:=⟨g,_,none⟩) hg1 _).alloc (by simp;omega) _
      | exact((HB.out.setCell (p:=⟨g,_,none⟩) hg1 _).setCell (p:=⟨g,_,none⟩) hg1 _).alloc (by simp;omega) _
      | exact(((HB.out.setCell (p:=⟨g,_,none⟩) hg1 _).setCell (p:=⟨g,_,none⟩) hg1 _).setCell (p:=⟨g,_,none⟩) hg1 _).alloc (by simp;omega) _
      |(rw[xs_ (by simp only[xt_];omega)])
      |(rw[yv_ (by simp only[xt_];omega)])
      | (have hn:(n != 0)=true:=by assumption
         rw[bne_iff_ne]at hn
         rw[yv_ (by simp only[xt_];omega)])
      | (have hn:(n != 0)=false:=by assumption
         rw[bne_eq_false_iff_eq]at hn
         rw[xs_ (by simp only[xt_];omega)])
      | (have hn:(n != 0)=false:=by assumption
         rw[bne_eq_false_iff_eq]at hn
         rw[yv_ (by simp only[xt_];omega)])
set_option maxRecDepth 100000 in
set_option maxHeartbeats 4000000 in
theorem one_k2 (op a b c n:Int)(w:World)(a0:0≤a)(a1:a≤255)(b0:0≤b)(b1:b≤255)(c0:0≤c)(c1:c≤255)
   (hform:∀w,Calls Try.prog 103 #[.int .u8 op] w fun e w'=>e=.returned (.tuple #[.string ⟨#[]⟩,.bool true])∧Below w.heap.size w w') :
    Calls Try.prog 92 #[.agg #[.int .u8 op,.int .u8 a,.int .u8 b,.int .u8 c,.int .i64 n]] w fun e w'=>e=.returned (.int .i64 (oneK 2 a b c n))∧Below w.heap.size w w':=by
  go_enter Try.func92,Try.ntmps92
  have HF:=Lib.hid hform
  clear hform
  go_wp2_with fail
  refine(HF.out _).mono ?_
  rintro e w1 ⟨rfl,hb1⟩
  have hz1:=hb1.size
  simp at hz1
  have hz1':w.heap.size < w1.heap.size:=by omega
  have c1_:∀o,w1.cell? ⟨w.heap.size,o,none⟩ = #[Value.int .u8 op,.int .u8 a,.int .u8 b,.int .u8 c,.int .i64 n][o]? := fun o=>by
    rw[hb1.cell (p:=⟨w.heap.size,o,none⟩) (by simp)];exact cell_of_row _ _ _ _ _ _ (heap_alloc_new w _)
  have HB1:=Lib.hid (((Below.refl _ w).alloc (Nat.le_refl _) _).trans (hb1.mono (by simp)))
  clear hb1 HF
  go_upto_region 4 with fail
  go_cut [5,6] (fun p m W=>∃g,p=.pointer (some ⟨g,0,none⟩)∧m=.int .i64 n∧w.heap.size≤g∧g < W.heap.size∧Below w.heap.size w W∧W.cell? ⟨g,0,none⟩=some (.int .u8 a)∧W.cell? ⟨g,1,none⟩=some (.int .u8 b)∧W.cell? ⟨g,2,none⟩=some (.int .u8 c)∧(∀o,W.frozen? ⟨g,o,none⟩=false))
  case first=>
    go_region_held3 (fun W=>Below w1.heap.size w1 W∧∀b o,b < w1.heap.size→W.cell? ⟨b,o,none⟩=w1.cell? ⟨b,o,none⟩)
      (repeat' (first|exact preD|assumption|exact preR|refine preB ?_ hb2|refine preE ?_|refine preA ?_ _|refine preS ?_ ?_ _|omega |(simp;done) |(simp;omega)))
      ((go_at_call 112;refine(registers_c _ _ _ _ _ _).mono ?_;rintro e w2 ⟨rfl,hb2⟩;obtain⟨hc2,hf2⟩:=bcell hb2;have hz2:=hb2.size;simp at hz2))
    all_goals (go_wp2_with fail;go_meet)
    all_goals refine⟨_,rfl,rfl,?_,?_,HB1.out.trans (Below.mono (And.left (by assumption)) (by omega)),?_,?_,?_,?_⟩
    all_goals first|omega |(simp;omega)|go_simp|skip
  case rest=>
    obtain⟨g,rfl,rfl,hg1,hg2,hB,h0,h1,h2,hf⟩:=hcut
    have hz:=hB.size
    have HB:=Lib.hid hB
    have e3:=fun x y z w=>eq3 x y z 0 0 0 w
    clear hB HB1 c1_ hz1 hz1'
    have i1:=fun W (p i:Nat) v=>iter_setCell W ⟨#[]⟩ p g i v
    have i2:=fun W (p i:Nat)=>iter_cell W ⟨#[]⟩ p g i
    have i3:=fun W (p i:Nat)=>iter_frozen W ⟨#[]⟩ p g i
    have n0_:=fun W n ty hn=>next_end (P:=Try.prog) W ⟨#[]⟩ 0 n ty hn (by decide)
    go_wp2
    refine wp_loop_rounds 1 ?_
    all_goals (rw[rounds_succ];go_wp2)
    all_goals (go_ret;refine⟨ret_i64 ?_,?_⟩)
    all_goals first
      | exact HB.out.alloc hz _
      | exact(HB.out.setCell (p:=⟨g,_,none⟩) hg1 _).alloc (by simp;omega) _
      | exact((HB.out.setCell (p:=⟨g,_,none⟩) hg1 _).setCell (p:=⟨g,_,none⟩) hg1 _).alloc (by simp;omega) _
      | exact(((HB.out.setCell (p:=⟨g,_,none⟩) hg1 _).setCell (p:=⟨g,_,none⟩) hg1 _).setCell (p:=⟨g,_,none⟩) hg1 _).alloc (by simp;omega) _
      |(rw[xs_ (by simp only[xt_];omega)])
      |(rw[yv_ (by simp only[xt_];omega)])
      | (have hn:(n != 0)=true:=by assumption
         rw[bne_iff_ne]at hn
         rw[yv_ (by simp only[xt_];omega)])
      | (have hn:(n != 0)=false:=by assumption
         rw[bne_eq_false_iff_eq]at hn
         rw[xs_ (by simp only[xt_];omega)])
      | (have hn:(n != 0)=false:=by assumption
         rw[bne_eq_false_iff_eq]at hn
         rw[yv_ (by simp only[xt_];omega)])
set_option maxRecDepth 100000 in
set_option maxHeartbeats 4000000 in
theorem one_k3 (op a b c n:Int)(w:World)(a0:0≤a)(a1:a≤255)(b0:0≤b)(b1:b≤255)(c0:0≤c)(c1:c≤255)
   (hform:∀w,Calls Try.prog 103 #[.int .u8 op] w fun e w'=>e=.returned (.tuple #[.string ⟨#[114,110]⟩,.bool true])∧Below w.heap.size w w') :
    Calls Try.prog 92 #[.agg #[.int .u8 op,.int .u8 a,.int .u8 b,.int .u8 c,.int .i64 n]] w fun e w'=>e=.returned (.int .i64 (oneK 3 a b c n))∧Below w.heap.size w w':=by
  go_enter Try.func92,Try.ntmps92
  have HF:=Lib.hid hform
  clear hform
  go_wp2_with fail
  refine(HF.out _).mono ?_
  rintro e w1 ⟨rfl,hb1⟩
  have hz1:=hb1.size
  simp at hz1
  have hz1':w.heap.size < w1.heap.size:=by omega
  have c1_:∀o,w1.cell? ⟨w.heap.size,o,none⟩ = #[Value.int .u8 op,.int .u8 a,.int .u8 b,.int .u8 c,.int .i64 n][o]? := fun o=>by
    rw[hb1.cell (p:=⟨w.heap.size,o,none⟩) (by simp)];exact cell_of_row _ _ _ _ _ _ (heap_alloc_new w _)
  have HB1:=Lib.hid (((Below.refl _ w).alloc (Nat.le_refl _) _).trans (hb1.mono (by simp)))
  clear hb1 HF
  go_upto_region 4 with fail
  go_cut [5,6] (fun p m W=>∃g,p=.pointer (some ⟨g,0,none⟩)∧m=.int .i64 n∧w.heap.size≤g∧g < W.heap.size∧Below w.heap.size w W∧W.cell? ⟨g,0,none⟩=some (.int .u8 a)∧W.cell? ⟨g,1,none⟩=some (.int .u8 b)∧W.cell? ⟨g,2,none⟩=some (.int .u8 c)∧(∀o,W.frozen? ⟨g,o,none⟩=false))
  case first=>
    go_region_held3 (fun W=>Below w1.heap.size w1 W∧∀b o,b < w1.heap.size→W.cell? ⟨b,o,none⟩=w1.cell? ⟨b,o,none⟩)
      (repeat' (first|exact preD|assumption|exact preR|refine preB ?_ hb2|refine preE ?_|refine preA ?_ _|refine preS ?_ ?_ _|omega |(simp;done) |(simp;omega)))
      ((go_at_call 112;refine(registers_c _ _ _ _ _ _).mono ?_;rintro e w2 ⟨rfl,hb2⟩;obtain⟨hc2,hf2⟩:=bcell hb2;have hz2:=hb2.size;simp at hz2))
    all_goals (go_wp2_with fail;go_meet)
    all_goals refine⟨_,rfl,rfl,?_,?_,HB1.out.trans (Below.mono (And.left (by assumption)) (by omega)),?_,?_,?_,?_⟩
    all_goals first|omega |(simp;omega)|go_simp|skip
  case rest=>
    obtain⟨g,rfl,rfl,hg1,hg2,hB,h0,h1,h2,hf⟩:=hcut
    have hz:=hB.size
    have HB:=Lib.hid hB
    have e3:=fun x y z w=>eq3 x y z 0 0 0 w
    clear hB HB1 c1_ hz1 hz1'
    have i1:=fun W (p i:Nat) v=>iter_setCell W ⟨#[114,110]⟩ p g i v
    have i2:=fun W (p i:Nat)=>iter_cell W ⟨#[114,110]⟩ p g i
    have i3:=fun W (p i:Nat)=>iter_frozen W ⟨#[114,110]⟩ p g i
    have n0_:=fun W n ty hn=>next_at (P:=Try.prog) W ⟨#[114,110]⟩ 0 1 n 114 ty hn (by decide) (by decide) (by decide) rfl
    have n1_:=fun W n ty hn=>next_at (P:=Try.prog) W ⟨#[114,110]⟩ 1 2 n 110 ty hn (by decide) (by decide) (by decide) rfl
    have n2_:=fun W n ty hn=>next_end (P:=Try.prog) W ⟨#[114,110]⟩ 2 n ty hn (by decide)
    go_wp2
    refine wp_loop_rounds 3 ?_
    all_goals (rw[rounds_succ];go_wp2)
    any_goals (rw[rounds_succ];go_wp2)
    any_goals (rw[rounds_succ];go_wp2)
    all_goals (go_ret;refine⟨ret_i64 ?_,?_⟩)
    all_goals first
      | exact HB.out.alloc hz _
      | exact(HB.out.setCell (p:=⟨g,_,none⟩) hg1 _).alloc (by simp;omega) _
      | exact((HB.out.setCell (p:=⟨g,_,none⟩) hg1 _).setCell (p:=⟨g,_,none⟩) hg1 _).alloc (by simp;omega) _
      | exact(((HB.out.setCell (p:=⟨g,_,none⟩) hg1 _).setCell (p:=⟨g,_,none⟩) hg1 _).setCell (p:=⟨g,_,none⟩) hg1 _).alloc (by simp;omega) _
      |(rw[xs_ (by simp only[xt_];omega)])
      |(rw[yv_ (by simp only[xt_];omega)])
      | (have hn:(n != 0)=true:=by assumption
         rw[bne_iff_ne]at hn
         rw[yv_ (by simp only[xt_];omega)])
      | (have hn:(n != 0)=false:=by assumption
         rw[bne_eq_false_iff_eq]at hn
         rw[xs_ (by simp only[xt_];omega)])
      | (have hn:(n != 0)=false:=by assumption
         rw[bne_eq_false_iff_eq]at hn
         rw[yv_ (by simp only[xt_];omega)])
set_option maxRecDepth 100000 in
set_option maxHeartbeats 4000000 in
theorem one_k4 (op a b c n:Int)(w:World)(a0:0≤a)(a1:a≤255)(b0:0≤b)(b1:b≤255)(c0:0≤c)(c1:c≤255)
   (hform:∀w,Calls Try.prog 103 #[.int .u8 op] w fun e w'=>e=.returned (.tuple #[.string ⟨#[114,114]⟩,.bool true])∧Below w.heap.size w w') :
    Calls Try.prog 92 #[.agg #[.int .u8 op,.int .u8 a,.int .u8 b,.int .u8 c,.int .i64 n]] w fun e w'=>e=.returned (.int .i64 (oneK 4 a b c n))∧Below w.heap.size w w':=by
  go_enter Try.func92,Try.ntmps92
  have HF:=Lib.hid hform
  clear hform
  go_wp2_with fail
  refine(HF.out _).mono ?_
  rintro e w1 ⟨rfl,hb1⟩
  have hz1:=hb1.size
  simp at hz1
  have hz1':w.heap.size < w1.heap.size:=by omega
  have c1_:∀o,w1.cell? ⟨w.heap.size,o,none⟩ = #[Value.int .u8 op,.int .u8 a,.int .u8 b,.int .u8 c,.int .i64 n][o]? := fun o=>by
    rw[hb1.cell (p:=⟨w.heap.size,o,none⟩) (by simp)];exact cell_of_row _ _ _ _ _ _ (heap_alloc_new w _)
  have HB1:=Lib.hid (((Below.refl _ w).alloc (Nat.le_refl _) _).trans (hb1.mono (by simp)))
  clear hb1 HF
  go_upto_region 4 with fail
  go_cut [5,6] (fun p m W=>∃g,p=.pointer (some ⟨g,0,none⟩)∧m=.int .i64 n∧w.heap.size≤g∧g < W.heap.size∧Below w.heap.size w W∧W.cell? ⟨g,0,none⟩=some (.int .u8 a)∧W.cell? ⟨g,1,none⟩=some (.int .u8 b)∧W.cell? ⟨g,2,none⟩=some (.int .u8 c)∧(∀o,W.frozen? ⟨g,o,none⟩=false))
  case first=>
    go_region_held3 (fun W=>Below w1.heap.size w1 W∧∀b o,b < w1.heap.size→W.cell? ⟨b,o,none⟩=w1.cell? ⟨b,o,none⟩)
      (repeat' (first|exact preD|assumption|exact preR|refine preB ?_ hb2|refine preE ?_|refine preA ?_ _|refine preS ?_ ?_ _|omega |(simp;done) |(simp;omega)))
      ((go_at_call 112;refine(registers_c _ _ _ _ _ _).mono ?_;rintro e w2 ⟨rfl,hb2⟩;obtain⟨hc2,hf2⟩:=bcell hb2;have hz2:=hb2.size;simp at hz2))
    all_goals (go_wp2_with fail;go_meet)
    all_goals refine⟨_,rfl,rfl,?_,?_,HB1.out.trans (Below.mono (And.left (by assumption)) (by omega)),?_,?_,?_,?_⟩
    all_goals first|omega |(simp;omega)|go_simp|skip
  case rest=>
    obtain⟨g,rfl,rfl,hg1,hg2,hB,h0,h1,h2,hf⟩:=hcut
    have hz:=hB.size
    have HB:=Lib.hid hB
    have e3:=fun x y z w=>eq3 x y z 0 0 0 w
    clear hB HB1 c1_ hz1 hz1'
    have i1:=fun W (p i:Nat) v=>iter_setCell W ⟨#[114,114]⟩ p g i v
    have i2:=fun W (p i:Nat)=>iter_cell W ⟨#[114,114]⟩ p g i
    have i3:=fun W (p i:Nat)=>iter_frozen W ⟨#[114,114]⟩ p g i
    have n0_:=fun W n ty hn=>next_at (P:=Try.prog) W ⟨#[114,114]⟩ 0 1 n 114 ty hn (by decide) (by decide) (by decide) rfl
    have n1_:=fun W n ty hn=>next_at (P:=Try.prog) W ⟨#[114,114]⟩ 1 2 n 114 ty hn (by decide) (by decide) (by decide) rfl
    have n2_:=fun W n ty hn=>next_end (P:=Try.prog) W ⟨#[114,114]⟩ 2 n ty hn (by decide)
    go_wp2
    refine wp_loop_rounds 3 ?_
    all_goals (rw[rounds_succ];go_wp2)
    any_goals (rw[rounds_succ];go_wp2)
    any_goals (rw[rounds_succ];go_wp2)
    all_goals (go_ret;refine⟨ret_i64 ?_,?_⟩)
    all_goals first
      | exact HB.out.alloc hz _
      | exact(HB.out.setCell (p:=⟨g,_,none⟩) hg1 _).alloc (by simp;omega) _
      | exact((HB.out.setCell (p:=⟨g,_,none⟩) hg1 _).setCell (p:=⟨g,_,none⟩) hg1 _).alloc (by simp;omega) _
      | exact(((HB.out.setCell (p:=⟨g,_,none⟩) hg1 _).setCell (p:=⟨g,_,none⟩) hg1 _).setCell (p:=⟨g,_,none⟩) hg1 _).alloc (by simp;omega) _
      |(rw[xs_ (by simp only[xt_];omega)])
      |(rw[yv_ (by simp only[xt_];omega)])
      | (have hn:(n != 0)=true:=by assumption
         rw[bne_iff_ne]at hn
         rw[yv_ (by simp only[xt_];omega)])
      | (have hn:(n != 0)=false:=by assumption
         rw[bne_eq_false_iff_eq]at hn
         rw[xs_ (by simp only[xt_];omega)])
      | (have hn:(n != 0)=false:=by assumption
         rw[bne_eq_false_iff_eq]at hn
         rw[yv_ (by simp only[xt_];omega)])
set_option maxRecDepth 100000 in
set_option maxHeartbeats 4000000 in
theorem one_k5 (op a b c n:Int)(w:World)(a0:0≤a)(a1:a≤255)(b0:0≤b)(b1:b≤255)(c0:0≤c)(c1:c≤255)
   (hform:∀w,Calls Try.prog 103 #[.int .u8 op] w fun e w'=>e=.returned (.tuple #[.string ⟨#[114,114,112]⟩,.bool true])∧Below w.heap.size w w') :
    Calls Try.prog 92 #[.agg #[.int .u8 op,.int .u8 a,.int .u8 b,.int .u8 c,.int .i64 n]] w fun e w'=>e=.returned (.int .i64 (oneK 5 a b c n))∧Below w.heap.size w w':=by
  go_enter Try.func92,Try.ntmps92
  have HF:=Lib.hid hform
  clear hform
  go_wp2_with fail
  refine(HF.out _).mono ?_
  rintro e w1 ⟨rfl,hb1⟩
  have hz1:=hb1.size
  simp at hz1
  have hz1':w.heap.size < w1.heap.size:=by omega
  have c1_:∀o,w1.cell? ⟨w.heap.size,o,none⟩ = #[Value.int .u8 op,.int .u8 a,.int .u8 b,.int .u8 c,.int .i64 n][o]? := fun o=>by
    rw[hb1.cell (p:=⟨w.heap.size,o,none⟩) (by simp)];exact cell_of_row _ _ _ _ _ _ (heap_alloc_new w _)
  have HB1:=Lib.hid (((Below.refl _ w).alloc (Nat.le_refl _) _).trans (hb1.mono (by simp)))
  clear hb1 HF
  go_upto_region 4 with fail
  go_cut [5,6] (fun p m W=>∃g,p=.pointer (some ⟨g,0,none⟩)∧m=.int .i64 n∧w.heap.size≤g∧g < W.heap.size∧Below w.heap.size w W∧W.cell? ⟨g,0,none⟩=some (.int .u8 a)∧W.cell? ⟨g,1,none⟩=some (.int .u8 b)∧W.cell? ⟨g,2,none⟩=some (.int .u8 c)∧(∀o,W.frozen? ⟨g,o,none⟩=false))
  case first=>
    go_region_held3 (fun W=>Below w1.heap.size w1 W∧∀b o,b < w1.heap.size→W.cell? ⟨b,o,none⟩=w1.cell? ⟨b,o,none⟩)
      (repeat' (first|exact preD|assumption|exact preR|refine preB ?_ hb2|refine preE ?_|refine preA ?_ _|refine preS ?_ ?_ _|omega |(simp;done) |(simp;omega)))
      ((go_at_call 112;refine(registers_c _ _ _ _ _ _).mono ?_;rintro e w2 ⟨rfl,hb2⟩;obtain⟨hc2,hf2⟩:=bcell hb2;have hz2:=hb2.size;simp at hz2))
    all_goals (go_wp2_with fail;go_meet)
    all_goals refine⟨_,rfl,rfl,?_,?_,HB1.out.trans (Below.mono (And.left (by assumption)) (by omega)),?_,?_,?_,?_⟩
    all_goals first|omega |(simp;omega)|go_simp|skip
  case rest=>
    obtain⟨g,rfl,rfl,hg1,hg2,hB,h0,h1,h2,hf⟩:=hcut
    have hz:=hB.size
    have HB:=Lib.hid hB
    have e3:=fun x y z w=>eq3 x y z 0 0 0 w
    clear hB HB1 c1_ hz1 hz1'
    have i1:=fun W (p i:Nat) v=>iter_setCell W ⟨#[114,114,112]⟩ p g i v
    have i2:=fun W (p i:Nat)=>iter_cell W ⟨#[114,114,112]⟩ p g i
    have i3:=fun W (p i:Nat)=>iter_frozen W ⟨#[114,114,112]⟩ p g i
    have n0_:=fun W n ty hn=>next_at (P:=Try.prog) W ⟨#[114,114,112]⟩ 0 1 n 114 ty hn (by decide) (by decide) (by decide) rfl
    have n1_:=fun W n ty hn=>next_at (P:=Try.prog) W ⟨#[114,114,112]⟩ 1 2 n 114 ty hn (by decide) (by decide) (by decide) rfl
    have n2_:=fun W n ty hn=>next_at (P:=Try.prog) W ⟨#[114,114,112]⟩ 2 3 n 112 ty hn (by decide) (by decide) (by decide) rfl
    have n3_:=fun W n ty hn=>next_end (P:=Try.prog) W ⟨#[114,114,112]⟩ 3 n ty hn (by decide)
    go_wp2
    refine wp_loop_rounds 4 ?_
    all_goals (rw[rounds_succ];go_wp2)
    any_goals (rw[rounds_succ];go_wp2)
    any_goals (rw[rounds_succ];go_wp2)
    any_goals (rw[rounds_succ];go_wp2)
    all_goals (go_ret;refine⟨ret_i64 ?_,?_⟩)
    all_goals first
      | exact HB.out.alloc hz _
      | exact(HB.out.setCell (p:=⟨g,_,none⟩) hg1 _).alloc (by simp;omega) _
      | exact((HB.out.setCell (p:=⟨g,_,none⟩) hg1 _).setCell (p:=⟨g,_,none⟩) hg1 _).alloc (by simp;omega) _
      | exact(((HB.out.setCell (p:=⟨g,_,none⟩) hg1 _).setCell (p:=⟨g,_,none⟩) hg1 _).setCell (p:=⟨g,_,none⟩) hg1 _).alloc (by simp;omega) _
      |(rw[xs_ (by simp only[xt_];omega)])
      |(rw[yv_ (by simp only[xt_];omega)])
      | (have hn:(n != 0)=true:=by assumption
         rw[bne_iff_ne]at hn
         rw[yv_ (by simp only[xt_];omega)])
      | (have hn:(n != 0)=false:=by assumption
         rw[bne_eq_false_iff_eq]at hn
         rw[xs_ (by simp only[xt_];omega)])
      | (have hn:(n != 0)=false:=by assumption
         rw[bne_eq_false_iff_eq]at hn
         rw[yv_ (by simp only[xt_];omega)])
set_option maxRecDepth 100000 in
set_option maxHeartbeats 4000000 in
theorem one_k6 (op a b c n:Int)(w:World)(a0:0≤a)(a1:a≤255)(b0:0≤b)(b1:b≤255)(c0:0≤c)(c1:c≤255)
   (hform:∀w,Calls Try.prog 103 #[.int .u8 op] w fun e w'=>e=.returned (.tuple #[.string ⟨#[116]⟩,.bool true])∧Below w.heap.size w w') :
    Calls Try.prog 92 #[.agg #[.int .u8 op,.int .u8 a,.int .u8 b,.int .u8 c,.int .i64 n]] w fun e w'=>e=.returned (.int .i64 (oneK 6 a b c n))∧Below w.heap.size w w':=by
  go_enter Try.func92,Try.ntmps92
  have HF:=Lib.hid hform
  clear hform
  go_wp2_with fail
  refine(HF.out _).mono ?_
  rintro e w1 ⟨rfl,hb1⟩
  have hz1:=hb1.size
  simp at hz1
  have hz1':w.heap.size < w1.heap.size:=by omega
  have c1_:∀o,w1.cell? ⟨w.heap.size,o,none⟩ = #[Value.int .u8 op,.int .u8 a,.int .u8 b,.int .u8 c,.int .i64 n][o]? := fun o=>by
    rw[hb1.cell (p:=⟨w.heap.size,o,none⟩) (by simp)];exact cell_of_row _ _ _ _ _ _ (heap_alloc_new w _)
  have HB1:=Lib.hid (((Below.refl _ w).alloc (Nat.le_refl _) _).trans (hb1.mono (by simp)))
  clear hb1 HF
  go_upto_region 4 with fail
  go_cut [5,6] (fun p m W=>∃g,p=.pointer (some ⟨g,0,none⟩)∧m=.int .i64 n∧w.heap.size≤g∧g < W.heap.size∧Below w.heap.size w W∧W.cell? ⟨g,0,none⟩=some (.int .u8 a)∧W.cell? ⟨g,1,none⟩=some (.int .u8 b)∧W.cell? ⟨g,2,none⟩=some (.int .u8 c)∧(∀o,W.frozen? ⟨g,o,none⟩=false))
  case first=>
    go_region_held3 (fun W=>Below w1.heap.size w1 W∧∀b o,b < w1.heap.size→W.cell? ⟨b,o,none⟩=w1.cell? ⟨b,o,none⟩)
      (repeat' (first|exact preD|assumption|exact preR|refine preB ?_ hb2|refine preE ?_|refine preA ?_ _|refine preS ?_ ?_ _|omega |(simp;done) |(simp;omega)))
      ((go_at_call 112;refine(registers_c _ _ _ _ _ _).mono ?_;rintro e w2 ⟨rfl,hb2⟩;obtain⟨hc2,hf2⟩:=bcell hb2;have hz2:=hb2.size;simp at hz2))
    all_goals (go_wp2_with fail;go_meet)
    all_goals refine⟨_,rfl,rfl,?_,?_,HB1.out.trans (Below.mono (And.left (by assumption)) (by omega)),?_,?_,?_,?_⟩
    all_goals first|omega |(simp;omega)|go_simp|skip
  case rest=>
    obtain⟨g,rfl,rfl,hg1,hg2,hB,h0,h1,h2,hf⟩:=hcut
    have hz:=hB.size
    have HB:=Lib.hid hB
    have e3:=fun x y z w=>eq3 x y z 0 0 0 w
    clear hB HB1 c1_ hz1 hz1'
    have i1:=fun W (p i:Nat) v=>iter_setCell W ⟨#[116]⟩ p g i v
    have i2:=fun W (p i:Nat)=>iter_cell W ⟨#[116]⟩ p g i
    have i3:=fun W (p i:Nat)=>iter_frozen W ⟨#[116]⟩ p g i
    have n0_:=fun W n ty hn=>next_at (P:=Try.prog) W ⟨#[116]⟩ 0 1 n 116 ty hn (by decide) (by decide) (by decide) rfl
    have n1_:=fun W n ty hn=>next_end (P:=Try.prog) W ⟨#[116]⟩ 1 n ty hn (by decide)
    go_wp2
    refine wp_loop_rounds 2 ?_
    all_goals (rw[rounds_succ];go_wp2)
    any_goals (rw[rounds_succ];go_wp2)
    all_goals (go_ret;refine⟨ret_i64 ?_,?_⟩)
    all_goals first
      | exact HB.out.alloc hz _
      | exact(HB.out.setCell (p:=⟨g,_,none⟩) hg1 _).alloc (by simp;omega) _
      | exact((HB.out.setCell (p:=⟨g,_,none⟩) hg1 _).setCell (p:=⟨g,_,none⟩) hg1 _).alloc (by simp;omega) _
      | exact(((HB.out.setCell (p:=⟨g,_,none⟩) hg1 _).setCell (p:=⟨g,_,none⟩) hg1 _).setCell (p:=⟨g,_,none⟩) hg1 _).alloc (by simp;omega) _
      |(rw[xs_ (by simp only[xt_];omega)])
      |(rw[yv_ (by simp only[xt_];omega)])
      | (have hn:(n != 0)=true:=by assumption
         rw[bne_iff_ne]at hn
         rw[yv_ (by simp only[xt_];omega)])
      | (have hn:(n != 0)=false:=by assumption
         rw[bne_eq_false_iff_eq]at hn
         rw[xs_ (by simp only[xt_];omega)])
      | (have hn:(n != 0)=false:=by assumption
         rw[bne_eq_false_iff_eq]at hn
         rw[yv_ (by simp only[xt_];omega)])
set_option maxRecDepth 100000 in
set_option maxHeartbeats 4000000 in
theorem one_k7 (op a b c n:Int)(w:World)(a0:0≤a)(a1:a≤255)(b0:0≤b)(b1:b≤255)(c0:0≤c)(c1:c≤255)
   (hform:∀w,Calls Try.prog 103 #[.int .u8 op] w fun e w'=>e=.returned (.tuple #[.string ⟨#[114,116]⟩,.bool true])∧Below w.heap.size w w') :
    Calls Try.prog 92 #[.agg #[.int .u8 op,.int .u8 a,.int .u8 b,.int .u8 c,.int .i64 n]] w fun e w'=>e=.returned (.int .i64 (oneK 7 a b c n))∧Below w.heap.size w w':=by
  go_enter Try.func92,Try.ntmps92
  have HF:=Lib.hid hform
  clear hform
  go_wp2_with fail
  refine(HF.out _).mono ?_
  rintro e w1 ⟨rfl,hb1⟩
  have hz1:=hb1.size
  simp at hz1
  have hz1':w.heap.size < w1.heap.size:=by omega
  have c1_:∀o,w1.cell? ⟨w.heap.size,o,none⟩ = #[Value.int .u8 op,.int .u8 a,.int .u8 b,.int .u8 c,.int .i64 n][o]? := fun o=>by
    rw[hb1.cell (p:=⟨w.heap.size,o,none⟩) (by simp)];exact cell_of_row _ _ _ _ _ _ (heap_alloc_new w _)
  have HB1:=Lib.hid (((Below.refl _ w).alloc (Nat.le_refl _) _).trans (hb1.mono (by simp)))
  clear hb1 HF
  go_upto_region 4 with fail
  go_cut [5,6] (fun p m W=>∃g,p=.pointer (some ⟨g,0,none⟩)∧m=.int .i64 n∧w.heap.size≤g∧g < W.heap.size∧Below w.heap.size w W∧W.cell? ⟨g,0,none⟩=some (.int .u8 a)∧W.cell? ⟨g,1,none⟩=some (.int .u8 b)∧W.cell? ⟨g,2,none⟩=some (.int .u8 c)∧(∀o,W.frozen? ⟨g,o,none⟩=false))
  case first=>
    go_region_held3 (fun W=>Below w1.heap.size w1 W∧∀b o,b < w1.heap.size→W.cell? ⟨b,o,none⟩=w1.cell? ⟨b,o,none⟩)
      (repeat' (first|exact preD|assumption|exact preR|refine preB ?_ hb2|refine preE ?_|refine preA ?_ _|refine preS ?_ ?_ _|omega |(simp;done) |(simp;omega)))
      ((go_at_call 112;refine(registers_c _ _ _ _ _ _).mono ?_;rintro e w2 ⟨rfl,hb2⟩;obtain⟨hc2,hf2⟩:=bcell hb2;have hz2:=hb2.size;simp at hz2))
    all_goals (go_wp2_with fail;go_meet)
    all_goals refine⟨_,rfl,rfl,?_,?_,HB1.out.trans (Below.mono (And.left (by assumption)) (by omega)),?_,?_,?_,?_⟩
    all_goals first|omega |(simp;omega)|go_simp|skip
  case rest=>
    obtain⟨g,rfl,rfl,hg1,hg2,hB,h0,h1,h2,hf⟩:=hcut
    have hz:=hB.size
    have HB:=Lib.hid hB
    have e3:=fun x y z w=>eq3 x y z 0 0 0 w
    clear hB HB1 c1_ hz1 hz1'
    have i1:=fun W (p i:Nat) v=>iter_setCell W ⟨#[114,116]⟩ p g i v
    have i2:=fun W (p i:Nat)=>iter_cell W ⟨#[114,116]⟩ p g i
    have i3:=fun W (p i:Nat)=>iter_frozen W ⟨#[114,116]⟩ p g i
    have n0_:=fun W n ty hn=>next_at (P:=Try.prog) W ⟨#[114,116]⟩ 0 1 n 114 ty hn (by decide) (by decide) (by decide) rfl
    have n1_:=fun W n ty hn=>next_at (P:=Try.prog) W ⟨#[114,116]⟩ 1 2 n 116 ty hn (by decide) (by decide) (by decide) rfl
    have n2_:=fun W n ty hn=>next_end (P:=Try.prog) W ⟨#[114,116]⟩ 2 n ty hn (by decide)
    go_wp2
    refine wp_loop_rounds 3 ?_
    all_goals (rw[rounds_succ];go_wp2)
    any_goals (rw[rounds_succ];go_wp2)
    any_goals (rw[rounds_succ];go_wp2)
    all_goals (go_ret;refine⟨ret_i64 ?_,?_⟩)
    all_goals first
      | exact HB.out.alloc hz _
      | exact(HB.out.setCell (p:=⟨g,_,none⟩) hg1 _).alloc (by simp;omega) _
      | exact((HB.out.setCell (p:=⟨g,_,none⟩) hg1 _).setCell (p:=⟨g,_,none⟩) hg1 _).alloc (by simp;omega) _
      | exact(((HB.out.setCell (p:=⟨g,_,none⟩) hg1 _).setCell (p:=⟨g,_,none⟩) hg1 _).setCell (p:=⟨g,_,none⟩) hg1 _).alloc (by simp;omega) _
      |(rw[xs_ (by simp only[xt_];omega)])
      |(rw[yv_ (by simp only[xt_];omega)])
      | (have hn:(n != 0)=true:=by assumption
         rw[bne_iff_ne]at hn
         rw[yv_ (by simp only[xt_];omega)])
      | (have hn:(n != 0)=false:=by assumption
         rw[bne_eq_false_iff_eq]at hn
         rw[xs_ (by simp only[xt_];omega)])
      | (have hn:(n != 0)=false:=by assumption
         rw[bne_eq_false_iff_eq]at hn
         rw[yv_ (by simp only[xt_];omega)])
set_option maxHeartbeats 1000000 in
theorem one_k0 (op a b c n:Int)(w:World)
   (hform:∀w,Calls Try.prog 103 #[.int .u8 op] w fun e w'=>e=.returned (.tuple #[.string ⟨#[]⟩,.bool false])∧Below w.heap.size w w') :
    Calls Try.prog 92 #[.agg #[.int .u8 op,.int .u8 a,.int .u8 b,.int .u8 c,.int .i64 n]] w fun e w'=>e=.returned (.int .i64 140)∧Below w.heap.size w w':=by
  go_enter Try.func92,Try.ntmps92
  have HF:=Lib.hid hform
  clear hform
  go_wp2_with fail
  refine(HF.out _).mono ?_
  rintro e w1 ⟨rfl,hb1⟩
  go_wp2
  go_ret
  exact⟨rfl,((Below.refl _ w).alloc (Nat.le_refl _) _).trans (hb1.mono (by simp))⟩
theorem form_c (op:Int)(h0:0≤op)(w:World):Calls Try.prog 103 #[.int .u8 op] w fun e w'=>e=.returned (.tuple #[.string (formS (xh_ op)),.bool (xh_ op != 0)])∧Below w.heap.size w w':=by
 by_cases h:32 < op
 ·by_cases h':op≤49
  ·have hc:xh_ op=1:=by unfold xh_;rw[if_pos ⟨h,h'⟩]
   rw[hc]
   exact form_rrr op w h h'
  ·exact form_hi op w (by omega)
 ·exact form_lo op w h0 (by omega)
theorem one_c (i:Ins)(hi:i.ok)(w:World):Calls Try.prog 92 #[i.v] w fun e w'=>e=.returned (.int .i64 (oneE i))∧Below w.heap.size w w':=by
 obtain⟨op,a,b,c,n⟩:=i
 obtain⟨o0,o1,a0,a1,b0,b1,c0,c1,n0,n1⟩:=hi
 dsimp only at *
 have hf:=form_c op o0
 unfold Ins.v oneE
 dsimp only
 have hk:xh_ op=0∨xh_ op=1∨xh_ op=2∨xh_ op=3∨xh_ op=4∨xh_ op=5∨xh_ op=6∨xh_ op=7:=by
  unfold xh_;repeat (first |(split;· simp)|simp)
 rcases hk with h|h|h|h|h|h|h|h<;>rw[h]at hf<;>rw[h]
 ·exact one_k0 op a b c n w hf
 ·exact one_k1 op a b c n w a0 a1 b0 b1 c0 c1 hf
 ·exact one_k2 op a b c n w a0 a1 b0 b1 c0 c1 hf
 ·exact one_k3 op a b c n w a0 a1 b0 b1 c0 c1 hf
 ·exact one_k4 op a b c n w a0 a1 b0 b1 c0 c1 hf
 ·exact one_k5 op a b c n w a0 a1 b0 b1 c0 c1 hf
 ·exact one_k6 op a b c n w a0 a1 b0 b1 c0 c1 hf
 ·exact one_k7 op a b c n w a0 a1 b0 b1 c0 c1 hf
def goesB (i:Ins):Bool:=oneE i == 0 && (i.op != 1 && (i.op != 2 && i.op != 9))
set_option maxRecDepth 100000 in
set_option maxHeartbeats 1000000 in
theorem goes_c (i:Ins)(hi:i.ok)(w:World):Calls Try.prog 94 #[i.v] w fun e w'=>e=.returned (.bool (goesB i))∧Below w.heap.size w w':=by
 have h1:=fun w=>one_c i hi w
 obtain⟨E,hE⟩:∃E,E=oneE i:=⟨_,rfl⟩
 unfold goesB
 rw[←hE]at h1 ⊢
 obtain⟨op,a,b,c,n⟩:=i
 unfold Ins.v at h1 ⊢
 dsimp only at h1 ⊢
 have H1:=Lib.hid h1
 clear h1 hE hi
 go_enter Try.func94,Try.ntmps94
 go_wp2_with fail
 refine(H1.out _).mono ?_
 rintro e w1 ⟨rfl,hb1⟩
 have hB:=Lib.hid (((Below.refl _ w).alloc (Nat.le_refl _) _).trans (hb1.mono (by simp)))
 have q0:w1.cell? ⟨w.heap.size,0,none⟩=some (.int .u8 op):=by
  rw[hb1.cell (p:=⟨w.heap.size,0,none⟩) (by simp)];exact cell_of_row _ _ _ _ _ _ (heap_alloc_new w _)
 clear hb1
 go_wp2
 all_goals (go_ret;refine⟨?_,hB.out⟩)
 all_goals first |(simp[*];done) |(simp[*,Bool.and_assoc];done)
def xj_ (i:Ins):Bool:=oneE i == 0 && (i.op == 9 ||(i.op == 10 || i.op == 11))
def y7_ (i:Ins):Int:=if xj_ i then i.n else 0
set_option maxRecDepth 100000 in
set_option maxHeartbeats 1000000 in
theorem target_c (i:Ins)(hi:i.ok)(w:World):Calls Try.prog 93 #[i.v] w fun e w'=>e=.returned (.tuple #[.int .i64 (y7_ i),.bool (xj_ i)])∧Below w.heap.size w w':=by
 have h1:=fun w=>one_c i hi w
 obtain⟨E,hE⟩:∃E,E=oneE i:=⟨_,rfl⟩
 obtain⟨V,hV⟩:∃V,V=y7_ i:=⟨_,rfl⟩
 obtain⟨T,hT⟩:∃T,T=xj_ i:=⟨_,rfl⟩
 have hV':=hV
 unfold y7_ at hV'
 rw[←hT]at hV'
 have hT':=hT
 unfold xj_ at hT'
 rw[←hE]at h1 hT'
 rw[←hT,←hV]
 obtain⟨op,a,b,c,n⟩:=i
 unfold Ins.v at h1 ⊢
 dsimp only at h1 hT' hV' ⊢
 have H1:=Lib.hid h1
 have HT:=Lib.hid hT'
 have HV:=Lib.hid hV'
 clear h1 hE hi hT hT' hV hV'
 go_enter Try.func93,Try.ntmps93
 go_wp2_with fail
 refine(H1.out _).mono ?_
 rintro e w1 ⟨rfl,hb1⟩
 have hB:=Lib.hid (((Below.refl _ w).alloc (Nat.le_refl _) _).trans (hb1.mono (by simp)))
 have q0:w1.cell? ⟨w.heap.size,0,none⟩=some (.int .u8 op):=by
  rw[hb1.cell (p:=⟨w.heap.size,0,none⟩) (by simp)];exact cell_of_row _ _ _ _ _ _ (heap_alloc_new w _)
 have q4:w1.cell? ⟨w.heap.size,4,none⟩=some (.int .i64 n):=by
  rw[hb1.cell (p:=⟨w.heap.size,4,none⟩) (by simp)];exact cell_of_row _ _ _ _ _ _ (heap_alloc_new w _)
 clear hb1
 go_wp2
 all_goals go_ret2
 all_goals refine⟨?_,hB.out⟩
 all_goals rw[HV.out,HT.out]
 all_goals first |(simp[*];done) |(simp_all;done) |((have hq:((op != 9)=false∨(op != 10)=false)∨(op != 11)=false:=(by assumption));simp at hq;(have h11:op=11:=(by omega));simp[*];done)
def badAt (n:Int)(i:Ins):Int:=if oneE i≠0 then oneE i else if xj_ i=true∧n≤y7_ i then 142 else 0
def checkK (p:List Ins):Int×Int:=
 match p.findIdx? (fun i=>badAt p.length i != 0)with
 | some k=>(k,badAt p.length (p.getD k ⟨0,0,0,0,0⟩))
 | none=>if goesB (p.getD (p.length - 1) ⟨0,0,0,0,0⟩)then((p.length:Int) - 1,143)else(-1,0)
def y8_ (p:List Ins):Int×Int:=if p.length=0 then(-1,6)else if 256 < p.length then(-1,5)else checkK p
theorem checkK_bad {p:List Ins}{j:Nat}{x:Ins}{v:Int}(h:∀i,i < j→∀y,p[i]? = some y→badAt p.length y=0)(hx:p[j]? = some x)(hv:badAt p.length x=v)(hn:v≠0):checkK p=((j:Int),v):=by
 have hj:j < p.length:=(List.getElem?_eq_some_iff.1 hx).1
 have hf:p.findIdx? (fun i=>badAt p.length i != 0)=some j:=by
  rw[List.findIdx?_eq_some_iff_getElem]
  refine⟨hj,?_,fun i hi=>?_⟩
  ·have:p[j]=x:=(List.getElem?_eq_some_iff.1 hx).2
   rw[this,hv];simpa using hn
  ·simp[h i hi _ (List.getElem?_eq_getElem (by omega))]
 unfold checkK
 rw[hf]
 simp[List.getD,hx,hv]
theorem checkK_none {p:List Ins}(h:∀i,i < p.length→∀y,p[i]? = some y→badAt p.length y=0):checkK p=if goesB (p.getD (p.length - 1) ⟨0,0,0,0,0⟩)then((p.length:Int) - 1,143)else(-1,0):=by
 have hf:p.findIdx? (fun i=>badAt p.length i != 0)=none:=by
  rw[List.findIdx?_eq_none_iff]
  intro x hx
  obtain⟨i,hi,rfl⟩:=List.getElem_of_mem hx
  simp[h i hi _ (List.getElem?_eq_getElem hi)]
 unfold checkK
 rw[hf]
set_option maxRecDepth 100000 in
set_option maxHeartbeats 2000000 in
theorem check_mid (A:Option Addr)(n c:Nat)(p:List Ins)(hok:∀i∈p,i.ok)(w:World)(h:yh_ w w.heap.size 5 A n (insV p))(h0:((n:Int) == 0)=false)(h0':0 < n)(h1:n≤256) :
  Calls Try.prog 63 #[.slice A n c] w fun e w'=>e=.returned (.tuple #[.int .i64 (checkK p).1,.int .i64 (checkK p).2])∧Below w.heap.size w w':=by
 have hpl:=h.ins_len
 have HL:=Lib.hid hpl
 clear hpl
 go_enter Try.func63,Try.ntmps63
 go_wp2
 go_loopw [4,5,6,7,8,20] (fun _ _ _ _ _ k wr=>∃j:Nat,k=.int .i64 j∧j≤n∧(∀i,i < j→∀y,p[i]? = some y→badAt n y=0)∧Below w.heap.size w wr) (fun _ _ _ _ _ k _=>n - (intOf k).toNat)
 case atStart=>exact⟨0,rfl,by omega,fun i hi=>by omega,Below.refl _ _⟩
 case round=>
  obtain⟨j,rfl,hj,hbad,hb⟩:=hrel
  have HBad:=Lib.hid hbad
  clear hbad
  by_cases hlt:j < n
  ·obtain⟨b,o,x,rfl,hl1,hx,hc0,hc1,hc2,hc3,hc4⟩:=(h.below hb).ins_at hlt
   have hxok:=hok x (List.mem_of_getElem? hx)
   obtain⟨op,a,b',c',m⟩:=x
   have HX:=Lib.hid hx
   have HO:=Lib.hid hxok
   have HB:=Lib.hid hb
   have hz:=hb.size
   clear hb hx h hxok hok
   dsimp only at hc0 hc1 hc2 hc3 hc4
   obtain⟨I,hI⟩:∃I:Ins,I=⟨op,a,b',c',m⟩:=⟨_,rfl⟩
   rw[←hI]at HO HX
   have HI:=Lib.hid hI
   clear hI
   have h1:∀w,Calls Try.prog 92 #[.agg #[.int .u8 op,.int .u8 a,.int .u8 b',.int .u8 c',.int .i64 m]] w fun e w'=>e=.returned (.int .i64 (oneE I))∧Below w.heap.size w w':=fun w=>by
    have:=one_c I HO.out w;rw[HI.out]at this ⊢;exact this
   have h2:∀w,Calls Try.prog 93 #[.agg #[.int .u8 op,.int .u8 a,.int .u8 b',.int .u8 c',.int .i64 m]] w fun e w'=>e=.returned (.tuple #[.int .i64 (y7_ I),.bool (xj_ I)])∧Below w.heap.size w w':=fun w=>by
    have:=target_c I HO.out w;rw[HI.out]at this ⊢;exact this
   have hbadE:badAt n I=if oneE I≠0 then oneE I else if xj_ I=true∧(n:Int)≤y7_ I then 142 else 0:=rfl
   obtain⟨V,hV⟩:∃V,V=y7_ I:=⟨_,rfl⟩
   obtain⟨T,hT⟩:∃T,T=xj_ I:=⟨_,rfl⟩
   obtain⟨E,hE⟩:∃E,E=oneE I:=⟨_,rfl⟩
   rw[←hE]at h1 hbadE
   rw[←hV,←hT]at h2 hbadE
   have H1:=Lib.hid h1
   have H2:=Lib.hid h2
   have HE:=Lib.hid hbadE
   clear h1 h2 hbadE hV hT hE
   go_wp2_with fail
   refine(H1.out _).mono ?_
   rintro e w2 ⟨rfl,hb2⟩
   have hz2:=hb2.size
   simp at hz2
   have q:∀k u,#[Value.int .u8 op,.int .u8 a,.int .u8 b',.int .u8 c',.int .i64 m][k]? = some u→w2.cell? ⟨wr.heap.size,k,none⟩=some u:=fun k u hu=>by
    rw[hb2.cell (p:=⟨wr.heap.size,k,none⟩) (by simp),cell_of_row _ _ _ _ _ _ (heap_alloc_new wr _)];exact hu
   have q0:=q 0 _ rfl
   have q1:=q 1 _ rfl
   have q2:=q 2 _ rfl
   have q3:=q 3 _ rfl
   have q4:=q 4 _ rfl
   have HB2:=Lib.hid ((HB.out.alloc hz _).trans (hb2.mono (by simp;omega)))
   clear q hb2
   by_cases hE0:E=0
   ·subst hE0
    go_wp2_with fail
    refine(H2.out _).mono ?_
    rintro e w3 ⟨rfl,hb3⟩
    have hz3:=hb3.size
    have HB3:=Lib.hid (HB2.out.trans (hb3.mono (by omega)))
    clear hb3
    by_cases hbad:T=true∧(n:Int)≤V
    ·obtain⟨rfl,hnV⟩:=hbad
     go_wp2
     go_ret2
     refine⟨?_,HB3.out⟩
     have hv:badAt p.length I=142:=by rw[HL.out,HE.out];simp[hnV]
     rw[checkK_bad (by rw[HL.out];exact HBad.out) HX.out hv (by decide)]
     rfl
    ·cases T with
     | false=>
      go_wp2
      go_roundw
      case rel => 
       refine⟨j+1,by go_num,by omega,fun i hi y hy=>?_,HB3.out⟩
       by_cases hij:i < j
       ·exact HBad.out i hij y hy
       ·obtain rfl:i=j:=by omega
        rw[HX.out]at hy
        obtain rfl:I=y:=by cases hy;rfl
        rw[HE.out];simp
      case measure=>simp[intOf];omega
     | true=>
      have hV:V < (n:Int):=by simp at hbad;omega
      clear hbad
      go_wp2
      go_roundw
      case rel => 
       refine⟨j+1,by go_num,by omega,fun i hi y hy=>?_,HB3.out⟩
       by_cases hij:i < j
       ·exact HBad.out i hij y hy
       ·obtain rfl:i=j:=by omega
        rw[HX.out]at hy
        obtain rfl:I=y:=by cases hy;rfl
        rw[HE.out];simp;omega
      case measure=>simp[intOf];omega
   ·have hE1:(E != 0)=true:=by rw[bne_iff_ne];exact hE0
    have HE0:=Lib.hid hE0
    clear hE0
    go_wp2
    go_ret2
    refine⟨?_,HB2.out⟩
    have hv:badAt p.length I=E:=by rw[HL.out,HE.out,if_pos HE0.out]
    rw[checkK_bad (by rw[HL.out];exact HBad.out) HX.out hv HE0.out]
    rfl
  ·obtain rfl:j=n:=by omega
   have hk:=checkK_none (p:=p) (by rw[HL.out];exact HBad.out)
   obtain⟨b,o,x,rfl,hl1,hx,hc0,hc1,hc2,hc3,hc4⟩:=(h.below hb).ins_at (k:=j - 1) (by omega)
   have hxok:=hok x (List.mem_of_getElem? hx)
   have hg:p.getD (p.length - 1) ⟨0,0,0,0,0⟩=x:=by rw[HL.out];simp[List.getD,hx]
   rw[hg,HL.out]at hk
   have hi:(((j:Int) - 1).toNat)=j - 1:=by omega
   have hs1:(0:Int)≤(j:Int) - 1:=by omega
   have hg1:=fun w=>goes_c x hxok w
   obtain⟨G,hG⟩:∃G,G=goesB x:=⟨_,rfl⟩
   rw[←hG]at hk hg1
   have HK:=Lib.hid hk
   have HB:=Lib.hid hb
   have HG:=Lib.hid hg1
   obtain⟨op,a,b',c',m⟩:=x
   dsimp only at hc0 hc1 hc2 hc3 hc4
   clear hk hb h hok hx hxok hg hG hg1 hi
   go_wp2_with fail
   refine(HG.out _).mono ?_
   rintro e w2 ⟨rfl,hb2⟩
   have HB2:=Lib.hid (HB.out.trans (hb2.mono HB.out.size))
   clear hb2
   cases G with
   | false=>
    go_wp2
    go_ret2
    refine⟨?_,HB2.out⟩
    rw[HK.out]
    rfl
   | true=>
    go_wp2
    go_ret2
    refine⟨?_,HB2.out⟩
    rw[HK.out]
    rfl
set_option maxRecDepth 100000 in
set_option maxHeartbeats 2000000 in
theorem check_c (A:Option Addr)(n c:Nat)(hn:n < 2^62)(p:List Ins)(hok:∀i∈p,i.ok)(w:World)(h:yh_ w w.heap.size 5 A n (insV p)) :
  Calls Try.prog 63 #[.slice A n c] w fun e w'=>e=.returned (.tuple #[.int .i64 (y8_ p).1,.int .i64 (y8_ p).2])∧Below w.heap.size w w':=by
 have hpl:=h.ins_len
 unfold y8_
 rw[hpl]
 by_cases h0:n=0
 ·subst h0
  go_enter Try.func63,Try.ntmps63
  go_wp2
  go_ret2
  exact⟨rfl,Below.refl _ _⟩
 ·rw[if_neg h0]
  by_cases h1:256 < n
  ·rw[if_pos h1]
   have h0':((n:Int) == 0)=false:=by simp;exact h0
   have h1':(256:Int) < n:=by omega
   clear h h0 hok hpl
   go_enter Try.func63,Try.ntmps63
   go_wp2
   go_ret2
   exact⟨rfl,Below.refl _ _⟩
  ·rw[if_neg h1]
   exact check_mid A n c p hok w h (by simp;exact h0) (by omega) (by omega)
def xg_ (op b:Int):Int:=if op < 1∨17 < op then 130 else if b=0∧4≤op∧op≤6 then 131 else 0
def allL : List Value := [.string ⟨#[]⟩,.bool false,.string ⟨#[97,100,100]⟩,.bool false,.string ⟨#[115,117,98]⟩,.bool false,.string ⟨#[109,117,108]⟩,.bool false,
 .string ⟨#[100,105,118]⟩,.bool true,.string ⟨#[114,101,109]⟩,.bool true,.string ⟨#[109,111,100]⟩,.bool true,.string ⟨#[97,110,100]⟩,.bool false,.string ⟨#[111,114]⟩,.bool false,
 .string ⟨#[120,111,114]⟩,.bool false,.string ⟨#[115,104,108]⟩,.bool false,.string ⟨#[115,104,114]⟩,.bool false,.string ⟨#[115,97,114]⟩,.bool false,.string ⟨#[108,101,115,115]⟩,.bool false,
 .string ⟨#[98,101,108,111,119]⟩,.bool false,.string ⟨#[101,113,117,97,108]⟩,.bool false,.string ⟨#[109,105,110]⟩,.bool false,.string ⟨#[109,97,120]⟩,.bool false]
theorem truth_t (w:World):Calls Try.prog 132 #[.bool true] w fun e w'=>e=.returned (.int .i64 1)∧w=w':=by
 go_enter Try.func132,Try.ntmps132
 go_wp2
 go_ret
 exact⟨rfl,rfl⟩
theorem truth_f (w:World):Calls Try.prog 132 #[.bool false] w fun e w'=>e=.returned (.int .i64 0)∧w=w':=by
 go_enter Try.func132,Try.ntmps132
 go_wp2
 go_ret
 exact⟨rfl,rfl⟩
def truthI (b:Bool):Int:=if b then 1 else 0
theorem truth_c (b:Bool)(w:World):Calls Try.prog 132 #[.bool b] w fun e w'=>e=.returned (.int .i64 (truthI b))∧w=w':=by
 cases b
 ·exact truth_f w
 ·exact truth_t w
def modI (a b:Int):Int:=if 0≤a.tmod b then a.tmod b else if b < 0 then wrap64 (a.tmod b - b)else wrap64 (a.tmod b+b)
theorem mod_c (a b:Int)(w:World)(hb:b≠0):Calls Try.prog 131 #[.int .i64 a,.int .i64 b] w fun e w'=>e=.returned (.int .i64 (modI a b))∧w=w':=by
 go_enter Try.func131,Try.ntmps131
 go_wp2
 all_goals go_ret
 all_goals refine⟨ret_i64 ?_,rfl⟩
 ·rw[modI,if_pos (by assumption)]
 ·rw[modI,if_neg (by omega),if_pos (by assumption)]
 ·rw[modI,if_neg (by omega),if_neg (by omega)]
set_option maxRecDepth 100000 in
set_option maxHeartbeats 4000000 in
theorem all_c (w:World):Calls Try.prog 140 #[] w fun e w'=>e=.returned (.agg allL.toArray)∧Below w.heap.size w w':=by
 go_enter Try.func140,Try.ntmps140
 go_wp2_with (refine wpList_store_row rfl 225 (.tmp 0) (.tmp 19) rfl w.heap.size allL.toArray rfl rfl 225 _ (heap_alloc_new w _) (by kernel_rfl) rfl (by kernel_rfl) ?_)
 exact bodyPost_ret (v:=.agg allL.toArray) (results_cell_row (P:=Try.prog) (p:=0) (ty:=225) rfl _ _ w.heap.size 225 allL.toArray (0,0) _ rfl (setRow_heap _ _ _ _ _ _ (heap_alloc_new w _)) Try.underlying225 rfl (by kernel_rfl)) rfl
  ⟨rfl,below_setRow ((Below.refl _ _).alloc (Nat.le_refl _) _) (Nat.le_refl _) _⟩
def nmB:Value→ByteArray
 | .string s=>s
 | _=>⟨#[]⟩
def nm (op:Int):ByteArray:=nmB (allL.getD (2*op).toNat undef)
theorem allIx1 (w:World):(Instr.index 225 (.agg allL.toArray) (.int .u8 1)).run Try.prog w=.ok (.agg #[.string (nm 1),.bool (decide ((4:Int)≤1∧(1:Int)≤6))]) w:=by kernel_rfl
theorem allIx2 (w:World):(Instr.index 225 (.agg allL.toArray) (.int .u8 2)).run Try.prog w=.ok (.agg #[.string (nm 2),.bool (decide ((4:Int)≤2∧(2:Int)≤6))]) w:=by kernel_rfl
theorem allIx3 (w:World):(Instr.index 225 (.agg allL.toArray) (.int .u8 3)).run Try.prog w=.ok (.agg #[.string (nm 3),.bool (decide ((4:Int)≤3∧(3:Int)≤6))]) w:=by kernel_rfl
theorem allIx4 (w:World):(Instr.index 225 (.agg allL.toArray) (.int .u8 4)).run Try.prog w=.ok (.agg #[.string (nm 4),.bool (decide ((4:Int)≤4∧(4:Int)≤6))]) w:=by kernel_rfl
theorem allIx5 (w:World):(Instr.index 225 (.agg allL.toArray) (.int .u8 5)).run Try.prog w=.ok (.agg #[.string (nm 5),.bool (decide ((4:Int)≤5∧(5:Int)≤6))]) w:=by kernel_rfl
theorem allIx6 (w:World):(Instr.index 225 (.agg allL.toArray) (.int .u8 6)).run Try.prog w=.ok (.agg #[.string (nm 6),.bool (decide ((4:Int)≤6∧(6:Int)≤6))]) w:=by kernel_rfl
theorem allIx7 (w:World):(Instr.index 225 (.agg allL.toArray) (.int .u8 7)).run Try.prog w=.ok (.agg #[.string (nm 7),.bool (decide ((4:Int)≤7∧(7:Int)≤6))]) w:=by kernel_rfl
theorem allIx8 (w:World):(Instr.index 225 (.agg allL.toArray) (.int .u8 8)).run Try.prog w=.ok (.agg #[.string (nm 8),.bool (decide ((4:Int)≤8∧(8:Int)≤6))]) w:=by kernel_rfl
theorem allIx9 (w:World):(Instr.index 225 (.agg allL.toArray) (.int .u8 9)).run Try.prog w=.ok (.agg #[.string (nm 9),.bool (decide ((4:Int)≤9∧(9:Int)≤6))]) w:=by kernel_rfl
theorem allIx10 (w:World):(Instr.index 225 (.agg allL.toArray) (.int .u8 10)).run Try.prog w=.ok (.agg #[.string (nm 10),.bool (decide ((4:Int)≤10∧(10:Int)≤6))]) w:=by kernel_rfl
theorem allIx11 (w:World):(Instr.index 225 (.agg allL.toArray) (.int .u8 11)).run Try.prog w=.ok (.agg #[.string (nm 11),.bool (decide ((4:Int)≤11∧(11:Int)≤6))]) w:=by kernel_rfl
theorem allIx12 (w:World):(Instr.index 225 (.agg allL.toArray) (.int .u8 12)).run Try.prog w=.ok (.agg #[.string (nm 12),.bool (decide ((4:Int)≤12∧(12:Int)≤6))]) w:=by kernel_rfl
theorem allIx13 (w:World):(Instr.index 225 (.agg allL.toArray) (.int .u8 13)).run Try.prog w=.ok (.agg #[.string (nm 13),.bool (decide ((4:Int)≤13∧(13:Int)≤6))]) w:=by kernel_rfl
theorem allIx14 (w:World):(Instr.index 225 (.agg allL.toArray) (.int .u8 14)).run Try.prog w=.ok (.agg #[.string (nm 14),.bool (decide ((4:Int)≤14∧(14:Int)≤6))]) w:=by kernel_rfl
theorem allIx15 (w:World):(Instr.index 225 (.agg allL.toArray) (.int .u8 15)).run Try.prog w=.ok (.agg #[.string (nm 15),.bool (decide ((4:Int)≤15∧(15:Int)≤6))]) w:=by kernel_rfl
theorem allIx16 (w:World):(Instr.index 225 (.agg allL.toArray) (.int .u8 16)).run Try.prog w=.ok (.agg #[.string (nm 16),.bool (decide ((4:Int)≤16∧(16:Int)≤6))]) w:=by kernel_rfl
theorem allIx17 (w:World):(Instr.index 225 (.agg allL.toArray) (.int .u8 17)).run Try.prog w=.ok (.agg #[.string (nm 17),.bool (decide ((4:Int)≤17∧(17:Int)≤6))]) w:=by kernel_rfl
theorem allIxAt (op:Int)(h1:1≤op)(h2:op≤17)(w:World):(Instr.index 225 (.agg allL.toArray) (.int .u8 op)).run Try.prog w=.ok (.agg #[.string (nm op),.bool (decide (4≤op∧op≤6))]) w:=by
 have h:op=1∨op=2∨op=3∨op=4∨op=5∨op=6∨op=7∨op=8∨op=9∨op=10∨op=11∨op=12∨op=13∨op=14∨op=15∨op=16∨op=17:=by omega
 rcases h with h|h|h|h|h|h|h|h|h|h|h|h|h|h|h|h|h<;>subst h
 ·exact allIx1 w
 ·exact allIx2 w
 ·exact allIx3 w
 ·exact allIx4 w
 ·exact allIx5 w
 ·exact allIx6 w
 ·exact allIx7 w
 ·exact allIx8 w
 ·exact allIx9 w
 ·exact allIx10 w
 ·exact allIx11 w
 ·exact allIx12 w
 ·exact allIx13 w
 ·exact allIx14 w
 ·exact allIx15 w
 ·exact allIx16 w
 ·exact allIx17 w
set_option maxHeartbeats 1000000 in
theorem wrong_bad (op b:Int)(w:World)(h:op < 1∨17 < op):Calls Try.prog 130 #[.int .u8 op,.int .i64 b] w fun e w'=>e=.returned (.int .i64 130)∧w=w':=by
 rcases h with h|h
 ·go_enter Try.func130,Try.ntmps130
  go_wp2
  go_ret
  exact⟨rfl,rfl⟩
 ·have h':¬op < 1:=by omega
  go_enter Try.func130,Try.ntmps130
  go_wp2
  go_ret
  exact⟨rfl,rfl⟩
set_option maxHeartbeats 1000000 in
theorem wrong_ok (op b:Int)(w:World)(h1:1≤op)(h2:op≤17)(hb:(b == 0)=false):Calls Try.prog 130 #[.int .u8 op,.int .i64 b] w fun e w'=>e=.returned (.int .i64 0)∧w=w':=by
 go_enter Try.func130,Try.ntmps130
 go_wp2
 go_ret
 exact⟨rfl,rfl⟩
set_option maxRecDepth 100000 in
set_option maxHeartbeats 1000000 in
theorem wrong_z (op:Int)(w:World)(h1:1≤op)(h2:op≤17):Calls Try.prog 130 #[.int .u8 op,.int .i64 0] w fun e w'=>e=.returned (.int .i64 (if 4≤op∧op≤6 then 131 else 0))∧Below w.heap.size w w':=by
 have hs:=allIxAt op h1 h2
 obtain⟨V,hV⟩:∃V,V=allL.toArray:=⟨_,rfl⟩
 have ha:∀w,Calls Try.prog 140 #[] w fun e w'=>e=.returned (.agg V)∧Below w.heap.size w w':=hV ▸ all_c
 rw[←hV]at hs
 have HA:=Lib.hid ha
 clear ha hV
 have hfl:∀(w:World) (s:ByteArray) (b:Bool),(Instr.field 224 (.agg #[.string s,.bool b]) 1).run Try.prog w=.ok (.bool b) w:=fun w s b=>by kernel_rfl
 go_enter Try.func130,Try.ntmps130
 go_wp2_with fail
 refine(HA.out _).mono ?_
 rintro e w' ⟨rfl,hb⟩
 go_wp2
 all_goals go_ret
 all_goals exact⟨rfl,hb⟩
theorem wrong_c (op b:Int)(w:World):Calls Try.prog 130 #[.int .u8 op,.int .i64 b] w fun e w'=>e=.returned (.int .i64 (xg_ op b))∧Below w.heap.size w w':=by
 by_cases h:op < 1∨17 < op
 ·refine(wrong_bad op b w h).mono ?_
  rintro e w' ⟨rfl,rfl⟩
  exact⟨ret_i64 (by rw[xg_,if_pos h]),Below.refl _ _⟩
 ·by_cases hb:b=0
  ·subst hb
   refine(wrong_z op w (by omega) (by omega)).mono ?_
   rintro e w' ⟨rfl,hB⟩
   refine⟨ret_i64 ?_,hB⟩
   rw[xg_,if_neg h]
   simp
  ·refine(wrong_ok op b w (by omega) (by omega) (by simpa using hb)).mono ?_
   rintro e w' ⟨rfl,rfl⟩
   exact⟨ret_i64 (by rw[xg_,if_neg h,if_neg (fun x=>hb x.1)]),Below.refl _ _⟩
set_option maxRecDepth 100000 in
set_option maxHeartbeats 1000000 in
theorem apply_bad (op a b:Int)(w:World)(h:(xg_ op b != 0)=true):Calls Try.prog 117 #[.int .u8 op,.int .i64 a,.int .i64 b] w fun e w'=>e=.returned (.tuple #[.int .i64 0,.int .i64 (xg_ op b)])∧Below w.heap.size w w':=by
 have HW:=Lib.hid (fun w=>wrong_c op b w)
 obtain⟨E,hE⟩:∃E,E=xg_ op b:=⟨_,rfl⟩
 rw[←hE]at HW h ⊢
 clear hE
 go_enter Try.func117,Try.ntmps117
 go_wp2_with fail
 refine(HW.out _).mono ?_
 rintro e w' ⟨rfl,hb⟩
 go_wp2
 go_ret2
 exact⟨rfl,hb⟩
def shB (b:Int):Int:=bits BinOp.and IntKind.u64 (IntKind.u64.wrap b) 63
theorem u64_wrap_bd (b:Int):0≤IntKind.u64.wrap b∧IntKind.u64.wrap b < 18446744073709551616:=by
 simp only[IntKind.wrap,IntKind.bits,IntKind.signed]
 simp
 omega
theorem shB_eq (b:Int):shB b=IntKind.u64.wrap b % 64:=by
 have hb:=u64_wrap_bd b
 unfold shB
 rw[u64_and _ _ hb.1 hb.2 (by decide) (by decide)]
 have h63:(63:Int).toNat=2 ^ 6 - 1:=by decide
 rw[h63,Nat.and_two_pow_sub_one_eq_mod]
 omega
theorem shB_bd (b:Int):0≤shB b∧shB b≤63:=by rw[shB_eq];omega
def yd_ (op a b:Int):Int:=
 if op=1 then wrap64 (a+b)else if op=2 then wrap64 (a - b)else if op=3 then wrap64 (a*b)
 else if op=4 then wrap64 (a.tdiv b)else if op=5 then a.tmod b else if op=6 then modI a b
 else if op=7 then bits .and .i64 a b else if op=8 then bits .or .i64 a b else if op=9 then bits .xor .i64 a b
 else if op=10 then wrap64 (a*2 ^ (shB b).toNat)else if op=11 then wrap64 (IntKind.u64.wrap a / 2 ^ (shB b).toNat)else if op=12 then a / 2 ^ (shB b).toNat
 else if op=13 then truthI (decide (a < b))else if op=14 then truthI (decide (IntKind.u64.wrap a < IntKind.u64.wrap b))else if op=15 then truthI (a == b)
 else if op=16 then(if b < a then b else a)else(if a < b then b else a)
end Go.Proofs.Ytjliakjbdcplcaa
end
