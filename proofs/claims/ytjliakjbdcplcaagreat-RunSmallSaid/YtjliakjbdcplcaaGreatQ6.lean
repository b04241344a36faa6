import Derived.Test.YtjliakjbdcplcaaGreatQ1
import Derived.Test.YtjliakjbdcplcaaGreatQ4
import Derived.Test.YtjliakjbdcplcaaGreatQ5
import Derived.Test.YtjliakjbdcplcaaGreatProg
import Derived.Handy
import Derived.Deep.RegionHeld3
import Derived.Deep.DeepCutAuto
section
namespace Go.Proofs.YtjliakjbdcplcaaGreat.Vm
theorem d1_ {P : Prop} (h:P:=by
 have HW:=Lib.hid hw
 clear hw
 go_enter Tryz.func180,Tryz.ntmps180
 go_wp2_with fail
 refine(HW.out _).mono ?_
 rintro e w' ⟨rfl,hb⟩
 go_wp2_with (first
  |(go_at_call 186;refine(truth_c _ _).mono ?_;rintro e w' ⟨rfl,rfl⟩)
  |(go_at_call 185;refine(mod_c _ _ _ (by assumption)).mono ?_;rintro e w' ⟨rfl,rfl⟩))
 all_goals (go_ret2;refine⟨?_,hb⟩)
 all_goals first|rfl |(show Ending.returned (.tuple #[.int .i64 _,_])=.returned (.tuple #[.int .i64 _,_]);congr 4;simp[yv_];done) |(show Ending.returned (.tuple #[.int .i64 _,_])=.returned (.tuple #[.int .i64 _,_]);congr 4;simp[yv_];omega)):P:=h
theorem d2_ {P : Prop} (h:P:=by
 have HW:=Lib.hid hw
 clear hw
 have hs:=shB_bd b
 have hs0:0≤bits BinOp.and IntKind.u64 (IntKind.u64.wrap b) 63:=hs.1
 have hs1:bits BinOp.and IntKind.u64 (IntKind.u64.wrap b) 63≤64:=Int.le_trans hs.2 (by decide)
 clear hs
 go_enter Tryz.func180,Tryz.ntmps180
 go_wp2_with fail
 refine(HW.out _).mono ?_
 rintro e w' ⟨rfl,hb⟩
 go_wp2_with (first
  |(go_at_call 186;refine(truth_c _ _).mono ?_;rintro e w' ⟨rfl,rfl⟩)
  |(go_at_call 185;refine(mod_c _ _ _ (by assumption)).mono ?_;rintro e w' ⟨rfl,rfl⟩))
 all_goals (go_ret2;refine⟨?_,hb⟩)
 all_goals first|rfl |(show Ending.returned (.tuple #[.int .i64 _,_])=.returned (.tuple #[.int .i64 _,_]);congr 4;simp[yv_];done) |(show Ending.returned (.tuple #[.int .i64 _,_])=.returned (.tuple #[.int .i64 _,_]);congr 4;simp[yv_];omega)):P:=h
end Go.Proofs.YtjliakjbdcplcaaGreat.Vm
end
set_option linter.unusedSimpArgs false
set_option linter.unusedVariables false
section
namespace Go.Proofs.YtjliakjbdcplcaaGreat
open Go.RowKit
set_option maxRecDepth 100000 in
theorem registers_c (op a b c n:Int)(w:World):Calls Tryz.prog 159 #[.agg #[.int .u8 op,.int .u8 a,.int .u8 b,.int .u8 c,.int .i64 n]] w fun e w'=>
  e=.returned (.agg #[.int .u8 a,.int .u8 b,.int .u8 c])∧Below w.heap.size w w':=by
 go_enter Tryz.func159,Tryz.ntmps159
 go_wp2
 exact bodyPost_ret (v:=.agg #[.int .u8 a,.int .u8 b,.int .u8 c]) (by simp[results,Tryz.results159,go_sem]) rfl ⟨rfl,((Below.refl _ _).alloc (Nat.le_refl _) _).alloc (by simp) _⟩
set_option maxRecDepth 100000 in
set_option maxHeartbeats 4000000 in
theorem one_k1 (op a b c n:Int)(w:World)(a0:0≤a)(a1:a≤255)(b0:0≤b)(b1:b≤255)(c0:0≤c)(c1:c≤255)
   (hform:∀w,Calls Tryz.prog 131 #[.int .u8 op] w fun e w'=>e=.returned (.tuple #[.string ⟨#[114,114,114]⟩,.bool true])∧Below w.heap.size w w') :
    Calls Tryz.prog 134 #[.agg #[.int .u8 op,.int .u8 a,.int .u8 b,.int .u8 c,.int .i64 n]] w fun e w'=>e=.returned (.int .i64 (oneK 1 a b c n))∧Below w.heap.size w w':=by
  go_enter Tryz.func134,Tryz.ntmps134
  have HF:=Lib.hid hform
  clear hform
  go_wp2_with fail
  refine(HF.out _).mono ?_
  rintro e w1 ⟨rfl,hb1⟩
  have hz1:=hb1.size
  simp at hz1
  have hz1':w.heap.size < w1.heap.size:=by omega
  have c1_:∀o,w1.cell? ⟨w.heap.size,o,none⟩ = #[Value.int .u8 op,.int .u8 a,.int .u8 b,.int .u8 c,.int .i64 n][o]? := fun o=>by
    rw[hb1.cell (p:=⟨w.heap.size,o,none⟩) (by simp)];exact cell_of_row _ _ _ _ _ _ (heap_alloc_new w _)
  have HB1:=Lib.hid (((Below.refl _ w).alloc (Nat.le_refl _) _).trans (hb1.mono (by simp)))
  clear hb1 HF
  go_upto_region 4 with fail
  go_cut [5,6] (fun p m W=>∃g,p=.pointer (some ⟨g,0,none⟩)∧m=.int .i64 n∧w.heap.size≤g∧g < W.heap.size∧Below w.heap.size w W∧W.cell? ⟨g,0,none⟩=some (.int .u8 a)∧W.cell? ⟨g,1,none⟩=some (.int .u8 b)∧W.cell? ⟨g,2,none⟩=some (.int .u8 c)∧(∀o,W.frozen? ⟨g,o,none⟩=false))
  case first=>
    go_region_held3 (fun W=>Below w1.heap.size w1 W∧∀b o,b < w1.heap.size→W.cell? ⟨b,o,none⟩=w1.cell? ⟨b,o,none⟩)
      (repeat' (first|exact preD|assumption|exact preR|refine preB ?_ hb2|refine preE ?_|refine preA ?_ _|refine preS ?_ ?_ _|omega |(simp;done) |(simp;omega)))
      ((go_at_call 159;refine(registers_c _ _ _ _ _ _).mono ?_;rintro e w2 ⟨rfl,hb2⟩;obtain⟨hc2,hf2⟩:=bcell hb2;have hz2:=hb2.size;simp at hz2))
    all_goals (go_wp2_with fail;go_meet)
    all_goals refine⟨_,rfl,rfl,?_,?_,HB1.out.trans (Below.mono (And.left (by assumption)) (by omega)),?_,?_,?_,?_⟩
    all_goals first|omega |(simp;omega)|go_simp|skip
  case rest=>
    obtain⟨g,rfl,rfl,hg1,hg2,hB,h0,h1,h2,hf⟩:=hcut
    have hz:=hB.size
    have HB:=Lib.hid hB
    have e3:=fun x y z w=>eq3 x y z 0 0 0 w
    clear hB HB1 c1_ hz1 hz1'
    have i1:=fun W (p i:Nat) v=>iter_setCell W ⟨#[114,114,114]⟩ p g i v
    have i2:=fun W (p i:Nat)=>iter_cell W ⟨#[114,114,114]⟩ p g i
    have i3:=fun W (p i:Nat)=>iter_frozen W ⟨#[114,114,114]⟩ p g i
    have n0_:=fun W n ty hn=>next_at (P:=Tryz.prog) W ⟨#[114,114,114]⟩ 0 1 n 114 ty hn (by decide) (by decide) (by decide) rfl
    have n1_:=fun W n ty hn=>next_at (P:=Tryz.prog) W ⟨#[114,114,114]⟩ 1 2 n 114 ty hn (by decide) (by decide) (by decide) rfl
    have n2_:=fun W n ty hn=>next_at (P:=Tryz.prog) W ⟨#[114,114,114]⟩ 2 3 n 114 ty hn (by decide) (by decide) (by decide) rfl
    have n3_:=fun W n ty hn=>next_end (P:=Tryz.prog) W ⟨#[114,114,114]⟩ 3 n ty hn (by decide)
    go_wp2
    refine wp_loop_rounds 4 ?_
    all_goals (rw[rounds_succ];go_wp2)
    any_goals (rw[rounds_succ];go_wp2)
    any_goals (rw[rounds_succ];go_wp2)
    any_goals (rw[rounds_succ];go_wp2)
    all_goals (go_ret;refine⟨ret_i64 ?_,?_⟩)
    all_goals first
      | exact HB.out.alloc hz _
      | exact(HB.out.setCell (p:=⟨g,_,none⟩) hg1 _).alloc (by simp;omega) _
      | exact((HB.out.setCell (p:=⟨g,_,none⟩) hg1 _).setCell (p:=⟨g,_,none⟩) hg1 _).alloc (by simp;omega) _
      | exact(((HB.out.setCell (p:=⟨g,_,none⟩) hg1 _).setCell (p:=⟨g,_,none⟩) hg1 _).setCell (p:=⟨g,_,none⟩) hg1 _).alloc (by simp;omega) _
      |(rw[oneK_pos (by simp only[wa_];omega)])
      |(rw[xf_ (by simp only[wa_];omega)])
      | (have hn:(n != 0)=true:=by assumption
         rw[bne_iff_ne]at hn
         rw[xf_ (by simp only[wa_];omega)])
      | (have hn:(n != 0)=false:=by assumption
         rw[bne_eq_false_iff_eq]at hn
         rw[oneK_pos (by simp only[wa_];omega)])
      | (have hn:(n != 0)=false:=by assumption
         rw[bne_eq_false_iff_eq]at hn
         rw[xf_ (by simp only[wa_];omega)])
set_option maxRecDepth 100000 in
set_option maxHeartbeats 4000000 in
theorem one_k2 (op a b c n:Int)(w:World)(a0:0≤a)(a1:a≤255)(b0:0≤b)(b1:b≤255)(c0:0≤c)(c1:c≤255)
   (hform:∀w,Calls Tryz.prog 131 #[.int .u8 op] w fun e w'=>e=.returned (.tuple #[.string ⟨#[]⟩,.bool true])∧Below w.heap.size w w') :
    Calls Tryz.prog 134 #[.agg #[.int .u8 op,.int .u8 a,.int .u8 b,.int .u8 c,.int .i64 n]] w fun e w'=>e=.returned (.int .i64 (oneK 2 a b c n))∧Below w.heap.size w w':=by
  go_enter Tryz.func134,Tryz.ntmps134
  have HF:=Lib.hid hform
  clear hform
  go_wp2_with fail
  refine(HF.out _).mono ?_
  rintro e w1 ⟨rfl,hb1⟩
  have hz1:=hb1.size
  simp at hz1
  have hz1':w.heap.size < w1.heap.size:=by omega
  have c1_:∀o,w1.cell? ⟨w.heap.size,o,none⟩ = #[Value.int .u8 op,.int .u8 a,.int .u8 b,.int .u8 c,.int .i64 n][o]? := fun o=>by
    rw[hb1.cell (p:=⟨w.heap.size,o,none⟩) (by simp)];exact cell_of_row _ _ _ _ _ _ (heap_alloc_new w _)
  have HB1:=Lib.hid (((Below.refl _ w).alloc (Nat.le_refl _) _).trans (hb1.mono (by simp)))
  clear hb1 HF
  go_upto_region 4 with fail
  go_cut [5,6] (fun p m W=>∃g,p=.pointer (some ⟨g,0,none⟩)∧m=.int .i64 n∧w.heap.size≤g∧g < W.heap.size∧Below w.heap.size w W∧W.cell? ⟨g,0,none⟩=some (.int .u8 a)∧W.cell? ⟨g,1,none⟩=some (.int .u8 b)∧W.cell? ⟨g,2,none⟩=some (.int .u8 c)∧(∀o,W.frozen? ⟨g,o,none⟩=false))
  case first=>
    go_region_held3 (fun W=>Below w1.heap.size w1 W∧∀b o,b < w1.heap.size→W.cell? ⟨b,o,none⟩=w1.cell? ⟨b,o,none⟩)
      (repeat' (first|exact preD|assumption|exact preR|refine preB ?_ hb2|refine preE ?_|refine preA ?_ _|refine preS ?_ ?_ _|omega |(simp;done) |(simp;omega)))
      ((go_at_call 159;refine(registers_c _ _ _ _ _ _).mono ?_;rintro e w2 ⟨rfl,hb2⟩;obtain⟨hc2,hf2⟩:=bcell hb2;have hz2:=hb2.size;simp at hz2))
    all_goals (go_wp2_with fail;go_meet)
    all_goals refine⟨_,rfl,rfl,?_,?_,HB1.out.trans (Below.mono (And.left (by assumption)) (by omega)),?_,?_,?_,?_⟩
    all_goals first|omega |(simp;omega)|go_simp|skip
  case rest=>
    obtain⟨g,rfl,rfl,hg1,hg2,hB,h0,h1,h2,hf⟩:=hcut
    have hz:=hB.size
    have HB:=Lib.hid hB
    have e3:=fun x y z w=>eq3 x y z 0 0 0 w
    clear hB HB1 c1_ hz1 hz1'
    have i1:=fun W (p i:Nat) v=>iter_setCell W ⟨#[]⟩ p g i v
    have i2:=fun W (p i:Nat)=>iter_cell W ⟨#[]⟩ p g i
    have i3:=fun W (p i:Nat)=>iter_frozen W ⟨#[]⟩ p g i
    have n0_:=fun W n ty hn=>next_end (P:=Tryz.prog) W ⟨#[]⟩ 0 n ty hn (by decide)
    go_wp2
    refine wp_loop_rounds 1 ?_
    all_goals (rw[rounds_succ];go_wp2)
    all_goals (go_ret;refine⟨ret_i64 ?_,?_⟩)
    all_goals first
      | exact HB.out.alloc hz _
      | exact(HB.out.setCell (p:=⟨g,_,none⟩) hg1 _).alloc (by simp;omega) _
      | exact((HB.out.setCell (p:=⟨g,_,none⟩) hg1 _).setCell (p:=⟨g,_,none⟩) hg1 _).alloc (by simp;omega) _
      | exact(((HB.out.setCell (p:=⟨g,_,none⟩) hg1 _).setCell (p:=⟨g,_,none⟩) hg1 _).setCell (p:=⟨g,_,none⟩) hg1 _).alloc (by simp;omega) _
      |(rw[oneK_pos (by simp only[wa_];omega)])
      |(rw[xf_ (by simp only[wa_];omega)])
      | (have hn:(n != 0)=true:=by assumption
         rw[bne_iff_ne]at hn
         rw[xf_ (by simp only[wa_];omega)])
      | (have hn:(n != 0)=false:=by assumption
         rw[bne_eq_false_iff_eq]at hn
         rw[oneK_pos (by simp only[wa_];omega)])
      | (have hn:(n != 0)=false:=by assumption
         rw[bne_eq_false_iff_eq]at hn
         rw[xf_ (by simp only[wa_];omega)])
set_option maxRecDepth 100000 in
set_option maxHeartbeats 4000000 in
theorem one_k3 (op a b c n:Int)(w:World)(a0:0≤a)(a1:a≤255)(b0:0≤b)(b1:b≤255)(c0:0≤c)(c1:c≤255)
   (hform:∀w,Calls Tryz.prog 131 #[.int .u8 op] w fun e w'=>e=.returned (.tuple #[.string ⟨#[114,110]⟩,.bool true])∧Below w.heap.size w w') :
    Calls Tryz.prog 134 #[.agg #[.int .u8 op,.int .u8 a,.int .u8 b,.int .u8 c,.int .i64 n]] w fun e w'=>e=.returned (.int .i64 (oneK 3 a b c n))∧Below w.heap.size w w':=by
  go_enter Tryz.func134,Tryz.ntmps134
  have HF:=Lib.hid hform
  clear hform
  go_wp2_with fail
  refine(HF.out _).mono ?_
  rintro e w1 ⟨rfl,hb1⟩
  have hz1:=hb1.size
  simp at hz1
  have hz1':w.heap.size < w1.heap.size:=by omega
  have c1_:∀o,w1.cell? ⟨w.heap.size,o,none⟩ = #[Value.int .u8 op,.int .u8 a,.int .u8 b,.int .u8 c,.int .i64 n][o]? := fun o=>by
    rw[hb1.cell (p:=⟨w.heap.size,o,none⟩) (by simp)];exact cell_of_row _ _ _ _ _ _ (heap_alloc_new w _)
  have HB1:=Lib.hid (((Below.refl _ w).alloc (Nat.le_refl _) _).trans (hb1.mono (by simp)))
  clear hb1 HF
  go_upto_region 4 with fail
  go_cut [5,6] (fun p m W=>∃g,p=.pointer (some ⟨g,0,none⟩)∧m=.int .i64 n∧w.heap.size≤g∧g < W.heap.size∧Below w.heap.size w W∧W.cell? ⟨g,0,none⟩=some (.int .u8 a)∧W.cell? ⟨g,1,none⟩=some (.int .u8 b)∧W.cell? ⟨g,2,none⟩=some (.int .u8 c)∧(∀o,W.frozen? ⟨g,o,none⟩=false))
  case first=>
    go_region_held3 (fun W=>Below w1.heap.size w1 W∧∀b o,b < w1.heap.size→W.cell? ⟨b,o,none⟩=w1.cell? ⟨b,o,none⟩)
      (repeat' (first|exact preD|assumption|exact preR|refine preB ?_ hb2|refine preE ?_|refine preA ?_ _|refine preS ?_ ?_ _|omega |(simp;done) |(simp;omega)))
      ((go_at_call 159;refine(registers_c _ _ _ _ _ _).mono ?_;rintro e w2 ⟨rfl,hb2⟩;obtain⟨hc2,hf2⟩:=bcell hb2;have hz2:=hb2.size;simp at hz2))
    all_goals (go_wp2_with fail;go_meet)
    all_goals refine⟨_,rfl,rfl,?_,?_,HB1.out.trans (Below.mono (And.left (by assumption)) (by omega)),?_,?_,?_,?_⟩
    all_goals first|omega |(simp;omega)|go_simp|skip
  case rest=>
    obtain⟨g,rfl,rfl,hg1,hg2,hB,h0,h1,h2,hf⟩:=hcut
    have hz:=hB.size
    have HB:=Lib.hid hB
    have e3:=fun x y z w=>eq3 x y z 0 0 0 w
    clear hB HB1 c1_ hz1 hz1'
    have i1:=fun W (p i:Nat) v=>iter_setCell W ⟨#[114,110]⟩ p g i v
    have i2:=fun W (p i:Nat)=>iter_cell W ⟨#[114,110]⟩ p g i
    have i3:=fun W (p i:Nat)=>iter_frozen W ⟨#[114,110]⟩ p g i
    have n0_:=fun W n ty hn=>next_at (P:=Tryz.prog) W ⟨#[114,110]⟩ 0 1 n 114 ty hn (by decide) (by decide) (by decide) rfl
    have n1_:=fun W n ty hn=>next_at (P:=Tryz.prog) W ⟨#[114,110]⟩ 1 2 n 110 ty hn (by decide) (by decide) (by decide) rfl
    have n2_:=fun W n ty hn=>next_end (P:=Tryz.prog) W ⟨#[114,110]⟩ 2 n ty hn (by decide)
    go_wp2
    refine wp_loop_rounds 3 ?_
    all_goals (rw[rounds_succ];go_wp2)
    any_goals (rw[rounds_succ];go_wp2)
    any_goals (rw[rounds_succ];go_wp2)
    all_goals (go_ret;refine⟨ret_i64 ?_,?_⟩)
    all_goals first
      | exact HB.out.alloc hz _
      | exact(HB.out.setCell (p:=⟨g,_,none⟩) hg1 _).alloc (by simp;omega) _
      | exact((HB.out.setCell (p:=⟨g,_,none⟩) hg1 _).setCell (p:=⟨g,_,none⟩) hg1 _).alloc (by simp;omega) _
      | exact(((HB.out.setCell (p:=⟨g,_,none⟩) hg1 _).setCell (p:=⟨g,_,none⟩) hg1 _).setCell (p:=⟨g,_,none⟩) hg1 _).alloc (by simp;omega) _
      |(rw[oneK_pos (by simp only[wa_];omega)])
      |(rw[xf_ (by simp only[wa_];omega)])
      | (have hn:(n != 0)=true:=by assumption
         rw[bne_iff_ne]at hn
         rw[xf_ (by simp only[wa_];omega)])
      | (have hn:(n != 0)=false:=by assumption
         rw[bne_eq_false_iff_eq]at hn
         rw[oneK_pos (by simp only[wa_];omega)])
      | (have hn:(n != 0)=false:=by assumption
         rw[bne_eq_false_iff_eq]at hn
         rw[xf_ (by simp only[wa_];omega)])
set_option maxRecDepth 100000 in
set_option maxHeartbeats 4000000 in
theorem one_k4 (op a b c n:Int)(w:World)(a0:0≤a)(a1:a≤255)(b0:0≤b)(b1:b≤255)(c0:0≤c)(c1:c≤255)
   (hform:∀w,Calls Tryz.prog 131 #[.int .u8 op] w fun e w'=>e=.returned (.tuple #[.string ⟨#[114,114]⟩,.bool true])∧Below w.heap.size w w') :
    Calls Tryz.prog 134 #[.agg #[.int .u8 op,.int .u8 a,.int .u8 b,.int .u8 c,.int .i64 n]] w fun e w'=>e=.returned (.int .i64 (oneK 4 a b c n))∧Below w.heap.size w w':=by
  go_enter Tryz.func134,Tryz.ntmps134
  have HF:=Lib.hid hform
  clear hform
  go_wp2_with fail
  refine(HF.out _).mono ?_
  rintro e w1 ⟨rfl,hb1⟩
  have hz1:=hb1.size
  simp at hz1
  have hz1':w.heap.size < w1.heap.size:=by omega
  have c1_:∀o,w1.cell? ⟨w.heap.size,o,none⟩ = #[Value.int .u8 op,.int .u8 a,.int .u8 b,.int .u8 c,.int .i64 n][o]? := fun o=>by
    rw[hb1.cell (p:=⟨w.heap.size,o,none⟩) (by simp)];exact cell_of_row _ _ _ _ _ _ (heap_alloc_new w _)
  have HB1:=Lib.hid (((Below.refl _ w).alloc (Nat.le_refl _) _).trans (hb1.mono (by simp)))
  clear hb1 HF
  go_upto_region 4 with fail
  go_cut [5,6] (fun p m W=>∃g,p=.pointer (some ⟨g,0,none⟩)∧m=.int .i64 n∧w.heap.size≤g∧g < W.heap.size∧Below w.heap.size w W∧W.cell? ⟨g,0,none⟩=some (.int .u8 a)∧W.cell? ⟨g,1,none⟩=some (.int .u8 b)∧W.cell? ⟨g,2,none⟩=some (.int .u8 c)∧(∀o,W.frozen? ⟨g,o,none⟩=false))
  case first=>
    go_region_held3 (fun W=>Below w1.heap.size w1 W∧∀b o,b < w1.heap.size→W.cell? ⟨b,o,none⟩=w1.cell? ⟨b,o,none⟩)
      (repeat' (first|exact preD|assumption|exact preR|refine preB ?_ hb2|refine preE ?_|refine preA ?_ _|refine preS ?_ ?_ _|omega |(simp;done) |(simp;omega)))
      ((go_at_call 159;refine(registers_c _ _ _ _ _ _).mono ?_;rintro e w2 ⟨rfl,hb2⟩;obtain⟨hc2,hf2⟩:=bcell hb2;have hz2:=hb2.size;simp at hz2))
    all_goals (go_wp2_with fail;go_meet)
    all_goals refine⟨_,rfl,rfl,?_,?_,HB1.out.trans (Below.mono (And.left (by assumption)) (by omega)),?_,?_,?_,?_⟩
    all_goals first|omega |(simp;omega)|go_simp|skip
  case rest=>
    obtain⟨g,rfl,rfl,hg1,hg2,hB,h0,h1,h2,hf⟩:=hcut
    have hz:=hB.size
    have HB:=Lib.hid hB
    have e3:=fun x y z w=>eq3 x y z 0 0 0 w
    clear hB HB1 c1_ hz1 hz1'
    have i1:=fun W (p i:Nat) v=>iter_setCell W ⟨#[114,114]⟩ p g i v
    have i2:=fun W (p i:Nat)=>iter_cell W ⟨#[114,114]⟩ p g i
    have i3:=fun W (p i:Nat)=>iter_frozen W ⟨#[114,114]⟩ p g i
    have n0_:=fun W n ty hn=>next_at (P:=Tryz.prog) W ⟨#[114,114]⟩ 0 1 n 114 ty hn (by decide) (by decide) (by decide) rfl
    have n1_:=fun W n ty hn=>next_at (P:=Tryz.prog) W ⟨#[114,114]⟩ 1 2 n 114 ty hn (by decide) (by decide) (by decide) rfl
    have n2_:=fun W n ty hn=>next_end (P:=Tryz.prog) W ⟨#[114,114]⟩ 2 n ty hn (by decide)
    go_wp2
    refine wp_loop_rounds 3 ?_
    all_goals (rw[rounds_succ];go_wp2)
    any_goals (rw[rounds_succ];go_wp2)
    any_goals (rw[rounds_succ];go_wp2)
    all_goals (go_ret;refine⟨ret_i64 ?_,?_⟩)
    all_goals first
      | exact HB.out.alloc hz _
      | exact(HB.out.setCell (p:=⟨g,_,none⟩) hg1 _).alloc (by simp;omega) _
      | exact((HB.out.setCell (p:=⟨g,_,none⟩) hg1 _).setCell (p:=⟨g,_,none⟩) hg1 _).alloc (by simp;omega) _
      | exact(((HB.out.setCell (p:=⟨g,_,none⟩) hg1 _).setCell (p:=⟨g,_,none⟩) hg1 _).setCell (p:=⟨g,_,none⟩) hg1 _).alloc (by simp;omega) _
      |(rw[oneK_pos (by simp only[wa_];omega)])
      |(rw[xf_ (by simp only[wa_];omega)])
      | (have hn:(n != 0)=true:=by assumption
         rw[bne_iff_ne]at hn
         rw[xf_ (by simp only[wa_];omega)])
      | (have hn:(n != 0)=false:=by assumption
         rw[bne_eq_false_iff_eq]at hn
         rw[oneK_pos (by simp only[wa_];omega)])
      | (have hn:(n != 0)=false:=by assumption
         rw[bne_eq_false_iff_eq]at hn
         rw[xf_ (by simp only[wa_];omega)])
set_option maxRecDepth 100000 in
set_option maxHeartbeats 4000000 in
theorem one_k5 (op a b c n:Int)(w:World)(a0:0≤a)(a1:a≤255)(b0:0≤b)(b1:b≤255)(c0:0≤c)(c1:c≤255)
   (hform:∀w,Calls Tryz.prog 131 #[.int .u8 op] w fun e w'=>e=.returned (.tuple #[.string ⟨#[114,114,112]⟩,.bool true])∧Below w.heap.size w w') :
    Calls Tryz.prog 134 #[.agg #[.int .u8 op,.int .u8 a,.int .u8 b,.int .u8 c,.int .i64 n]] w fun e w'=>e=.returned (.int .i64 (oneK 5 a b c n))∧Below w.heap.size w w':=by
  go_enter Tryz.func134,Tryz.ntmps134
  have HF:=Lib.hid hform
  clear hform
  go_wp2_with fail
  refine(HF.out _).mono ?_
  rintro e w1 ⟨rfl,hb1⟩
  have hz1:=hb1.size
  simp at hz1
  have hz1':w.heap.size < w1.heap.size:=by omega
  have c1_:∀o,w1.cell? ⟨w.heap.size,o,none⟩ = #[Value.int .u8 op,.int .u8 a,.int .u8 b,.int .u8 c,.int .i64 n][o]? := fun o=>by
    rw[hb1.cell (p:=⟨w.heap.size,o,none⟩) (by simp)];exact cell_of_row _ _ _ _ _ _ (heap_alloc_new w _)
  have HB1:=Lib.hid (((Below.refl _ w).alloc (Nat.le_refl _) _).trans (hb1.mono (by simp)))
  clear hb1 HF
  go_upto_region 4 with fail
  go_cut [5,6] (fun p m W=>∃g,p=.pointer (some ⟨g,0,none⟩)∧m=.int .i64 n∧w.heap.size≤g∧g < W.heap.size∧Below w.heap.size w W∧W.cell? ⟨g,0,none⟩=some (.int .u8 a)∧W.cell? ⟨g,1,none⟩=some (.int .u8 b)∧W.cell? ⟨g,2,none⟩=some (.int .u8 c)∧(∀o,W.frozen? ⟨g,o,none⟩=false))
  case first=>
    go_region_held3 (fun W=>Below w1.heap.size w1 W∧∀b o,b < w1.heap.size→W.cell? ⟨b,o,none⟩=w1.cell? ⟨b,o,none⟩)
      (repeat' (first|exact preD|assumption|exact preR|refine preB ?_ hb2|refine preE ?_|refine preA ?_ _|refine preS ?_ ?_ _|omega |(simp;done) |(simp;omega)))
      ((go_at_call 159;refine(registers_c _ _ _ _ _ _).mono ?_;rintro e w2 ⟨rfl,hb2⟩;obtain⟨hc2,hf2⟩:=bcell hb2;have hz2:=hb2.size;simp at hz2))
    all_goals (go_wp2_with fail;go_meet)
    all_goals refine⟨_,rfl,rfl,?_,?_,HB1.out.trans (Below.mono (And.left (by assumption)) (by omega)),?_,?_,?_,?_⟩
    all_goals first|omega |(simp;omega)|go_simp|skip
  case rest=>
    obtain⟨g,rfl,rfl,hg1,hg2,hB,h0,h1,h2,hf⟩:=hcut
    have hz:=hB.size
    have HB:=Lib.hid hB
    have e3:=fun x y z w=>eq3 x y z 0 0 0 w
    clear hB HB1 c1_ hz1 hz1'
    have i1:=fun W (p i:Nat) v=>iter_setCell W ⟨#[114,114,112]⟩ p g i v
    have i2:=fun W (p i:Nat)=>iter_cell W ⟨#[114,114,112]⟩ p g i
    have i3:=fun W (p i:Nat)=>iter_frozen W ⟨#[114,114,112]⟩ p g i
    have n0_:=fun W n ty hn=>next_at (P:=Tryz.prog) W ⟨#[114,114,112]⟩ 0 1 n 114 ty hn (by decide) (by decide) (by decide) rfl
    have n1_:=fun W n ty hn=>next_at (P:=Tryz.prog) W ⟨#[114,114,112]⟩ 1 2 n 114 ty hn (by decide) (by decide) (by decide) rfl
    have n2_:=fun W n ty hn=>next_at (P:=Tryz.prog) W ⟨#[114,114,112]⟩ 2 3 n 112 ty hn (by decide) (by decide) (by decide) rfl
    have n3_:=fun W n ty hn=>next_end (P:=Tryz.prog) W ⟨#[114,114,112]⟩ 3 n ty hn (by decide)
    go_wp2
    refine wp_loop_rounds 4 ?_
    all_goals (rw[rounds_succ];go_wp2)
    any_goals (rw[rounds_succ];go_wp2)
    any_goals (rw[rounds_succ];go_wp2)
    any_goals (rw[rounds_succ];go_wp2)
    all_goals (go_ret;refine⟨ret_i64 ?_,?_⟩)
    all_goals first
      | exact HB.out.alloc hz _
      | exact(HB.out.setCell (p:=⟨g,_,none⟩) hg1 _).alloc (by simp;omega) _
      | exact((HB.out.setCell (p:=⟨g,_,none⟩) hg1 _).setCell (p:=⟨g,_,none⟩) hg1 _).alloc (by simp;omega) _
      | exact(((HB.out.setCell (p:=⟨g,_,none⟩) hg1 _).setCell (p:=⟨g,_,none⟩) hg1 _).setCell (p:=⟨g,_,none⟩) hg1 _).alloc (by simp;omega) _
      |(rw[oneK_pos (by simp only[wa_];omega)])
      |(rw[xf_ (by simp only[wa_];omega)])
      | (have hn:(n != 0)=true:=by assumption
         rw[bne_iff_ne]at hn
         rw[xf_ (by simp only[wa_];omega)])
      | (have hn:(n != 0)=false:=by assumption
         rw[bne_eq_false_iff_eq]at hn
         rw[oneK_pos (by simp only[wa_];omega)])
      | (have hn:(n != 0)=false:=by assumption
         rw[bne_eq_false_iff_eq]at hn
         rw[xf_ (by simp only[wa_];omega)])
set_option maxRecDepth 100000 in
set_option maxHeartbeats 4000000 in
theorem one_k6 (op a b c n:Int)(w:World)(a0:0≤a)(a1:a≤255)(b0:0≤b)(b1:b≤255)(c0:0≤c)(c1:c≤255)
   (hform:∀w,Calls Tryz.prog 131 #[.int .u8 op] w fun e w'=>e=.returned (.tuple #[.string ⟨#[116]⟩,.bool true])∧Below w.heap.size w w') :
    Calls Tryz.prog 134 #[.agg #[.int .u8 op,.int .u8 a,.int .u8 b,.int .u8 c,.int .i64 n]] w fun e w'=>e=.returned (.int .i64 (oneK 6 a b c n))∧Below w.heap.size w w':=by
  go_enter Tryz.func134,Tryz.ntmps134
  have HF:=Lib.hid hform
  clear hform
  go_wp2_with fail
  refine(HF.out _).mono ?_
  rintro e w1 ⟨rfl,hb1⟩
  have hz1:=hb1.size
  simp at hz1
  have hz1':w.heap.size < w1.heap.size:=by omega
  have c1_:∀o,w1.cell? ⟨w.heap.size,o,none⟩ = #[Value.int .u8 op,.int .u8 a,.int .u8 b,.int .u8 c,.int .i64 n][o]? := fun o=>by
    rw[hb1.cell (p:=⟨w.heap.size,o,none⟩) (by simp)];exact cell_of_row _ _ _ _ _ _ (heap_alloc_new w _)
  have HB1:=Lib.hid (((Below.refl _ w).alloc (Nat.le_refl _) _).trans (hb1.mono (by simp)))
  clear hb1 HF
  go_upto_region 4 with fail
  go_cut [5,6] (fun p m W=>∃g,p=.pointer (some ⟨g,0,none⟩)∧m=.int .i64 n∧w.heap.size≤g∧g < W.heap.size∧Below w.heap.size w W∧W.cell? ⟨g,0,none⟩=some (.int .u8 a)∧W.cell? ⟨g,1,none⟩=some (.int .u8 b)∧W.cell? ⟨g,2,none⟩=some (.int .u8 c)∧(∀o,W.frozen? ⟨g,o,none⟩=false))
  case first=>
    go_region_held3 (fun W=>Below w1.heap.size w1 W∧∀b o,b < w1.heap.size→W.cell? ⟨b,o,none⟩=w1.cell? ⟨b,o,none⟩)
      (repeat' (first|exact preD|assumption|exact preR|refine preB ?_ hb2|refine preE ?_|refine preA ?_ _|refine preS ?_ ?_ _|omega |(simp;done) |(simp;omega)))
      ((go_at_call 159;refine(registers_c _ _ _ _ _ _).mono ?_;rintro e w2 ⟨rfl,hb2⟩;obtain⟨hc2,hf2⟩:=bcell hb2;have hz2:=hb2.size;simp at hz2))
    all_goals (go_wp2_with fail;go_meet)
    all_goals refine⟨_,rfl,rfl,?_,?_,HB1.out.trans (Below.mono (And.left (by assumption)) (by omega)),?_,?_,?_,?_⟩
    all_goals first|omega |(simp;omega)|go_simp|skip
  case rest=>
    obtain⟨g,rfl,rfl,hg1,hg2,hB,h0,h1,h2,hf⟩:=hcut
    have hz:=hB.size
    have HB:=Lib.hid hB
    have e3:=fun x y z w=>eq3 x y z 0 0 0 w
    clear hB HB1 c1_ hz1 hz1'
    have i1:=fun W (p i:Nat) v=>iter_setCell W ⟨#[116]⟩ p g i v
    have i2:=fun W (p i:Nat)=>iter_cell W ⟨#[116]⟩ p g i
    have i3:=fun W (p i:Nat)=>iter_frozen W ⟨#[116]⟩ p g i
    have n0_:=fun W n ty hn=>next_at (P:=Tryz.prog) W ⟨#[116]⟩ 0 1 n 116 ty hn (by decide) (by decide) (by decide) rfl
    have n1_:=fun W n ty hn=>next_end (P:=Tryz.prog) W ⟨#[116]⟩ 1 n ty hn (by decide)
    go_wp2
    refine wp_loop_rounds 2 ?_
    all_goals (rw[rounds_succ];go_wp2)
    any_goals (rw[rounds_succ];go_wp2)
    all_goals (go_ret;refine⟨ret_i64 ?_,?_⟩)
    all_goals first
      | exact HB.out.alloc hz _
      | exact(HB.out.setCell (p:=⟨g,_,none⟩) hg1 _).alloc (by simp;omega) _
      | exact((HB.out.setCell (p:=⟨g,_,none⟩) hg1 _).setCell (p:=⟨g,_,none⟩) hg1 _).alloc (by simp;omega) _
      | exact(((HB.out.setCell (p:=⟨g,_,none⟩) hg1 _).setCell (p:=⟨g,_,none⟩) hg1 _).setCell (p:=⟨g,_,none⟩) hg1 _).alloc (by simp;omega) _
      |(rw[oneK_pos (by simp only[wa_];omega)])
      |(rw[xf_ (by simp only[wa_];omega)])
      | (have hn:(n != 0)=true:=by assumption
         rw[bne_iff_ne]at hn
         rw[xf_ (by simp only[wa_];omega)])
      | (have hn:(n != 0)=false:=by assumption
         rw[bne_eq_false_iff_eq]at hn
         rw[oneK_pos (by simp only[wa_];omega)])
      | (have hn:(n != 0)=false:=by assumption
         rw[bne_eq_false_iff_eq]at hn
         rw[xf_ (by simp only[wa_];omega)])
set_option maxRecDepth 100000 in
set_option maxHeartbeats 4000000 in
theorem one_k7 (op a b c n:Int)(w:World)(a0:0≤a)(a1:a≤255)(b0:0≤b)(b1:b≤255)(c0:0≤c)(c1:c≤255)
   (hform:∀w,Calls Tryz.prog 131 #[.int .u8 op] w fun e w'=>e=.returned (.tuple #[.string ⟨#[114,116]⟩,.bool true])∧Below w.heap.size w w') :
    Calls Tryz.prog 134 #[.agg #[.int .u8 op,.int .u8 a,.int .u8 b,.int .u8 c,.int .i64 n]] w fun e w'=>e=.returned (.int .i64 (oneK 7 a b c n))∧Below w.heap.size w w':=by
  go_enter Tryz.func134,Tryz.ntmps134
  have HF:=Lib.hid hform
  clear hform
  go_wp2_with fail
  refine(HF.out _).mono ?_
  rintro e w1 ⟨rfl,hb1⟩
  have hz1:=hb1.size
  simp at hz1
  have hz1':w.heap.size < w1.heap.size:=by omega
  have c1_:∀o,w1.cell? ⟨w.heap.size,o,none⟩ = #[Value.int .u8 op,.int .u8 a,.int .u8 b,.int .u8 c,.int .i64 n][o]? := fun o=>by
    rw[hb1.cell (p:=⟨w.heap.size,o,none⟩) (by simp)];exact cell_of_row _ _ _ _ _ _ (heap_alloc_new w _)
  have HB1:=Lib.hid (((Below.refl _ w).alloc (Nat.le_refl _) _).trans (hb1.mono (by simp)))
  clear hb1 HF
  go_upto_region 4 with fail
  go_cut [5,6] (fun p m W=>∃g,p=.pointer (some ⟨g,0,none⟩)∧m=.int .i64 n∧w.heap.size≤g∧g < W.heap.size∧Below w.heap.size w W∧W.cell? ⟨g,0,none⟩=some (.int .u8 a)∧W.cell? ⟨g,1,none⟩=some (.int .u8 b)∧W.cell? ⟨g,2,none⟩=some (.int .u8 c)∧(∀o,W.frozen? ⟨g,o,none⟩=false))
  case first=>
    go_region_held3 (fun W=>Below w1.heap.size w1 W∧∀b o,b < w1.heap.size→W.cell? ⟨b,o,none⟩=w1.cell? ⟨b,o,none⟩)
      (repeat' (first|exact preD|assumption|exact preR|refine preB ?_ hb2|refine preE ?_|refine preA ?_ _|refine preS ?_ ?_ _|omega |(simp;done) |(simp;omega)))
      ((go_at_call 159;refine(registers_c _ _ _ _ _ _).mono ?_;rintro e w2 ⟨rfl,hb2⟩;obtain⟨hc2,hf2⟩:=bcell hb2;have hz2:=hb2.size;simp at hz2))
    all_goals (go_wp2_with fail;go_meet)
    all_goals refine⟨_,rfl,rfl,?_,?_,HB1.out.trans (Below.mono (And.left (by assumption)) (by omega)),?_,?_,?_,?_⟩
    all_goals first|omega |(simp;omega)|go_simp|skip
  case rest=>
    obtain⟨g,rfl,rfl,hg1,hg2,hB,h0,h1,h2,hf⟩:=hcut
    have hz:=hB.size
    have HB:=Lib.hid hB
    have e3:=fun x y z w=>eq3 x y z 0 0 0 w
    clear hB HB1 c1_ hz1 hz1'
    have i1:=fun W (p i:Nat) v=>iter_setCell W ⟨#[114,116]⟩ p g i v
    have i2:=fun W (p i:Nat)=>iter_cell W ⟨#[114,116]⟩ p g i
    have i3:=fun W (p i:Nat)=>iter_frozen W ⟨#[114,116]⟩ p g i
    have n0_:=fun W n ty hn=>next_at (P:=Tryz.prog) W ⟨#[114,116]⟩ 0 1 n 114 ty hn (by decide) (by decide) (by decide) rfl
    have n1_:=fun W n ty hn=>next_at (P:=Tryz.prog) W ⟨#[114,116]⟩ 1 2 n 116 ty hn (by decide) (by decide) (by decide) rfl
    have n2_:=fun W n ty hn=>next_end (P:=Tryz.prog) W ⟨#[114,116]⟩ 2 n ty hn (by decide)
    go_wp2
    refine wp_loop_rounds 3 ?_
    all_goals (rw[rounds_succ];go_wp2)
    any_goals (rw[rounds_succ];go_wp2)
    any_goals (rw[rounds_succ];go_wp2)
    all_goals (go_ret;refine⟨ret_i64 ?_,?_⟩)
    all_goals first
      | exact HB.out.alloc hz _
      | exact(HB.out.setCell (p:=⟨g,_,none⟩) hg1 _).alloc (by simp;omega) _
      | exact((HB.out.setCell (p:=⟨g,_,none⟩) hg1 _).setCell (p:=⟨g,_,none⟩) hg1 _).alloc (by simp;omega) _
      | exact(((HB.out.setCell (p:=⟨g,_,none⟩) hg1 _).setCell (p:=⟨g,_,none⟩) hg1 _).setCell (p:=⟨g,_,none⟩) hg1 _).alloc (by simp;omega) _
      |(rw[oneK_pos (by simp only[wa_];omega)])
      |(rw[xf_ (by simp only[wa_];omega)])
      | (have hn:(n != 0)=true:=by assumption
         rw[bne_iff_ne]at hn
         rw[xf_ (by simp only[wa_];omega)])
      | (have hn:(n != 0)=false:=by assumption
         rw[bne_eq_false_iff_eq]at hn
         rw[oneK_pos (by simp only[wa_];omega)])
      | (have hn:(n != 0)=false:=by assumption
         rw[bne_eq_false_iff_eq]at hn
         rw[xf_ (by simp only[wa_];omega)])
set_option maxHeartbeats 1000000 in
theorem one_k0 (op a b c n:Int)(w:World)
   (hform:∀w,Calls Tryz.prog 131 #[.int .u8 op] w fun e w'=>e=.returned (.tuple #[.string ⟨#[]⟩,.bool false])∧Below w.heap.size w w') :
    Calls Tryz.prog 134 #[.agg #[.int .u8 op,.int .u8 a,.int .u8 b,.int .u8 c,.int .i64 n]] w fun e w'=>e=.returned (.int .i64 140)∧Below w.heap.size w w':=by
  go_enter Tryz.func134,Tryz.ntmps134
  have HF:=Lib.hid hform
  clear hform
  go_wp2_with fail
  refine(HF.out _).mono ?_
  rintro e w1 ⟨rfl,hb1⟩
  go_wp2
  go_ret
  exact⟨rfl,((Below.refl _ w).alloc (Nat.le_refl _) _).trans (hb1.mono (by simp))⟩
theorem form_c (op:Int)(h0:0≤op)(w:World):Calls Tryz.prog 131 #[.int .u8 op] w fun e w'=>e=.returned (.tuple #[.string (xh_ (x1_ op)),.bool (x1_ op != 0)])∧Below w.heap.size w w':=by
 by_cases h:32 < op
 ·by_cases h':op≤49
  ·have hc:x1_ op=1:=by unfold x1_;rw[if_pos ⟨h,h'⟩]
   rw[hc]
   exact form_rrr op w h h'
  ·exact form_hi op w (by omega)
 ·exact form_lo op w h0 (by omega)
theorem one_c (i:Ins)(hi:i.ok)(w:World):Calls Tryz.prog 134 #[i.v] w fun e w'=>e=.returned (.int .i64 (oneE i))∧Below w.heap.size w w':=by
 obtain⟨op,a,b,c,n⟩:=i
 obtain⟨o0,o1,a0,a1,b0,b1,c0,c1,n0,n1⟩:=hi
 dsimp only at *
 have hf:=form_c op o0
 unfold Ins.v oneE
 dsimp only
 have hk:x1_ op=0∨x1_ op=1∨x1_ op=2∨x1_ op=3∨x1_ op=4∨x1_ op=5∨x1_ op=6∨x1_ op=7:=by
  unfold x1_;repeat (first |(split;· simp)|simp)
 rcases hk with h|h|h|h|h|h|h|h<;>rw[h]at hf<;>rw[h]
 ·exact one_k0 op a b c n w hf
 ·exact one_k1 op a b c n w a0 a1 b0 b1 c0 c1 hf
 ·exact one_k2 op a b c n w a0 a1 b0 b1 c0 c1 hf
 ·exact one_k3 op a b c n w a0 a1 b0 b1 c0 c1 hf
 ·exact one_k4 op a b c n w a0 a1 b0 b1 c0 c1 hf
 ·exact one_k5 op a b c n w a0 a1 b0 b1 c0 c1 hf
 ·exact one_k6 op a b c n w a0 a1 b0 b1 c0 c1 hf
 ·exact one_k7 op a b c n w a0 a1 b0 b1 c0 c1 hf
def goesB (i:Ins):Bool:=oneE i == 0 && (i.op != 1 && (i.op != 2 && i.op != 9))
set_option maxRecDepth 100000 in
set_option maxHeartbeats 1000000 in
theorem goes_c (i:Ins)(hi:i.ok)(w:World):Calls Tryz.prog 136 #[i.v] w fun e w'=>e=.returned (.bool (goesB i))∧Below w.heap.size w w':=by
 have h1:=fun w=>one_c i hi w
 obtain⟨E,hE⟩:∃E,E=oneE i:=⟨_,rfl⟩
 unfold goesB
 rw[←hE]at h1 ⊢
 obtain⟨op,a,b,c,n⟩:=i
 unfold Ins.v at h1 ⊢
 dsimp only at h1 ⊢
 have H1:=Lib.hid h1
 clear h1 hE hi
 go_enter Tryz.func136,Tryz.ntmps136
 go_wp2_with fail
 refine(H1.out _).mono ?_
 rintro e w1 ⟨rfl,hb1⟩
 have hB:=Lib.hid (((Below.refl _ w).alloc (Nat.le_refl _) _).trans (hb1.mono (by simp)))
 have q0:w1.cell? ⟨w.heap.size,0,none⟩=some (.int .u8 op):=by
  rw[hb1.cell (p:=⟨w.heap.size,0,none⟩) (by simp)];exact cell_of_row _ _ _ _ _ _ (heap_alloc_new w _)
 clear hb1
 go_wp2
 all_goals (go_ret;refine⟨?_,hB.out⟩)
 all_goals first |(simp[*];done) |(simp[*,Bool.and_assoc];done)
def targB (i:Ins):Bool:=oneE i == 0 && (i.op == 9 ||(i.op == 10 || i.op == 11))
def targV (i:Ins):Int:=if targB i then i.n else 0
set_option maxRecDepth 100000 in
set_option maxHeartbeats 1000000 in
theorem target_c (i:Ins)(hi:i.ok)(w:World):Calls Tryz.prog 135 #[i.v] w fun e w'=>e=.returned (.tuple #[.int .i64 (targV i),.bool (targB i)])∧Below w.heap.size w w':=by
 have h1:=fun w=>one_c i hi w
 obtain⟨E,hE⟩:∃E,E=oneE i:=⟨_,rfl⟩
 obtain⟨V,hV⟩:∃V,V=targV i:=⟨_,rfl⟩
 obtain⟨T,hT⟩:∃T,T=targB i:=⟨_,rfl⟩
 have hV':=hV
 unfold targV at hV'
 rw[←hT]at hV'
 have hT':=hT
 unfold targB at hT'
 rw[←hE]at h1 hT'
 rw[←hT,←hV]
 obtain⟨op,a,b,c,n⟩:=i
 unfold Ins.v at h1 ⊢
 dsimp only at h1 hT' hV' ⊢
 have H1:=Lib.hid h1
 have HT:=Lib.hid hT'
 have HV:=Lib.hid hV'
 clear h1 hE hi hT hT' hV hV'
 go_enter Tryz.func135,Tryz.ntmps135
 go_wp2_with fail
 refine(H1.out _).mono ?_
 rintro e w1 ⟨rfl,hb1⟩
 have hB:=Lib.hid (((Below.refl _ w).alloc (Nat.le_refl _) _).trans (hb1.mono (by simp)))
 have q0:w1.cell? ⟨w.heap.size,0,none⟩=some (.int .u8 op):=by
  rw[hb1.cell (p:=⟨w.heap.size,0,none⟩) (by simp)];exact cell_of_row _ _ _ _ _ _ (heap_alloc_new w _)
 have q4:w1.cell? ⟨w.heap.size,4,none⟩=some (.int .i64 n):=by
  rw[hb1.cell (p:=⟨w.heap.size,4,none⟩) (by simp)];exact cell_of_row _ _ _ _ _ _ (heap_alloc_new w _)
 clear hb1
 go_wp2
 all_goals go_ret2
 all_goals refine⟨?_,hB.out⟩
 all_goals rw[HV.out,HT.out]
 all_goals first |(simp[*];done) |(simp_all;done) |((have hq:((op != 9)=false∨(op != 10)=false)∨(op != 11)=false:=(by assumption));simp at hq;(have h11:op=11:=(by omega));simp[*];done)
def badAt (n:Int)(i:Ins):Int:=if oneE i≠0 then oneE i else if targB i=true∧n≤targV i then 142 else 0
def checkK (p:List Ins):Int×Int:=
 match p.findIdx? (fun i=>badAt p.length i != 0)with
 | some k=>(k,badAt p.length (p.getD k ⟨0,0,0,0,0⟩))
 | none=>if goesB (p.getD (p.length - 1) ⟨0,0,0,0,0⟩)then((p.length:Int) - 1,143)else(-1,0)
def checkI (p:List Ins):Int×Int:=if p.length=0 then(-1,6)else if 256 < p.length then(-1,5)else checkK p
theorem checkK_bad {p:List Ins}{j:Nat}{x:Ins}{v:Int}(h:∀i,i < j→∀y,p[i]? = some y→badAt p.length y=0)(hx:p[j]? = some x)(hv:badAt p.length x=v)(hn:v≠0):checkK p=((j:Int),v):=by
 have hj:j < p.length:=(List.getElem?_eq_some_iff.1 hx).1
 have hf:p.findIdx? (fun i=>badAt p.length i != 0)=some j:=by
  rw[List.findIdx?_eq_some_iff_getElem]
  refine⟨hj,?_,fun i hi=>?_⟩
  ·have:p[j]=x:=(List.getElem?_eq_some_iff.1 hx).2
   rw[this,hv];simpa using hn
  ·simp[h i hi _ (List.getElem?_eq_getElem (by omega))]
 unfold checkK
 rw[hf]
 simp[List.getD,hx,hv]
theorem checkK_none {p:List Ins}(h:∀i,i < p.length→∀y,p[i]? = some y→badAt p.length y=0):checkK p=if goesB (p.getD (p.length - 1) ⟨0,0,0,0,0⟩)then((p.length:Int) - 1,143)else(-1,0):=by
 have hf:p.findIdx? (fun i=>badAt p.length i != 0)=none:=by
  rw[List.findIdx?_eq_none_iff]
  intro x hx
  obtain⟨i,hi,rfl⟩:=List.getElem_of_mem hx
  simp[h i hi _ (List.getElem?_eq_getElem hi)]
 unfold checkK
 rw[hf]
set_option maxRecDepth 100000 in
set_option maxHeartbeats 2000000 in
theorem check_mid (A:Option Addr)(n c:Nat)(p:List Ins)(hok:∀i∈p,i.ok)(w:World)(h:xr_ w w.heap.size 5 A n (insV p))(h0:((n:Int) == 0)=false)(h0':0 < n)(h1:n≤256) :
  Calls Tryz.prog 109 #[.slice A n c] w fun e w'=>e=.returned (.tuple #[.int .i64 (checkK p).1,.int .i64 (checkK p).2])∧Below w.heap.size w w':=by
 have hpl:=h.ins_len
 have HL:=Lib.hid hpl
 clear hpl
 go_enter Tryz.func109,Tryz.ntmps109
 go_wp2
 go_loopw [4,5,6,7,8,20] (fun _ _ _ _ _ k wr=>∃j:Nat,k=.int .i64 j∧j≤n∧(∀i,i < j→∀y,p[i]? = some y→badAt n y=0)∧Below w.heap.size w wr) (fun _ _ _ _ _ k _=>n - (intOf k).toNat)
 case atStart=>exact⟨0,rfl,by omega,fun i hi=>by omega,Below.refl _ _⟩
 case round=>
  obtain⟨j,rfl,hj,hbad,hb⟩:=hrel
  have HBad:=Lib.hid hbad
  clear hbad
  by_cases hlt:j < n
  ·obtain⟨b,o,x,rfl,hl1,hx,hc0,hc1,hc2,hc3,hc4⟩:=(h.below hb).ins_at hlt
   have hxok:=hok x (List.mem_of_getElem? hx)
   obtain⟨op,a,b',c',m⟩:=x
   have HX:=Lib.hid hx
   have HO:=Lib.hid hxok
   have HB:=Lib.hid hb
   have hz:=hb.size
   clear hb hx h hxok hok
   dsimp only at hc0 hc1 hc2 hc3 hc4
   obtain⟨I,hI⟩:∃I:Ins,I=⟨op,a,b',c',m⟩:=⟨_,rfl⟩
   rw[←hI]at HO HX
   have HI:=Lib.hid hI
   clear hI
   have h1:∀w,Calls Tryz.prog 134 #[.agg #[.int .u8 op,.int .u8 a,.int .u8 b',.int .u8 c',.int .i64 m]] w fun e w'=>e=.returned (.int .i64 (oneE I))∧Below w.heap.size w w':=fun w=>by
    have:=one_c I HO.out w;rw[HI.out]at this ⊢;exact this
   have h2:∀w,Calls Tryz.prog 135 #[.agg #[.int .u8 op,.int .u8 a,.int .u8 b',.int .u8 c',.int .i64 m]] w fun e w'=>e=.returned (.tuple #[.int .i64 (targV I),.bool (targB I)])∧Below w.heap.size w w':=fun w=>by
    have:=target_c I HO.out w;rw[HI.out]at this ⊢;exact this
   have hbadE:badAt n I=if oneE I≠0 then oneE I else if targB I=true∧(n:Int)≤targV I then 142 else 0:=rfl
   obtain⟨V,hV⟩:∃V,V=targV I:=⟨_,rfl⟩
   obtain⟨T,hT⟩:∃T,T=targB I:=⟨_,rfl⟩
   obtain⟨E,hE⟩:∃E,E=oneE I:=⟨_,rfl⟩
   rw[←hE]at h1 hbadE
   rw[←hV,←hT]at h2 hbadE
   have H1:=Lib.hid h1
   have H2:=Lib.hid h2
   have HE:=Lib.hid hbadE
   clear h1 h2 hbadE hV hT hE
   go_wp2_with fail
   refine(H1.out _).mono ?_
   rintro e w2 ⟨rfl,hb2⟩
   have hz2:=hb2.size
   simp at hz2
   have q:∀k u,#[Value.int .u8 op,.int .u8 a,.int .u8 b',.int .u8 c',.int .i64 m][k]? = some u→w2.cell? ⟨wr.heap.size,k,none⟩=some u:=fun k u hu=>by
    rw[hb2.cell (p:=⟨wr.heap.size,k,none⟩) (by simp),cell_of_row _ _ _ _ _ _ (heap_alloc_new wr _)];exact hu
   have q0:=q 0 _ rfl
   have q1:=q 1 _ rfl
   have q2:=q 2 _ rfl
   have q3:=q 3 _ rfl
   have q4:=q 4 _ rfl
   have HB2:=Lib.hid ((HB.out.alloc hz _).trans (hb2.mono (by simp;omega)))
   clear q hb2
   by_cases hE0:E=0
   ·subst hE0
    go_wp2_with fail
    refine(H2.out _).mono ?_
    rintro e w3 ⟨rfl,hb3⟩
    have hz3:=hb3.size
    have HB3:=Lib.hid (HB2.out.trans (hb3.mono (by omega)))
    clear hb3
    by_cases hbad:T=true∧(n:Int)≤V
    ·obtain⟨rfl,hnV⟩:=hbad
     go_wp2
     go_ret2
     refine⟨?_,HB3.out⟩
     have hv:badAt p.length I=142:=by rw[HL.out,HE.out];simp[hnV]
     rw[checkK_bad (by rw[HL.out];exact HBad.out) HX.out hv (by decide)]
     rfl
    ·cases T with
     | false=>
      go_wp2
      go_roundw
      case rel => 
       refine⟨j+1,by go_num,by omega,fun i hi y hy=>?_,HB3.out⟩
       by_cases hij:i < j
       ·exact HBad.out i hij y hy
       ·obtain rfl:i=j:=by omega
        rw[HX.out]at hy
        obtain rfl:I=y:=by cases hy;rfl
        rw[HE.out];simp
      case measure=>simp[intOf];omega
     | true=>
      have hV:V < (n:Int):=by simp at hbad;omega
      clear hbad
      go_wp2
      go_roundw
      case rel => 
       refine⟨j+1,by go_num,by omega,fun i hi y hy=>?_,HB3.out⟩
       by_cases hij:i < j
       ·exact HBad.out i hij y hy
       ·obtain rfl:i=j:=by omega
        rw[HX.out]at hy
        obtain rfl:I=y:=by cases hy;rfl
        rw[HE.out];simp;omega
      case measure=>simp[intOf];omega
   ·have hE1:(E != 0)=true:=by rw[bne_iff_ne];exact hE0
    have HE0:=Lib.hid hE0
    clear hE0
    go_wp2
    go_ret2
    refine⟨?_,HB2.out⟩
    have hv:badAt p.length I=E:=by rw[HL.out,HE.out,if_pos HE0.out]
    rw[checkK_bad (by rw[HL.out];exact HBad.out) HX.out hv HE0.out]
    rfl
  ·obtain rfl:j=n:=by omega
   have hk:=checkK_none (p:=p) (by rw[HL.out];exact HBad.out)
   obtain⟨b,o,x,rfl,hl1,hx,hc0,hc1,hc2,hc3,hc4⟩:=(h.below hb).ins_at (k:=j - 1) (by omega)
   have hxok:=hok x (List.mem_of_getElem? hx)
   have hg:p.getD (p.length - 1) ⟨0,0,0,0,0⟩=x:=by rw[HL.out];simp[List.getD,hx]
   rw[hg,HL.out]at hk
   have hi:(((j:Int) - 1).toNat)=j - 1:=by omega
   have hs1:(0:Int)≤(j:Int) - 1:=by omega
   have hg1:=fun w=>goes_c x hxok w
   obtain⟨G,hG⟩:∃G,G=goesB x:=⟨_,rfl⟩
   rw[←hG]at hk hg1
   have HK:=Lib.hid hk
   have HB:=Lib.hid hb
   have HG:=Lib.hid hg1
   obtain⟨op,a,b',c',m⟩:=x
   dsimp only at hc0 hc1 hc2 hc3 hc4
   clear hk hb h hok hx hxok hg hG hg1 hi
   go_wp2_with fail
   refine(HG.out _).mono ?_
   rintro e w2 ⟨rfl,hb2⟩
   have HB2:=Lib.hid (HB.out.trans (hb2.mono HB.out.size))
   clear hb2
   cases G with
   | false=>
    go_wp2
    go_ret2
    refine⟨?_,HB2.out⟩
    rw[HK.out]
    rfl
   | true=>
    go_wp2
    go_ret2
    refine⟨?_,HB2.out⟩
    rw[HK.out]
    rfl
set_option maxRecDepth 100000 in
set_option maxHeartbeats 2000000 in
theorem check_c (A:Option Addr)(n c:Nat)(hn:n < 2^62)(p:List Ins)(hok:∀i∈p,i.ok)(w:World)(h:xr_ w w.heap.size 5 A n (insV p)) :
  Calls Tryz.prog 109 #[.slice A n c] w fun e w'=>e=.returned (.tuple #[.int .i64 (checkI p).1,.int .i64 (checkI p).2])∧Below w.heap.size w w':=by
 have hpl:=h.ins_len
 unfold checkI
 rw[hpl]
 by_cases h0:n=0
 ·subst h0
  go_enter Tryz.func109,Tryz.ntmps109
  go_wp2
  go_ret2
  exact⟨rfl,Below.refl _ _⟩
 ·rw[if_neg h0]
  by_cases h1:256 < n
  ·rw[if_pos h1]
   have h0':((n:Int) == 0)=false:=by simp;exact h0
   have h1':(256:Int) < n:=by omega
   clear h h0 hok hpl
   go_enter Tryz.func109,Tryz.ntmps109
   go_wp2
   go_ret2
   exact⟨rfl,Below.refl _ _⟩
  ·rw[if_neg h1]
   exact check_mid A n c p hok w h (by simp;exact h0) (by omega) (by omega)
def yp_ (op b:Int):Int:=if op < 1∨17 < op then 130 else if b=0∧4≤op∧op≤6 then 131 else 0
def allL : List Value := [.string ⟨#[]⟩,.bool false,.string ⟨#[97,100,100]⟩,.bool false,.string ⟨#[115,117,98]⟩,.bool false,.string ⟨#[109,117,108]⟩,.bool false,
 .string ⟨#[100,105,118]⟩,.bool true,.string ⟨#[114,101,109]⟩,.bool true,.string ⟨#[109,111,100]⟩,.bool true,.string ⟨#[97,110,100]⟩,.bool false,.string ⟨#[111,114]⟩,.bool false,
 .string ⟨#[120,111,114]⟩,.bool false,.string ⟨#[115,104,108]⟩,.bool false,.string ⟨#[115,104,114]⟩,.bool false,.string ⟨#[115,97,114]⟩,.bool false,.string ⟨#[108,101,115,115]⟩,.bool false,
 .string ⟨#[98,101,108,111,119]⟩,.bool false,.string ⟨#[101,113,117,97,108]⟩,.bool false,.string ⟨#[109,105,110]⟩,.bool false,.string ⟨#[109,97,120]⟩,.bool false]
theorem truth_t (w:World):Calls Tryz.prog 186 #[.bool true] w fun e w'=>e=.returned (.int .i64 1)∧w=w':=by
 go_enter Tryz.func186,Tryz.ntmps186
 go_wp2
 go_ret
 exact⟨rfl,rfl⟩
theorem truth_f (w:World):Calls Tryz.prog 186 #[.bool false] w fun e w'=>e=.returned (.int .i64 0)∧w=w':=by
 go_enter Tryz.func186,Tryz.ntmps186
 go_wp2
 go_ret
 exact⟨rfl,rfl⟩
def truthI (b:Bool):Int:=if b then 1 else 0
theorem truth_c (b:Bool)(w:World):Calls Tryz.prog 186 #[.bool b] w fun e w'=>e=.returned (.int .i64 (truthI b))∧w=w':=by
 cases b
 ·exact truth_f w
 ·exact truth_t w
def modI (a b:Int):Int:=if 0≤a.tmod b then a.tmod b else if b < 0 then wrap64 (a.tmod b - b)else wrap64 (a.tmod b+b)
theorem mod_c (a b:Int)(w:World)(hb:b≠0):Calls Tryz.prog 185 #[.int .i64 a,.int .i64 b] w fun e w'=>e=.returned (.int .i64 (modI a b))∧w=w':=by
 go_enter Tryz.func185,Tryz.ntmps185
 go_wp2
 all_goals go_ret
 all_goals refine⟨ret_i64 ?_,rfl⟩
 ·rw[modI,if_pos (by assumption)]
 ·rw[modI,if_neg (by omega),if_pos (by assumption)]
 ·rw[modI,if_neg (by omega),if_neg (by omega)]
set_option maxRecDepth 100000 in
set_option maxHeartbeats 4000000 in
theorem all_c (w:World):Calls Tryz.prog 190 #[] w fun e w'=>e=.returned (.agg allL.toArray)∧Below w.heap.size w w':=by
 go_enter Tryz.func190,Tryz.ntmps190
 go_wp2_with (refine wpList_store_row rfl 276 (.tmp 0) (.tmp 19) rfl w.heap.size allL.toArray rfl rfl 276 _ (heap_alloc_new w _) (by kernel_rfl) rfl (by kernel_rfl) ?_)
 exact bodyPost_ret (v:=.agg allL.toArray) (results_cell_row (P:=Tryz.prog) (p:=0) (ty:=276) rfl _ _ w.heap.size 276 allL.toArray (0,0) _ rfl (setRow_heap _ _ _ _ _ _ (heap_alloc_new w _)) Tryz.underlying276 rfl (by kernel_rfl)) rfl
  ⟨rfl,below_setRow ((Below.refl _ _).alloc (Nat.le_refl _) _) (Nat.le_refl _) _⟩
def nmB:Value→ByteArray
 | .string s=>s
 | _=>⟨#[]⟩
def nm (op:Int):ByteArray:=nmB (allL.getD (2*op).toNat undef)
theorem allIx1 (w:World):(Instr.index 276 (.agg allL.toArray) (.int .u8 1)).run Tryz.prog w=.ok (.agg #[.string (nm 1),.bool (decide ((4:Int)≤1∧(1:Int)≤6))]) w:=by kernel_rfl
theorem allIx2 (w:World):(Instr.index 276 (.agg allL.toArray) (.int .u8 2)).run Tryz.prog w=.ok (.agg #[.string (nm 2),.bool (decide ((4:Int)≤2∧(2:Int)≤6))]) w:=by kernel_rfl
theorem allIx3 (w:World):(Instr.index 276 (.agg allL.toArray) (.int .u8 3)).run Tryz.prog w=.ok (.agg #[.string (nm 3),.bool (decide ((4:Int)≤3∧(3:Int)≤6))]) w:=by kernel_rfl
theorem allIx4 (w:World):(Instr.index 276 (.agg allL.toArray) (.int .u8 4)).run Tryz.prog w=.ok (.agg #[.string (nm 4),.bool (decide ((4:Int)≤4∧(4:Int)≤6))]) w:=by kernel_rfl
theorem allIx5 (w:World):(Instr.index 276 (.agg allL.toArray) (.int .u8 5)).run Tryz.prog w=.ok (.agg #[.string (nm 5),.bool (decide ((4:Int)≤5∧(5:Int)≤6))]) w:=by kernel_rfl
theorem allIx6 (w:World):(Instr.index 276 (.agg allL.toArray) (.int .u8 6)).run Tryz.prog w=.ok (.agg #[.string (nm 6),.bool (decide ((4:Int)≤6∧(6:Int)≤6))]) w:=by kernel_rfl
theorem allIx7 (w:World):(Instr.index 276 (.agg allL.toArray) (.int .u8 7)).run Tryz.prog w=.ok (.agg #[.string (nm 7),.bool (decide ((4:Int)≤7∧(7:Int)≤6))]) w:=by kernel_rfl
theorem allIx8 (w:World):(Instr.index 276 (.agg allL.toArray) (.int .u8 8)).run Tryz.prog w=.ok (.agg #[.string (nm 8),.bool (decide ((4:Int)≤8∧(8:Int)≤6))]) w:=by kernel_rfl
theorem allIx9 (w:World):(Instr.index 276 (.agg allL.toArray) (.int .u8 9)).run Tryz.prog w=.ok (.agg #[.string (nm 9),.bool (decide ((4:Int)≤9∧(9:Int)≤6))]) w:=by kernel_rfl
theorem allIx10 (w:World):(Instr.index 276 (.agg allL.toArray) (.int .u8 10)).run Tryz.prog w=.ok (.agg #[.string (nm 10),.bool (decide ((4:Int)≤10∧(10:Int)≤6))]) w:=by kernel_rfl
theorem allIx11 (w:World):(Instr.index 276 (.agg allL.toArray) (.int .u8 11)).run Tryz.prog w=.ok (.agg #[.string (nm 11),.bool (decide ((4:Int)≤11∧(11:Int)≤6))]) w:=by kernel_rfl
theorem allIx12 (w:World):(Instr.index 276 (.agg allL.toArray) (.int .u8 12)).run Tryz.prog w=.ok (.agg #[.string (nm 12),.bool (decide ((4:Int)≤12∧(12:Int)≤6))]) w:=by kernel_rfl
theorem allIx13 (w:World):(Instr.index 276 (.agg allL.toArray) (.int .u8 13)).run Tryz.prog w=.ok (.agg #[.string (nm 13),.bool (decide ((4:Int)≤13∧(13:Int)≤6))]) w:=by kernel_rfl
theorem allIx14 (w:World):(Instr.index 276 (.agg allL.toArray) (.int .u8 14)).run Tryz.prog w=.ok (.agg #[.string (nm 14),.bool (decide ((4:Int)≤14∧(14:Int)≤6))]) w:=by kernel_rfl
theorem allIx15 (w:World):(Instr.index 276 (.agg allL.toArray) (.int .u8 15)).run Tryz.prog w=.ok (.agg #[.string (nm 15),.bool (decide ((4:Int)≤15∧(15:Int)≤6))]) w:=by kernel_rfl
theorem allIx16 (w:World):(Instr.index 276 (.agg allL.toArray) (.int .u8 16)).run Tryz.prog w=.ok (.agg #[.string (nm 16),.bool (decide ((4:Int)≤16∧(16:Int)≤6))]) w:=by kernel_rfl
theorem allIx17 (w:World):(Instr.index 276 (.agg allL.toArray) (.int .u8 17)).run Tryz.prog w=.ok (.agg #[.string (nm 17),.bool (decide ((4:Int)≤17∧(17:Int)≤6))]) w:=by kernel_rfl
theorem allIxAt (op:Int)(h1:1≤op)(h2:op≤17)(w:World):(Instr.index 276 (.agg allL.toArray) (.int .u8 op)).run Tryz.prog w=.ok (.agg #[.string (nm op),.bool (decide (4≤op∧op≤6))]) w:=by
 have h:op=1∨op=2∨op=3∨op=4∨op=5∨op=6∨op=7∨op=8∨op=9∨op=10∨op=11∨op=12∨op=13∨op=14∨op=15∨op=16∨op=17:=by omega
 rcases h with h|h|h|h|h|h|h|h|h|h|h|h|h|h|h|h|h<;>subst h
 ·exact allIx1 w
 ·exact allIx2 w
 ·exact allIx3 w
 ·exact allIx4 w
 ·exact allIx5 w
 ·exact allIx6 w
 ·exact allIx7 w
 ·exact allIx8 w
 ·exact allIx9 w
 ·exact allIx10 w
 ·exact allIx11 w
 ·exact allIx12 w
 ·exact allIx13 w
 ·exact allIx14 w
 ·exact allIx15 w
 ·exact allIx16 w
 ·exact allIx17 w
set_option maxHeartbeats 1000000 in
theorem wrong_bad (op b:Int)(w:World)(h:op < 1∨17 < op):Calls Tryz.prog 184 #[.int .u8 op,.int .i64 b] w fun e w'=>e=.returned (.int .i64 130)∧w=w':=by
 rcases h with h|h
 ·go_enter Tryz.func184,Tryz.ntmps184
  go_wp2
  go_ret
  exact⟨rfl,rfl⟩
 ·have h':¬op < 1:=by omega
  go_enter Tryz.func184,Tryz.ntmps184
  go_wp2
  go_ret
  exact⟨rfl,rfl⟩
set_option maxHeartbeats 1000000 in
theorem wrong_ok (op b:Int)(w:World)(h1:1≤op)(h2:op≤17)(hb:(b == 0)=false):Calls Tryz.prog 184 #[.int .u8 op,.int .i64 b] w fun e w'=>e=.returned (.int .i64 0)∧w=w':=by
 go_enter Tryz.func184,Tryz.ntmps184
 go_wp2
 go_ret
 exact⟨rfl,rfl⟩
set_option maxRecDepth 100000 in
set_option maxHeartbeats 1000000 in
theorem wrong_z (op:Int)(w:World)(h1:1≤op)(h2:op≤17):Calls Tryz.prog 184 #[.int .u8 op,.int .i64 0] w fun e w'=>e=.returned (.int .i64 (if 4≤op∧op≤6 then 131 else 0))∧Below w.heap.size w w':=by
 have hs:=allIxAt op h1 h2
 obtain⟨V,hV⟩:∃V,V=allL.toArray:=⟨_,rfl⟩
 have ha:∀w,Calls Tryz.prog 190 #[] w fun e w'=>e=.returned (.agg V)∧Below w.heap.size w w':=hV ▸ all_c
 rw[←hV]at hs
 have HA:=Lib.hid ha
 clear ha hV
 have hfl:∀(w:World) (s:ByteArray) (b:Bool),(Instr.field 275 (.agg #[.string s,.bool b]) 1).run Tryz.prog w=.ok (.bool b) w:=fun w s b=>by kernel_rfl
 go_enter Tryz.func184,Tryz.ntmps184
 go_wp2_with fail
 refine(HA.out _).mono ?_
 rintro e w' ⟨rfl,hb⟩
 go_wp2
 all_goals go_ret
 all_goals exact⟨rfl,hb⟩
theorem wrong_c (op b:Int)(w:World):Calls Tryz.prog 184 #[.int .u8 op,.int .i64 b] w fun e w'=>e=.returned (.int .i64 (yp_ op b))∧Below w.heap.size w w':=by
 by_cases h:op < 1∨17 < op
 ·refine(wrong_bad op b w h).mono ?_
  rintro e w' ⟨rfl,rfl⟩
  exact⟨ret_i64 (by rw[yp_,if_pos h]),Below.refl _ _⟩
 ·by_cases hb:b=0
  ·subst hb
   refine(wrong_z op w (by omega) (by omega)).mono ?_
   rintro e w' ⟨rfl,hB⟩
   refine⟨ret_i64 ?_,hB⟩
   rw[yp_,if_neg h]
   simp
  ·refine(wrong_ok op b w (by omega) (by omega) (by simpa using hb)).mono ?_
   rintro e w' ⟨rfl,rfl⟩
   exact⟨ret_i64 (by rw[yp_,if_neg h,if_neg (fun x=>hb x.1)]),Below.refl _ _⟩
set_option maxRecDepth 100000 in
set_option maxHeartbeats 1000000 in
theorem apply_bad (op a b:Int)(w:World)(h:(yp_ op b != 0)=true):Calls Tryz.prog 180 #[.int .u8 op,.int .i64 a,.int .i64 b] w fun e w'=>e=.returned (.tuple #[.int .i64 0,.int .i64 (yp_ op b)])∧Below w.heap.size w w':=by
 have HW:=Lib.hid (fun w=>wrong_c op b w)
 obtain⟨E,hE⟩:∃E,E=yp_ op b:=⟨_,rfl⟩
 rw[←hE]at HW h ⊢
 clear hE
 go_enter Tryz.func180,Tryz.ntmps180
 go_wp2_with fail
 refine(HW.out _).mono ?_
 rintro e w' ⟨rfl,hb⟩
 go_wp2
 go_ret2
 exact⟨rfl,hb⟩
def shB (b:Int):Int:=bits BinOp.and IntKind.u64 (IntKind.u64.wrap b) 63
theorem u64_wrap_bd (b:Int):0≤IntKind.u64.wrap b∧IntKind.u64.wrap b < 18446744073709551616:=by
 simp only[IntKind.wrap,IntKind.bits,IntKind.signed]
 simp
 omega
theorem shB_eq (b:Int):shB b=IntKind.u64.wrap b % 64:=by
 have hb:=u64_wrap_bd b
 unfold shB
 rw[u64_and _ _ hb.1 hb.2 (by decide) (by decide)]
 have h63:(63:Int).toNat=2 ^ 6 - 1:=by decide
 rw[h63,Nat.and_two_pow_sub_one_eq_mod]
 omega
theorem shB_bd (b:Int):0≤shB b∧shB b≤63:=by rw[shB_eq];omega
def yv_ (op a b:Int):Int:=
 if op=1 then wrap64 (a+b)else if op=2 then wrap64 (a - b)else if op=3 then wrap64 (a*b)
 else if op=4 then wrap64 (a.tdiv b)else if op=5 then a.tmod b else if op=6 then modI a b
 else if op=7 then bits .and .i64 a b else if op=8 then bits .or .i64 a b else if op=9 then bits .xor .i64 a b
 else if op=10 then wrap64 (a*2 ^ (shB b).toNat)else if op=11 then wrap64 (IntKind.u64.wrap a / 2 ^ (shB b).toNat)else if op=12 then a / 2 ^ (shB b).toNat
 else if op=13 then truthI (decide (a < b))else if op=14 then truthI (decide (IntKind.u64.wrap a < IntKind.u64.wrap b))else if op=15 then truthI (a == b)
 else if op=16 then(if b < a then b else a)else(if a < b then b else a)
set_option maxRecDepth 100000 in
set_option maxHeartbeats 4000000 in
theorem apply_1 (a b:Int)(w:World)
 (hw:∀w,Calls Tryz.prog 184 #[.int .u8 1,.int .i64 b] w fun e w'=>e=.returned (.int .i64 0)∧Below w.heap.size w w'):Calls Tryz.prog 180 #[.int .u8 1,.int .i64 a,.int .i64 b] w fun e w'=>e=.returned (.tuple #[.int .i64 (yv_ 1 a b),.int .i64 0])∧Below w.heap.size w w' :=  Vm.d1_
set_option maxRecDepth 100000 in
set_option maxHeartbeats 4000000 in
theorem apply_2 (a b:Int)(w:World)
 (hw:∀w,Calls Tryz.prog 184 #[.int .u8 2,.int .i64 b] w fun e w'=>e=.returned (.int .i64 0)∧Below w.heap.size w w'):Calls Tryz.prog 180 #[.int .u8 2,.int .i64 a,.int .i64 b] w fun e w'=>e=.returned (.tuple #[.int .i64 (yv_ 2 a b),.int .i64 0])∧Below w.heap.size w w' :=  Vm.d1_
set_option maxRecDepth 100000 in
set_option maxHeartbeats 4000000 in
theorem apply_3 (a b:Int)(w:World)
 (hw:∀w,Calls Tryz.prog 184 #[.int .u8 3,.int .i64 b] w fun e w'=>e=.returned (.int .i64 0)∧Below w.heap.size w w'):Calls Tryz.prog 180 #[.int .u8 3,.int .i64 a,.int .i64 b] w fun e w'=>e=.returned (.tuple #[.int .i64 (yv_ 3 a b),.int .i64 0])∧Below w.heap.size w w' :=  Vm.d1_
set_option maxRecDepth 100000 in
set_option maxHeartbeats 4000000 in
theorem apply_4 (a b:Int)(w:World)(hb0:b≠0)
 (hw:∀w,Calls Tryz.prog 184 #[.int .u8 4,.int .i64 b] w fun e w'=>e=.returned (.int .i64 0)∧Below w.heap.size w w'):Calls Tryz.prog 180 #[.int .u8 4,.int .i64 a,.int .i64 b] w fun e w'=>e=.returned (.tuple #[.int .i64 (yv_ 4 a b),.int .i64 0])∧Below w.heap.size w w' :=  Vm.d1_
set_option maxRecDepth 100000 in
set_option maxHeartbeats 4000000 in
theorem apply_5 (a b:Int)(w:World)(hb0:b≠0)
 (hw:∀w,Calls Tryz.prog 184 #[.int .u8 5,.int .i64 b] w fun e w'=>e=.returned (.int .i64 0)∧Below w.heap.size w w'):Calls Tryz.prog 180 #[.int .u8 5,.int .i64 a,.int .i64 b] w fun e w'=>e=.returned (.tuple #[.int .i64 (yv_ 5 a b),.int .i64 0])∧Below w.heap.size w w' :=  Vm.d1_
set_option maxRecDepth 100000 in
set_option maxHeartbeats 4000000 in
theorem apply_6 (a b:Int)(w:World)(hb0:b≠0)
 (hw:∀w,Calls Tryz.prog 184 #[.int .u8 6,.int .i64 b] w fun e w'=>e=.returned (.int .i64 0)∧Below w.heap.size w w'):Calls Tryz.prog 180 #[.int .u8 6,.int .i64 a,.int .i64 b] w fun e w'=>e=.returned (.tuple #[.int .i64 (yv_ 6 a b),.int .i64 0])∧Below w.heap.size w w' :=  Vm.d1_
set_option maxRecDepth 100000 in
set_option maxHeartbeats 4000000 in
theorem apply_7 (a b:Int)(w:World)
 (hw:∀w,Calls Tryz.prog 184 #[.int .u8 7,.int .i64 b] w fun e w'=>e=.returned (.int .i64 0)∧Below w.heap.size w w'):Calls Tryz.prog 180 #[.int .u8 7,.int .i64 a,.int .i64 b] w fun e w'=>e=.returned (.tuple #[.int .i64 (yv_ 7 a b),.int .i64 0])∧Below w.heap.size w w' :=  Vm.d1_
set_option maxRecDepth 100000 in
set_option maxHeartbeats 4000000 in
theorem apply_8 (a b:Int)(w:World)
 (hw:∀w,Calls Tryz.prog 184 #[.int .u8 8,.int .i64 b] w fun e w'=>e=.returned (.int .i64 0)∧Below w.heap.size w w'):Calls Tryz.prog 180 #[.int .u8 8,.int .i64 a,.int .i64 b] w fun e w'=>e=.returned (.tuple #[.int .i64 (yv_ 8 a b),.int .i64 0])∧Below w.heap.size w w' :=  Vm.d1_
set_option maxRecDepth 100000 in
set_option maxHeartbeats 4000000 in
theorem apply_9 (a b:Int)(w:World)
 (hw:∀w,Calls Tryz.prog 184 #[.int .u8 9,.int .i64 b] w fun e w'=>e=.returned (.int .i64 0)∧Below w.heap.size w w'):Calls Tryz.prog 180 #[.int .u8 9,.int .i64 a,.int .i64 b] w fun e w'=>e=.returned (.tuple #[.int .i64 (yv_ 9 a b),.int .i64 0])∧Below w.heap.size w w' :=  Vm.d1_
set_option maxRecDepth 100000 in
set_option maxHeartbeats 4000000 in
theorem apply_10 (a b:Int)(w:World)
 (hw:∀w,Calls Tryz.prog 184 #[.int .u8 10,.int .i64 b] w fun e w'=>e=.returned (.int .i64 0)∧Below w.heap.size w w'):Calls Tryz.prog 180 #[.int .u8 10,.int .i64 a,.int .i64 b] w fun e w'=>e=.returned (.tuple #[.int .i64 (yv_ 10 a b),.int .i64 0])∧Below w.heap.size w w' :=  Vm.d2_
set_option maxRecDepth 100000 in
set_option maxHeartbeats 4000000 in
theorem apply_11 (a b:Int)(w:World)
 (hw:∀w,Calls Tryz.prog 184 #[.int .u8 11,.int .i64 b] w fun e w'=>e=.returned (.int .i64 0)∧Below w.heap.size w w'):Calls Tryz.prog 180 #[.int .u8 11,.int .i64 a,.int .i64 b] w fun e w'=>e=.returned (.tuple #[.int .i64 (yv_ 11 a b),.int .i64 0])∧Below w.heap.size w w' :=  Vm.d2_
set_option maxRecDepth 100000 in
set_option maxHeartbeats 4000000 in
theorem apply_12 (a b:Int)(w:World)
 (hw:∀w,Calls Tryz.prog 184 #[.int .u8 12,.int .i64 b] w fun e w'=>e=.returned (.int .i64 0)∧Below w.heap.size w w'):Calls Tryz.prog 180 #[.int .u8 12,.int .i64 a,.int .i64 b] w fun e w'=>e=.returned (.tuple #[.int .i64 (yv_ 12 a b),.int .i64 0])∧Below w.heap.size w w' :=  Vm.d2_
set_option maxRecDepth 100000 in
set_option maxHeartbeats 4000000 in
theorem apply_13 (a b:Int)(w:World)
 (hw:∀w,Calls Tryz.prog 184 #[.int .u8 13,.int .i64 b] w fun e w'=>e=.returned (.int .i64 0)∧Below w.heap.size w w'):Calls Tryz.prog 180 #[.int .u8 13,.int .i64 a,.int .i64 b] w fun e w'=>e=.returned (.tuple #[.int .i64 (yv_ 13 a b),.int .i64 0])∧Below w.heap.size w w' :=  Vm.d1_
set_option maxRecDepth 100000 in
set_option maxHeartbeats 4000000 in
theorem apply_14 (a b:Int)(w:World)
 (hw:∀w,Calls Tryz.prog 184 #[.int .u8 14,.int .i64 b] w fun e w'=>e=.returned (.int .i64 0)∧Below w.heap.size w w'):Calls Tryz.prog 180 #[.int .u8 14,.int .i64 a,.int .i64 b] w fun e w'=>e=.returned (.tuple #[.int .i64 (yv_ 14 a b),.int .i64 0])∧Below w.heap.size w w' :=  Vm.d1_
set_option maxRecDepth 100000 in
set_option maxHeartbeats 4000000 in
theorem apply_15 (a b:Int)(w:World)
 (hw:∀w,Calls Tryz.prog 184 #[.int .u8 15,.int .i64 b] w fun e w'=>e=.returned (.int .i64 0)∧Below w.heap.size w w'):Calls Tryz.prog 180 #[.int .u8 15,.int .i64 a,.int .i64 b] w fun e w'=>e=.returned (.tuple #[.int .i64 (yv_ 15 a b),.int .i64 0])∧Below w.heap.size w w' :=  Vm.d1_
set_option maxRecDepth 100000 in
set_option maxHeartbeats 4000000 in
theorem apply_16 (a b:Int)(w:World)
 (hw:∀w,Calls Tryz.prog 184 #[.int .u8 16,.int .i64 b] w fun e w'=>e=.returned (.int .i64 0)∧Below w.heap.size w w'):Calls Tryz.prog 180 #[.int .u8 16,.int .i64 a,.int .i64 b] w fun e w'=>e=.returned (.tuple #[.int .i64 (yv_ 16 a b),.int .i64 0])∧Below w.heap.size w w' :=  Vm.d1_
set_option maxRecDepth 100000 in
set_option maxHeartbeats 4000000 in
theorem apply_17 (a b:Int)(w:World)
 (hw:∀w,Calls Tryz.prog 184 #[.int .u8 17,.int .i64 b] w fun e w'=>e=.returned (.int .i64 0)∧Below w.heap.size w w'):Calls Tryz.prog 180 #[.int .u8 17,.int .i64 a,.int .i64 b] w fun e w'=>e=.returned (.tuple #[.int .i64 (yv_ 17 a b),.int .i64 0])∧Below w.heap.size w w' :=  Vm.d1_
def yx_ (op a b:Int):Int:=if yp_ op b=0 then yv_ op a b else 0
theorem apply_c (op a b:Int)(w:World):Calls Tryz.prog 180 #[.int .u8 op,.int .i64 a,.int .i64 b] w fun e w'=>e=.returned (.tuple #[.int .i64 (yx_ op a b),.int .i64 (yp_ op b)])∧Below w.heap.size w w':=by
 by_cases h:yp_ op b=0
 ·have hw:∀w,Calls Tryz.prog 184 #[.int .u8 op,.int .i64 b] w fun e w'=>e=.returned (.int .i64 0)∧Below w.heap.size w w':=by rw[←h];exact wrong_c op b
  have hz:4≤op→op≤6→b≠0:=by
   intro x y z
   rw[yp_,if_neg (by omega),if_pos ⟨z,x,y⟩]at h
   exact absurd h (by decide)
  have hop:1≤op∧op≤17:=by
   refine⟨?_,?_⟩
   ·by_cases q:op < 1
    ·rw[yp_,if_pos (.inl q)]at h;exact absurd h (by decide)
    ·omega
   ·by_cases q:17 < op
    ·rw[yp_,if_pos (.inr q)]at h;exact absurd h (by decide)
    ·omega
  rw[yx_,if_pos h,h]
  have h:op=1∨op=2∨op=3∨op=4∨op=5∨op=6∨op=7∨op=8∨op=9∨op=10∨op=11∨op=12∨op=13∨op=14∨op=15∨op=16∨op=17:=by omega
  rcases h with h|h|h|h|h|h|h|h|h|h|h|h|h|h|h|h|h<;>subst h
  ·exact apply_1 a b w hw
  ·exact apply_2 a b w hw
  ·exact apply_3 a b w hw
  ·exact apply_4 a b w (hz (by decide) (by decide)) hw
  ·exact apply_5 a b w (hz (by decide) (by decide)) hw
  ·exact apply_6 a b w (hz (by decide) (by decide)) hw
  ·exact apply_7 a b w hw
  ·exact apply_8 a b w hw
  ·exact apply_9 a b w hw
  ·exact apply_10 a b w hw
  ·exact apply_11 a b w hw
  ·exact apply_12 a b w hw
  ·exact apply_13 a b w hw
  ·exact apply_14 a b w hw
  ·exact apply_15 a b w hw
  ·exact apply_16 a b w hw
  ·exact apply_17 a b w hw
 ·rw[yx_,if_neg h]
  exact apply_bad op a b w (by rw[bne_iff_ne];exact h)
theorem right_last' {p:List Ins}(h:(checkI p).2=0):0 < p.length∧p.length≤256∧goesB (p.getD (p.length - 1) ⟨0,0,0,0,0⟩)=false∧∀k,k < p.length→badAt p.length (p.getD k ⟨0,0,0,0,0⟩)=0:=by
 unfold checkI at h
 by_cases h0:p.length=0
 ·rw[if_pos h0]at h;cases h
 ·by_cases h1:256 < p.length
  ·rw[if_neg h0,if_pos h1]at h;cases h
  ·rw[if_neg h0,if_neg h1]at h
   refine⟨by omega,by omega,?_⟩
   unfold checkK at h
   cases hf:p.findIdx? (fun i=>badAt p.length i != 0)with
   | some k=>
    rw[hf]at h
    obtain⟨hk,hb,_⟩:=List.findIdx?_eq_some_iff_getElem.1 hf
    exfalso
    have hg:p.getD k ⟨0,0,0,0,0⟩=p[k]:=by simp[List.getD,hk]
    dsimp only at h
    rw[hg]at h
    simp[h]at hb
   | none=>
    rw[hf]at h
    rw[List.findIdx?_eq_none_iff]at hf
    dsimp only at h
    refine⟨?_,fun k hk=>?_⟩
    ·by_cases hg:goesB (p.getD (p.length - 1) ⟨0,0,0,0,0⟩)=true
     ·rw[if_pos hg]at h;cases h
     ·simpa using hg
    ·have := hf (p.getD k ⟨0, 0, 0, 0, 0⟩) (by
      rw[List.getD_eq_getElem?_getD,List.getElem?_eq_getElem hk];exact List.getElem_mem hk)
     simpa using this
structure RightI (n k:Nat) (x:Ins):Prop where
 ok:x.ok
 one:oneE x=0
 a:x.a < 8
 b:x.b < 8
 c:x.c < 8
 targ:targB x=true→0≤targV x∧targV x < n
 goes:goesB x=true→k+1 < n
 cls:x.op=1∨x.op=2∨x.op=3∨x.op=4∨x.op=5∨x.op=6∨x.op=7∨x.op=8∨x.op=9∨x.op=10∨x.op=11∨(33≤x.op∧x.op≤49)
theorem one_regs {x:Ins}(h:oneE x=0):x.a < 8∧x.b < 8∧x.c < 8∧(targB x=true→0≤x.n)∧(x.op=1∨x.op=2∨x.op=3∨x.op=4∨x.op=5∨x.op=6∨x.op=7∨x.op=8∨x.op=9∨x.op=10∨x.op=11∨(33≤x.op∧x.op≤49)):=by
 have h0:=h
 unfold oneE at h
 have hf:x1_ x.op≠0:=fun e=>by rw[if_pos e]at h;cases h
 rw[if_neg hf]at h
 have hc:wa_ (x1_ x.op) x.a x.b x.c x.n:=by
  by_cases q:wa_ (x1_ x.op) x.a x.b x.c x.n
  ·exact q
  ·rw[xf_ q]at h;cases h
 have ht:targB x=true→x.op=9∨x.op=10∨x.op=11:=fun ht=>by
  unfold targB at ht
  simp at ht
  exact ht.2
 revert hc hf
 unfold x1_
 split
 ·rename_i q;intro hf hc;obtain⟨q1,q2,q3,q4⟩:=hc;exact⟨q1,q2,q3,fun t=>by omega,by omega⟩
 split
 ·exact Vm.k3_
 split
 ·rename_i q;intro hf hc;obtain⟨q1,q2,q3⟩:=hc;exact⟨by omega,by omega,by omega,fun t=>by have:=ht t;omega,by omega⟩
 split
 ·exact Vm.k3_
 split
 ·exact Vm.k4_
 split
 ·exact Vm.k4_
 split
 ·exact Vm.k4_
 ·intro hf;exact absurd rfl hf
theorem right_at {p:List Ins}(hok:∀x∈p,x.ok)(h:(checkI p).2=0){k:Nat}(hk:k < p.length):RightI p.length k (p.getD k ⟨0,0,0,0,0⟩):=by
 obtain⟨h0,h1,h2,h3⟩:=right_last' h
 have hb:=h3 k hk
 unfold badAt at hb
 have h4:oneE (p.getD k ⟨0,0,0,0,0⟩)=0:=by
  by_cases q:oneE (p.getD k ⟨0,0,0,0,0⟩)=0
  ·exact q
  ·rw[if_pos q]at hb;exact absurd hb q
 rw[if_neg (by omega)]at hb
 obtain⟨ra,rb,rc,rt,rcl⟩:=one_regs h4
 refine⟨hok _ (by rw[List.getD_eq_getElem?_getD,List.getElem?_eq_getElem hk];exact List.getElem_mem hk),h4,ra,rb,rc,fun ht=>?_,fun hg=>?_,rcl⟩
 ·refine⟨by unfold targV;rw[if_pos ht];exact rt ht,?_⟩
  by_cases q:(p.length:Int)≤targV (p.getD k ⟨0,0,0,0,0⟩)
  ·rw[if_pos ⟨ht,q⟩]at hb;cases hb
  ·omega
 ·by_cases q:k+1 < p.length
  ·exact q
  ·have:k=p.length - 1:=by omega
   subst this
   rw[h2]at hg;cases hg
theorem goesB_of {x:Ins}(h:oneE x=0):goesB x=(x.op != 1 && (x.op != 2 && x.op != 9)):=by unfold goesB;rw[h];rfl
theorem targB_of {x:Ins}(h:oneE x=0):targB x=(x.op == 9 ||(x.op == 10 || x.op == 11)):=by unfold targB;rw[h];rfl
end Go.Proofs.YtjliakjbdcplcaaGreat
end
section
namespace Go.Proofs.YtjliakjbdcplcaaGreat
open Go.RowKit
def foldI (x n:Int):Int:=bits .xor .u64 x (x / 2 ^ n.toNat)
theorem fold_c (x n:Int)(w:World)(h0:0≤n)(h1:n≤64):Calls Tryz.prog 193 #[.int .u64 x,.int .i64 n] w fun e w'=>e=.returned (.int .u64 (foldI x n))∧w=w':=by
 go_enter Tryz.func193,Tryz.ntmps193
 go_wp2
 go_ret
 exact⟨rfl,rfl⟩
def mixI (x:Int):Int:=foldI (IntKind.u64.wrap (foldI (IntKind.u64.wrap (foldI x 30*13787848793156543929)) 27*10723151780598845931)) 31
theorem mix_c (x:Int)(w:World):Calls Tryz.prog 192 #[.int .u64 x] w fun e w'=>e=.returned (.int .u64 (mixI x))∧w=w':=by
 go_enter Tryz.func192,Tryz.ntmps192
 go_wp2_with (go_at_call 193;refine(fold_c _ _ _ (by omega) (by omega)).mono ?_;rintro e w' ⟨rfl,rfl⟩)
 go_ret
 exact⟨rfl,rfl⟩
def atI (key index:Int):Int:=mixI (IntKind.u64.wrap (key+IntKind.u64.wrap (IntKind.u64.wrap (IntKind.u64.wrap index+1)*11400714819323198485)))
theorem at_c (key index:Int)(w:World):Calls Tryz.prog 188 #[.int .u64 key,.int .i64 index] w fun e w'=>e=.returned (.int .u64 (atI key index))∧w=w':=by
 go_enter Tryz.func188,Tryz.ntmps188
 go_wp2_with (go_at_call 192;refine(mix_c _ _).mono ?_;rintro e w' ⟨rfl,rfl⟩)
 go_ret
 exact⟨rfl,rfl⟩
def lo32 (z:Int):Int:=bits .and .u64 z 4294967295
def upP (v n:Int):Int:=IntKind.u64.wrap (lo32 v*lo32 n)
def upQ (v n:Int):Int:=IntKind.u64.wrap (IntKind.u64.wrap (v / 4294967296*lo32 n)+upP v n / 4294967296)
def upR (v n:Int):Int:=IntKind.u64.wrap (IntKind.u64.wrap (lo32 v*(n / 4294967296))+lo32 (upQ v n))
def upperI (v n:Int):Int:=IntKind.u64.wrap (IntKind.u64.wrap (IntKind.u64.wrap (v / 4294967296*(n / 4294967296))+upQ v n / 4294967296)+upR v n / 4294967296)
theorem upper_c (v n:Int)(w:World):Calls Tryz.prog 189 #[.int .u64 v,.int .u64 n] w fun e w'=>e=.returned (.int .u64 (upperI v n))∧w=w':=by
 go_enter Tryz.func189,Tryz.ntmps189
 go_wp2
 go_ret
 exact⟨rfl,rfl⟩
theorem wrapU64 (z:Int):IntKind.u64.wrap z=z % 18446744073709551616:=by simp[IntKind.wrap,IntKind.bits,IntKind.signed]
theorem lo32_eq (z:Int)(h0:0≤z)(h1:z < 18446744073709551616):lo32 z=z % 4294967296:=and_low32 z h0 h1
theorem mul_bd (a b:Int)(a0:0≤a)(a1:a≤4294967295)(b0:0≤b)(b1:b≤4294967295):0≤a*b∧a*b≤18446744065119617025:=
 ⟨Int.mul_nonneg a0 b0,Int.le_trans (Int.mul_le_mul a1 b1 b0 (by decide)) (by decide)⟩
theorem upper_eq (v n:Int)(v0:0≤v)(v1:v < 18446744073709551616)(n0:0≤n)(n1:n < 18446744073709551616):upperI v n=v*n / 18446744073709551616:=by
 have ev:=Int.emod_add_mul_ediv v 4294967296
 have en:=Int.emod_add_mul_ediv n 4294967296
 have hlv:=lo32_eq v v0 v1
 have hln:=lo32_eq n n0 n1
 have a0:0≤v / 4294967296:=by omega
 have a1:v / 4294967296≤4294967295:=by omega
 have b0:0≤v % 4294967296:=by omega
 have b1:v % 4294967296≤4294967295:=by omega
 have c0:0≤n / 4294967296:=by omega
 have c1:n / 4294967296≤4294967295:=by omega
 have d0:0≤n % 4294967296:=by omega
 have d1:n % 4294967296≤4294967295:=by omega
 generalize ha:v / 4294967296=a at *
 generalize hb:v % 4294967296=b at *
 generalize hc:n / 4294967296=c at *
 generalize hd:n % 4294967296=d at *
 have hX:=mul_bd a c a0 a1 c0 c1
 have hY:=mul_bd a d a0 a1 d0 d1
 have hZ:=mul_bd b c b0 b1 c0 c1
 have hW:=mul_bd b d b0 b1 d0 d1
 have hvn:v*n=a*c*18446744073709551616+(a*d+b*c)*4294967296+b*d:=by
  rw[←ev,←en,Int.add_mul,Int.mul_add,Int.mul_add]
  rw [show b*(4294967296*c)=b*c*4294967296 by rw[Int.mul_comm 4294967296 c,Int.mul_assoc],show 4294967296*a*d=a*d*4294967296 by rw[Int.mul_comm 4294967296 a,Int.mul_assoc,Int.mul_comm 4294967296 d,Int.mul_assoc],
   show 4294967296*a*(4294967296*c)=a*c*18446744073709551616 by rw[Int.mul_comm 4294967296 a,Int.mul_comm 4294967296 c,Int.mul_assoc,←Int.mul_assoc 4294967296 c,Int.mul_comm 4294967296 c,Int.mul_assoc c,Int.mul_assoc];rfl]
  omega
 have hp:upP v n=b*d:=by
  rw[upP,hlv,hln,wrapU64];omega
 have hq:upQ v n=a*d+b*d / 4294967296:=by
  rw[upQ,hp,hln,ha,wrapU64,wrapU64];omega
 have hlq:lo32 (upQ v n)=(a*d+b*d / 4294967296) % 4294967296:=by
  rw[hq];exact lo32_eq _ (by omega) (by omega)
 have hr:upR v n=b*c+(a*d+b*d / 4294967296) % 4294967296:=by
  rw[upR,hlq,hlv,hc,wrapU64,wrapU64];omega
 rw[upperI,hq,hr,ha,hc,hvn,wrapU64,wrapU64,wrapU64]
 generalize a*c=X at *
 generalize a*d=Y at *
 generalize b*c=Z at *
 generalize b*d=U at *
 omega
def belowI (v n:Int):Int:=wrap64 (upperI v (IntKind.u64.wrap n))
theorem below_ok (v n:Int)(w:World)(h:1≤n):Calls Tryz.prog 183 #[.int .u64 v,.int .i64 n] w fun e w'=>e=.returned (.tuple #[.int .i64 (belowI v n),.int .i64 0])∧w=w':=by
 go_enter Tryz.func183,Tryz.ntmps183
 go_wp2_with (go_at_call 189;refine(upper_c _ _ _).mono ?_;rintro e w' ⟨rfl,rfl⟩)
 go_ret2
 exact⟨rfl,rfl⟩
def join2 (x y:Int):Int:=mixI (IntKind.u64.wrap (IntKind.u64.wrap (11400714819323198485+y)+IntKind.u64.wrap (mixI (IntKind.u64.wrap (IntKind.u64.wrap (11400714819323198485+x)))*11400714819323198485)))
set_option maxRecDepth 100000 in
set_option maxHeartbeats 1000000 in
theorem join2_c (b:Nat)(x y:Int)(w:World)(h0:w.cell? ⟨b,0,none⟩=some (.int .u64 x))(h1:w.cell? ⟨b,1,none⟩=some (.int .u64 y)) :
  Calls Tryz.prog 191 #[.slice (some ⟨b,0,none⟩) 2 2] w fun e w'=>e=.returned (.int .u64 (join2 x y))∧w=w':=by
 go_enter Tryz.func191,Tryz.ntmps191
 go_wp2
 refine wp_loop_rounds 3 ?_
 rw[rounds_succ]
 go_wp2_with (go_at_call 192;refine(mix_c _ _).mono ?_;rintro e w' ⟨rfl,rfl⟩)
 rw[rounds_succ]
 go_wp2_with (go_at_call 192;refine(mix_c _ _).mono ?_;rintro e w' ⟨rfl,rfl⟩)
 rw[rounds_succ]
 go_wp2_with (go_at_call 192;refine(mix_c _ _).mono ?_;rintro e w' ⟨rfl,rfl⟩)
 go_ret
 exact⟨rfl,rfl⟩
def keyI (seed process:Int):Int:=join2 seed process
theorem key_ok (seed process:Int)(w:World)(h0:0≤process)(h1:process≤65536):Calls Tryz.prog 187 #[.int .u64 seed,.int .i64 process] w fun e w'=>e=.returned (.tuple #[.int .u64 (keyI seed process),.int .i64 0])∧Below w.heap.size w w':=by
 go_enter Tryz.func187,Tryz.ntmps187
 go_wp2_with fail
 refine(join2_c w.heap.size seed process _ ?_ ?_).mono ?_
 ·exact cell_of_row _ _ _ _ _ _ (heap_alloc_new w _)
 ·exact cell_of_row _ _ _ _ _ _ (heap_alloc_new w _)
 rintro e w' ⟨rfl,rfl⟩
 go_wp2
 go_ret2
 exact⟨rfl,(Below.refl _ _).alloc (Nat.le_refl _) _⟩
def valueI (seed process index:Int):Int:=atI (keyI seed process) index
set_option maxHeartbeats 1000000 in
theorem value_ok (seed process index:Int)(w:World)(h0:0≤process)(h1:process≤65536)(h2:0≤index)(h3:index≤281474976710656) :
  Calls Tryz.prog 182 #[.int .u64 seed,.int .i64 process,.int .i64 index] w fun e w'=>e=.returned (.tuple #[.int .u64 (valueI seed process index),.int .i64 0])∧Below w.heap.size w w':=by
 go_enter Tryz.func182,Tryz.ntmps182
 go_wp2_with fail
 refine(key_ok _ _ _ h0 h1).mono ?_
 rintro e w' ⟨rfl,hb⟩
 go_wp2_with (go_at_call 188;refine(at_c _ _ _).mono ?_;rintro e w' ⟨rfl,rfl⟩)
 go_ret2
 exact⟨rfl,hb⟩
def drawI (seed process index n:Int):Int:=belowI (valueI seed process index) n
set_option maxHeartbeats 1000000 in
theorem draw_ok (seed process index n:Int)(w:World)(h0:0≤process)(h1:process≤65536)(h2:0≤index)(h3:index≤281474976710656)(hn:1≤n) :
  Calls Tryz.prog 178 #[.int .u64 seed,.int .i64 process,.int .i64 index,.int .i64 n] w fun e w'=>e=.returned (.tuple #[.int .i64 (drawI seed process index n),.int .i64 0])∧Below w.heap.size w w':=by
 go_enter Tryz.func178,Tryz.ntmps178
 go_wp2_with fail
 refine(value_ok _ _ _ _ h0 h1 h2 h3).mono ?_
 rintro e w' ⟨rfl,hb⟩
 go_wp2_with (go_at_call 183;refine(below_ok _ _ _ hn).mono ?_;rintro e w' ⟨rfl,rfl⟩)
 go_ret2
 exact⟨rfl,hb⟩
theorem u64_bd (z:Int):0≤IntKind.u64.wrap z∧IntKind.u64.wrap z < 18446744073709551616:=by rw[wrapU64];omega
theorem foldI_bd (x n:Int)(h:0≤x)(h1:x < 18446744073709551616)(hn:0≤n):0≤foldI x n∧foldI x n < 18446744073709551616:=by
 unfold foldI
 have:bits .xor .u64 x (x / 2 ^ n.toNat)=IntKind.u64.wrap (bits .xor .u64 x (x / 2 ^ n.toNat)):=by
  simp only[bits,wrapU64]
  omega
 rw[this];exact u64_bd _
theorem mixI_bd (x:Int):0≤mixI x∧mixI x < 18446744073709551616:=foldI_bd _ _ (u64_bd _).1 (u64_bd _).2 (by decide)
theorem valueI_bd (s p i:Int):0≤valueI s p i∧valueI s p i < 18446744073709551616:=mixI_bd _
theorem drawI_bd (s p i n:Int)(hn:1≤n)(hn1:n≤9223372036854775807):0≤drawI s p i n∧drawI s p i n < n:=by
 unfold drawI belowI
 have hv:=valueI_bd s p i
 have hw:IntKind.u64.wrap n=n:=by rw[wrapU64];omega
 rw[hw,upper_eq _ _ hv.1 hv.2 (by omega) (by omega)]
 have h0:0≤valueI s p i*n / 18446744073709551616:=Int.ediv_nonneg (Int.mul_nonneg hv.1 (by omega)) (by decide)
 have h1:valueI s p i*n / 18446744073709551616 < n:=by
  apply Int.ediv_lt_of_lt_mul (by decide)
  rw[Int.mul_comm n]
  exact Int.mul_lt_mul_of_pos_right hv.2 (by omega)
 have hz:wrap64 (valueI s p i*n / 18446744073709551616)=valueI s p i*n / 18446744073709551616:=by
  unfold wrap64;omega
 rw[hz];exact⟨h0,h1⟩
end Go.Proofs.YtjliakjbdcplcaaGreat
end
section
namespace Go.Proofs.YtjliakjbdcplcaaGreat.Vm
open Go.RowKit
structure Sta where
 at_:Int
 ended:Bool
 regs:Nat→Int
 cells:List Int
 draws:Int
 sends:List Snd
structure Evi where
 seed:Int
 process:Int
 ports:Int
 look:Int
 now:Int
def Sta.put (s:Sta)(k:Nat)(x:Int):Sta:={ s with regs:=fun j=>if j=k then x else s.regs j,at_:=s.at_+1 }
theorem wc_ (s:Sta):Sta.mk s.at_ s.ended (fun q=>s.regs q) s.cells s.draws s.sends=s:=rfl
theorem evi_eta (v:Evi):Evi.mk v.seed v.process v.ports v.look v.now=v:=rfl
def sendE (s:Sta)(v:Evi)(i:Ins):Int:=
 if v.ports≤i.n then 188 else if s.regs i.a.toNat < v.look then 189 else if 281474976710656 - v.now < s.regs i.a.toNat then 1800 else if 256≤s.sends.length then 1801 else 0
def doE (s:Sta)(v:Evi)(i:Ins):Int:=
 if i.op=2 then 184
 else if i.op=5∨i.op=6 then(if s.regs i.b.toNat < 0∨(s.cells.length:Int)≤s.regs i.b.toNat then 185 else 0)
 else if i.op=7 then(if s.regs i.b.toNat < 1 then 186 else if s.draws=1099511627776 then 187 else 0)
 else if i.op=8 then sendE s v i
 else if i.op < 32 then 0
 else yp_ (i.op - 32) (s.regs i.c.toNat)
def doS (s:Sta)(v:Evi)(i:Ins):Sta:=
 if doE s v i≠0 then s
 else if i.op=1 then { s with ended:=true }
 else if i.op=3 then s.put i.a.toNat i.n
 else if i.op=4 then s.put i.a.toNat (s.regs i.b.toNat)
 else if i.op=5 then s.put i.a.toNat (s.cells.getD (s.regs i.b.toNat).toNat 0)
 else if i.op=6 then { s with cells:=s.cells.set (s.regs i.b.toNat).toNat (s.regs i.a.toNat),at_:=s.at_+1 }
 else if i.op=7 then { s.put i.a.toNat (drawI v.seed v.process s.draws (s.regs i.b.toNat))with draws:=s.draws+1 }
 else if i.op=8 then { s with at_:=s.at_+1,sends:=s.sends++[⟨i.n,s.regs i.a.toNat,s.regs i.b.toNat⟩] }
 else if i.op=9 then { s with at_:=i.n }
 else if i.op=10 then { s with at_:=if s.regs i.a.toNat=0 then i.n else s.at_+1 }
 else if i.op=11 then { s with at_:=if s.regs i.a.toNat < 0 then i.n else s.at_+1 }
 else s.put i.a.toNat (yx_ (i.op - 32) (s.regs i.b.toNat) (s.regs i.c.toNat))
def Ins0:Ins:=⟨0,0,0,0,0⟩
def insAt (p:List Ins)(k:Int):Ins:=p.getD k.toNat ⟨0,0,0,0,0⟩
def Evi.rightB (v:Evi):Bool:=decide (0≤v.process∧v.process≤65536∧0≤v.ports∧1≤v.look∧0≤v.now∧v.now≤281474976710656)
def Sta.rightB (s:Sta)(n:Int):Bool:=decide (0≤s.at_∧s.at_ < n∧(s.cells.length:Int)≤1024∧0≤s.draws∧s.draws≤1099511627776)
def yt_ (p:List Ins)(v:Evi)(s:Sta):Int:=
 if (checkI p).2≠0 then 180 else if v.rightB=false then 181 else if s.rightB p.length=false then 182 else 0
def x3_ (p:List Ins)(v:Evi)(s:Sta):Int:=if s.ended=true then 183 else doE s v (insAt p s.at_)
def xx_ (p:List Ins)(v:Evi)(s:Sta):Sta:=if s.ended=true then s else doS s v (insAt p s.at_)
def zeroSt:Sta:=⟨0,false,fun _=>0,[],0,[]⟩
structure RI (x:Ins):Prop where
 ok:x.ok
 a:x.a < 8
 b:x.b < 8
 c:x.c < 8
 jmp:x.op=9∨x.op=10∨x.op=11→0≤x.n∧x.n < 256
 snd:x.op=8→0≤x.n∧x.n < 16
 cls:x.op=1∨x.op=2∨x.op=3∨x.op=4∨x.op=5∨x.op=6∨x.op=7∨x.op=8∨x.op=9∨x.op=10∨x.op=11∨(33≤x.op∧x.op≤49)
theorem ri_at {p:List Ins}(hok:∀x∈p,x.ok)(h:(checkI p).2=0){k:Nat}(hk:k < p.length):RI (p.getD k ⟨0,0,0,0,0⟩):=by
 have R:=right_at hok h hk
 have hl:=(right_last' h).2.1
 refine⟨R.ok,R.a,R.b,R.c,fun hj=>?_,fun h8=>?_,R.cls⟩
 ·have ht:targB (p.getD k ⟨0,0,0,0,0⟩)=true:=by
   rw[targB_of R.one]
   rcases hj with e|e|e<;>simp only[e]<;>decide
  have:=R.targ ht
  unfold targV at this
  rw[if_pos ht]at this
  omega
 ·have h:=R.one
  unfold oneE at h
  have hf:x1_ (p.getD k ⟨0,0,0,0,0⟩).op=5:=by rw[h8];rfl
  rw[hf,if_neg (by decide)]at h
  have hc:wa_ 5 (p.getD k ⟨0,0,0,0,0⟩).a (p.getD k ⟨0,0,0,0,0⟩).b (p.getD k ⟨0,0,0,0,0⟩).c (p.getD k ⟨0,0,0,0,0⟩).n:=by
   by_cases q:wa_ 5 (p.getD k ⟨0,0,0,0,0⟩).a (p.getD k ⟨0,0,0,0,0⟩).b (p.getD k ⟨0,0,0,0,0⟩).c (p.getD k ⟨0,0,0,0,0⟩).n
   ·exact q
   ·rw[xf_ q]at h;cases h
  exact⟨hc.2.2.2.1,hc.2.2.2.2⟩
structure VOk (v:Evi):Prop where
 p0:0≤v.process
 p1:v.process≤65536
 t0:0≤v.now
 t1:v.now≤281474976710656
 o0:0≤v.ports
 l0:1≤v.look
structure SOk (s:Sta):Prop where
 a0:0≤s.at_
 a1:s.at_≤256
 d0:0≤s.draws
 d1:s.draws≤1099511627776
 c1:s.cells.length≤1024
 n1:s.sends.length≤1000000
theorem VOk.of {v:Evi}(h:v.rightB=true):VOk v:=by
 have:=of_decide_eq_true (show decide _=true from h)
 exact⟨by omega,by omega,by omega,by omega,by omega,by omega⟩
theorem doS_bad {s:Sta}{v:Evi}{x:Ins}(h:doE s v x≠0):doS s v x=s:=by unfold doS;rw[if_pos h]
end Go.Proofs.YtjliakjbdcplcaaGreat.Vm
end
