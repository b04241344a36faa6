import Derived.Test.YtmljmabbopkpiaaV1
import Derived.Test.YtmljmabbopkpiaaV10
import Derived.Test.YtmljmabbopkpiaaProg
section
namespace Go.Proofs.Ytmljmabbopkpiaa.Vm
theorem d1_ {P : Prop} (h:P:=by
 have HW:=Lib.hid hw
 clear hw
 go_enter Try.func29,Try.ntmps29
 go_wp2_with fail
 refine(HW.out _).mono ?_
 rintro e w' ⟨rfl,hb⟩
 go_wp2_with (first
  |(go_at_call 74;refine(truth_c _ _).mono ?_;rintro e w' ⟨rfl,rfl⟩)
  |(go_at_call 73;refine(mod_c _ _ _ (by assumption)).mono ?_;rintro e w' ⟨rfl,rfl⟩))
 all_goals (go_ret2;refine⟨?_,hb⟩)
 all_goals first|rfl |(show Ending.returned (.tuple #[.int .i64 _,_])=.returned (.tuple #[.int .i64 _,_]);congr 4;simp[z0_];done) |(show Ending.returned (.tuple #[.int .i64 _,_])=.returned (.tuple #[.int .i64 _,_]);congr 4;simp[z0_];omega)):P:=h
theorem d2_ {P : Prop} (h:P:=by
 have HW:=Lib.hid hw
 clear hw
 have hs:=shB_bd b
 have hs0:0≤bits BinOp.and IntKind.u64 (IntKind.u64.wrap b) 63:=hs.1
 have hs1:bits BinOp.and IntKind.u64 (IntKind.u64.wrap b) 63≤64:=Int.le_trans hs.2 (by decide)
 clear hs
 go_enter Try.func29,Try.ntmps29
 go_wp2_with fail
 refine(HW.out _).mono ?_
 rintro e w' ⟨rfl,hb⟩
 go_wp2_with (first
  |(go_at_call 74;refine(truth_c _ _).mono ?_;rintro e w' ⟨rfl,rfl⟩)
  |(go_at_call 73;refine(mod_c _ _ _ (by assumption)).mono ?_;rintro e w' ⟨rfl,rfl⟩))
 all_goals (go_ret2;refine⟨?_,hb⟩)
 all_goals first|rfl |(show Ending.returned (.tuple #[.int .i64 _,_])=.returned (.tuple #[.int .i64 _,_]);congr 4;simp[z0_];done) |(show Ending.returned (.tuple #[.int .i64 _,_])=.returned (.tuple #[.int .i64 _,_]);congr 4;simp[z0_];omega)):P:=h
end Go.Proofs.Ytmljmabbopkpiaa.Vm
end
set_option linter.unusedSimpArgs false
set_option linter.unusedVariables false
set_option maxRecDepth 100000
set_option maxHeartbeats 4000000
section
namespace Go.Proofs.Ytmljmabbopkpiaa
open Go.RowKit
def wrongE (op b:Int):Int:=if op < 1∨17 < op then 130 else if b=0∧4≤op∧op≤6 then 131 else 0
def allL : List Value := [.string ⟨#[]⟩,.bool false,.string ⟨#[97,100,100]⟩,.bool false,.string ⟨#[115,117,98]⟩,.bool false,.string ⟨#[109,117,108]⟩,.bool false,
 .string ⟨#[100,105,118]⟩,.bool true,.string ⟨#[114,101,109]⟩,.bool true,.string ⟨#[109,111,100]⟩,.bool true,.string ⟨#[97,110,100]⟩,.bool false,.string ⟨#[111,114]⟩,.bool false,
 .string ⟨#[120,111,114]⟩,.bool false,.string ⟨#[115,104,108]⟩,.bool false,.string ⟨#[115,104,114]⟩,.bool false,.string ⟨#[115,97,114]⟩,.bool false,.string ⟨#[108,101,115,115]⟩,.bool false,
 .string ⟨#[98,101,108,111,119]⟩,.bool false,.string ⟨#[101,113,117,97,108]⟩,.bool false,.string ⟨#[109,105,110]⟩,.bool false,.string ⟨#[109,97,120]⟩,.bool false]
theorem truth_t (w:World):Calls Try.prog 74 #[.bool true] w fun e w'=>e=.returned (.int .i64 1)∧w=w':=by
 go_enter Try.func74,Try.ntmps74
 go_wp2
 go_ret
 exact⟨rfl,rfl⟩
theorem truth_f (w:World):Calls Try.prog 74 #[.bool false] w fun e w'=>e=.returned (.int .i64 0)∧w=w':=by
 go_enter Try.func74,Try.ntmps74
 go_wp2
 go_ret
 exact⟨rfl,rfl⟩
def truthI (b:Bool):Int:=if b then 1 else 0
theorem truth_c (b:Bool)(w:World):Calls Try.prog 74 #[.bool b] w fun e w'=>e=.returned (.int .i64 (truthI b))∧w=w':=by
 cases b
 ·exact truth_f w
 ·exact truth_t w
def modI (a b:Int):Int:=if 0≤a.tmod b then a.tmod b else if b < 0 then wrap64 (a.tmod b - b)else wrap64 (a.tmod b+b)
theorem mod_c (a b:Int)(w:World)(hb:b≠0):Calls Try.prog 73 #[.int .i64 a,.int .i64 b] w fun e w'=>e=.returned (.int .i64 (modI a b))∧w=w':=by
 go_enter Try.func73,Try.ntmps73
 go_wp2
 all_goals go_ret
 all_goals refine⟨ret_i64 ?_,rfl⟩
 ·rw[modI,if_pos (by assumption)]
 ·rw[modI,if_neg (by omega),if_pos (by assumption)]
 ·rw[modI,if_neg (by omega),if_neg (by omega)]
set_option maxRecDepth 100000 in
set_option maxHeartbeats 4000000 in
theorem all_c (w:World):Calls Try.prog 108 #[] w fun e w'=>e=.returned (.agg allL.toArray)∧Below w.heap.size w w':=by
 go_enter Try.func108,Try.ntmps108
 go_wp2_with (refine wpList_store_row rfl 205 (.tmp 0) (.tmp 19) rfl w.heap.size allL.toArray rfl rfl 205 _ (heap_alloc_new w _) (by kernel_rfl) rfl (by kernel_rfl) ?_)
 exact bodyPost_ret (v:=.agg allL.toArray) (results_cell_row (P:=Try.prog) (p:=0) (ty:=205) rfl _ _ w.heap.size 205 allL.toArray (0,0) _ rfl (setRow_heap _ _ _ _ _ _ (heap_alloc_new w _)) Try.underlying205 rfl (by kernel_rfl)) rfl
  ⟨rfl,below_setRow ((Below.refl _ _).alloc (Nat.le_refl _) _) (Nat.le_refl _) _⟩
def nmB:Value→ByteArray
 | .string s=>s
 | _=>⟨#[]⟩
def nm (op:Int):ByteArray:=nmB (allL.getD (2*op).toNat undef)
theorem allIx1 (w:World):(Instr.index 205 (.agg allL.toArray) (.int .u8 1)).run Try.prog w=.ok (.agg #[.string (nm 1),.bool (decide ((4:Int)≤1∧(1:Int)≤6))]) w:=by kernel_rfl
theorem allIx2 (w:World):(Instr.index 205 (.agg allL.toArray) (.int .u8 2)).run Try.prog w=.ok (.agg #[.string (nm 2),.bool (decide ((4:Int)≤2∧(2:Int)≤6))]) w:=by kernel_rfl
theorem allIx3 (w:World):(Instr.index 205 (.agg allL.toArray) (.int .u8 3)).run Try.prog w=.ok (.agg #[.string (nm 3),.bool (decide ((4:Int)≤3∧(3:Int)≤6))]) w:=by kernel_rfl
theorem allIx4 (w:World):(Instr.index 205 (.agg allL.toArray) (.int .u8 4)).run Try.prog w=.ok (.agg #[.string (nm 4),.bool (decide ((4:Int)≤4∧(4:Int)≤6))]) w:=by kernel_rfl
theorem allIx5 (w:World):(Instr.index 205 (.agg allL.toArray) (.int .u8 5)).run Try.prog w=.ok (.agg #[.string (nm 5),.bool (decide ((4:Int)≤5∧(5:Int)≤6))]) w:=by kernel_rfl
theorem allIx6 (w:World):(Instr.index 205 (.agg allL.toArray) (.int .u8 6)).run Try.prog w=.ok (.agg #[.string (nm 6),.bool (decide ((4:Int)≤6∧(6:Int)≤6))]) w:=by kernel_rfl
theorem allIx7 (w:World):(Instr.index 205 (.agg allL.toArray) (.int .u8 7)).run Try.prog w=.ok (.agg #[.string (nm 7),.bool (decide ((4:Int)≤7∧(7:Int)≤6))]) w:=by kernel_rfl
theorem allIx8 (w:World):(Instr.index 205 (.agg allL.toArray) (.int .u8 8)).run Try.prog w=.ok (.agg #[.string (nm 8),.bool (decide ((4:Int)≤8∧(8:Int)≤6))]) w:=by kernel_rfl
theorem allIx9 (w:World):(Instr.index 205 (.agg allL.toArray) (.int .u8 9)).run Try.prog w=.ok (.agg #[.string (nm 9),.bool (decide ((4:Int)≤9∧(9:Int)≤6))]) w:=by kernel_rfl
theorem allIx10 (w:World):(Instr.index 205 (.agg allL.toArray) (.int .u8 10)).run Try.prog w=.ok (.agg #[.string (nm 10),.bool (decide ((4:Int)≤10∧(10:Int)≤6))]) w:=by kernel_rfl
theorem allIx11 (w:World):(Instr.index 205 (.agg allL.toArray) (.int .u8 11)).run Try.prog w=.ok (.agg #[.string (nm 11),.bool (decide ((4:Int)≤11∧(11:Int)≤6))]) w:=by kernel_rfl
theorem allIx12 (w:World):(Instr.index 205 (.agg allL.toArray) (.int .u8 12)).run Try.prog w=.ok (.agg #[.string (nm 12),.bool (decide ((4:Int)≤12∧(12:Int)≤6))]) w:=by kernel_rfl
theorem allIx13 (w:World):(Instr.index 205 (.agg allL.toArray) (.int .u8 13)).run Try.prog w=.ok (.agg #[.string (nm 13),.bool (decide ((4:Int)≤13∧(13:Int)≤6))]) w:=by kernel_rfl
theorem allIx14 (w:World):(Instr.index 205 (.agg allL.toArray) (.int .u8 14)).run Try.prog w=.ok (.agg #[.string (nm 14),.bool (decide ((4:Int)≤14∧(14:Int)≤6))]) w:=by kernel_rfl
theorem allIx15 (w:World):(Instr.index 205 (.agg allL.toArray) (.int .u8 15)).run Try.prog w=.ok (.agg #[.string (nm 15),.bool (decide ((4:Int)≤15∧(15:Int)≤6))]) w:=by kernel_rfl
theorem allIx16 (w:World):(Instr.index 205 (.agg allL.toArray) (.int .u8 16)).run Try.prog w=.ok (.agg #[.string (nm 16),.bool (decide ((4:Int)≤16∧(16:Int)≤6))]) w:=by kernel_rfl
theorem allIx17 (w:World):(Instr.index 205 (.agg allL.toArray) (.int .u8 17)).run Try.prog w=.ok (.agg #[.string (nm 17),.bool (decide ((4:Int)≤17∧(17:Int)≤6))]) w:=by kernel_rfl
theorem allIxAt (op:Int)(h1:1≤op)(h2:op≤17)(w:World):(Instr.index 205 (.agg allL.toArray) (.int .u8 op)).run Try.prog w=.ok (.agg #[.string (nm op),.bool (decide (4≤op∧op≤6))]) w:=by
 have h:op=1∨op=2∨op=3∨op=4∨op=5∨op=6∨op=7∨op=8∨op=9∨op=10∨op=11∨op=12∨op=13∨op=14∨op=15∨op=16∨op=17:=by omega
 rcases h with h|h|h|h|h|h|h|h|h|h|h|h|h|h|h|h|h<;>subst h
 ·exact allIx1 w
 ·exact allIx2 w
 ·exact allIx3 w
 ·exact allIx4 w
 ·exact allIx5 w
 ·exact allIx6 w
 ·exact allIx7 w
 ·exact allIx8 w
 ·exact allIx9 w
 ·exact allIx10 w
 ·exact allIx11 w
 ·exact allIx12 w
 ·exact allIx13 w
 ·exact allIx14 w
 ·exact allIx15 w
 ·exact allIx16 w
 ·exact allIx17 w
set_option maxHeartbeats 1000000 in
theorem wrong_bad (op b:Int)(w:World)(h:op < 1∨17 < op):Calls Try.prog 72 #[.int .u8 op,.int .i64 b] w fun e w'=>e=.returned (.int .i64 130)∧w=w':=by
 rcases h with h|h
 ·go_enter Try.func72,Try.ntmps72
  go_wp2
  go_ret
  exact⟨rfl,rfl⟩
 ·have h':¬op < 1:=by omega
  go_enter Try.func72,Try.ntmps72
  go_wp2
  go_ret
  exact⟨rfl,rfl⟩
set_option maxHeartbeats 1000000 in
theorem wrong_ok (op b:Int)(w:World)(h1:1≤op)(h2:op≤17)(hb:(b == 0)=false):Calls Try.prog 72 #[.int .u8 op,.int .i64 b] w fun e w'=>e=.returned (.int .i64 0)∧w=w':=by
 go_enter Try.func72,Try.ntmps72
 go_wp2
 go_ret
 exact⟨rfl,rfl⟩
set_option maxRecDepth 100000 in
set_option maxHeartbeats 1000000 in
theorem wrong_z (op:Int)(w:World)(h1:1≤op)(h2:op≤17):Calls Try.prog 72 #[.int .u8 op,.int .i64 0] w fun e w'=>e=.returned (.int .i64 (if 4≤op∧op≤6 then 131 else 0))∧Below w.heap.size w w':=by
 have hs:=allIxAt op h1 h2
 obtain⟨V,hV⟩:∃V,V=allL.toArray:=⟨_,rfl⟩
 have ha:∀w,Calls Try.prog 108 #[] w fun e w'=>e=.returned (.agg V)∧Below w.heap.size w w':=hV ▸ all_c
 rw[←hV]at hs
 have HA:=Lib.hid ha
 clear ha hV
 have hfl:∀(w:World) (s:ByteArray) (b:Bool),(Instr.field 204 (.agg #[.string s,.bool b]) 1).run Try.prog w=.ok (.bool b) w:=fun w s b=>by kernel_rfl
 go_enter Try.func72,Try.ntmps72
 go_wp2_with fail
 refine(HA.out _).mono ?_
 rintro e w' ⟨rfl,hb⟩
 go_wp2
 all_goals go_ret
 all_goals exact⟨rfl,hb⟩
theorem wrong_c (op b:Int)(w:World):Calls Try.prog 72 #[.int .u8 op,.int .i64 b] w fun e w'=>e=.returned (.int .i64 (wrongE op b))∧Below w.heap.size w w':=by
 by_cases h:op < 1∨17 < op
 ·refine(wrong_bad op b w h).mono ?_
  rintro e w' ⟨rfl,rfl⟩
  exact⟨ret_i64 (by rw[wrongE,if_pos h]),Below.refl _ _⟩
 ·by_cases hb:b=0
  ·subst hb
   refine(wrong_z op w (by omega) (by omega)).mono ?_
   rintro e w' ⟨rfl,hB⟩
   refine⟨ret_i64 ?_,hB⟩
   rw[wrongE,if_neg h]
   simp
  ·refine(wrong_ok op b w (by omega) (by omega) (by simpa using hb)).mono ?_
   rintro e w' ⟨rfl,rfl⟩
   exact⟨ret_i64 (by rw[wrongE,if_neg h,if_neg (fun x=>hb x.1)]),Below.refl _ _⟩
set_option maxRecDepth 100000 in
set_option maxHeartbeats 1000000 in
theorem apply_bad (op a b:Int)(w:World)(h:(wrongE op b != 0)=true):Calls Try.prog 29 #[.int .u8 op,.int .i64 a,.int .i64 b] w fun e w'=>e=.returned (.tuple #[.int .i64 0,.int .i64 (wrongE op b)])∧Below w.heap.size w w':=by
 have HW:=Lib.hid (fun w=>wrong_c op b w)
 obtain⟨E,hE⟩:∃E,E=wrongE op b:=⟨_,rfl⟩
 rw[←hE]at HW h ⊢
 clear hE
 go_enter Try.func29,Try.ntmps29
 go_wp2_with fail
 refine(HW.out _).mono ?_
 rintro e w' ⟨rfl,hb⟩
 go_wp2
 go_ret2
 exact⟨rfl,hb⟩
def shB (b:Int):Int:=bits BinOp.and IntKind.u64 (IntKind.u64.wrap b) 63
theorem u64_wrap_bd (b:Int):0≤IntKind.u64.wrap b∧IntKind.u64.wrap b < 18446744073709551616:=by
 simp only[IntKind.wrap,IntKind.bits,IntKind.signed]
 simp
 omega
theorem shB_eq (b:Int):shB b=IntKind.u64.wrap b % 64:=by
 have hb:=u64_wrap_bd b
 unfold shB
 rw[u64_and _ _ hb.1 hb.2 (by decide) (by decide)]
 have h63:(63:Int).toNat=2 ^ 6 - 1:=by decide
 rw[h63,Nat.and_two_pow_sub_one_eq_mod]
 omega
theorem shB_bd (b:Int):0≤shB b∧shB b≤63:=by rw[shB_eq];omega
def z0_ (op a b:Int):Int:=
 if op=1 then wrap64 (a+b)else if op=2 then wrap64 (a - b)else if op=3 then wrap64 (a*b)
 else if op=4 then wrap64 (a.tdiv b)else if op=5 then a.tmod b else if op=6 then modI a b
 else if op=7 then bits .and .i64 a b else if op=8 then bits .or .i64 a b else if op=9 then bits .xor .i64 a b
 else if op=10 then wrap64 (a*2 ^ (shB b).toNat)else if op=11 then wrap64 (IntKind.u64.wrap a / 2 ^ (shB b).toNat)else if op=12 then a / 2 ^ (shB b).toNat
 else if op=13 then truthI (decide (a < b))else if op=14 then truthI (decide (IntKind.u64.wrap a < IntKind.u64.wrap b))else if op=15 then truthI (a == b)
 else if op=16 then(if b < a then b else a)else(if a < b then b else a)
set_option maxRecDepth 100000 in
set_option maxHeartbeats 4000000 in
theorem apply_1 (a b:Int)(w:World)
 (hw:∀w,Calls Try.prog 72 #[.int .u8 1,.int .i64 b] w fun e w'=>e=.returned (.int .i64 0)∧Below w.heap.size w w'):Calls Try.prog 29 #[.int .u8 1,.int .i64 a,.int .i64 b] w fun e w'=>e=.returned (.tuple #[.int .i64 (z0_ 1 a b),.int .i64 0])∧Below w.heap.size w w' :=  Vm.d1_
set_option maxRecDepth 100000 in
set_option maxHeartbeats 4000000 in
theorem apply_2 (a b:Int)(w:World)
 (hw:∀w,Calls Try.prog 72 #[.int .u8 2,.int .i64 b] w fun e w'=>e=.returned (.int .i64 0)∧Below w.heap.size w w'):Calls Try.prog 29 #[.int .u8 2,.int .i64 a,.int .i64 b] w fun e w'=>e=.returned (.tuple #[.int .i64 (z0_ 2 a b),.int .i64 0])∧Below w.heap.size w w' :=  Vm.d1_
set_option maxRecDepth 100000 in
set_option maxHeartbeats 4000000 in
theorem apply_3 (a b:Int)(w:World)
 (hw:∀w,Calls Try.prog 72 #[.int .u8 3,.int .i64 b] w fun e w'=>e=.returned (.int .i64 0)∧Below w.heap.size w w'):Calls Try.prog 29 #[.int .u8 3,.int .i64 a,.int .i64 b] w fun e w'=>e=.returned (.tuple #[.int .i64 (z0_ 3 a b),.int .i64 0])∧Below w.heap.size w w' :=  Vm.d1_
set_option maxRecDepth 100000 in
set_option maxHeartbeats 4000000 in
theorem apply_4 (a b:Int)(w:World)(hb0:b≠0)
 (hw:∀w,Calls Try.prog 72 #[.int .u8 4,.int .i64 b] w fun e w'=>e=.returned (.int .i64 0)∧Below w.heap.size w w'):Calls Try.prog 29 #[.int .u8 4,.int .i64 a,.int .i64 b] w fun e w'=>e=.returned (.tuple #[.int .i64 (z0_ 4 a b),.int .i64 0])∧Below w.heap.size w w' :=  Vm.d1_
set_option maxRecDepth 100000 in
set_option maxHeartbeats 4000000 in
theorem apply_5 (a b:Int)(w:World)(hb0:b≠0)
 (hw:∀w,Calls Try.prog 72 #[.int .u8 5,.int .i64 b] w fun e w'=>e=.returned (.int .i64 0)∧Below w.heap.size w w'):Calls Try.prog 29 #[.int .u8 5,.int .i64 a,.int .i64 b] w fun e w'=>e=.returned (.tuple #[.int .i64 (z0_ 5 a b),.int .i64 0])∧Below w.heap.size w w' :=  Vm.d1_
set_option maxRecDepth 100000 in
set_option maxHeartbeats 4000000 in
theorem apply_6 (a b:Int)(w:World)(hb0:b≠0)
 (hw:∀w,Calls Try.prog 72 #[.int .u8 6,.int .i64 b] w fun e w'=>e=.returned (.int .i64 0)∧Below w.heap.size w w'):Calls Try.prog 29 #[.int .u8 6,.int .i64 a,.int .i64 b] w fun e w'=>e=.returned (.tuple #[.int .i64 (z0_ 6 a b),.int .i64 0])∧Below w.heap.size w w' :=  Vm.d1_
set_option maxRecDepth 100000 in
set_option maxHeartbeats 4000000 in
theorem apply_7 (a b:Int)(w:World)
 (hw:∀w,Calls Try.prog 72 #[.int .u8 7,.int .i64 b] w fun e w'=>e=.returned (.int .i64 0)∧Below w.heap.size w w'):Calls Try.prog 29 #[.int .u8 7,.int .i64 a,.int .i64 b] w fun e w'=>e=.returned (.tuple #[.int .i64 (z0_ 7 a b),.int .i64 0])∧Below w.heap.size w w' :=  Vm.d1_
set_option maxRecDepth 100000 in
set_option maxHeartbeats 4000000 in
theorem apply_8 (a b:Int)(w:World)
 (hw:∀w,Calls Try.prog 72 #[.int .u8 8,.int .i64 b] w fun e w'=>e=.returned (.int .i64 0)∧Below w.heap.size w w'):Calls Try.prog 29 #[.int .u8 8,.int .i64 a,.int .i64 b] w fun e w'=>e=.returned (.tuple #[.int .i64 (z0_ 8 a b),.int .i64 0])∧Below w.heap.size w w' :=  Vm.d1_
set_option maxRecDepth 100000 in
set_option maxHeartbeats 4000000 in
theorem apply_9 (a b:Int)(w:World)
 (hw:∀w,Calls Try.prog 72 #[.int .u8 9,.int .i64 b] w fun e w'=>e=.returned (.int .i64 0)∧Below w.heap.size w w'):Calls Try.prog 29 #[.int .u8 9,.int .i64 a,.int .i64 b] w fun e w'=>e=.returned (.tuple #[.int .i64 (z0_ 9 a b),.int .i64 0])∧Below w.heap.size w w' :=  Vm.d1_
set_option maxRecDepth 100000 in
set_option maxHeartbeats 4000000 in
theorem apply_10 (a b:Int)(w:World)
 (hw:∀w,Calls Try.prog 72 #[.int .u8 10,.int .i64 b] w fun e w'=>e=.returned (.int .i64 0)∧Below w.heap.size w w'):Calls Try.prog 29 #[.int .u8 10,.int .i64 a,.int .i64 b] w fun e w'=>e=.returned (.tuple #[.int .i64 (z0_ 10 a b),.int .i64 0])∧Below w.heap.size w w' :=  Vm.d2_
set_option maxRecDepth 100000 in
set_option maxHeartbeats 4000000 in
theorem apply_11 (a b:Int)(w:World)
 (hw:∀w,Calls Try.prog 72 #[.int .u8 11,.int .i64 b] w fun e w'=>e=.returned (.int .i64 0)∧Below w.heap.size w w'):Calls Try.prog 29 #[.int .u8 11,.int .i64 a,.int .i64 b] w fun e w'=>e=.returned (.tuple #[.int .i64 (z0_ 11 a b),.int .i64 0])∧Below w.heap.size w w' :=  Vm.d2_
set_option maxRecDepth 100000 in
set_option maxHeartbeats 4000000 in
theorem apply_12 (a b:Int)(w:World)
 (hw:∀w,Calls Try.prog 72 #[.int .u8 12,.int .i64 b] w fun e w'=>e=.returned (.int .i64 0)∧Below w.heap.size w w'):Calls Try.prog 29 #[.int .u8 12,.int .i64 a,.int .i64 b] w fun e w'=>e=.returned (.tuple #[.int .i64 (z0_ 12 a b),.int .i64 0])∧Below w.heap.size w w' :=  Vm.d2_
set_option maxRecDepth 100000 in
set_option maxHeartbeats 4000000 in
theorem apply_13 (a b:Int)(w:World)
 (hw:∀w,Calls Try.prog 72 #[.int .u8 13,.int .i64 b] w fun e w'=>e=.returned (.int .i64 0)∧Below w.heap.size w w'):Calls Try.prog 29 #[.int .u8 13,.int .i64 a,.int .i64 b] w fun e w'=>e=.returned (.tuple #[.int .i64 (z0_ 13 a b),.int .i64 0])∧Below w.heap.size w w' :=  Vm.d1_
set_option maxRecDepth 100000 in
set_option maxHeartbeats 4000000 in
theorem apply_14 (a b:Int)(w:World)
 (hw:∀w,Calls Try.prog 72 #[.int .u8 14,.int .i64 b] w fun e w'=>e=.returned (.int .i64 0)∧Below w.heap.size w w'):Calls Try.prog 29 #[.int .u8 14,.int .i64 a,.int .i64 b] w fun e w'=>e=.returned (.tuple #[.int .i64 (z0_ 14 a b),.int .i64 0])∧Below w.heap.size w w' :=  Vm.d1_
set_option maxRecDepth 100000 in
set_option maxHeartbeats 4000000 in
theorem apply_15 (a b:Int)(w:World)
 (hw:∀w,Calls Try.prog 72 #[.int .u8 15,.int .i64 b] w fun e w'=>e=.returned (.int .i64 0)∧Below w.heap.size w w'):Calls Try.prog 29 #[.int .u8 15,.int .i64 a,.int .i64 b] w fun e w'=>e=.returned (.tuple #[.int .i64 (z0_ 15 a b),.int .i64 0])∧Below w.heap.size w w' :=  Vm.d1_
set_option maxRecDepth 100000 in
set_option maxHeartbeats 4000000 in
theorem apply_16 (a b:Int)(w:World)
 (hw:∀w,Calls Try.prog 72 #[.int .u8 16,.int .i64 b] w fun e w'=>e=.returned (.int .i64 0)∧Below w.heap.size w w'):Calls Try.prog 29 #[.int .u8 16,.int .i64 a,.int .i64 b] w fun e w'=>e=.returned (.tuple #[.int .i64 (z0_ 16 a b),.int .i64 0])∧Below w.heap.size w w' :=  Vm.d1_
set_option maxRecDepth 100000 in
set_option maxHeartbeats 4000000 in
theorem apply_17 (a b:Int)(w:World)
 (hw:∀w,Calls Try.prog 72 #[.int .u8 17,.int .i64 b] w fun e w'=>e=.returned (.int .i64 0)∧Below w.heap.size w w'):Calls Try.prog 29 #[.int .u8 17,.int .i64 a,.int .i64 b] w fun e w'=>e=.returned (.tuple #[.int .i64 (z0_ 17 a b),.int .i64 0])∧Below w.heap.size w w' :=  Vm.d1_
def applyV (op a b:Int):Int:=if wrongE op b=0 then z0_ op a b else 0
theorem apply_c (op a b:Int)(w:World):Calls Try.prog 29 #[.int .u8 op,.int .i64 a,.int .i64 b] w fun e w'=>e=.returned (.tuple #[.int .i64 (applyV op a b),.int .i64 (wrongE op b)])∧Below w.heap.size w w':=by
 by_cases h:wrongE op b=0
 ·have hw:∀w,Calls Try.prog 72 #[.int .u8 op,.int .i64 b] w fun e w'=>e=.returned (.int .i64 0)∧Below w.heap.size w w':=by rw[←h];exact wrong_c op b
  have hz:4≤op→op≤6→b≠0:=by
   intro x y z
   rw[wrongE,if_neg (by omega),if_pos ⟨z,x,y⟩]at h
   exact absurd h (by decide)
  have hop:1≤op∧op≤17:=by
   refine⟨?_,?_⟩
   ·by_cases q:op < 1
    ·rw[wrongE,if_pos (.inl q)]at h;exact absurd h (by decide)
    ·omega
   ·by_cases q:17 < op
    ·rw[wrongE,if_pos (.inr q)]at h;exact absurd h (by decide)
    ·omega
  rw[applyV,if_pos h,h]
  have h:op=1∨op=2∨op=3∨op=4∨op=5∨op=6∨op=7∨op=8∨op=9∨op=10∨op=11∨op=12∨op=13∨op=14∨op=15∨op=16∨op=17:=by omega
  rcases h with h|h|h|h|h|h|h|h|h|h|h|h|h|h|h|h|h<;>subst h
  ·exact apply_1 a b w hw
  ·exact apply_2 a b w hw
  ·exact apply_3 a b w hw
  ·exact apply_4 a b w (hz (by decide) (by decide)) hw
  ·exact apply_5 a b w (hz (by decide) (by decide)) hw
  ·exact apply_6 a b w (hz (by decide) (by decide)) hw
  ·exact apply_7 a b w hw
  ·exact apply_8 a b w hw
  ·exact apply_9 a b w hw
  ·exact apply_10 a b w hw
  ·exact apply_11 a b w hw
  ·exact apply_12 a b w hw
  ·exact apply_13 a b w hw
  ·exact apply_14 a b w hw
  ·exact apply_15 a b w hw
  ·exact apply_16 a b w hw
  ·exact apply_17 a b w hw
 ·rw[applyV,if_neg h]
  exact apply_bad op a b w (by rw[bne_iff_ne];exact h)
structure Kn where
 is_:Bool
 n:Int
deriving DecidableEq
structure Ft where
 reached:Bool
 regs:Nat→Kn
def K0:Kn:=⟨false,0⟩
def divB (op:Int):Bool:=op == 36 ||(op == 37 || op == 38)
def resK (i:Ins)(r:Nat→Kn):Kn×Bool:=
 if i.op=3 then(⟨true,i.n⟩,true)
 else if i.op=4 then(r i.b.toNat,true)
 else if i.op≤32 then(K0,true)
 else if divB i.op=true∧r i.c.toNat=⟨true,0⟩ then(K0,false)
 else if (r i.b.toNat).is_=false∨(r i.c.toNat).is_=false then(K0,true)
 else(⟨wrongE (i.op - 32) (r i.c.toNat).n == 0,applyV (i.op - 32) (r i.b.toNat).n (r i.c.toNat).n⟩,wrongE (i.op - 32) (r i.c.toNat).n == 0)
theorem kn_beq (x y:Kn):(x.is_ == y.is_ && x.n == y.n)=decide (x=y):=by
 obtain⟨a,b⟩:=x
 obtain⟨c,d⟩:=y
 by_cases h1:a=c<;>by_cases h2:b=d<;>simp[h1,h2]
def meetK (a b:Kn):Kn:=if a=b then a else K0
def meetR (a b:Nat→Kn):Nat→Kn:=fun k=>meetK (a k) (b k)
def setK (r:Nat→Kn)(k:Nat)(y:Kn):Nat→Kn:=fun j=>if j=k then y else r j
def emitL (i:Ins)(k:Int)(g t:Bool)(f:Ft):List (Int×Ft):=(if g then [(k+1,f)] else [])++(if t then [(zv_ i,f)] else [])
def handsL (i:Ins)(k:Int)(f:Ft):List (Int×Ft):=
 if i.op=3∨i.op=4∨i.op=5∨i.op=7 then emitL i k (goesB i) (y0_ i) ⟨f.reached,setK f.regs i.a.toNat (resK i f.regs).1⟩
 else if i.op=6∨i.op=8 then emitL i k (goesB i) (y0_ i) f
 else if i.op=10∨i.op=11 then
  if (f.regs i.a.toNat).is_ then
   (if (i.op == 10 && (f.regs i.a.toNat).n == 0) ||(i.op == 11 && decide ((f.regs i.a.toNat).n < 0))then emitL i k false true f else emitL i k true false f)
  else emitL i k (goesB i) (y0_ i) f
 else if 32 < i.op then
  if (resK i f.regs).2 then emitL i k true (y0_ i) ⟨f.reached,setK f.regs i.a.toNat (resK i f.regs).1⟩ else []
 else emitL i k (goesB i) (y0_ i) f
def ftB (a b:Ft):Bool:=a.reached == b.reached && (a.regs 0 == b.regs 0 && (a.regs 1 == b.regs 1 && (a.regs 2 == b.regs 2 && (a.regs 3 == b.regs 3 && (a.regs 4 == b.regs 4 && (a.regs 5 == b.regs 5 && (a.regs 6 == b.regs 6 && a.regs 7 == b.regs 7)))))))
def F0:Ft:=⟨false,fun _=>K0⟩
def z6_ (F:List Ft)(k:Nat):Ft:=F.getD k F0
def joinF (o f:Ft):Ft:=if o.reached then ⟨o.reached,meetR o.regs f.regs⟩ else f
def updF (F:List Ft)(tt:Nat)(f:Ft):Option (List Ft):=if ftB (joinF (z6_ F tt) f) (z6_ F tt)then none else some (F.set tt (joinF (z6_ F tt) f))
def scanY (F:List Ft):List (Int×Ft)→Option (List Ft)
 | []=>none
 |(tt,f)::r=>match updF F tt.toNat f with|some G=>some G|none=>scanY F r
def scanK (p:List Ins)(F:List Ft):Nat→Option (List Ft)
 | 0=>none
 | j+1=>match scanK p F j with
  | some G=>some G
  | none=>if (z6_ F j).reached then scanY F (handsL (p.getD j ⟨0,0,0,0,0⟩) j (z6_ F j))else none
def stepF (p:List Ins)(F:List Ft):Option (List Ft):=scanK p F p.length
def initF (n:Nat):List Ft:=(List.replicate n F0).set 0 ⟨true,fun k=>if 3≤k∧k < 8 then ⟨true,0⟩ else K0⟩
def iterF (p:List Ins):Nat→List Ft→List Ft
 | 0,F=>F
 | j+1,F=>match stepF p F with|some G=>iterF p j G|none=>F
def z1_ (p:List Ins):List Ft:=iterF p (p.length*9) (initF p.length)
def one01 (k:Kn):Nat:=if k=K0 then 0 else 1
def cntR (r:Nat→Kn):Nat:=one01 (r 0)+one01 (r 1)+one01 (r 2)+one01 (r 3)+one01 (r 4)+one01 (r 5)+one01 (r 6)+one01 (r 7)
def wF (f:Ft):Nat:=if f.reached then cntR f.regs else 9
def sumF (F:List Ft):Nat:=(F.map wF).sum
theorem one01_le (k:Kn):one01 k≤1:=by unfold one01;split<;>omega
theorem cntR_le (r:Nat→Kn):cntR r≤8:=by
 unfold cntR
 have h0:=one01_le (r 0);have h1:=one01_le (r 1);have h2:=one01_le (r 2);have h3:=one01_le (r 3)
 have h4:=one01_le (r 4);have h5:=one01_le (r 5);have h6:=one01_le (r 6);have h7:=one01_le (r 7)
 omega
theorem meet01 (a b:Kn):one01 (meetK a b)≤one01 a∧(meetK a b≠a→one01 (meetK a b) < one01 a):=by
 unfold meetK
 by_cases h:a=b
 ·rw[if_pos h];exact⟨Nat.le_refl _,fun h=>absurd rfl h⟩
 ·rw[if_neg h]
  refine⟨by simp[one01],fun h2=>?_⟩
  have:a≠K0:=fun e=>h2 e.symm
  simp[one01,this]
theorem meet_lt {a b:Nat→Kn}(h:∃k,k < 8∧meetR a b k≠a k):cntR (meetR a b) < cntR a:=by
 have m:=fun k=>meet01 (a k) (b k)
 unfold cntR
 have h0:=(m 0).1;have h1:=(m 1).1;have h2:=(m 2).1;have h3:=(m 3).1
 have h4:=(m 4).1;have h5:=(m 5).1;have h6:=(m 6).1;have h7:=(m 7).1
 obtain⟨k,hk,hne⟩:=h
 have hs:=(m k).2 hne
 unfold meetR
 match k,hk with
 | 0,_=>omega
 | 1,_=>omega
 | 2,_=>omega
 | 3,_=>omega
 | 4,_=>omega
 | 5,_=>omega
 | 6,_=>omega
 | 7,_=>omega
theorem ftB_regs {a b:Ft}(hr:a.reached=b.reached)(h:ftB a b=false):∃k,k < 8∧a.regs k≠b.regs k:=by
 apply Classical.byContradiction
 intro hn
 have e:∀k,k < 8→a.regs k=b.regs k:=fun k hk=>Classical.byContradiction fun hne=>hn ⟨k,hk,hne⟩
 unfold ftB at h
 rw[hr,e 0 (by decide),e 1 (by decide),e 2 (by decide),e 3 (by decide),e 4 (by decide),e 5 (by decide),e 6 (by decide),e 7 (by decide)]at h
 simp at h
theorem joinF_lt {o f:Ft}(hf:f.reached=true)(h:ftB (joinF o f) o=false):wF (joinF o f) < wF o:=by
 unfold joinF at h ⊢
 cases ho:o.reached with
 | true=>
  rw[ho]at h
  simp only[if_true]at h ⊢
  obtain⟨k,hk,hne⟩:=ftB_regs (by rw[ho]) h
  unfold wF
  rw[ho]
  exact meet_lt ⟨k,hk,hne⟩
 | false=>
  simp only[Bool.false_eq_true,if_false]
  unfold wF
  rw[hf,ho]
  have:=cntR_le f.regs
  simp only[if_true,Bool.false_eq_true,if_false]
  omega
theorem sum_set:∀(l:List Nat) (k:Nat) (x:Nat) (y:Nat),l[k]? = some y→x < y→(l.set k x).sum < l.sum
 | [],k,x,y,h,_=>by simp at h
 | a::l,0,x,y,h,hl=>by
  simp at h
  subst h
  simp
  exact hl
 | a::l,k+1,x,y,h,hl=>by
  have:=sum_set l k x y (by simpa using h) hl
  simp
  exact this
theorem updF_lt {F G:List Ft}{tt:Nat}{f:Ft}(ht:tt < F.length)(hf:f.reached=true)(h:updF F tt f=some G):sumF G < sumF F∧G.length=F.length:=by
 unfold updF at h
 cases hb:ftB (joinF (z6_ F tt) f) (z6_ F tt)with
 | true=>rw[hb]at h;cases h
 | false=>
  rw[hb]at h
  simp only[Bool.false_eq_true,if_false,Option.some.injEq]at h
  subst h
  refine⟨?_,by simp⟩
  have hg:F[tt]? = some (z6_ F tt):=by unfold z6_;rw[List.getD_eq_getElem?_getD,List.getElem?_eq_getElem ht];rfl
  unfold sumF
  rw[List.map_set]
  refine sum_set _ _ _ (wF (z6_ F tt)) (by rw[List.getElem?_map,hg];rfl) (joinF_lt hf hb)
theorem ys_ {p:List Ins}(h:(z7_ p).2=0):0 < p.length∧p.length≤256∧goesB (p.getD (p.length - 1) ⟨0,0,0,0,0⟩)=false∧∀k,k < p.length→badAt p.length (p.getD k ⟨0,0,0,0,0⟩)=0:=by
 unfold z7_ at h
 by_cases h0:p.length=0
 ·rw[if_pos h0]at h;cases h
 ·by_cases h1:256 < p.length
  ·rw[if_neg h0,if_pos h1]at h;cases h
  ·rw[if_neg h0,if_neg h1]at h
   refine⟨by omega,by omega,?_⟩
   unfold checkK at h
   cases hf:p.findIdx? (fun i=>badAt p.length i != 0)with
   | some k=>
    rw[hf]at h
    obtain⟨hk,hb,_⟩:=List.findIdx?_eq_some_iff_getElem.1 hf
    exfalso
    have hg:p.getD k ⟨0,0,0,0,0⟩=p[k]:=by simp[List.getD,hk]
    dsimp only at h
    rw[hg]at h
    simp[h]at hb
   | none=>
    rw[hf]at h
    rw[List.findIdx?_eq_none_iff]at hf
    dsimp only at h
    refine⟨?_,fun k hk=>?_⟩
    ·by_cases hg:goesB (p.getD (p.length - 1) ⟨0,0,0,0,0⟩)=true
     ·rw[if_pos hg]at h;cases h
     ·simpa using hg
    ·have := hf (p.getD k ⟨0, 0, 0, 0, 0⟩) (by
      rw[List.getD_eq_getElem?_getD,List.getElem?_eq_getElem hk];exact List.getElem_mem hk)
     simpa using this
structure RightI (n k:Nat) (x:Ins):Prop where
 ok:x.ok
 one:oneE x=0
 a:x.a < 8
 b:x.b < 8
 c:x.c < 8
 targ:y0_ x=true→0≤zv_ x∧zv_ x < n
 goes:goesB x=true→k+1 < n
 cls:x.op=1∨x.op=2∨x.op=3∨x.op=4∨x.op=5∨x.op=6∨x.op=7∨x.op=8∨x.op=9∨x.op=10∨x.op=11∨(33≤x.op∧x.op≤49)
theorem one_regs {x:Ins}(h:oneE x=0):x.a < 8∧x.b < 8∧x.c < 8∧(y0_ x=true→0≤x.n)∧(x.op=1∨x.op=2∨x.op=3∨x.op=4∨x.op=5∨x.op=6∨x.op=7∨x.op=8∨x.op=9∨x.op=10∨x.op=11∨(33≤x.op∧x.op≤49)):=by
 have h0:=h
 unfold oneE at h
 have hf:yo_ x.op≠0:=fun e=>by rw[if_pos e]at h;cases h
 rw[if_neg hf]at h
 have hc:y3_ (yo_ x.op) x.a x.b x.c x.n:=by
  by_cases q:y3_ (yo_ x.op) x.a x.b x.c x.n
  ·exact q
  ·rw[yd_ q]at h;cases h
 have ht:y0_ x=true→x.op=9∨x.op=10∨x.op=11:=fun ht=>by
  unfold y0_ at ht
  simp at ht
  exact ht.2
 revert hc hf
 unfold yo_
 split
 ·rename_i q;intro hf hc;obtain⟨q1,q2,q3,q4⟩:=hc;exact⟨q1,q2,q3,fun t=>by omega,by omega⟩
 split
 ·exact Vm.k9_
 split
 ·rename_i q;intro hf hc;obtain⟨q1,q2,q3⟩:=hc;exact⟨by omega,by omega,by omega,fun t=>by have:=ht t;omega,by omega⟩
 split
 ·exact Vm.k9_
 split
 ·exact Vm.k10_
 split
 ·exact Vm.k10_
 split
 ·exact Vm.k10_
 ·intro hf;exact absurd rfl hf
theorem right_at {p:List Ins}(hok:∀x∈p,x.ok)(h:(z7_ p).2=0){k:Nat}(hk:k < p.length):RightI p.length k (p.getD k ⟨0,0,0,0,0⟩):=by
 obtain⟨h0,h1,h2,h3⟩:=ys_ h
 have hb:=h3 k hk
 unfold badAt at hb
 have h4:oneE (p.getD k ⟨0,0,0,0,0⟩)=0:=by
  by_cases q:oneE (p.getD k ⟨0,0,0,0,0⟩)=0
  ·exact q
  ·rw[if_pos q]at hb;exact absurd hb q
 rw[if_neg (by omega)]at hb
 obtain⟨ra,rb,rc,rt,rcl⟩:=one_regs h4
 refine⟨hok _ (by rw[List.getD_eq_getElem?_getD,List.getElem?_eq_getElem hk];exact List.getElem_mem hk),h4,ra,rb,rc,fun ht=>?_,fun hg=>?_,rcl⟩
 ·refine⟨by unfold zv_;rw[if_pos ht];exact rt ht,?_⟩
  by_cases q:(p.length:Int)≤zv_ (p.getD k ⟨0,0,0,0,0⟩)
  ·rw[if_pos ⟨ht,q⟩]at hb;cases hb
  ·omega
 ·by_cases q:k+1 < p.length
  ·exact q
  ·have:k=p.length - 1:=by omega
   subst this
   rw[h2]at hg;cases hg
theorem goesB_of {x:Ins}(h:oneE x=0):goesB x=(x.op != 1 && (x.op != 2 && x.op != 9)):=by unfold goesB;rw[h];rfl
theorem targB_of {x:Ins}(h:oneE x=0):y0_ x=(x.op == 9 ||(x.op == 10 || x.op == 11)):=by unfold y0_;rw[h];rfl
structure Emits (n k:Nat) (x:Ins) (f:Ft) (z:Bool×Bool×Ft):Prop where
 hands:handsL x k f=emitL x k z.1 z.2.1 z.2.2
 goes:z.1=true→k+1 < n
 targ:z.2.1=true→0≤zv_ x∧zv_ x < n
 reached:z.2.2.reached=f.reached
end Go.Proofs.Ytmljmabbopkpiaa
end
section
namespace Go.Proofs.Ytmljmabbopkpiaa.Vm
open Go.RowKit
structure DZ where
 D:List Int
 W:List Int
def visZ (i:Int)(z:DZ)(k:Int):DZ:=if z.D.getD k.toNat 0 < 0 then ⟨z.D.set k.toNat (z.D.getD i.toNat 0+1),z.W++[k]⟩ else z
def disS (p:List Ins)(z:DZ):DZ:=match z.W with
 | []=>z
 | i::w=>(ya_ (p.getD i.toNat ⟨0,0,0,0,0⟩) i).foldl (visZ i) ⟨z.D,w⟩
def disI (p:List Ins):Nat→DZ→DZ
 | 0,z=>z
 | m+1,z=>match z.W with
  | []=>z
  | _::_=>disI p m (disS p z)
def dis0 (n:Nat):DZ:=⟨(List.replicate n (-1)).set 0 0,[0]⟩
def distS (p:List Ins):List Int:=(disI p (p.length+1) (dis0 p.length)).D
def cntD (D:List Int):Nat:=D.countP fun x=>decide (0≤x)
theorem cnt_le (D:List Int):cntD D≤D.length:=List.countP_le_length
theorem cnt_set:∀(D:List Int) (k:Nat) (y:Int),k < D.length→D.getD k 0 < 0→0≤y→cntD (D.set k y)=cntD D+1
 | [],k,y,h,_,_=>by simp at h
 | x::D,0,y,_,h1,h2=>by
  have h1':¬0≤x:=by simpa using h1
  simp[cntD,h1',h2]
 | x::D,k+1,y,h,h1,h2=>by
  have:=cnt_set D k y (by simpa using h) (by simpa using h1) h2
  unfold cntD at this ⊢
  simp only[List.set_cons_succ,List.countP_cons]
  omega
theorem yu_ {D:List Int}{k j:Nat}{y:Int}(h:k < D.length):(D.set k y).getD j 0=if j=k then y else D.getD j 0:=by
 rw[List.getD_eq_getElem?_getD,List.getElem?_set]
 by_cases q:k=j
 ·subst q;simp[h]
 ·rw[if_neg q,if_neg (fun e=>q e.symm),List.getD_eq_getElem?_getD]
structure DI (p:List Ins) (z:DZ):Prop where
 len:z.D.length=p.length
 mem:∀w∈z.W,0≤w∧w < p.length∧0≤z.D.getD w.toNat 0
 zero:0≤z.D.getD 0 0
 up:∀k,z.D.getD k 0 < cntD z.D
 lo:∀k,-1≤z.D.getD k 0
 cl:∀k,k < p.length→0≤z.D.getD k 0→(k:Int)∈z.W∨∀t∈ya_ (p.getD k ⟨0,0,0,0,0⟩) k,0≤z.D.getD t.toNat 0
structure DJ (p:List Ins) (i:Int) (l:List Int) (z:DZ):Prop where
 len:z.D.length=p.length
 mem:∀w∈z.W,0≤w∧w < p.length∧0≤z.D.getD w.toNat 0
 zero:0≤z.D.getD 0 0
 up:∀k,z.D.getD k 0 < cntD z.D
 lo:∀k,-1≤z.D.getD k 0
 i0:0≤i∧i < p.length∧0≤z.D.getD i.toNat 0
 dn:∀t∈l,0≤z.D.getD t.toNat 0
 cl:∀k,k < p.length→(k:Int)≠i→0≤z.D.getD k 0→(k:Int)∈z.W∨∀t∈ya_ (p.getD k ⟨0,0,0,0,0⟩) k,0≤z.D.getD t.toNat 0
theorem DJ.vis {p:List Ins}{i k:Int}{l:List Int}{z:DZ}(J:DJ p i l z)(h0:0≤k)(h1:k < p.length):DJ p i (l++[k]) (visZ i z k)∧(visZ i z k).W.length+(p.length - cntD (visZ i z k).D)=z.W.length+(p.length - cntD z.D):=by
 unfold visZ
 split
 ·rename_i hk
  have hkl:k.toNat < z.D.length:=by rw[J.len];omega
  have hi:=J.i0.2.2
  have hc:=cnt_set z.D k.toNat (z.D.getD i.toNat 0+1) hkl hk (by omega)
  have hle:=cnt_le (z.D.set k.toNat (z.D.getD i.toNat 0+1))
  rw[List.length_set,J.len]at hle
  have mono:∀j,0≤z.D.getD j 0→0≤(z.D.set k.toNat (z.D.getD i.toNat 0+1)).getD j 0:=fun j hj=>by
   rw[yu_ hkl]
   split
   ·omega
   ·exact hj
  have hkk:0≤(z.D.set k.toNat (z.D.getD i.toNat 0+1)).getD k.toNat 0:=by rw[yu_ hkl,if_pos rfl];omega
  refine⟨⟨by rw[List.length_set];exact J.len,fun w hw=>?_,mono 0 J.zero,fun j=>?_,fun j=>?_,⟨J.i0.1,J.i0.2.1,mono _ hi⟩,fun t ht=>?_,fun j hj hji hjd=>?_⟩,?_⟩
  ·rcases List.mem_append.1 hw with h|h
   ·obtain⟨a,b,c⟩:=J.mem w h
    exact⟨a,b,mono _ c⟩
   ·rw[List.mem_singleton]at h
    subst h
    exact⟨h0,h1,hkk⟩
  ·show (z.D.set k.toNat (z.D.getD i.toNat 0+1)).getD j 0 < cntD (z.D.set k.toNat (z.D.getD i.toNat 0+1))
   rw[hc,yu_ hkl]
   have:=J.up i.toNat
   have:=J.up j
   split<;>omega
  ·show -1≤(z.D.set k.toNat (z.D.getD i.toNat 0+1)).getD j 0
   rw[yu_ hkl]
   split
   ·omega
   ·exact J.lo j
  ·rcases List.mem_append.1 ht with h|h
   ·exact mono _ (J.dn t h)
   ·rw[List.mem_singleton]at h
    subst h
    exact hkk
  ·by_cases q:j=k.toNat
   ·refine .inl (List.mem_append_right _ ?_)
    rw[List.mem_singleton];omega
   ·have hjd':0≤z.D.getD j 0:=by
     have:0≤(z.D.set k.toNat (z.D.getD i.toNat 0+1)).getD j 0:=hjd
     rw[yu_ hkl,if_neg q]at this
     exact this
    rcases J.cl j hj hji hjd' with h|h
    ·exact .inl (List.mem_append_left _ h)
    ·exact .inr fun t ht=>mono _ (h t ht)
  ·show (z.W++[k]).length+(p.length - cntD (z.D.set k.toNat (z.D.getD i.toNat 0+1)))=_
   rw[hc,List.length_append,List.length_singleton]
   rw[hc]at hle
   omega
 ·rename_i hk
  refine⟨⟨J.len,J.mem,J.zero,J.up,J.lo,J.i0,fun t ht=>?_,J.cl⟩,rfl⟩
  rcases List.mem_append.1 ht with h|h
  ·exact J.dn t h
  ·rw[List.mem_singleton]at h
   subst h
   omega
theorem DJ.folds {p:List Ins}{i:Int}:∀(e l:List Int) (z:DZ),DJ p i l z→(∀t∈e,0≤t∧t < p.length)→DJ p i (l++e) (e.foldl (visZ i) z)∧(e.foldl (visZ i) z).W.length+(p.length - cntD (e.foldl (visZ i) z).D)=z.W.length+(p.length - cntD z.D)
 | [],l,z,J,_=>by rw[List.append_nil];exact⟨J,rfl⟩
 | k::e,l,z,J,h=>by
  obtain⟨h0,h1⟩:=h k (List.mem_cons_self ..)
  obtain⟨J1,m1⟩:=J.vis h0 h1
  obtain⟨J2,m2⟩:=DJ.folds e (l++[k]) (visZ i z k) J1 fun t ht=>h t (List.mem_cons_of_mem _ ht)
  rw[List.append_assoc]at J2
  exact⟨J2,m2.trans m1⟩
theorem edges_in {n k:Nat}{x:Ins}(hR:RightI n k x):∀t∈ya_ x k,0≤t∧t < n:=by
 intro t ht
 unfold ya_ at ht
 simp only[List.mem_append]at ht
 rcases ht with (h|h)|h
 ·split at h
  ·rename_i q
   rw[List.mem_singleton]at h
   subst h
   exact hR.targ q.1
  ·cases h
 ·split at h
  ·rename_i q
   rw[List.mem_singleton]at h
   subst h
   have:=hR.goes q
   omega
  ·cases h
 ·split at h
  ·rename_i q
   rw[List.mem_singleton]at h
   subst h
   exact hR.targ q.1
  ·cases h
theorem DI.pop {p:List Ins}{i:Int}{w:List Int}{D:List Int}(I:DI p ⟨D,i::w⟩):DJ p i [] ⟨D,w⟩:=by
 refine⟨I.len,fun v hv=>I.mem v (List.mem_cons_of_mem _ hv),I.zero,I.up,I.lo,I.mem i (List.mem_cons_self ..),fun t ht=>(by cases ht),fun k hk hki hd=>?_⟩
 rcases I.cl k hk hd with h|h
 ·rcases List.mem_cons.1 h with h|h
  ·exact absurd h hki
  ·exact .inl h
 ·exact .inr h
theorem DI.step {p:List Ins}(hx:∀x∈p,x.ok)(hc:(z7_ p).2=0){i:Int}{w D:List Int}(I:DI p ⟨D,i::w⟩):DI p (disS p ⟨D,i::w⟩)∧(disS p ⟨D,i::w⟩).W.length+(p.length - cntD (disS p ⟨D,i::w⟩).D) < (i::w).length+(p.length - cntD D):=by
 obtain⟨h0,h1,h2⟩:=I.mem i (List.mem_cons_self ..)
 have hR:=right_at hx hc (k:=i.toNat) (by omega)
 have he:=edges_in hR
 have e0:((i.toNat:Nat):Int)=i:=by omega
 rw[e0]at he
 obtain⟨J,m⟩:=DJ.folds (ya_ (p.getD i.toNat ⟨0,0,0,0,0⟩) i) [] ⟨D,w⟩ I.pop he
 refine⟨⟨J.len,J.mem,J.zero,J.up,J.lo,fun k hk hd=>?_⟩,?_⟩
 ·by_cases q:(k:Int)=i
  ·refine .inr fun t ht=>J.dn t ?_
   have:k=i.toNat:=by omega
   subst this
   rw[e0]at ht
   exact ht
  ·exact J.cl k hk q hd
 ·show (List.foldl (visZ i) ⟨D,w⟩ _).W.length+(p.length - cntD (List.foldl (visZ i) ⟨D,w⟩ _).D) < w.length+1+_
  rw[m]
  show w.length+(p.length - cntD D) < _
  omega
theorem cnt_rep:∀n,cntD (List.replicate n (-1))=0
 | 0=>rfl
 | n+1=>by
  have:=cnt_rep n
  unfold cntD at this ⊢
  rw[List.replicate_succ,List.countP_cons,this]
  rfl
theorem rep_lt (n k:Nat):(List.replicate n (-1:Int)).getD k 0≤0∧-1≤(List.replicate n (-1:Int)).getD k 0∧(k < n→(List.replicate n (-1:Int)).getD k 0 = -1):=by
 rw[List.getD_eq_getElem?_getD,List.getElem?_replicate]
 split
 ·exact⟨by decide,by decide,fun _=>rfl⟩
 ·exact⟨by decide,by decide,fun h=>by omega⟩
theorem dis0_I {p:List Ins}(h:0 < p.length):DI p (dis0 p.length):=by
 have hl:0 < (List.replicate p.length (-1:Int)).length:=by simpa using h
 have hr:=rep_lt p.length
 have hc:cntD ((List.replicate p.length (-1)).set 0 0)=1:=by rw[cnt_set _ 0 0 hl (by rw[(hr 0).2.2 h];decide) (by decide),cnt_rep]
 refine⟨by simp[dis0],fun w hw=>?_,?_,fun k=>?_,fun k=>?_,fun k hk hd=>?_⟩
 ·have:w=0:=by simpa [dis0]using hw
  subst this
  refine⟨by decide,by omega,?_⟩
  show 0≤((List.replicate p.length (-1)).set 0 0).getD 0 0
  rw[yu_ hl,if_pos rfl];decide
 ·show 0≤((List.replicate p.length (-1)).set 0 0).getD 0 0
  rw[yu_ hl,if_pos rfl];decide
 ·show ((List.replicate p.length (-1:Int)).set 0 0).getD k 0 < (cntD ((List.replicate p.length (-1)).set 0 0):Int)
  rw[hc,yu_ hl]
  have:=(hr k).1
  split<;>omega
 ·show -1≤((List.replicate p.length (-1)).set 0 0).getD k 0
  rw[yu_ hl]
  have:=(hr k).2.1
  split<;>omega
 ·have:0≤((List.replicate p.length (-1)).set 0 0).getD k 0:=hd
  rw[yu_ hl]at this
  split at this
  ·rename_i q;subst q;exact .inl (by simp[dis0])
  ·rw[(hr k).2.2 hk]at this;exact absurd this (by decide)
theorem disI_I {p:List Ins}(hx:∀x∈p,x.ok)(hc:(z7_ p).2=0):∀(m:Nat) (z:DZ),DI p z→z.W.length+(p.length - cntD z.D)≤m→DI p (disI p m z)∧(disI p m z).W=[]
 | 0,z,I,h=>by
  refine⟨I,?_⟩
  exact List.length_eq_zero_iff.1 (show z.W.length=0 by omega)
 | m+1,⟨D,[]⟩,I,h=>⟨I,rfl⟩
 | m+1,⟨D,i::w⟩,I,h=>by
  obtain⟨I2,hm⟩:=I.step hx hc
  exact disI_I hx hc m _ I2 (by
   have:(i::w).length+(p.length - cntD D)≤m+1:=h
   omega)
theorem dist_I {p:List Ins}(hx:∀x∈p,x.ok)(hc:(z7_ p).2=0):DI p ⟨distS p,[]⟩:=by
 have h0:=(ys_ hc).1
 have I0:=dis0_I h0
 have hcn:1≤cntD (dis0 p.length).D:=by have:=I0.up 0;have:=I0.zero;omega
 obtain ⟨I, e⟩ := disI_I hx hc (p.length + 1) (dis0 p.length) I0 (by
  show 1+(p.length - cntD (dis0 p.length).D)≤_
  omega)
 have:(⟨distS p,[]⟩:DZ)=disI p (p.length+1) (dis0 p.length):=by
  rw[←e];rfl
 rw[this]
 exact I
theorem mem_go {x:Ins}{i:Int}(h:goesB x=true):i+1∈ya_ x i:=by
 unfold ya_
 simp only[List.mem_append]
 exact .inl (.inr (by rw[if_pos h];exact List.mem_singleton.2 rfl))
theorem mem_to {x:Ins}{i:Int}(h:y0_ x=true):zv_ x∈ya_ x i:=by
 by_cases q:zv_ x≤i
 ·unfold ya_
  simp only[List.mem_append]
  exact .inl (.inl (by rw[if_pos ⟨h,q⟩];exact List.mem_singleton.2 rfl))
 ·by_cases g:goesB x=true
  ·by_cases e:zv_ x=i+1
   ·rw[e];exact mem_go g
   ·unfold ya_
    simp only[List.mem_append]
    exact .inr (by rw[if_pos ⟨h,by omega,.inl (by omega)⟩];exact List.mem_singleton.2 rfl)
  ·unfold ya_
   simp only[List.mem_append]
   exact .inr (by rw[if_pos ⟨h,by omega,.inr (by simpa using g)⟩];exact List.mem_singleton.2 rfl)
theorem reach_closed {p:List Ins}(hx:∀x∈p,x.ok)(hc:(z7_ p).2=0):0≤(distS p).getD 0 0∧∀k,k < p.length→0≤(distS p).getD k 0 →
  (goesB (p.getD k ⟨0,0,0,0,0⟩)=true→0≤(distS p).getD (k+1) 0)∧(y0_ (p.getD k ⟨0,0,0,0,0⟩)=true→0≤(distS p).getD (zv_ (p.getD k ⟨0,0,0,0,0⟩)).toNat 0):=by
 have I:=dist_I hx hc
 refine⟨I.zero,fun k hk hd=>?_⟩
 rcases I.cl k hk hd with h|h
 ·cases h
 ·refine⟨fun hg=>?_,fun ht=>h _ (mem_to ht)⟩
  have:=h (k+1) (mem_go hg)
  rwa [show ((k:Int)+1).toNat=k+1 by omega]at this
end Go.Proofs.Ytmljmabbopkpiaa.Vm
end
section
namespace Go.Proofs.Ytmljmabbopkpiaa.Vm
open Go.RowKit
attribute [local push_cast] eqB eqBL allB
theorem edges_lit (n p:Nat)(x:Int):LitOk Try.prog 95 [.sl 1 2 [] 5 0 n (some p),.int .i64 x] [.gone,.gone,.gone] (.fn 123 [.ptr 3 [],.ptr 4 []]) [.gone,.gone,.gone,.own 25 (.sl 1 2 [] 5 0 n (some p)) true,.own 3 (.int .i64 x) true]:=by
 refine litOkM (fn:=Try.f95) 3 6 0 rfl rfl rfl rfl rfl u2_ rfl fun w0 M E hro=>?_
 repeat' (first|refine Ctl.h ?_ |((with_reducible intro hif);first |(focus (cases hif;done)) |((try simp only[JH]at hif);try exact hy_)) |((with_reducible first|apply J22 cEd_ok za_|apply J23 fol cEd_ok za_|apply J24);(·rfl);(· exact k12_);(try kernel_rfl);try exact k11_)|fail)
 apply At.endsRet za_ (fn:=Try.f95) (rs:=[.tmp 4]) Anc.refl hro (lb_ rfl) rfl
 ·exact k3_
 ·exact k4_
 ·exact k5_
 ·rfl
 ·exact k6_
 ·exact k7_
 ·exact fun β=>rfl
 ·exact k6_
def yw_:Spec:=fun args h m=>match args with
 | [.sl z i [] 5 0 n (some p),.int .i64 x]=>bif (h z).born && (h i).born then some (True,.fn 123 [.ptr m [],.ptr (m+1) []],[z,i],[(m,.own 25 (.sl z i [] 5 0 n (some p)) true),(m+1,.own 3 (.int .i64 x) true)])else none
 | _=>none
theorem sEdges_ok:zs_ Try.prog 95 yw_:=by
 refine⟨zp_ (by kernel_rfl),fun args h m c v rd wr hs hm hc w0 M β h' w R hrd hwr hst=>?_⟩
 unfold yw_ at hs
 split at hs
 ·rename_i z i n p x
  obtain⟨hb,hs2⟩:=zq_ hs
  clear hs
  simp only[Bool.and_eq_true]at hb
  obtain⟨hz,hi⟩:=hb
  simp only[Option.some.injEq,Prod.mk.injEq]at hs2
  obtain⟨rfl,rfl,rfl,rfl⟩:=hs2
  have ei:h' i=h i:=hrd i (by simp)
  have ez:h' z=h z:=hrd z (by simp)
  have C:=callG (L1:=[.gone,.gone,.gone,.own 25 (.sl 1 2 [] 5 0 n (some p)) true,.own 3 (.int .i64 x) true]) (h:=h) (m:=m) [0,z,i] (edges_lit n p x) R rfl (by simp) rfl rfl rfl
   ⟨.gone (by rw[R.nil0];rfl),.gone (by rw[ez];exact hz),.gone (by rw[ei];exact hi),trivial⟩ hm (by simpa [newB,rhoL]using hwr) (by simp)
   (by simp[yt_,HB.stable]) (by simp[zd_,zb_,hp,HB.born]) (by simp[NewL,HB.stable,zb_,HB.isRo,hG,hp,HB.born]) (by simp[zb_,zd_,hG,hp,HB.born])
  have e0:renL (rhoL [0,z,i] m) [SV.sl 1 2 [] 5 0 n (some p),.int .i64 x]=[.sl z i [] 5 0 n (some p),.int .i64 x]:=by simp[renL,SV.ren,rhoL]
  rw[e0]at C
  refine C.mono fun e w' he=>?_
  simpa [newB,rhoL,HB.ren,SV.ren,renL]using he
 ·cases hs
end Go.Proofs.Ytmljmabbopkpiaa.Vm
end
