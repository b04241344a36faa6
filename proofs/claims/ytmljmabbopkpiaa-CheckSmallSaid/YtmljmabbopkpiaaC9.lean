import Derived.Test.YtmljmabbopkpiaaC1
import Derived.Test.YtmljmabbopkpiaaC8
import Derived.Test.YtmljmabbopkpiaaProg
section
namespace Go.Proofs.Ytmljmabbopkpiaa.Vm
theorem d1_ {P : Prop} (h:P:=by
 have HW:=Lib.hid hw
 clear hw
 go_enter Try.func29,Try.ntmps29
 go_wp2_with fail
 refine(HW.out _).mono ?_
 rintro e w' ⟨rfl,hb⟩
 go_wp2_with (first
  |(go_at_call 74;refine(truth_c _ _).mono ?_;rintro e w' ⟨rfl,rfl⟩)
  |(go_at_call 73;refine(mod_c _ _ _ (by assumption)).mono ?_;rintro e w' ⟨rfl,rfl⟩))
 all_goals (go_ret2;refine⟨?_,hb⟩)
 all_goals first|rfl |(show Ending.returned (.tuple #[.int .i64 _,_])=.returned (.tuple #[.int .i64 _,_]);congr 4;simp[z3_];done) |(show Ending.returned (.tuple #[.int .i64 _,_])=.returned (.tuple #[.int .i64 _,_]);congr 4;simp[z3_];omega)):P:=h
theorem d2_ {P : Prop} (h:P:=by
 have HW:=Lib.hid hw
 clear hw
 have hs:=shB_bd b
 have hs0:0≤bits BinOp.and IntKind.u64 (IntKind.u64.wrap b) 63:=hs.1
 have hs1:bits BinOp.and IntKind.u64 (IntKind.u64.wrap b) 63≤64:=Int.le_trans hs.2 (by decide)
 clear hs
 go_enter Try.func29,Try.ntmps29
 go_wp2_with fail
 refine(HW.out _).mono ?_
 rintro e w' ⟨rfl,hb⟩
 go_wp2_with (first
  |(go_at_call 74;refine(truth_c _ _).mono ?_;rintro e w' ⟨rfl,rfl⟩)
  |(go_at_call 73;refine(mod_c _ _ _ (by assumption)).mono ?_;rintro e w' ⟨rfl,rfl⟩))
 all_goals (go_ret2;refine⟨?_,hb⟩)
 all_goals first|rfl |(show Ending.returned (.tuple #[.int .i64 _,_])=.returned (.tuple #[.int .i64 _,_]);congr 4;simp[z3_];done) |(show Ending.returned (.tuple #[.int .i64 _,_])=.returned (.tuple #[.int .i64 _,_]);congr 4;simp[z3_];omega)):P:=h
end Go.Proofs.Ytmljmabbopkpiaa.Vm
end
set_option linter.unusedSimpArgs false
set_option linter.unusedVariables false
section
namespace Go.Proofs.Ytmljmabbopkpiaa.Vm
open Go.RowKit
theorem insS_agg (i:Ins):(insS i).isAgg=true:=rfl
theorem insS_plain (i:Ins):(insS i).plain=true:=rfl
theorem nav_ins (i:Ins):nav (insS i) []=some (True,insS i):=rfl
theorem xs_ (i:Ins)(pa:List Stp):nav (insS i) (.f 0 0::pa)=nav (.int .u8 i.op) pa:=rfl
theorem xr_ (i:Ins)(pa:List Stp):nav (insS i) (.f 1 1::pa)=nav (.int .u8 i.a) pa:=rfl
theorem xq_ (i:Ins)(pa:List Stp):nav (insS i) (.f 2 2::pa)=nav (.int .u8 i.b) pa:=rfl
theorem xp_ (i:Ins)(pa:List Stp):nav (insS i) (.f 3 3::pa)=nav (.int .u8 i.c) pa:=rfl
theorem xo_ (i:Ins)(pa:List Stp):nav (insS i) (.f 4 4::pa)=nav (.int .i64 i.n) pa:=rfl
theorem sndS_size (i:Snd):(sndS i).size=3:=rfl
theorem sndS_agg (i:Snd):(sndS i).isAgg=true:=rfl
theorem sndS_plain (i:Snd):(sndS i).plain=true:=rfl
theorem nav_snd (i:Snd):nav (sndS i) []=some (True,sndS i):=rfl
theorem xn_ (i:Snd)(pa:List Stp):nav (sndS i) (.f 0 0::pa)=nav (.int .i64 i.port) pa:=rfl
theorem xm_ (i:Snd)(pa:List Stp):nav (sndS i) (.f 1 1::pa)=nav (.int .i64 i.delay) pa:=rfl
theorem xl_ (i:Snd)(pa:List Stp):nav (sndS i) (.f 2 2::pa)=nav (.int .i64 i.value) pa:=rfl
set_option linter.defProp false
def JK:=And.intro @insS_size (And.intro @insS_agg (And.intro @insS_plain (And.intro @sndS_size (And.intro @sndS_agg @sndS_plain))))
end Go.Proofs.Ytmljmabbopkpiaa.Vm
end
section
namespace Go.Proofs.Ytmljmabbopkpiaa
open Go.RowKit
def z9_ (op b:Int):Int:=if op < 1∨17 < op then 130 else if b=0∧4≤op∧op≤6 then 131 else 0
def allL : List Value := [.string ⟨#[]⟩,.bool false,.string ⟨#[97,100,100]⟩,.bool false,.string ⟨#[115,117,98]⟩,.bool false,.string ⟨#[109,117,108]⟩,.bool false,
 .string ⟨#[100,105,118]⟩,.bool true,.string ⟨#[114,101,109]⟩,.bool true,.string ⟨#[109,111,100]⟩,.bool true,.string ⟨#[97,110,100]⟩,.bool false,.string ⟨#[111,114]⟩,.bool false,
 .string ⟨#[120,111,114]⟩,.bool false,.string ⟨#[115,104,108]⟩,.bool false,.string ⟨#[115,104,114]⟩,.bool false,.string ⟨#[115,97,114]⟩,.bool false,.string ⟨#[108,101,115,115]⟩,.bool false,
 .string ⟨#[98,101,108,111,119]⟩,.bool false,.string ⟨#[101,113,117,97,108]⟩,.bool false,.string ⟨#[109,105,110]⟩,.bool false,.string ⟨#[109,97,120]⟩,.bool false]
theorem truth_t (w:World):Calls Try.prog 74 #[.bool true] w fun e w'=>e=.returned (.int .i64 1)∧w=w':=by
 go_enter Try.func74,Try.ntmps74
 go_wp2
 go_ret
 exact⟨rfl,rfl⟩
theorem truth_f (w:World):Calls Try.prog 74 #[.bool false] w fun e w'=>e=.returned (.int .i64 0)∧w=w':=by
 go_enter Try.func74,Try.ntmps74
 go_wp2
 go_ret
 exact⟨rfl,rfl⟩
def truthI (b:Bool):Int:=if b then 1 else 0
theorem truth_c (b:Bool)(w:World):Calls Try.prog 74 #[.bool b] w fun e w'=>e=.returned (.int .i64 (truthI b))∧w=w':=by
 cases b
 ·exact truth_f w
 ·exact truth_t w
def modI (a b:Int):Int:=if 0≤a.tmod b then a.tmod b else if b < 0 then wrap64 (a.tmod b - b)else wrap64 (a.tmod b+b)
theorem mod_c (a b:Int)(w:World)(hb:b≠0):Calls Try.prog 73 #[.int .i64 a,.int .i64 b] w fun e w'=>e=.returned (.int .i64 (modI a b))∧w=w':=by
 go_enter Try.func73,Try.ntmps73
 go_wp2
 all_goals go_ret
 all_goals refine⟨ret_i64 ?_,rfl⟩
 ·rw[modI,if_pos (by assumption)]
 ·rw[modI,if_neg (by omega),if_pos (by assumption)]
 ·rw[modI,if_neg (by omega),if_neg (by omega)]
set_option maxRecDepth 100000 in
set_option maxHeartbeats 4000000 in
theorem all_c (w:World):Calls Try.prog 108 #[] w fun e w'=>e=.returned (.agg allL.toArray)∧Below w.heap.size w w':=by
 go_enter Try.func108,Try.ntmps108
 go_wp2_with (refine wpList_store_row rfl 205 (.tmp 0) (.tmp 19) rfl w.heap.size allL.toArray rfl rfl 205 _ (heap_alloc_new w _) (by kernel_rfl) rfl (by kernel_rfl) ?_)
 exact bodyPost_ret (v:=.agg allL.toArray) (results_cell_row (P:=Try.prog) (p:=0) (ty:=205) rfl _ _ w.heap.size 205 allL.toArray (0,0) _ rfl (setRow_heap _ _ _ _ _ _ (heap_alloc_new w _)) Try.underlying205 rfl (by kernel_rfl)) rfl
  ⟨rfl,below_setRow ((Below.refl _ _).alloc (Nat.le_refl _) _) (Nat.le_refl _) _⟩
def nmB:Value→ByteArray
 | .string s=>s
 | _=>⟨#[]⟩
def nm (op:Int):ByteArray:=nmB (allL.getD (2*op).toNat undef)
theorem allIx1 (w:World):(Instr.index 205 (.agg allL.toArray) (.int .u8 1)).run Try.prog w=.ok (.agg #[.string (nm 1),.bool (decide ((4:Int)≤1∧(1:Int)≤6))]) w:=by kernel_rfl
theorem allIx2 (w:World):(Instr.index 205 (.agg allL.toArray) (.int .u8 2)).run Try.prog w=.ok (.agg #[.string (nm 2),.bool (decide ((4:Int)≤2∧(2:Int)≤6))]) w:=by kernel_rfl
theorem allIx3 (w:World):(Instr.index 205 (.agg allL.toArray) (.int .u8 3)).run Try.prog w=.ok (.agg #[.string (nm 3),.bool (decide ((4:Int)≤3∧(3:Int)≤6))]) w:=by kernel_rfl
theorem allIx4 (w:World):(Instr.index 205 (.agg allL.toArray) (.int .u8 4)).run Try.prog w=.ok (.agg #[.string (nm 4),.bool (decide ((4:Int)≤4∧(4:Int)≤6))]) w:=by kernel_rfl
theorem allIx5 (w:World):(Instr.index 205 (.agg allL.toArray) (.int .u8 5)).run Try.prog w=.ok (.agg #[.string (nm 5),.bool (decide ((4:Int)≤5∧(5:Int)≤6))]) w:=by kernel_rfl
theorem allIx6 (w:World):(Instr.index 205 (.agg allL.toArray) (.int .u8 6)).run Try.prog w=.ok (.agg #[.string (nm 6),.bool (decide ((4:Int)≤6∧(6:Int)≤6))]) w:=by kernel_rfl
theorem allIx7 (w:World):(Instr.index 205 (.agg allL.toArray) (.int .u8 7)).run Try.prog w=.ok (.agg #[.string (nm 7),.bool (decide ((4:Int)≤7∧(7:Int)≤6))]) w:=by kernel_rfl
theorem allIx8 (w:World):(Instr.index 205 (.agg allL.toArray) (.int .u8 8)).run Try.prog w=.ok (.agg #[.string (nm 8),.bool (decide ((4:Int)≤8∧(8:Int)≤6))]) w:=by kernel_rfl
theorem allIx9 (w:World):(Instr.index 205 (.agg allL.toArray) (.int .u8 9)).run Try.prog w=.ok (.agg #[.string (nm 9),.bool (decide ((4:Int)≤9∧(9:Int)≤6))]) w:=by kernel_rfl
theorem allIx10 (w:World):(Instr.index 205 (.agg allL.toArray) (.int .u8 10)).run Try.prog w=.ok (.agg #[.string (nm 10),.bool (decide ((4:Int)≤10∧(10:Int)≤6))]) w:=by kernel_rfl
theorem allIx11 (w:World):(Instr.index 205 (.agg allL.toArray) (.int .u8 11)).run Try.prog w=.ok (.agg #[.string (nm 11),.bool (decide ((4:Int)≤11∧(11:Int)≤6))]) w:=by kernel_rfl
theorem allIx12 (w:World):(Instr.index 205 (.agg allL.toArray) (.int .u8 12)).run Try.prog w=.ok (.agg #[.string (nm 12),.bool (decide ((4:Int)≤12∧(12:Int)≤6))]) w:=by kernel_rfl
theorem allIx13 (w:World):(Instr.index 205 (.agg allL.toArray) (.int .u8 13)).run Try.prog w=.ok (.agg #[.string (nm 13),.bool (decide ((4:Int)≤13∧(13:Int)≤6))]) w:=by kernel_rfl
theorem allIx14 (w:World):(Instr.index 205 (.agg allL.toArray) (.int .u8 14)).run Try.prog w=.ok (.agg #[.string (nm 14),.bool (decide ((4:Int)≤14∧(14:Int)≤6))]) w:=by kernel_rfl
theorem allIx15 (w:World):(Instr.index 205 (.agg allL.toArray) (.int .u8 15)).run Try.prog w=.ok (.agg #[.string (nm 15),.bool (decide ((4:Int)≤15∧(15:Int)≤6))]) w:=by kernel_rfl
theorem allIx16 (w:World):(Instr.index 205 (.agg allL.toArray) (.int .u8 16)).run Try.prog w=.ok (.agg #[.string (nm 16),.bool (decide ((4:Int)≤16∧(16:Int)≤6))]) w:=by kernel_rfl
theorem allIx17 (w:World):(Instr.index 205 (.agg allL.toArray) (.int .u8 17)).run Try.prog w=.ok (.agg #[.string (nm 17),.bool (decide ((4:Int)≤17∧(17:Int)≤6))]) w:=by kernel_rfl
theorem allIxAt (op:Int)(h1:1≤op)(h2:op≤17)(w:World):(Instr.index 205 (.agg allL.toArray) (.int .u8 op)).run Try.prog w=.ok (.agg #[.string (nm op),.bool (decide (4≤op∧op≤6))]) w:=by
 have h:op=1∨op=2∨op=3∨op=4∨op=5∨op=6∨op=7∨op=8∨op=9∨op=10∨op=11∨op=12∨op=13∨op=14∨op=15∨op=16∨op=17:=by omega
 rcases h with h|h|h|h|h|h|h|h|h|h|h|h|h|h|h|h|h<;>subst h
 ·exact allIx1 w
 ·exact allIx2 w
 ·exact allIx3 w
 ·exact allIx4 w
 ·exact allIx5 w
 ·exact allIx6 w
 ·exact allIx7 w
 ·exact allIx8 w
 ·exact allIx9 w
 ·exact allIx10 w
 ·exact allIx11 w
 ·exact allIx12 w
 ·exact allIx13 w
 ·exact allIx14 w
 ·exact allIx15 w
 ·exact allIx16 w
 ·exact allIx17 w
set_option maxHeartbeats 1000000 in
theorem wrong_bad (op b:Int)(w:World)(h:op < 1∨17 < op):Calls Try.prog 72 #[.int .u8 op,.int .i64 b] w fun e w'=>e=.returned (.int .i64 130)∧w=w':=by
 rcases h with h|h
 ·go_enter Try.func72,Try.ntmps72
  go_wp2
  go_ret
  exact⟨rfl,rfl⟩
 ·have h':¬op < 1:=by omega
  go_enter Try.func72,Try.ntmps72
  go_wp2
  go_ret
  exact⟨rfl,rfl⟩
set_option maxHeartbeats 1000000 in
theorem wrong_ok (op b:Int)(w:World)(h1:1≤op)(h2:op≤17)(hb:(b == 0)=false):Calls Try.prog 72 #[.int .u8 op,.int .i64 b] w fun e w'=>e=.returned (.int .i64 0)∧w=w':=by
 go_enter Try.func72,Try.ntmps72
 go_wp2
 go_ret
 exact⟨rfl,rfl⟩
set_option maxRecDepth 100000 in
set_option maxHeartbeats 1000000 in
theorem wrong_z (op:Int)(w:World)(h1:1≤op)(h2:op≤17):Calls Try.prog 72 #[.int .u8 op,.int .i64 0] w fun e w'=>e=.returned (.int .i64 (if 4≤op∧op≤6 then 131 else 0))∧Below w.heap.size w w':=by
 have hs:=allIxAt op h1 h2
 obtain⟨V,hV⟩:∃V,V=allL.toArray:=⟨_,rfl⟩
 have ha:∀w,Calls Try.prog 108 #[] w fun e w'=>e=.returned (.agg V)∧Below w.heap.size w w':=hV ▸ all_c
 rw[←hV]at hs
 have HA:=Lib.hid ha
 clear ha hV
 have hfl:∀(w:World) (s:ByteArray) (b:Bool),(Instr.field 204 (.agg #[.string s,.bool b]) 1).run Try.prog w=.ok (.bool b) w:=fun w s b=>by kernel_rfl
 go_enter Try.func72,Try.ntmps72
 go_wp2_with fail
 refine(HA.out _).mono ?_
 rintro e w' ⟨rfl,hb⟩
 go_wp2
 all_goals go_ret
 all_goals exact⟨rfl,hb⟩
theorem wrong_c (op b:Int)(w:World):Calls Try.prog 72 #[.int .u8 op,.int .i64 b] w fun e w'=>e=.returned (.int .i64 (z9_ op b))∧Below w.heap.size w w':=by
 by_cases h:op < 1∨17 < op
 ·refine(wrong_bad op b w h).mono ?_
  rintro e w' ⟨rfl,rfl⟩
  exact⟨ret_i64 (by rw[z9_,if_pos h]),Below.refl _ _⟩
 ·by_cases hb:b=0
  ·subst hb
   refine(wrong_z op w (by omega) (by omega)).mono ?_
   rintro e w' ⟨rfl,hB⟩
   refine⟨ret_i64 ?_,hB⟩
   rw[z9_,if_neg h]
   simp
  ·refine(wrong_ok op b w (by omega) (by omega) (by simpa using hb)).mono ?_
   rintro e w' ⟨rfl,rfl⟩
   exact⟨ret_i64 (by rw[z9_,if_neg h,if_neg (fun x=>hb x.1)]),Below.refl _ _⟩
set_option maxRecDepth 100000 in
set_option maxHeartbeats 1000000 in
theorem apply_bad (op a b:Int)(w:World)(h:(z9_ op b != 0)=true):Calls Try.prog 29 #[.int .u8 op,.int .i64 a,.int .i64 b] w fun e w'=>e=.returned (.tuple #[.int .i64 0,.int .i64 (z9_ op b)])∧Below w.heap.size w w':=by
 have HW:=Lib.hid (fun w=>wrong_c op b w)
 obtain⟨E,hE⟩:∃E,E=z9_ op b:=⟨_,rfl⟩
 rw[←hE]at HW h ⊢
 clear hE
 go_enter Try.func29,Try.ntmps29
 go_wp2_with fail
 refine(HW.out _).mono ?_
 rintro e w' ⟨rfl,hb⟩
 go_wp2
 go_ret2
 exact⟨rfl,hb⟩
def shB (b:Int):Int:=bits BinOp.and IntKind.u64 (IntKind.u64.wrap b) 63
theorem u64_wrap_bd (b:Int):0≤IntKind.u64.wrap b∧IntKind.u64.wrap b < 18446744073709551616:=by
 simp only[IntKind.wrap,IntKind.bits,IntKind.signed]
 simp
 omega
theorem shB_eq (b:Int):shB b=IntKind.u64.wrap b % 64:=by
 have hb:=u64_wrap_bd b
 unfold shB
 rw[u64_and _ _ hb.1 hb.2 (by decide) (by decide)]
 have h63:(63:Int).toNat=2 ^ 6 - 1:=by decide
 rw[h63,Nat.and_two_pow_sub_one_eq_mod]
 omega
theorem shB_bd (b:Int):0≤shB b∧shB b≤63:=by rw[shB_eq];omega
def z3_ (op a b:Int):Int:=
 if op=1 then wrap64 (a+b)else if op=2 then wrap64 (a - b)else if op=3 then wrap64 (a*b)
 else if op=4 then wrap64 (a.tdiv b)else if op=5 then a.tmod b else if op=6 then modI a b
 else if op=7 then bits .and .i64 a b else if op=8 then bits .or .i64 a b else if op=9 then bits .xor .i64 a b
 else if op=10 then wrap64 (a*2 ^ (shB b).toNat)else if op=11 then wrap64 (IntKind.u64.wrap a / 2 ^ (shB b).toNat)else if op=12 then a / 2 ^ (shB b).toNat
 else if op=13 then truthI (decide (a < b))else if op=14 then truthI (decide (IntKind.u64.wrap a < IntKind.u64.wrap b))else if op=15 then truthI (a == b)
 else if op=16 then(if b < a then b else a)else(if a < b then b else a)
set_option maxRecDepth 100000 in
set_option maxHeartbeats 4000000 in
theorem apply_1 (a b:Int)(w:World)
 (hw:∀w,Calls Try.prog 72 #[.int .u8 1,.int .i64 b] w fun e w'=>e=.returned (.int .i64 0)∧Below w.heap.size w w'):Calls Try.prog 29 #[.int .u8 1,.int .i64 a,.int .i64 b] w fun e w'=>e=.returned (.tuple #[.int .i64 (z3_ 1 a b),.int .i64 0])∧Below w.heap.size w w' :=  Vm.d1_
set_option maxRecDepth 100000 in
set_option maxHeartbeats 4000000 in
theorem apply_2 (a b:Int)(w:World)
 (hw:∀w,Calls Try.prog 72 #[.int .u8 2,.int .i64 b] w fun e w'=>e=.returned (.int .i64 0)∧Below w.heap.size w w'):Calls Try.prog 29 #[.int .u8 2,.int .i64 a,.int .i64 b] w fun e w'=>e=.returned (.tuple #[.int .i64 (z3_ 2 a b),.int .i64 0])∧Below w.heap.size w w' :=  Vm.d1_
set_option maxRecDepth 100000 in
set_option maxHeartbeats 4000000 in
theorem apply_3 (a b:Int)(w:World)
 (hw:∀w,Calls Try.prog 72 #[.int .u8 3,.int .i64 b] w fun e w'=>e=.returned (.int .i64 0)∧Below w.heap.size w w'):Calls Try.prog 29 #[.int .u8 3,.int .i64 a,.int .i64 b] w fun e w'=>e=.returned (.tuple #[.int .i64 (z3_ 3 a b),.int .i64 0])∧Below w.heap.size w w' :=  Vm.d1_
set_option maxRecDepth 100000 in
set_option maxHeartbeats 4000000 in
theorem apply_4 (a b:Int)(w:World)(hb0:b≠0)
 (hw:∀w,Calls Try.prog 72 #[.int .u8 4,.int .i64 b] w fun e w'=>e=.returned (.int .i64 0)∧Below w.heap.size w w'):Calls Try.prog 29 #[.int .u8 4,.int .i64 a,.int .i64 b] w fun e w'=>e=.returned (.tuple #[.int .i64 (z3_ 4 a b),.int .i64 0])∧Below w.heap.size w w' :=  Vm.d1_
set_option maxRecDepth 100000 in
set_option maxHeartbeats 4000000 in
theorem apply_5 (a b:Int)(w:World)(hb0:b≠0)
 (hw:∀w,Calls Try.prog 72 #[.int .u8 5,.int .i64 b] w fun e w'=>e=.returned (.int .i64 0)∧Below w.heap.size w w'):Calls Try.prog 29 #[.int .u8 5,.int .i64 a,.int .i64 b] w fun e w'=>e=.returned (.tuple #[.int .i64 (z3_ 5 a b),.int .i64 0])∧Below w.heap.size w w' :=  Vm.d1_
set_option maxRecDepth 100000 in
set_option maxHeartbeats 4000000 in
theorem apply_6 (a b:Int)(w:World)(hb0:b≠0)
 (hw:∀w,Calls Try.prog 72 #[.int .u8 6,.int .i64 b] w fun e w'=>e=.returned (.int .i64 0)∧Below w.heap.size w w'):Calls Try.prog 29 #[.int .u8 6,.int .i64 a,.int .i64 b] w fun e w'=>e=.returned (.tuple #[.int .i64 (z3_ 6 a b),.int .i64 0])∧Below w.heap.size w w' :=  Vm.d1_
set_option maxRecDepth 100000 in
set_option maxHeartbeats 4000000 in
theorem apply_7 (a b:Int)(w:World)
 (hw:∀w,Calls Try.prog 72 #[.int .u8 7,.int .i64 b] w fun e w'=>e=.returned (.int .i64 0)∧Below w.heap.size w w'):Calls Try.prog 29 #[.int .u8 7,.int .i64 a,.int .i64 b] w fun e w'=>e=.returned (.tuple #[.int .i64 (z3_ 7 a b),.int .i64 0])∧Below w.heap.size w w' :=  Vm.d1_
set_option maxRecDepth 100000 in
set_option maxHeartbeats 4000000 in
theorem apply_8 (a b:Int)(w:World)
 (hw:∀w,Calls Try.prog 72 #[.int .u8 8,.int .i64 b] w fun e w'=>e=.returned (.int .i64 0)∧Below w.heap.size w w'):Calls Try.prog 29 #[.int .u8 8,.int .i64 a,.int .i64 b] w fun e w'=>e=.returned (.tuple #[.int .i64 (z3_ 8 a b),.int .i64 0])∧Below w.heap.size w w' :=  Vm.d1_
set_option maxRecDepth 100000 in
set_option maxHeartbeats 4000000 in
theorem apply_9 (a b:Int)(w:World)
 (hw:∀w,Calls Try.prog 72 #[.int .u8 9,.int .i64 b] w fun e w'=>e=.returned (.int .i64 0)∧Below w.heap.size w w'):Calls Try.prog 29 #[.int .u8 9,.int .i64 a,.int .i64 b] w fun e w'=>e=.returned (.tuple #[.int .i64 (z3_ 9 a b),.int .i64 0])∧Below w.heap.size w w' :=  Vm.d1_
set_option maxRecDepth 100000 in
set_option maxHeartbeats 4000000 in
theorem apply_10 (a b:Int)(w:World)
 (hw:∀w,Calls Try.prog 72 #[.int .u8 10,.int .i64 b] w fun e w'=>e=.returned (.int .i64 0)∧Below w.heap.size w w'):Calls Try.prog 29 #[.int .u8 10,.int .i64 a,.int .i64 b] w fun e w'=>e=.returned (.tuple #[.int .i64 (z3_ 10 a b),.int .i64 0])∧Below w.heap.size w w' :=  Vm.d2_
set_option maxRecDepth 100000 in
set_option maxHeartbeats 4000000 in
theorem apply_11 (a b:Int)(w:World)
 (hw:∀w,Calls Try.prog 72 #[.int .u8 11,.int .i64 b] w fun e w'=>e=.returned (.int .i64 0)∧Below w.heap.size w w'):Calls Try.prog 29 #[.int .u8 11,.int .i64 a,.int .i64 b] w fun e w'=>e=.returned (.tuple #[.int .i64 (z3_ 11 a b),.int .i64 0])∧Below w.heap.size w w' :=  Vm.d2_
set_option maxRecDepth 100000 in
set_option maxHeartbeats 4000000 in
theorem apply_12 (a b:Int)(w:World)
 (hw:∀w,Calls Try.prog 72 #[.int .u8 12,.int .i64 b] w fun e w'=>e=.returned (.int .i64 0)∧Below w.heap.size w w'):Calls Try.prog 29 #[.int .u8 12,.int .i64 a,.int .i64 b] w fun e w'=>e=.returned (.tuple #[.int .i64 (z3_ 12 a b),.int .i64 0])∧Below w.heap.size w w' :=  Vm.d2_
set_option maxRecDepth 100000 in
set_option maxHeartbeats 4000000 in
theorem apply_13 (a b:Int)(w:World)
 (hw:∀w,Calls Try.prog 72 #[.int .u8 13,.int .i64 b] w fun e w'=>e=.returned (.int .i64 0)∧Below w.heap.size w w'):Calls Try.prog 29 #[.int .u8 13,.int .i64 a,.int .i64 b] w fun e w'=>e=.returned (.tuple #[.int .i64 (z3_ 13 a b),.int .i64 0])∧Below w.heap.size w w' :=  Vm.d1_
set_option maxRecDepth 100000 in
set_option maxHeartbeats 4000000 in
theorem apply_14 (a b:Int)(w:World)
 (hw:∀w,Calls Try.prog 72 #[.int .u8 14,.int .i64 b] w fun e w'=>e=.returned (.int .i64 0)∧Below w.heap.size w w'):Calls Try.prog 29 #[.int .u8 14,.int .i64 a,.int .i64 b] w fun e w'=>e=.returned (.tuple #[.int .i64 (z3_ 14 a b),.int .i64 0])∧Below w.heap.size w w' :=  Vm.d1_
set_option maxRecDepth 100000 in
set_option maxHeartbeats 4000000 in
theorem apply_15 (a b:Int)(w:World)
 (hw:∀w,Calls Try.prog 72 #[.int .u8 15,.int .i64 b] w fun e w'=>e=.returned (.int .i64 0)∧Below w.heap.size w w'):Calls Try.prog 29 #[.int .u8 15,.int .i64 a,.int .i64 b] w fun e w'=>e=.returned (.tuple #[.int .i64 (z3_ 15 a b),.int .i64 0])∧Below w.heap.size w w' :=  Vm.d1_
set_option maxRecDepth 100000 in
set_option maxHeartbeats 4000000 in
theorem apply_16 (a b:Int)(w:World)
 (hw:∀w,Calls Try.prog 72 #[.int .u8 16,.int .i64 b] w fun e w'=>e=.returned (.int .i64 0)∧Below w.heap.size w w'):Calls Try.prog 29 #[.int .u8 16,.int .i64 a,.int .i64 b] w fun e w'=>e=.returned (.tuple #[.int .i64 (z3_ 16 a b),.int .i64 0])∧Below w.heap.size w w' :=  Vm.d1_
set_option maxRecDepth 100000 in
set_option maxHeartbeats 4000000 in
theorem apply_17 (a b:Int)(w:World)
 (hw:∀w,Calls Try.prog 72 #[.int .u8 17,.int .i64 b] w fun e w'=>e=.returned (.int .i64 0)∧Below w.heap.size w w'):Calls Try.prog 29 #[.int .u8 17,.int .i64 a,.int .i64 b] w fun e w'=>e=.returned (.tuple #[.int .i64 (z3_ 17 a b),.int .i64 0])∧Below w.heap.size w w' :=  Vm.d1_
def ye_ (op a b:Int):Int:=if z9_ op b=0 then z3_ op a b else 0
theorem apply_c (op a b:Int)(w:World):Calls Try.prog 29 #[.int .u8 op,.int .i64 a,.int .i64 b] w fun e w'=>e=.returned (.tuple #[.int .i64 (ye_ op a b),.int .i64 (z9_ op b)])∧Below w.heap.size w w':=by
 by_cases h:z9_ op b=0
 ·have hw:∀w,Calls Try.prog 72 #[.int .u8 op,.int .i64 b] w fun e w'=>e=.returned (.int .i64 0)∧Below w.heap.size w w':=by rw[←h];exact wrong_c op b
  have hz:4≤op→op≤6→b≠0:=by
   intro x y z
   rw[z9_,if_neg (by omega),if_pos ⟨z,x,y⟩]at h
   exact absurd h (by decide)
  have hop:1≤op∧op≤17:=by
   refine⟨?_,?_⟩
   ·by_cases q:op < 1
    ·rw[z9_,if_pos (.inl q)]at h;exact absurd h (by decide)
    ·omega
   ·by_cases q:17 < op
    ·rw[z9_,if_pos (.inr q)]at h;exact absurd h (by decide)
    ·omega
  rw[ye_,if_pos h,h]
  have h:op=1∨op=2∨op=3∨op=4∨op=5∨op=6∨op=7∨op=8∨op=9∨op=10∨op=11∨op=12∨op=13∨op=14∨op=15∨op=16∨op=17:=by omega
  rcases h with h|h|h|h|h|h|h|h|h|h|h|h|h|h|h|h|h<;>subst h
  ·exact apply_1 a b w hw
  ·exact apply_2 a b w hw
  ·exact apply_3 a b w hw
  ·exact apply_4 a b w (hz (by decide) (by decide)) hw
  ·exact apply_5 a b w (hz (by decide) (by decide)) hw
  ·exact apply_6 a b w (hz (by decide) (by decide)) hw
  ·exact apply_7 a b w hw
  ·exact apply_8 a b w hw
  ·exact apply_9 a b w hw
  ·exact apply_10 a b w hw
  ·exact apply_11 a b w hw
  ·exact apply_12 a b w hw
  ·exact apply_13 a b w hw
  ·exact apply_14 a b w hw
  ·exact apply_15 a b w hw
  ·exact apply_16 a b w hw
  ·exact apply_17 a b w hw
 ·rw[ye_,if_neg h]
  exact apply_bad op a b w (by rw[bne_iff_ne];exact h)
end Go.Proofs.Ytmljmabbopkpiaa
end
