import Derived.Test.YtjliakjbdcplcaaU1
import Derived.Test.YtjliakjbdcplcaaU7
import Derived.Test.YtjliakjbdcplcaaU8
import Derived.Test.YtjliakjbdcplcaaU10
import Derived.Test.YtjliakjbdcplcaaProg
import Derived.Test.YtjliakjbdcplcaaChecked
import Derived.ProofKit
import Derived.Deep.Slices
import Derived.Scope
section
namespace Go.Proofs.Ytjliakjbdcplcaa.Vm
theorem d1_ {P : Prop} (h:P:=by
 have HW:=Lib.hid hw
 clear hw
 go_enter Try.func117,Try.ntmps117
 go_wp2_with fail
 refine(HW.out _).mono ?_
 rintro e w' ⟨rfl,hb⟩
 go_wp2_with (first
  |(go_at_call 132;refine(truth_c _ _).mono ?_;rintro e w' ⟨rfl,rfl⟩)
  |(go_at_call 131;refine(mod_c _ _ _ (by assumption)).mono ?_;rintro e w' ⟨rfl,rfl⟩))
 all_goals (go_ret2;refine⟨?_,hb⟩)
 all_goals first|rfl |(show Ending.returned (.tuple #[.int .i64 _,_])=.returned (.tuple #[.int .i64 _,_]);congr 4;simp[yd_];done) |(show Ending.returned (.tuple #[.int .i64 _,_])=.returned (.tuple #[.int .i64 _,_]);congr 4;simp[yd_];omega)):P:=h
theorem d2_ {P : Prop} (h:P:=by
 have HW:=Lib.hid hw
 clear hw
 have hs:=shB_bd b
 have hs0:0≤bits BinOp.and IntKind.u64 (IntKind.u64.wrap b) 63:=hs.1
 have hs1:bits BinOp.and IntKind.u64 (IntKind.u64.wrap b) 63≤64:=Int.le_trans hs.2 (by decide)
 clear hs
 go_enter Try.func117,Try.ntmps117
 go_wp2_with fail
 refine(HW.out _).mono ?_
 rintro e w' ⟨rfl,hb⟩
 go_wp2_with (first
  |(go_at_call 132;refine(truth_c _ _).mono ?_;rintro e w' ⟨rfl,rfl⟩)
  |(go_at_call 131;refine(mod_c _ _ _ (by assumption)).mono ?_;rintro e w' ⟨rfl,rfl⟩))
 all_goals (go_ret2;refine⟨?_,hb⟩)
 all_goals first|rfl |(show Ending.returned (.tuple #[.int .i64 _,_])=.returned (.tuple #[.int .i64 _,_]);congr 4;simp[yd_];done) |(show Ending.returned (.tuple #[.int .i64 _,_])=.returned (.tuple #[.int .i64 _,_]);congr 4;simp[yd_];omega)):P:=h
end Go.Proofs.Ytjliakjbdcplcaa.Vm
end
set_option linter.unusedSimpArgs false
set_option linter.unusedVariables false
set_option maxRecDepth 100000
section
namespace Go.Proofs.Ytjliakjbdcplcaa
open Go.RowKit
set_option maxRecDepth 100000 in
set_option maxHeartbeats 4000000 in
theorem apply_1 (a b:Int)(w:World)
 (hw:∀w,Calls Try.prog 130 #[.int .u8 1,.int .i64 b] w fun e w'=>e=.returned (.int .i64 0)∧Below w.heap.size w w'):Calls Try.prog 117 #[.int .u8 1,.int .i64 a,.int .i64 b] w fun e w'=>e=.returned (.tuple #[.int .i64 (yd_ 1 a b),.int .i64 0])∧Below w.heap.size w w' :=  Vm.d1_
set_option maxRecDepth 100000 in
set_option maxHeartbeats 4000000 in
theorem apply_2 (a b:Int)(w:World)
 (hw:∀w,Calls Try.prog 130 #[.int .u8 2,.int .i64 b] w fun e w'=>e=.returned (.int .i64 0)∧Below w.heap.size w w'):Calls Try.prog 117 #[.int .u8 2,.int .i64 a,.int .i64 b] w fun e w'=>e=.returned (.tuple #[.int .i64 (yd_ 2 a b),.int .i64 0])∧Below w.heap.size w w' :=  Vm.d1_
set_option maxRecDepth 100000 in
set_option maxHeartbeats 4000000 in
theorem apply_3 (a b:Int)(w:World)
 (hw:∀w,Calls Try.prog 130 #[.int .u8 3,.int .i64 b] w fun e w'=>e=.returned (.int .i64 0)∧Below w.heap.size w w'):Calls Try.prog 117 #[.int .u8 3,.int .i64 a,.int .i64 b] w fun e w'=>e=.returned (.tuple #[.int .i64 (yd_ 3 a b),.int .i64 0])∧Below w.heap.size w w' :=  Vm.d1_
set_option maxRecDepth 100000 in
set_option maxHeartbeats 4000000 in
theorem apply_4 (a b:Int)(w:World)(hb0:b≠0)
 (hw:∀w,Calls Try.prog 130 #[.int .u8 4,.int .i64 b] w fun e w'=>e=.returned (.int .i64 0)∧Below w.heap.size w w'):Calls Try.prog 117 #[.int .u8 4,.int .i64 a,.int .i64 b] w fun e w'=>e=.returned (.tuple #[.int .i64 (yd_ 4 a b),.int .i64 0])∧Below w.heap.size w w' :=  Vm.d1_
set_option maxRecDepth 100000 in
set_option maxHeartbeats 4000000 in
theorem apply_5 (a b:Int)(w:World)(hb0:b≠0)
 (hw:∀w,Calls Try.prog 130 #[.int .u8 5,.int .i64 b] w fun e w'=>e=.returned (.int .i64 0)∧Below w.heap.size w w'):Calls Try.prog 117 #[.int .u8 5,.int .i64 a,.int .i64 b] w fun e w'=>e=.returned (.tuple #[.int .i64 (yd_ 5 a b),.int .i64 0])∧Below w.heap.size w w' :=  Vm.d1_
set_option maxRecDepth 100000 in
set_option maxHeartbeats 4000000 in
theorem apply_6 (a b:Int)(w:World)(hb0:b≠0)
 (hw:∀w,Calls Try.prog 130 #[.int .u8 6,.int .i64 b] w fun e w'=>e=.returned (.int .i64 0)∧Below w.heap.size w w'):Calls Try.prog 117 #[.int .u8 6,.int .i64 a,.int .i64 b] w fun e w'=>e=.returned (.tuple #[.int .i64 (yd_ 6 a b),.int .i64 0])∧Below w.heap.size w w' :=  Vm.d1_
set_option maxRecDepth 100000 in
set_option maxHeartbeats 4000000 in
theorem apply_7 (a b:Int)(w:World)
 (hw:∀w,Calls Try.prog 130 #[.int .u8 7,.int .i64 b] w fun e w'=>e=.returned (.int .i64 0)∧Below w.heap.size w w'):Calls Try.prog 117 #[.int .u8 7,.int .i64 a,.int .i64 b] w fun e w'=>e=.returned (.tuple #[.int .i64 (yd_ 7 a b),.int .i64 0])∧Below w.heap.size w w' :=  Vm.d1_
set_option maxRecDepth 100000 in
set_option maxHeartbeats 4000000 in
theorem apply_8 (a b:Int)(w:World)
 (hw:∀w,Calls Try.prog 130 #[.int .u8 8,.int .i64 b] w fun e w'=>e=.returned (.int .i64 0)∧Below w.heap.size w w'):Calls Try.prog 117 #[.int .u8 8,.int .i64 a,.int .i64 b] w fun e w'=>e=.returned (.tuple #[.int .i64 (yd_ 8 a b),.int .i64 0])∧Below w.heap.size w w' :=  Vm.d1_
set_option maxRecDepth 100000 in
set_option maxHeartbeats 4000000 in
theorem apply_9 (a b:Int)(w:World)
 (hw:∀w,Calls Try.prog 130 #[.int .u8 9,.int .i64 b] w fun e w'=>e=.returned (.int .i64 0)∧Below w.heap.size w w'):Calls Try.prog 117 #[.int .u8 9,.int .i64 a,.int .i64 b] w fun e w'=>e=.returned (.tuple #[.int .i64 (yd_ 9 a b),.int .i64 0])∧Below w.heap.size w w' :=  Vm.d1_
set_option maxRecDepth 100000 in
set_option maxHeartbeats 4000000 in
theorem apply_10 (a b:Int)(w:World)
 (hw:∀w,Calls Try.prog 130 #[.int .u8 10,.int .i64 b] w fun e w'=>e=.returned (.int .i64 0)∧Below w.heap.size w w'):Calls Try.prog 117 #[.int .u8 10,.int .i64 a,.int .i64 b] w fun e w'=>e=.returned (.tuple #[.int .i64 (yd_ 10 a b),.int .i64 0])∧Below w.heap.size w w' :=  Vm.d2_
set_option maxRecDepth 100000 in
set_option maxHeartbeats 4000000 in
theorem apply_11 (a b:Int)(w:World)
 (hw:∀w,Calls Try.prog 130 #[.int .u8 11,.int .i64 b] w fun e w'=>e=.returned (.int .i64 0)∧Below w.heap.size w w'):Calls Try.prog 117 #[.int .u8 11,.int .i64 a,.int .i64 b] w fun e w'=>e=.returned (.tuple #[.int .i64 (yd_ 11 a b),.int .i64 0])∧Below w.heap.size w w' :=  Vm.d2_
set_option maxRecDepth 100000 in
set_option maxHeartbeats 4000000 in
theorem apply_12 (a b:Int)(w:World)
 (hw:∀w,Calls Try.prog 130 #[.int .u8 12,.int .i64 b] w fun e w'=>e=.returned (.int .i64 0)∧Below w.heap.size w w'):Calls Try.prog 117 #[.int .u8 12,.int .i64 a,.int .i64 b] w fun e w'=>e=.returned (.tuple #[.int .i64 (yd_ 12 a b),.int .i64 0])∧Below w.heap.size w w' :=  Vm.d2_
set_option maxRecDepth 100000 in
set_option maxHeartbeats 4000000 in
theorem apply_13 (a b:Int)(w:World)
 (hw:∀w,Calls Try.prog 130 #[.int .u8 13,.int .i64 b] w fun e w'=>e=.returned (.int .i64 0)∧Below w.heap.size w w'):Calls Try.prog 117 #[.int .u8 13,.int .i64 a,.int .i64 b] w fun e w'=>e=.returned (.tuple #[.int .i64 (yd_ 13 a b),.int .i64 0])∧Below w.heap.size w w' :=  Vm.d1_
set_option maxRecDepth 100000 in
set_option maxHeartbeats 4000000 in
theorem apply_14 (a b:Int)(w:World)
 (hw:∀w,Calls Try.prog 130 #[.int .u8 14,.int .i64 b] w fun e w'=>e=.returned (.int .i64 0)∧Below w.heap.size w w'):Calls Try.prog 117 #[.int .u8 14,.int .i64 a,.int .i64 b] w fun e w'=>e=.returned (.tuple #[.int .i64 (yd_ 14 a b),.int .i64 0])∧Below w.heap.size w w' :=  Vm.d1_
set_option maxRecDepth 100000 in
set_option maxHeartbeats 4000000 in
theorem apply_15 (a b:Int)(w:World)
 (hw:∀w,Calls Try.prog 130 #[.int .u8 15,.int .i64 b] w fun e w'=>e=.returned (.int .i64 0)∧Below w.heap.size w w'):Calls Try.prog 117 #[.int .u8 15,.int .i64 a,.int .i64 b] w fun e w'=>e=.returned (.tuple #[.int .i64 (yd_ 15 a b),.int .i64 0])∧Below w.heap.size w w' :=  Vm.d1_
set_option maxRecDepth 100000 in
set_option maxHeartbeats 4000000 in
theorem apply_16 (a b:Int)(w:World)
 (hw:∀w,Calls Try.prog 130 #[.int .u8 16,.int .i64 b] w fun e w'=>e=.returned (.int .i64 0)∧Below w.heap.size w w'):Calls Try.prog 117 #[.int .u8 16,.int .i64 a,.int .i64 b] w fun e w'=>e=.returned (.tuple #[.int .i64 (yd_ 16 a b),.int .i64 0])∧Below w.heap.size w w' :=  Vm.d1_
set_option maxRecDepth 100000 in
set_option maxHeartbeats 4000000 in
theorem apply_17 (a b:Int)(w:World)
 (hw:∀w,Calls Try.prog 130 #[.int .u8 17,.int .i64 b] w fun e w'=>e=.returned (.int .i64 0)∧Below w.heap.size w w'):Calls Try.prog 117 #[.int .u8 17,.int .i64 a,.int .i64 b] w fun e w'=>e=.returned (.tuple #[.int .i64 (yd_ 17 a b),.int .i64 0])∧Below w.heap.size w w' :=  Vm.d1_
def applyV (op a b:Int):Int:=if xg_ op b=0 then yd_ op a b else 0
theorem apply_c (op a b:Int)(w:World):Calls Try.prog 117 #[.int .u8 op,.int .i64 a,.int .i64 b] w fun e w'=>e=.returned (.tuple #[.int .i64 (applyV op a b),.int .i64 (xg_ op b)])∧Below w.heap.size w w':=by
 by_cases h:xg_ op b=0
 ·have hw:∀w,Calls Try.prog 130 #[.int .u8 op,.int .i64 b] w fun e w'=>e=.returned (.int .i64 0)∧Below w.heap.size w w':=by rw[←h];exact wrong_c op b
  have hz:4≤op→op≤6→b≠0:=by
   intro x y z
   rw[xg_,if_neg (by omega),if_pos ⟨z,x,y⟩]at h
   exact absurd h (by decide)
  have hop:1≤op∧op≤17:=by
   refine⟨?_,?_⟩
   ·by_cases q:op < 1
    ·rw[xg_,if_pos (.inl q)]at h;exact absurd h (by decide)
    ·omega
   ·by_cases q:17 < op
    ·rw[xg_,if_pos (.inr q)]at h;exact absurd h (by decide)
    ·omega
  rw[applyV,if_pos h,h]
  have h:op=1∨op=2∨op=3∨op=4∨op=5∨op=6∨op=7∨op=8∨op=9∨op=10∨op=11∨op=12∨op=13∨op=14∨op=15∨op=16∨op=17:=by omega
  rcases h with h|h|h|h|h|h|h|h|h|h|h|h|h|h|h|h|h<;>subst h
  ·exact apply_1 a b w hw
  ·exact apply_2 a b w hw
  ·exact apply_3 a b w hw
  ·exact apply_4 a b w (hz (by decide) (by decide)) hw
  ·exact apply_5 a b w (hz (by decide) (by decide)) hw
  ·exact apply_6 a b w (hz (by decide) (by decide)) hw
  ·exact apply_7 a b w hw
  ·exact apply_8 a b w hw
  ·exact apply_9 a b w hw
  ·exact apply_10 a b w hw
  ·exact apply_11 a b w hw
  ·exact apply_12 a b w hw
  ·exact apply_13 a b w hw
  ·exact apply_14 a b w hw
  ·exact apply_15 a b w hw
  ·exact apply_16 a b w hw
  ·exact apply_17 a b w hw
 ·rw[applyV,if_neg h]
  exact apply_bad op a b w (by rw[bne_iff_ne];exact h)
theorem right_last' {p:List Ins}(h:(y8_ p).2=0):0 < p.length∧p.length≤256∧goesB (p.getD (p.length - 1) ⟨0,0,0,0,0⟩)=false∧∀k,k < p.length→badAt p.length (p.getD k ⟨0,0,0,0,0⟩)=0:=by
 unfold y8_ at h
 by_cases h0:p.length=0
 ·rw[if_pos h0]at h;cases h
 ·by_cases h1:256 < p.length
  ·rw[if_neg h0,if_pos h1]at h;cases h
  ·rw[if_neg h0,if_neg h1]at h
   refine⟨by omega,by omega,?_⟩
   unfold checkK at h
   cases hf:p.findIdx? (fun i=>badAt p.length i != 0)with
   | some k=>
    rw[hf]at h
    obtain⟨hk,hb,_⟩:=List.findIdx?_eq_some_iff_getElem.1 hf
    exfalso
    have hg:p.getD k ⟨0,0,0,0,0⟩=p[k]:=by simp[List.getD,hk]
    dsimp only at h
    rw[hg]at h
    simp[h]at hb
   | none=>
    rw[hf]at h
    rw[List.findIdx?_eq_none_iff]at hf
    dsimp only at h
    refine⟨?_,fun k hk=>?_⟩
    ·by_cases hg:goesB (p.getD (p.length - 1) ⟨0,0,0,0,0⟩)=true
     ·rw[if_pos hg]at h;cases h
     ·simpa using hg
    ·have := hf (p.getD k ⟨0, 0, 0, 0, 0⟩) (by
      rw[List.getD_eq_getElem?_getD,List.getElem?_eq_getElem hk];exact List.getElem_mem hk)
     simpa using this
structure RightI (n k:Nat) (x:Ins):Prop where
 ok:x.ok
 one:oneE x=0
 a:x.a < 8
 b:x.b < 8
 c:x.c < 8
 targ:xj_ x=true→0≤y7_ x∧y7_ x < n
 goes:goesB x=true→k+1 < n
 cls:x.op=1∨x.op=2∨x.op=3∨x.op=4∨x.op=5∨x.op=6∨x.op=7∨x.op=8∨x.op=9∨x.op=10∨x.op=11∨(33≤x.op∧x.op≤49)
theorem one_regs {x:Ins}(h:oneE x=0):x.a < 8∧x.b < 8∧x.c < 8∧(xj_ x=true→0≤x.n)∧(x.op=1∨x.op=2∨x.op=3∨x.op=4∨x.op=5∨x.op=6∨x.op=7∨x.op=8∨x.op=9∨x.op=10∨x.op=11∨(33≤x.op∧x.op≤49)):=by
 have h0:=h
 unfold oneE at h
 have hf:xh_ x.op≠0:=fun e=>by rw[if_pos e]at h;cases h
 rw[if_neg hf]at h
 have hc:xt_ (xh_ x.op) x.a x.b x.c x.n:=by
  by_cases q:xt_ (xh_ x.op) x.a x.b x.c x.n
  ·exact q
  ·rw[yv_ q]at h;cases h
 have ht:xj_ x=true→x.op=9∨x.op=10∨x.op=11:=fun ht=>by
  unfold xj_ at ht
  simp at ht
  exact ht.2
 revert hc hf
 unfold xh_
 split
 ·rename_i q;intro hf hc;obtain⟨q1,q2,q3,q4⟩:=hc;exact⟨q1,q2,q3,fun t=>by omega,by omega⟩
 split
 ·exact Vm.k3_
 split
 ·rename_i q;intro hf hc;obtain⟨q1,q2,q3⟩:=hc;exact⟨by omega,by omega,by omega,fun t=>by have:=ht t;omega,by omega⟩
 split
 ·exact Vm.k3_
 split
 ·exact Vm.k4_
 split
 ·exact Vm.k4_
 split
 ·exact Vm.k4_
 ·intro hf;exact absurd rfl hf
theorem right_at {p:List Ins}(hok:∀x∈p,x.ok)(h:(y8_ p).2=0){k:Nat}(hk:k < p.length):RightI p.length k (p.getD k ⟨0,0,0,0,0⟩):=by
 obtain⟨h0,h1,h2,h3⟩:=right_last' h
 have hb:=h3 k hk
 unfold badAt at hb
 have h4:oneE (p.getD k ⟨0,0,0,0,0⟩)=0:=by
  by_cases q:oneE (p.getD k ⟨0,0,0,0,0⟩)=0
  ·exact q
  ·rw[if_pos q]at hb;exact absurd hb q
 rw[if_neg (by omega)]at hb
 obtain⟨ra,rb,rc,rt,rcl⟩:=one_regs h4
 refine⟨hok _ (by rw[List.getD_eq_getElem?_getD,List.getElem?_eq_getElem hk];exact List.getElem_mem hk),h4,ra,rb,rc,fun ht=>?_,fun hg=>?_,rcl⟩
 ·refine⟨by unfold y7_;rw[if_pos ht];exact rt ht,?_⟩
  by_cases q:(p.length:Int)≤y7_ (p.getD k ⟨0,0,0,0,0⟩)
  ·rw[if_pos ⟨ht,q⟩]at hb;cases hb
  ·omega
 ·by_cases q:k+1 < p.length
  ·exact q
  ·have:k=p.length - 1:=by omega
   subst this
   rw[h2]at hg;cases hg
theorem goesB_of {x:Ins}(h:oneE x=0):goesB x=(x.op != 1 && (x.op != 2 && x.op != 9)):=by unfold goesB;rw[h];rfl
theorem targB_of {x:Ins}(h:oneE x=0):xj_ x=(x.op == 9 ||(x.op == 10 || x.op == 11)):=by unfold xj_;rw[h];rfl
end Go.Proofs.Ytjliakjbdcplcaa
end
section
namespace Go.Proofs.Ytjliakjbdcplcaa
open Go.RowKit
def foldI (x n:Int):Int:=bits .xor .u64 x (x / 2 ^ n.toNat)
theorem fold_c (x n:Int)(w:World)(h0:0≤n)(h1:n≤64):Calls Try.prog 148 #[.int .u64 x,.int .i64 n] w fun e w'=>e=.returned (.int .u64 (foldI x n))∧w=w':=by
 go_enter Try.func148,Try.ntmps148
 go_wp2
 go_ret
 exact⟨rfl,rfl⟩
def mixI (x:Int):Int:=foldI (IntKind.u64.wrap (foldI (IntKind.u64.wrap (foldI x 30*13787848793156543929)) 27*10723151780598845931)) 31
theorem mix_c (x:Int)(w:World):Calls Try.prog 147 #[.int .u64 x] w fun e w'=>e=.returned (.int .u64 (mixI x))∧w=w':=by
 go_enter Try.func147,Try.ntmps147
 go_wp2_with (go_at_call 148;refine(fold_c _ _ _ (by omega) (by omega)).mono ?_;rintro e w' ⟨rfl,rfl⟩)
 go_ret
 exact⟨rfl,rfl⟩
def atI (key index:Int):Int:=mixI (IntKind.u64.wrap (key+IntKind.u64.wrap (IntKind.u64.wrap (IntKind.u64.wrap index+1)*11400714819323198485)))
theorem at_c (key index:Int)(w:World):Calls Try.prog 144 #[.int .u64 key,.int .i64 index] w fun e w'=>e=.returned (.int .u64 (atI key index))∧w=w':=by
 go_enter Try.func144,Try.ntmps144
 go_wp2_with (go_at_call 147;refine(mix_c _ _).mono ?_;rintro e w' ⟨rfl,rfl⟩)
 go_ret
 exact⟨rfl,rfl⟩
def lo32 (z:Int):Int:=bits .and .u64 z 4294967295
def upP (v n:Int):Int:=IntKind.u64.wrap (lo32 v*lo32 n)
def upQ (v n:Int):Int:=IntKind.u64.wrap (IntKind.u64.wrap (v / 4294967296*lo32 n)+upP v n / 4294967296)
def upR (v n:Int):Int:=IntKind.u64.wrap (IntKind.u64.wrap (lo32 v*(n / 4294967296))+lo32 (upQ v n))
def upperI (v n:Int):Int:=IntKind.u64.wrap (IntKind.u64.wrap (IntKind.u64.wrap (v / 4294967296*(n / 4294967296))+upQ v n / 4294967296)+upR v n / 4294967296)
theorem upper_c (v n:Int)(w:World):Calls Try.prog 145 #[.int .u64 v,.int .u64 n] w fun e w'=>e=.returned (.int .u64 (upperI v n))∧w=w':=by
 go_enter Try.func145,Try.ntmps145
 go_wp2
 go_ret
 exact⟨rfl,rfl⟩
def belowI (v n:Int):Int:=wrap64 (upperI v (IntKind.u64.wrap n))
theorem below_ok (v n:Int)(w:World)(h:1≤n):Calls Try.prog 142 #[.int .u64 v,.int .i64 n] w fun e w'=>e=.returned (.tuple #[.int .i64 (belowI v n),.int .i64 0])∧w=w':=by
 go_enter Try.func142,Try.ntmps142
 go_wp2_with (go_at_call 145;refine(upper_c _ _ _).mono ?_;rintro e w' ⟨rfl,rfl⟩)
 go_ret2
 exact⟨rfl,rfl⟩
def join2 (x y:Int):Int:=mixI (IntKind.u64.wrap (IntKind.u64.wrap (11400714819323198485+y)+IntKind.u64.wrap (mixI (IntKind.u64.wrap (IntKind.u64.wrap (11400714819323198485+x)))*11400714819323198485)))
set_option maxRecDepth 100000 in
set_option maxHeartbeats 1000000 in
theorem join2_c (b:Nat)(x y:Int)(w:World)(h0:w.cell? ⟨b,0,none⟩=some (.int .u64 x))(h1:w.cell? ⟨b,1,none⟩=some (.int .u64 y)) :
  Calls Try.prog 146 #[.slice (some ⟨b,0,none⟩) 2 2] w fun e w'=>e=.returned (.int .u64 (join2 x y))∧w=w':=by
 go_enter Try.func146,Try.ntmps146
 go_wp2
 refine wp_loop_rounds 3 ?_
 rw[rounds_succ]
 go_wp2_with (go_at_call 147;refine(mix_c _ _).mono ?_;rintro e w' ⟨rfl,rfl⟩)
 rw[rounds_succ]
 go_wp2_with (go_at_call 147;refine(mix_c _ _).mono ?_;rintro e w' ⟨rfl,rfl⟩)
 rw[rounds_succ]
 go_wp2_with (go_at_call 147;refine(mix_c _ _).mono ?_;rintro e w' ⟨rfl,rfl⟩)
 go_ret
 exact⟨rfl,rfl⟩
def keyI (seed process:Int):Int:=join2 seed process
theorem key_ok (seed process:Int)(w:World)(h0:0≤process)(h1:process≤65536):Calls Try.prog 143 #[.int .u64 seed,.int .i64 process] w fun e w'=>e=.returned (.tuple #[.int .u64 (keyI seed process),.int .i64 0])∧Below w.heap.size w w':=by
 go_enter Try.func143,Try.ntmps143
 go_wp2_with fail
 refine(join2_c w.heap.size seed process _ ?_ ?_).mono ?_
 ·exact cell_of_row _ _ _ _ _ _ (heap_alloc_new w _)
 ·exact cell_of_row _ _ _ _ _ _ (heap_alloc_new w _)
 rintro e w' ⟨rfl,rfl⟩
 go_wp2
 go_ret2
 exact⟨rfl,(Below.refl _ _).alloc (Nat.le_refl _) _⟩
def valueI (seed process index:Int):Int:=atI (keyI seed process) index
set_option maxHeartbeats 1000000 in
theorem value_ok (seed process index:Int)(w:World)(h0:0≤process)(h1:process≤65536)(h2:0≤index)(h3:index≤281474976710656) :
  Calls Try.prog 141 #[.int .u64 seed,.int .i64 process,.int .i64 index] w fun e w'=>e=.returned (.tuple #[.int .u64 (valueI seed process index),.int .i64 0])∧Below w.heap.size w w':=by
 go_enter Try.func141,Try.ntmps141
 go_wp2_with fail
 refine(key_ok _ _ _ h0 h1).mono ?_
 rintro e w' ⟨rfl,hb⟩
 go_wp2_with (go_at_call 144;refine(at_c _ _ _).mono ?_;rintro e w' ⟨rfl,rfl⟩)
 go_ret2
 exact⟨rfl,hb⟩
def drawI (seed process index n:Int):Int:=belowI (valueI seed process index) n
set_option maxHeartbeats 1000000 in
theorem draw_ok (seed process index n:Int)(w:World)(h0:0≤process)(h1:process≤65536)(h2:0≤index)(h3:index≤281474976710656)(hn:1≤n) :
  Calls Try.prog 137 #[.int .u64 seed,.int .i64 process,.int .i64 index,.int .i64 n] w fun e w'=>e=.returned (.tuple #[.int .i64 (drawI seed process index n),.int .i64 0])∧Below w.heap.size w w':=by
 go_enter Try.func137,Try.ntmps137
 go_wp2_with fail
 refine(value_ok _ _ _ _ h0 h1 h2 h3).mono ?_
 rintro e w' ⟨rfl,hb⟩
 go_wp2_with (go_at_call 142;refine(below_ok _ _ _ hn).mono ?_;rintro e w' ⟨rfl,rfl⟩)
 go_ret2
 exact⟨rfl,hb⟩
end Go.Proofs.Ytjliakjbdcplcaa
end
section
namespace Go.Proofs.Ytjliakjbdcplcaa.Vm
open Go.RowKit
structure Sta where
 at_:Int
 ended:Bool
 regs:Nat→Int
 cells:List Int
 draws:Int
 sends:List Snd
structure Evi where
 seed:Int
 process:Int
 ports:Int
 look:Int
 now:Int
def Sta.put (s:Sta)(k:Nat)(x:Int):Sta:={ s with regs:=fun j=>if j=k then x else s.regs j,at_:=s.at_+1 }
theorem sta_eta (s:Sta):Sta.mk s.at_ s.ended (fun q=>s.regs q) s.cells s.draws s.sends=s:=rfl
theorem evi_eta (v:Evi):Evi.mk v.seed v.process v.ports v.look v.now=v:=rfl
def sendE (s:Sta)(v:Evi)(i:Ins):Int:=
 if v.ports≤i.n then 188 else if s.regs i.a.toNat < v.look then 189 else if 281474976710656 - v.now < s.regs i.a.toNat then 1800 else if 256≤s.sends.length then 1801 else 0
def doE (s:Sta)(v:Evi)(i:Ins):Int:=
 if i.op=2 then 184
 else if i.op=5∨i.op=6 then(if s.regs i.b.toNat < 0∨(s.cells.length:Int)≤s.regs i.b.toNat then 185 else 0)
 else if i.op=7 then(if s.regs i.b.toNat < 1 then 186 else if s.draws=1099511627776 then 187 else 0)
 else if i.op=8 then sendE s v i
 else if i.op < 32 then 0
 else xg_ (i.op - 32) (s.regs i.c.toNat)
def doS (s:Sta)(v:Evi)(i:Ins):Sta:=
 if doE s v i≠0 then s
 else if i.op=1 then { s with ended:=true }
 else if i.op=3 then s.put i.a.toNat i.n
 else if i.op=4 then s.put i.a.toNat (s.regs i.b.toNat)
 else if i.op=5 then s.put i.a.toNat (s.cells.getD (s.regs i.b.toNat).toNat 0)
 else if i.op=6 then { s with cells:=s.cells.set (s.regs i.b.toNat).toNat (s.regs i.a.toNat),at_:=s.at_+1 }
 else if i.op=7 then { s.put i.a.toNat (drawI v.seed v.process s.draws (s.regs i.b.toNat))with draws:=s.draws+1 }
 else if i.op=8 then { s with at_:=s.at_+1,sends:=s.sends++[⟨i.n,s.regs i.a.toNat,s.regs i.b.toNat⟩] }
 else if i.op=9 then { s with at_:=i.n }
 else if i.op=10 then { s with at_:=if s.regs i.a.toNat=0 then i.n else s.at_+1 }
 else if i.op=11 then { s with at_:=if s.regs i.a.toNat < 0 then i.n else s.at_+1 }
 else s.put i.a.toNat (applyV (i.op - 32) (s.regs i.b.toNat) (s.regs i.c.toNat))
def Ins0:Ins:=⟨0,0,0,0,0⟩
def insAt (p:List Ins)(k:Int):Ins:=p.getD k.toNat ⟨0,0,0,0,0⟩
def Evi.rightB (v:Evi):Bool:=decide (0≤v.process∧v.process≤65536∧0≤v.ports∧1≤v.look∧0≤v.now∧v.now≤281474976710656)
def Sta.rightB (s:Sta)(n:Int):Bool:=decide (0≤s.at_∧s.at_ < n∧(s.cells.length:Int)≤1024∧0≤s.draws∧s.draws≤1099511627776)
def openE (p:List Ins)(v:Evi)(s:Sta):Int:=
 if (y8_ p).2≠0 then 180 else if v.rightB=false then 181 else if s.rightB p.length=false then 182 else 0
def stepE (p:List Ins)(v:Evi)(s:Sta):Int:=if s.ended=true then 183 else doE s v (insAt p s.at_)
def stepS (p:List Ins)(v:Evi)(s:Sta):Sta:=if s.ended=true then s else doS s v (insAt p s.at_)
def zeroSt:Sta:=⟨0,false,fun _=>0,[],0,[]⟩
structure RI (x:Ins):Prop where
 ok:x.ok
 a:x.a < 8
 b:x.b < 8
 c:x.c < 8
 jmp:x.op=9∨x.op=10∨x.op=11→0≤x.n∧x.n < 256
 snd:x.op=8→0≤x.n∧x.n < 16
 cls:x.op=1∨x.op=2∨x.op=3∨x.op=4∨x.op=5∨x.op=6∨x.op=7∨x.op=8∨x.op=9∨x.op=10∨x.op=11∨(33≤x.op∧x.op≤49)
theorem ri_at {p:List Ins}(hok:∀x∈p,x.ok)(h:(y8_ p).2=0){k:Nat}(hk:k < p.length):RI (p.getD k ⟨0,0,0,0,0⟩):=by
 have R:=right_at hok h hk
 have hl:=(right_last' h).2.1
 refine⟨R.ok,R.a,R.b,R.c,fun hj=>?_,fun h8=>?_,R.cls⟩
 ·have ht:xj_ (p.getD k ⟨0,0,0,0,0⟩)=true:=by
   rw[targB_of R.one]
   rcases hj with e|e|e<;>simp only[e]<;>decide
  have:=R.targ ht
  unfold y7_ at this
  rw[if_pos ht]at this
  omega
 ·have h:=R.one
  unfold oneE at h
  have hf:xh_ (p.getD k ⟨0,0,0,0,0⟩).op=5:=by rw[h8];rfl
  rw[hf,if_neg (by decide)]at h
  have hc:xt_ 5 (p.getD k ⟨0,0,0,0,0⟩).a (p.getD k ⟨0,0,0,0,0⟩).b (p.getD k ⟨0,0,0,0,0⟩).c (p.getD k ⟨0,0,0,0,0⟩).n:=by
   by_cases q:xt_ 5 (p.getD k ⟨0,0,0,0,0⟩).a (p.getD k ⟨0,0,0,0,0⟩).b (p.getD k ⟨0,0,0,0,0⟩).c (p.getD k ⟨0,0,0,0,0⟩).n
   ·exact q
   ·rw[yv_ q]at h;cases h
  exact⟨hc.2.2.2.1,hc.2.2.2.2⟩
structure VOk (v:Evi):Prop where
 p0:0≤v.process
 p1:v.process≤65536
 t0:0≤v.now
 t1:v.now≤281474976710656
 o0:0≤v.ports
 l0:1≤v.look
structure SOk (s:Sta):Prop where
 a0:0≤s.at_
 a1:s.at_≤256
 d0:0≤s.draws
 d1:s.draws≤1099511627776
 c1:s.cells.length≤1024
 n1:s.sends.length≤1000000
theorem VOk.of {v:Evi}(h:v.rightB=true):VOk v:=by
 have:=of_decide_eq_true (show decide _=true from h)
 exact⟨by omega,by omega,by omega,by omega,by omega,by omega⟩
theorem doS_bad {s:Sta}{v:Evi}{x:Ins}(h:doE s v x≠0):doS s v x=s:=by unfold doS;rw[if_pos h]
end Go.Proofs.Ytjliakjbdcplcaa.Vm
end
section
namespace Go.Proofs.Ytjliakjbdcplcaa
open Go.ChangeShapes Go.WideShapes Go.ChangeAt Go.RowKit Go.Deep
theorem cell_lt17 {w:World}{p:Addr}{v:Value}(h:w.cell? p=some v):p.block < w.heap.size:=by
 rcases Nat.lt_or_ge p.block w.heap.size with hl|hg
 ·exact hl
 ·unfold World.cell? at h
  rw[Array.getElem?_eq_none hg]at h
  cases h
theorem zo_ {H:Type}{enc:TypeId×Value→H}{w:World}{base:Nat}{spare:Nat→Bool}{held:Bool}{n:Nat}{v:Value}{x:DataW H×List MemPlace}{t:TypeId}{k:IntKind}(ht:Try.prog.underlying t=some (.int k))(h:DataW.trod enc Try.prog w base spare held n t [v]=some x):∃a,v=.int k a∧(Lit.int k a).wf=true:=by
 obtain⟨a,e0,_,b⟩:=DataW.trod_int ht h
 exact⟨a,(List.cons.inj e0).1,b⟩
set_option maxRecDepth 100000 in
theorem open_small17s {H:Type}{enc:TypeId×Value→H}{w:World}{n:Nat}{v:Value}{x:DataW H×List MemPlace}(h:DataW.trod enc Try.prog w 0 (fun _=>true) true n 22 [v]=some x) :
  ∃A l c xs,v=.slice A l c∧l≤c∧c≤9223372036854775807∧(∀i∈xs,Ins.ok i)∧yh_ w w.heap.size 5 A l (insV xs):=by
 have h5:Try.prog.cellsOf 155=5:=by kernel_rfl
 have hc1:Try.prog.cellsOf 5=1:=by kernel_rfl
 have hc2:Try.prog.cellsOf 2=1:=by kernel_rfl
 rcases open_slice Try.underlying22 h with ⟨h0,_⟩|⟨a,len,cap,m,k,D,Pl,h0,_,hl,hm,hmm,_,hx⟩
 ·exact⟨none,0,0,[],(List.cons.inj h0).1,by omega,by omega,(fun _ h=>by cases h),yh_.none_⟩
 ·have hmc:m=cap:=hmm.trans (if_pos rfl)
  have each:∀i,i < len→∃y:Ins,y.ok∧∀j u,y.cells[j]? = some u→w.cell? (a.add (i*5+j))=some u:=by
   intro i hi
   obtain⟨cs',h1,h2⟩:=hx i (by omega)
   rw[h5]at h1
   obtain⟨_,hlen,hcell⟩:=World.cells?_some h1
   obtain⟨ys,q,_,_,_,hyl,hf⟩:=DataW.trod_struct Try.underlying155 h2
   match ys,hyl,cs',hlen with
   | [y0,y1,y2,y3,y4],_,[c0,c1,c2,c3,c4],_=>
    have g0:DataW.trod enc Try.prog w 0 (fun _=>true) true q 5 [c0]=some y0:=by simpa [hc1,hc2]using hf 0 _ rfl
    have g1:DataW.trod enc Try.prog w 0 (fun _=>true) true q 5 [c1]=some y1:=by simpa [hc1,hc2]using hf 1 _ rfl
    have g2:DataW.trod enc Try.prog w 0 (fun _=>true) true q 5 [c2]=some y2:=by simpa [hc1,hc2]using hf 2 _ rfl
    have g3:DataW.trod enc Try.prog w 0 (fun _=>true) true q 5 [c3]=some y3:=by simpa [hc1,hc2]using hf 3 _ rfl
    have g4:DataW.trod enc Try.prog w 0 (fun _=>true) true q 2 [c4]=some y4:=by simpa [hc1,hc2]using hf 4 _ rfl
    obtain⟨a0,rfl,b0⟩:=zo_ Try.underlying5 g0
    obtain⟨a1,rfl,b1⟩:=zo_ Try.underlying5 g1
    obtain⟨a2,rfl,b2⟩:=zo_ Try.underlying5 g2
    obtain⟨a3,rfl,b3⟩:=zo_ Try.underlying5 g3
    obtain⟨a4,rfl,b4⟩:=zo_ Try.underlying2 g4
    simp[Lit.wf,IntKind.min,IntKind.max,IntKind.signed,IntKind.bits]at b0 b1 b2 b3 b4
    refine⟨⟨a0,a1,a2,a3,a4⟩,⟨b0.1,b0.2,b1.1,b1.2,b2.1,b2.2,b3.1,b3.2,b4.1,b4.2⟩,fun j u hj=>?_⟩
    have hj5:j < 5:=(List.getElem?_eq_some_iff.1 hj).1
    have:=hcell j hj5
    rw[Vm.add_add]at this
    rw[this]
    exact hj
  have:Inhabited Ins:=⟨⟨0,0,0,0,0⟩⟩
  obtain⟨f,hf⟩:=choose_lt (n:=len) (p:=fun i (y:Ins)=>y.ok∧∀j u,y.cells[j]? = some u→w.cell? (a.add (i*5+j))=some u) each
  refine⟨some a,len,cap,(List.range len).map f,(List.cons.inj h0).1,hl,by unfold maxLen at hm;omega,fun i hi=>?_,by rw[insV_len];simp,fun hn=>⟨a,rfl,?_,fun j u hu=>?_⟩⟩
  ·obtain⟨q,hq,rfl⟩:=List.mem_map.1 hi
   exact(hf q (List.mem_range.1 hq)).1
  ·have:=cell_lt17 ((hf 0 hn).2 0 _ rfl)
   rwa [block_of_add]at this
  ·have hj:=(List.getElem?_eq_some_iff.1 hu).1
   rw[insV_len]at hj
   simp at hj
   obtain⟨q,r,hr5,rfl⟩:∃q r,r < 5∧j=q*5+r:=⟨j / 5,j % 5,by omega,by omega⟩
   have hq:q < len:=by omega
   refine(hf q hq).2 r u ?_
   have hfl:=flat_at Ins.cells 5 (fun _=>rfl) ((List.range len).map f) q r (f q) (by simp[hq]) hr5
   rw[←hfl]
   exact hu
theorem open_words19 {H:Type}{enc:TypeId×Value→H}{w:World}{base:Nat}{n:Nat}{v:Value}{x:DataW H×List MemPlace}(h:DataW.trod enc Try.prog w base (fun _=>true) true n 24 [v]=some x) :
  ∃A l c xs,v=.slice A l c∧l≤c∧c≤9223372036854775807∧yh_ w w.heap.size 1 A l (int64s xs):=by
 rcases open_slice1 Try.underlying24 (by kernel_rfl) h with ⟨h0,_⟩|⟨a,len,cap,m,k,V,D,Pl,h0,_,hl,hm,hmm,_,hx⟩
 ·exact⟨none,0,0,[],(List.cons.inj h0).1,by omega,by omega,yh_.none_⟩
 ·have hmc:m=cap:=hmm.trans (if_pos rfl)
  obtain ⟨f, hf⟩ := choose_lt (n := len) (p := fun i (z : Int) => V i = .int .i64 z) (fun i hi=>by
   obtain⟨z,hz,_⟩:=zo_ Try.underlying2 (hx i (by omega)).2
   exact⟨z,hz⟩)
  refine⟨some a,len,cap,(List.range len).map f,(List.cons.inj h0).1,hl,by unfold maxLen at hm;omega,by simp[int64s],fun hn=>⟨a,rfl,?_,fun j u hu=>?_⟩⟩
  ·have:=cell_lt17 (hx 0 (by omega)).1
   rwa [block_of_add]at this
  ·have hj:j < len:=by
    have:=(List.getElem?_eq_some_iff.1 hu).1
    simpa [int64s]using this
   rw[(hx j (by omega)).1,←hu,hf j hj]
   simp[int64s,hj]
structure S19 where
 xs:List Ins
 a:Int
 d:Int
 sn:Int
 time:Int
 source:Int
 value:Int
 fuel:Int
 rg:Nat→Int
 cs:List Int
 v:Vm.Evi
structure S19.ok (y:S19):Prop where
 x:∀i∈y.xs,i.ok
 a:0≤y.a∧y.a≤255
 d:0≤y.d∧y.d≤4294967295
 sn:0≤y.sn∧y.sn≤255
 time:0≤y.time∧y.time≤4294967295
 source:0≤y.source∧y.source≤255
 fuel:0≤y.fuel∧y.fuel≤65535
def S19.cells (y:S19)(A B:Value):Array Value:=#[A,.int .u8 y.a,.int .i64 (y.rg 0),.int .i64 (y.rg 1),.int .i64 (y.rg 2),.int .i64 (y.rg 3),.int .i64 (y.rg 4),.int .i64 (y.rg 5),.int .i64 (y.rg 6),.int .i64 (y.rg 7),B,.int .u32 y.d,.int .u8 y.sn,.int .u64 y.v.seed,.int .i64 y.v.process,.int .i64 y.v.ports,.int .i64 y.v.look,.int .i64 y.v.now,.int .u32 y.time,.int .u8 y.source,.int .i64 y.value,.int .u16 y.fuel]
set_option maxRecDepth 100000 in
set_option maxHeartbeats 2000000 in
theorem open_small19 {H:Type}{enc:TypeId×Value→H}{w:World}{b0:Nat}{r:Reach}{v:Value}{d:DataW H}{p:List MemPlace}(hv:Value.okWide Try.prog w r b0 33 v)(h:DataW.Trod enc Try.prog w 0 (fun _=>true) true 33 v d p) :
  ∃(y:S19) (A:Option Addr) (l c:Nat) (B:Option Addr) (l2 c2:Nat),v=.agg (y.cells (.slice A l c) (.slice B l2 c2))∧y.ok∧l≤c∧c≤9223372036854775807∧l2≤c2∧c2≤9223372036854775807∧yh_ w w.heap.size 5 A l (insV y.xs)∧yh_ w w.heap.size 1 B l2 (int64s y.cs):=by
 obtain⟨cs,rfl,hsz⟩:=okWide_struct Try.underlying33 hv
 obtain⟨l⟩:=cs
 have k0:Try.prog.cellsOf 33=22:=by kernel_rfl
 have k1:Try.prog.cellsOf 5=1:=by kernel_rfl
 have k2:Try.prog.cellsOf 23=8:=by kernel_rfl
 have k3:Try.prog.cellsOf 24=1:=by kernel_rfl
 have k4:Try.prog.cellsOf 25=1:=by kernel_rfl
 have k5:Try.prog.cellsOf 22=1:=by kernel_rfl
 have k6:Try.prog.cellsOf 27=12:=by kernel_rfl
 have k7:Try.prog.cellsOf 30=5:=by kernel_rfl
 have k8:Try.prog.cellsOf 28=1:=by kernel_rfl
 have k9:Try.prog.cellsOf 3=1:=by kernel_rfl
 have k10:Try.prog.cellsOf 2=1:=by kernel_rfl
 have k11:Try.prog.cellsOf 31=1:=by kernel_rfl
 match l,hsz.trans k0 with
 | [c0,c1,c2,c3,c4,c5,c6,c7,c8,c9,c10,c11,c12,c13,c14,c15,c16,c17,c18,c19,c20,c21],_=>
  obtain⟨fuel,hf⟩:=h
  obtain⟨xs,n,_,_,_,hlen,hg⟩:=DataW.trod_struct Try.underlying33 hf
  match xs,hlen with
  | [y0,y1,y2,y3,y4,y5,y6],_=>
   have g0:DataW.trod enc Try.prog w 0 (fun _=>true) true n 22 [c0]=some y0:=by simpa [Value.cells,k1,k2,k3,k4,k5,k6,k7,k8,k9,k10,k11]using hg 0 _ rfl
   have g1:DataW.trod enc Try.prog w 0 (fun _=>true) true n 27 [c1,c2,c3,c4,c5,c6,c7,c8,c9,c10,c11,c12]=some y1:=by simpa [Value.cells,k1,k2,k3,k4,k5,k6,k7,k8,k9,k10,k11]using hg 1 _ rfl
   have g2:DataW.trod enc Try.prog w 0 (fun _=>true) true n 30 [c13,c14,c15,c16,c17]=some y2:=by simpa [Value.cells,k1,k2,k3,k4,k5,k6,k7,k8,k9,k10,k11]using hg 2 _ rfl
   have g3:DataW.trod enc Try.prog w 0 (fun _=>true) true n 25 [c18]=some y3:=by simpa [Value.cells,k1,k2,k3,k4,k5,k6,k7,k8,k9,k10,k11]using hg 3 _ rfl
   have g4:DataW.trod enc Try.prog w 0 (fun _=>true) true n 5 [c19]=some y4:=by simpa [Value.cells,k1,k2,k3,k4,k5,k6,k7,k8,k9,k10,k11]using hg 4 _ rfl
   have g5:DataW.trod enc Try.prog w 0 (fun _=>true) true n 2 [c20]=some y5:=by simpa [Value.cells,k1,k2,k3,k4,k5,k6,k7,k8,k9,k10,k11]using hg 5 _ rfl
   have g6:DataW.trod enc Try.prog w 0 (fun _=>true) true n 31 [c21]=some y6:=by simpa [Value.cells,k1,k2,k3,k4,k5,k6,k7,k8,k9,k10,k11]using hg 6 _ rfl
   obtain⟨time,rfl,b3⟩:=zo_ Try.underlying25 g3
   obtain⟨source,rfl,b4⟩:=zo_ Try.underlying5 g4
   obtain⟨value,rfl,b5⟩:=zo_ Try.underlying2 g5
   obtain⟨fl,rfl,b6⟩:=zo_ Try.underlying31 g6
   obtain⟨A,l,c,zs,rfl,e1,e2,e3,e4⟩:=open_small17s g0
   obtain⟨us,n1,_,_,_,ulen,hu⟩:=DataW.trod_struct Try.underlying27 g1
   match us,ulen with
   | [u0,u1,u2,u3,u4],_=>
    have q0:DataW.trod enc Try.prog w 0 (fun _=>true) true n1 5 [c1]=some u0:=by simpa [Value.cells,k1,k2,k3,k4,k5,k6,k7,k8,k9,k10,k11]using hu 0 _ rfl
    have q1:DataW.trod enc Try.prog w 0 (fun _=>true) true n1 23 [c2,c3,c4,c5,c6,c7,c8,c9]=some u1:=by simpa [Value.cells,k1,k2,k3,k4,k5,k6,k7,k8,k9,k10,k11]using hu 1 _ rfl
    have q2:DataW.trod enc Try.prog w 0 (fun _=>true) true n1 24 [c10]=some u2:=by simpa [Value.cells,k1,k2,k3,k4,k5,k6,k7,k8,k9,k10,k11]using hu 2 _ rfl
    have q3:DataW.trod enc Try.prog w 0 (fun _=>true) true n1 25 [c11]=some u3:=by simpa [Value.cells,k1,k2,k3,k4,k5,k6,k7,k8,k9,k10,k11]using hu 3 _ rfl
    have q4:DataW.trod enc Try.prog w 0 (fun _=>true) true n1 5 [c12]=some u4:=by simpa [Value.cells,k1,k2,k3,k4,k5,k6,k7,k8,k9,k10,k11]using hu 4 _ rfl
    obtain⟨a0,rfl,d0⟩:=zo_ Try.underlying5 q0
    obtain⟨a3,rfl,d3⟩:=zo_ Try.underlying25 q3
    obtain⟨a4,rfl,d4⟩:=zo_ Try.underlying5 q4
    obtain⟨B,l2,c2',ys,rfl,f1,f2,f3⟩:=open_words19 q2
    obtain⟨ts,k,_,_,_,tlen,ht⟩:=DataW.trod_array Try.underlying23 q1
    match ts,tlen with
    | [t0,t1,t2,t3,t4,t5,t6,t7],_=>
     have v0:DataW.trod enc Try.prog w 0 (fun _=>true) true k 2 [c2]=some t0:=by simpa [k10]using ht 0 (by decide)
     obtain⟨r0,rfl,s0⟩:=zo_ Try.underlying2 v0
     have v1:DataW.trod enc Try.prog w 0 (fun _=>true) true k 2 [c3]=some t1:=by simpa [k10]using ht 1 (by decide)
     obtain⟨r1,rfl,s1⟩:=zo_ Try.underlying2 v1
     have v2:DataW.trod enc Try.prog w 0 (fun _=>true) true k 2 [c4]=some t2:=by simpa [k10]using ht 2 (by decide)
     obtain⟨r2,rfl,s2⟩:=zo_ Try.underlying2 v2
     have v3:DataW.trod enc Try.prog w 0 (fun _=>true) true k 2 [c5]=some t3:=by simpa [k10]using ht 3 (by decide)
     obtain⟨r3,rfl,s3⟩:=zo_ Try.underlying2 v3
     have v4:DataW.trod enc Try.prog w 0 (fun _=>true) true k 2 [c6]=some t4:=by simpa [k10]using ht 4 (by decide)
     obtain⟨r4,rfl,s4⟩:=zo_ Try.underlying2 v4
     have v5:DataW.trod enc Try.prog w 0 (fun _=>true) true k 2 [c7]=some t5:=by simpa [k10]using ht 5 (by decide)
     obtain⟨r5,rfl,s5⟩:=zo_ Try.underlying2 v5
     have v6:DataW.trod enc Try.prog w 0 (fun _=>true) true k 2 [c8]=some t6:=by simpa [k10]using ht 6 (by decide)
     obtain⟨r6,rfl,s6⟩:=zo_ Try.underlying2 v6
     have v7:DataW.trod enc Try.prog w 0 (fun _=>true) true k 2 [c9]=some t7:=by simpa [k10]using ht 7 (by decide)
     obtain⟨r7,rfl,s7⟩:=zo_ Try.underlying2 v7
     obtain⟨vs,n2,_,_,_,vlen,hvv⟩:=DataW.trod_struct Try.underlying30 g2
     match vs,vlen with
     | [w0,w1,w2,w3,w4],_=>
      have p0:DataW.trod enc Try.prog w 0 (fun _=>true) true n2 28 [c13]=some w0:=by simpa [Value.cells,k1,k2,k3,k4,k5,k6,k7,k8,k9,k10,k11]using hvv 0 _ rfl
      obtain⟨o0,rfl,_⟩:=zo_ Try.underlying28 p0
      have p1:DataW.trod enc Try.prog w 0 (fun _=>true) true n2 3 [c14]=some w1:=by simpa [Value.cells,k1,k2,k3,k4,k5,k6,k7,k8,k9,k10,k11]using hvv 1 _ rfl
      obtain⟨o1,rfl,_⟩:=zo_ Try.underlying3 p1
      have p2:DataW.trod enc Try.prog w 0 (fun _=>true) true n2 3 [c15]=some w2:=by simpa [Value.cells,k1,k2,k3,k4,k5,k6,k7,k8,k9,k10,k11]using hvv 2 _ rfl
      obtain⟨o2,rfl,_⟩:=zo_ Try.underlying3 p2
      have p3:DataW.trod enc Try.prog w 0 (fun _=>true) true n2 3 [c16]=some w3:=by simpa [Value.cells,k1,k2,k3,k4,k5,k6,k7,k8,k9,k10,k11]using hvv 3 _ rfl
      obtain⟨o3,rfl,_⟩:=zo_ Try.underlying3 p3
      have p4:DataW.trod enc Try.prog w 0 (fun _=>true) true n2 3 [c17]=some w4:=by simpa [Value.cells,k1,k2,k3,k4,k5,k6,k7,k8,k9,k10,k11]using hvv 4 _ rfl
      obtain⟨o4,rfl,_⟩:=zo_ Try.underlying3 p4
      simp[Lit.wf,IntKind.min,IntKind.max,IntKind.signed,IntKind.bits]at b3 b4 b6 d0 d3 d4
      exact⟨⟨zs,a0,a3,a4,time,source,value,fl,fun j=>match j with | 0=>r0 | 1=>r1 | 2=>r2 | 3=>r3 | 4=>r4 | 5=>r5 | 6=>r6|_=>r7,ys,⟨o0,o1,o2,o3,o4⟩⟩,A,l,c,B,l2,c2',rfl,⟨e3,d0,d3,d4,b3,b4,b6⟩,e1,e2,f1,f2,e4,f3⟩
namespace Vm
theorem den_s19 {β : Env}(y:S19)(p1 p2:Nat):(SV.agg [.sl 1 2 [] 5 0 y.xs.length (some p1),.agg [.int .u8 y.a,.arr 8 1 (fun q=>.int .i64 (y.rg q)),.sl 3 4 [] 1 0 y.cs.length (some p2),.int .u32 y.d,.int .u8 y.sn],.agg [.int .u64 y.v.seed,.int .i64 y.v.process,.int .i64 y.v.ports,.int .i64 y.v.look,.int .i64 y.v.now],.int .u32 y.time,.int .u8 y.source,.int .i64 y.value,.int .u16 y.fuel]).den β = .agg (y.cells ((SV.sl 1 2 [] 5 0 y.xs.length (some p1)).den β) ((SV.sl 3 4 [] 1 0 y.cs.length (some p2)).den β)):=by
 rw[den_agg rfl,cl_agg]
 have h8:(SV.arr 8 1 (fun q=>.int .i64 (y.rg q))).cl β = int64s (ls iOf 8 (fun q=>.int .i64 (y.rg q))):=by rw[cl_arr',elems_i64 (fun q _=>rfl)]
 simp only[yf_,clL_nil,cl_agg,h8]
 rfl
end Vm
namespace Vm
theorem law_of_lit17 {f:FuncId}{args:List SV}{L0 L1:List HB}{W:World}{β : Env}(H:yc_ Try.prog f args L0 (.bool true) L1)(R:Rep W (fun _=>False) β (hp L0) W) :
  Calls Try.prog f (denL β args).toArray W fun e W'=>e=.returned (.bool true)∧Below W.heap.size W W':=
 (H W _ β W R).mono fun e W' ⟨β',_,R',_,he⟩=>⟨he,R'.os,R'.tape,R'.output,R'.size,fun k hk=>R'.frame k hk id⟩
end Vm
end Go.Proofs.Ytjliakjbdcplcaa
end
section
namespace Go.Proofs.Ytjliakjbdcplcaa.Vm
open Go.RowKit
section
variable {P:Program} {T:Tab} {C:FuncId→Option yr_} {w0:World} {M:Nat→Prop} {E:Env} {n0 N n:Nat} {D:List Deferred} {φ φ2 φ':Fr} {L L2 L':List HB} {Q:Exit→Act→World→Prop} {ro:Option Nat} {K:Act→World→Prop}
theorem At.runEnd (hC:∀f S,C f=some S→zh_ P f S)(hT:TabOk P T){ops:Array Oper}{k len:Nat}{l:List Oper}{c:Prop}{rs:List Rc}(hd:xa_ ops.toList=true)(hl:(ops.toList.drop k).take len=l)(hlen:l.length=len)(hr:runR T C N ops.toList φ L l=some (c,rs,φ',L'))(hc:c)
  (h:At w0 M E n0 N D φ' L' (Q .normal)):At w0 M E n0 N D φ L (wpOpsIn (FR ro) n P ops Q (List.range' k len)):=by
 have:=At.run (ro:=ro) (n:=n) (rest:=[]) hC hT hd hl hlen hr hc h
 rwa [List.append_nil]at this
theorem At.code {c:Code}(h:WF ro n P c w0 M E n0 N D φ L Q):At w0 M E n0 N D φ L (c.wpIn (FR ro) n P Q):=h
theorem At.thenNormal (h:At w0 M E n0 N D φ L K):At w0 M E n0 N D φ L (Exit.then K Q .normal):=h
theorem At.thenRet (h:At w0 M E n0 N D φ L (Q .ret)):At w0 M E n0 N D φ L (Exit.then K Q .ret):=h
theorem At.thenExit {j:Nat}(h:At w0 M E n0 N D φ L (Q (.exit j))):At w0 M E n0 N D φ L (Exit.then K Q (.exit j)):=h
theorem At.thenGoto {j:Nat}(h:At w0 M E n0 N D φ L (Q (.goto j))):At w0 M E n0 N D φ L (Exit.then K Q (.goto j)):=h
theorem At.inNormal {id:Nat}(h:At w0 M E n0 N D φ L (Q .normal)):At w0 M E n0 N D φ L (Exit.inBlock id Q .normal):=h
theorem At.inRet {id:Nat}(h:At w0 M E n0 N D φ L (Q .ret)):At w0 M E n0 N D φ L (Exit.inBlock id Q .ret):=h
theorem At.inGoto {id j:Nat}(h:At w0 M E n0 N D φ L (Q (.goto j))):At w0 M E n0 N D φ L (Exit.inBlock id Q (.goto j)):=h
theorem At.inHit {id:Nat}(h:At w0 M E n0 N D φ L (Q .normal)):At w0 M E n0 N D φ L (Exit.inBlock id Q (.exit id)):=fun a w hS=>by
 show (if id=id then Q .normal a w else Q (.exit id) a w)
 rw[if_pos rfl]
 exact h a w hS
theorem At.inMiss {id j:Nat}(hn:Nat.beq j id=false)(h:At w0 M E n0 N D φ L (Q (.exit j))):At w0 M E n0 N D φ L (Exit.inBlock id Q (.exit j)):=fun a w hS=>by
 show (if j=id then Q .normal a w else Q (.exit j) a w)
 rw[if_neg (fun e=>by rw[e]at hn;simp at hn)]
 exact h a w hS
theorem At.noGotoNormal (h:At w0 M E n0 N D φ L (Q .normal)):At w0 M E n0 N D φ L (Exit.noGoto Q .normal):=h
theorem At.noGotoRet (h:At w0 M E n0 N D φ L (Q .ret)):At w0 M E n0 N D φ L (Exit.noGoto Q .ret):=h
theorem At.noGotoExit {j:Nat}(h:At w0 M E n0 N D φ L (Q (.exit j))):At w0 M E n0 N D φ L (Exit.noGoto Q (.exit j)):=h
theorem WF.scope {c:Code}(h:WF none n P c w0 M E n0 N D φ L (Exit.noGoto Q)):WF none n P (.scope c) w0 M E n0 N D φ L Q:=fun a w hS=>by
 have h1:c.wp P (Exit.noGoto Q) a w:=wpIn_wide.1 (h a w hS)
 exact wpIn_wide.2 (wp_scope_straight h1)
theorem WF.seqJoin {α : Type}(p:α→Prop)(φi:α→Fr)(Li:α→List HB){x y:Code}(hx:WF ro n P x w0 M E n0 N D φ L (Exit.then (fun a w=>∃z,p z∧St w0 M E n0 N D (φi z) (Li z) a w) Q))(hy:∀z,p z→WF ro n P y w0 M E n0 N D (φi z) (Li z) Q):WF ro n P (.seq x y) w0 M E n0 N D φ L Q:=fun a w hS=>by
 refine wpIn_seq (wpIn_mono (hx a w hS) fun e a' w' hq=>?_)
 cases e<;>try exact hq
 obtain⟨z,hz,hS'⟩:=hq
 exact hy z hz a' w' hS'
theorem At.join {α : Type}{p:α→Prop}{φi:α→Fr}{Li:α→List HB}(z:α)(hz:p z)(hφ : SubF φ (φi z))(hL:LessL L (Li z))(h0:hp (Li z) 0=.gone)(hs:yk_ (hp (Li z)) (Li z))(hf:StableF (hp (Li z)) (φi z))(hb:bornTo n0 (Li z)=true):At w0 M E n0 N D φ L (fun a w=>∃z,p z∧St w0 M E n0 N D (φi z) (Li z) a w):=
 fun a w hS=>⟨z,hz,hS.sub hφ hL h0 hs hf hb⟩
open Classical in
theorem WF.loop0 {α : Type}(p:α→Prop)(φi:α→Fr)(Li:α→List HB)(μ : α→Nat){c:Code}(x0:α)(h0:p x0)
  (step:∀x,p x→WF ro n P c w0 M E n0 N D (φi x) (Li x) (Exit.then (fun a w=>∃y,(p y∧μ y < μ x)∧St w0 M E n0 N D (φi y) (Li y) a w) Q)):WF ro n P (.loop c) w0 M E n0 N D (φi x0) (Li x0) Q:=by
 intro a w hS
 let I:Act→World→Prop:=fun a w=>∃x,p x∧St w0 M E n0 N D (φi x) (Li x) a w
 let pm:Act→World→Nat→Prop:=fun a w k=>∃x,p x∧St w0 M E n0 N D (φi x) (Li x) a w∧μ x=k
 have hex:∀a w,I a w→∃k,pm a w k:=fun a w ⟨x,h1,h2⟩=>⟨μ x,x,h1,h2,rfl⟩
 let m:Act→World→Nat:=fun a w=>if h:I a w then Classical.choose (least (hex a w h))else 0
 have hm:∀a w (h:I a w),pm a w (m a w)∧∀k,pm a w k→m a w≤k:=fun a w h=>by
  have:=Classical.choose_spec (least (hex a w h))
  simp only[m,h,dif_pos]
  exact this
 refine wpIn_loop I m ⟨x0,h0,hS⟩ fun a w hI=>?_
 obtain⟨⟨x,hx,hSx,hμ⟩,hmin⟩:=hm a w hI
 refine wpIn_mono (step x hx a w hSx) fun e a' w' hq=>?_
 cases e<;>try exact hq
 obtain⟨y,⟨hy,hlt⟩,hSy⟩:=hq
 refine⟨⟨y,hy,hSy⟩,?_⟩
 have:=(hm a' w' ⟨y,hy,hSy⟩).2 (μ y) ⟨y,hy,hSy,rfl⟩
 omega
theorem WF.loopAt {α : Type}(p:α→Prop)(φi:α→Fr)(Li:α→List HB)(μ : α→Nat){c:Code}(x0:α)(h0:p x0)
  (hφ : SubF φ (φi x0)) (hL:LessL L (Li x0)) (hz:hp (Li x0) 0=.gone) (hs:yk_ (hp (Li x0)) (Li x0)) (hf:StableF (hp (Li x0)) (φi x0)) (hb:bornTo n0 (Li x0)=true)
  (step:∀x,p x→WF ro n P c w0 M E n0 N D (φi x) (Li x) (Exit.then (fun a w=>∃y,(p y∧μ y < μ x)∧St w0 M E n0 N D (φi y) (Li y) a w) Q)):WF ro n P (.loop c) w0 M E n0 N D φ L Q:=
 WF.sub hφ hL hz hs hf hb (WF.loop0 p φi Li μ x0 h0 step)
theorem At.next {α : Type}{p:α→Prop}{φi:α→Fr}{Li:α→List HB}(y:α)(hy:p y)(hφ : SubF φ (φi y))(hL:LessL L (Li y))(h0:hp (Li y) 0=.gone)(hs:yk_ (hp (Li y)) (Li y))(hf:StableF (hp (Li y)) (φi y))(hb:bornTo n0 (Li y)=true):At w0 M E n0 N D φ L (fun a w=>∃y,p y∧St w0 M E n0 N D (φi y) (Li y) a w):=
 fun a w hS=>⟨y,hy,hS.sub hφ hL h0 hs hf hb⟩
theorem At.endsRet (hT:TabOk P T){fn:Func}{c:Prop}{vs:List SV}{v:SV}{rs:List ResultVar}{L0:List HB}{w1:World}{M1:Nat→Prop}{D1:List Deferred}(A:Anc w0 M [] w1 M1 D1)(hro:RoOk w0 M E L0)(hL0:L0.length≤n0)(hrs:fn.results.toList=rs)(hr:resV T φ (hp L) rs=some (c,vs))(hc:c)(hL:LessL L L2)(h0:hp L2 0=.gone)(hs:yk_ (hp L2) L2)(hsub:RoSub L L0)(hv:∀β,(resS vs).den β = v.den β)(hst:Stable (hp L2) v) :
  At w1 M1 E n0 N D1 φ L (EndsM n P fn w0 M E n0 v L2 .ret):=At.endsM hT A hro hL0 hrs hr hc hL h0 hs hsub hv hst
end
end Go.Proofs.Ytjliakjbdcplcaa.Vm
end
section
namespace Go.Proofs.Ytjliakjbdcplcaa.Vm
open Go.RowKit
set_option linter.defProp false
def J22:=@WF.region
def J23:=@WF.drawn
def J24:=fun (_:(0:Nat)=0)=>@WF.cond
theorem hy_ {P:Prop}(h:P:=by exfalso;omega):P:=h
def JH:=And.intro @Bool.not_eq_true' (And.intro @Bool.not_eq_false' (And.intro @decide_eq_true_eq (And.intro @decide_eq_false_iff_not (And.intro @Bool.and_eq_true @Bool.or_eq_true))))
def JP:=And.intro @Int.cast_ofNat_Int (And.intro @ofV_m1 @ofV_min)
def JS:=And.intro @and_self (And.intro @true_and (And.intro @and_true (And.intro @false_implies (And.intro @true_implies (And.intro @Bool.not_eq_true' @imp_self)))))
theorem fol:Try.prog.follows .mixedOrders=true:=by kernel_rfl
def c0:FuncId→Option yr_:=xb_ []
theorem c1_ok:∀f S,c0 f=some S→zh_ Try.prog f S:=fun f S h=>by cases h
class Ctl (Q:Prop) (P:outParam Prop):Prop where
 h:P→Q
class NeB (j k:Nat):Prop where
 h:Nat.beq j k=false
instance {k:Nat}:NeB 0 (k+1):=⟨rfl⟩
instance {k:Nat}:NeB (k+1) 0:=⟨rfl⟩
instance {j k:Nat}[h:NeB j k]:NeB (j+1) (k+1):=⟨h.h⟩
section
variable {P:Program} {w0:World} {M:Nat→Prop} {E:Env} {n0 N n:Nat} {D:List Deferred} {φ : Fr} {L:List HB} {Q:Exit→Act→World→Prop} {ro:Option Nat} {K:Act→World→Prop}
instance {x y:Code}:Ctl (WF ro n P (.seq x y) w0 M E n0 N D φ L Q) (WF ro n P x w0 M E n0 N D φ L (Exit.then (y.wpIn (FR ro) n P Q) Q)):=⟨WF.seq⟩
instance {c:Code}:Ctl (At w0 M E n0 N D φ L (c.wpIn (FR ro) n P Q)) (WF ro n P c w0 M E n0 N D φ L Q):=⟨At.code⟩
instance:Ctl (At w0 M E n0 N D φ L (Exit.then K Q .normal)) (At w0 M E n0 N D φ L K):=⟨At.thenNormal⟩
instance:Ctl (At w0 M E n0 N D φ L (Exit.then K Q .ret)) (At w0 M E n0 N D φ L (Q .ret)):=⟨At.thenRet⟩
instance {j:Nat}:Ctl (At w0 M E n0 N D φ L (Exit.then K Q (.exit j))) (At w0 M E n0 N D φ L (Q (.exit j))):=⟨At.thenExit⟩
instance {j:Nat}:Ctl (At w0 M E n0 N D φ L (Exit.then K Q (.goto j))) (At w0 M E n0 N D φ L (Q (.goto j))):=⟨At.thenGoto⟩
instance {id:Nat}:Ctl (At w0 M E n0 N D φ L (Exit.inBlock id Q .normal)) (At w0 M E n0 N D φ L (Q .normal)):=⟨At.inNormal⟩
instance {id:Nat}:Ctl (At w0 M E n0 N D φ L (Exit.inBlock id Q .ret)) (At w0 M E n0 N D φ L (Q .ret)):=⟨At.inRet⟩
instance {id j:Nat}:Ctl (At w0 M E n0 N D φ L (Exit.inBlock id Q (.goto j))) (At w0 M E n0 N D φ L (Q (.goto j))):=⟨At.inGoto⟩
instance {id:Nat}:Ctl (At w0 M E n0 N D φ L (Exit.inBlock id Q (.exit id))) (At w0 M E n0 N D φ L (Q .normal)):=⟨At.inHit⟩
instance:Ctl (At w0 M E n0 N D φ L (Exit.noGoto Q .normal)) (At w0 M E n0 N D φ L (Q .normal)):=⟨At.noGotoNormal⟩
instance:Ctl (At w0 M E n0 N D φ L (Exit.noGoto Q .ret)) (At w0 M E n0 N D φ L (Q .ret)):=⟨At.noGotoRet⟩
instance {j:Nat}:Ctl (At w0 M E n0 N D φ L (Exit.noGoto Q (.exit j))) (At w0 M E n0 N D φ L (Q (.exit j))):=⟨At.noGotoExit⟩
instance:Ctl (WF ro n P .skip w0 M E n0 N D φ L Q) (At w0 M E n0 N D φ L (Q .normal)):=⟨WF.skip⟩
instance:Ctl (WF ro n P .ret w0 M E n0 N D φ L Q) (At w0 M E n0 N D φ L (Q .ret)):=⟨WF.ret⟩
instance {id:Nat}:Ctl (WF ro n P (.exit id) w0 M E n0 N D φ L Q) (At w0 M E n0 N D φ L (Q (.exit id))):=⟨WF.exit⟩
instance {id:Nat}:Ctl (WF ro n P (.goto id) w0 M E n0 N D φ L Q) (At w0 M E n0 N D φ L (Q (.goto id))):=⟨WF.goto⟩
instance {id:Nat}:Ctl (WF ro n P (.label id) w0 M E n0 N D φ L Q) (At w0 M E n0 N D φ L (Q .normal)):=⟨WF.label⟩
instance {id:Nat}{c:Code}:Ctl (WF ro n P (.block id c) w0 M E n0 N D φ L Q) (WF ro n P c w0 M E n0 N D φ L (Exit.inBlock id Q)):=⟨WF.block⟩
instance {c:Code}:Ctl (WF none n P (.scope c) w0 M E n0 N D φ L Q) (WF none n P c w0 M E n0 N D φ L (Exit.noGoto Q)):=⟨WF.scope⟩
instance {id j:Nat}[h:NeB j id]:Ctl (At w0 M E n0 N D φ L (Exit.inBlock id Q (.exit j))) (At w0 M E n0 N D φ L (Q (.exit j))):=⟨At.inMiss h.h⟩
end
end Go.Proofs.Ytjliakjbdcplcaa.Vm
end
