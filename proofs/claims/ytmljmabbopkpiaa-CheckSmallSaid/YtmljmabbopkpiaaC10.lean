import Derived.Test.YtmljmabbopkpiaaC1
import Derived.Test.YtmljmabbopkpiaaProg
set_option linter.unusedSimpArgs false
set_option linter.unusedVariables false
section
namespace Go.Proofs.Ytmljmabbopkpiaa
open Go.RowKit
theorem formC_none (op:Int)(h:op < 1∨11 < op∧op≤32∨49 < op):formC op=0:=by
 unfold formC
 rw[if_neg (by omega),if_neg (by omega),if_neg (by omega),if_neg (by omega),if_neg (by omega),if_neg (by omega),if_neg (by omega)]
theorem formIx0 (w:World):(Instr.index 171 (.agg #[.int .u8 1,.string ⟨#[]⟩,.int .u8 2,.string ⟨#[]⟩,.int .u8 3,.string ⟨#[114,110]⟩,.int .u8 4,.string ⟨#[114,114]⟩,.int .u8 5,.string ⟨#[114,114]⟩,.int .u8 6,.string ⟨#[114,114]⟩,.int .u8 7,.string ⟨#[114,114]⟩,.int .u8 8,.string ⟨#[114,114,112]⟩,.int .u8 9,.string ⟨#[116]⟩,.int .u8 10,.string ⟨#[114,116]⟩,.int .u8 11,.string ⟨#[114,116]⟩]) (.int .i64 0)).run Try.prog w=.ok (.agg #[.int .u8 1,.string ⟨#[]⟩]) w:=by kernel_rfl
theorem formIx1 (w:World):(Instr.index 171 (.agg #[.int .u8 1,.string ⟨#[]⟩,.int .u8 2,.string ⟨#[]⟩,.int .u8 3,.string ⟨#[114,110]⟩,.int .u8 4,.string ⟨#[114,114]⟩,.int .u8 5,.string ⟨#[114,114]⟩,.int .u8 6,.string ⟨#[114,114]⟩,.int .u8 7,.string ⟨#[114,114]⟩,.int .u8 8,.string ⟨#[114,114,112]⟩,.int .u8 9,.string ⟨#[116]⟩,.int .u8 10,.string ⟨#[114,116]⟩,.int .u8 11,.string ⟨#[114,116]⟩]) (.int .i64 1)).run Try.prog w=.ok (.agg #[.int .u8 2,.string ⟨#[]⟩]) w:=by kernel_rfl
theorem formIx2 (w:World):(Instr.index 171 (.agg #[.int .u8 1,.string ⟨#[]⟩,.int .u8 2,.string ⟨#[]⟩,.int .u8 3,.string ⟨#[114,110]⟩,.int .u8 4,.string ⟨#[114,114]⟩,.int .u8 5,.string ⟨#[114,114]⟩,.int .u8 6,.string ⟨#[114,114]⟩,.int .u8 7,.string ⟨#[114,114]⟩,.int .u8 8,.string ⟨#[114,114,112]⟩,.int .u8 9,.string ⟨#[116]⟩,.int .u8 10,.string ⟨#[114,116]⟩,.int .u8 11,.string ⟨#[114,116]⟩]) (.int .i64 2)).run Try.prog w=.ok (.agg #[.int .u8 3,.string ⟨#[114,110]⟩]) w:=by kernel_rfl
theorem formIx3 (w:World):(Instr.index 171 (.agg #[.int .u8 1,.string ⟨#[]⟩,.int .u8 2,.string ⟨#[]⟩,.int .u8 3,.string ⟨#[114,110]⟩,.int .u8 4,.string ⟨#[114,114]⟩,.int .u8 5,.string ⟨#[114,114]⟩,.int .u8 6,.string ⟨#[114,114]⟩,.int .u8 7,.string ⟨#[114,114]⟩,.int .u8 8,.string ⟨#[114,114,112]⟩,.int .u8 9,.string ⟨#[116]⟩,.int .u8 10,.string ⟨#[114,116]⟩,.int .u8 11,.string ⟨#[114,116]⟩]) (.int .i64 3)).run Try.prog w=.ok (.agg #[.int .u8 4,.string ⟨#[114,114]⟩]) w:=by kernel_rfl
theorem formIx4 (w:World):(Instr.index 171 (.agg #[.int .u8 1,.string ⟨#[]⟩,.int .u8 2,.string ⟨#[]⟩,.int .u8 3,.string ⟨#[114,110]⟩,.int .u8 4,.string ⟨#[114,114]⟩,.int .u8 5,.string ⟨#[114,114]⟩,.int .u8 6,.string ⟨#[114,114]⟩,.int .u8 7,.string ⟨#[114,114]⟩,.int .u8 8,.string ⟨#[114,114,112]⟩,.int .u8 9,.string ⟨#[116]⟩,.int .u8 10,.string ⟨#[114,116]⟩,.int .u8 11,.string ⟨#[114,116]⟩]) (.int .i64 4)).run Try.prog w=.ok (.agg #[.int .u8 5,.string ⟨#[114,114]⟩]) w:=by kernel_rfl
theorem formIx5 (w:World):(Instr.index 171 (.agg #[.int .u8 1,.string ⟨#[]⟩,.int .u8 2,.string ⟨#[]⟩,.int .u8 3,.string ⟨#[114,110]⟩,.int .u8 4,.string ⟨#[114,114]⟩,.int .u8 5,.string ⟨#[114,114]⟩,.int .u8 6,.string ⟨#[114,114]⟩,.int .u8 7,.string ⟨#[114,114]⟩,.int .u8 8,.string ⟨#[114,114,112]⟩,.int .u8 9,.string ⟨#[116]⟩,.int .u8 10,.string ⟨#[114,116]⟩,.int .u8 11,.string ⟨#[114,116]⟩]) (.int .i64 5)).run Try.prog w=.ok (.agg #[.int .u8 6,.string ⟨#[114,114]⟩]) w:=by kernel_rfl
theorem formIx6 (w:World):(Instr.index 171 (.agg #[.int .u8 1,.string ⟨#[]⟩,.int .u8 2,.string ⟨#[]⟩,.int .u8 3,.string ⟨#[114,110]⟩,.int .u8 4,.string ⟨#[114,114]⟩,.int .u8 5,.string ⟨#[114,114]⟩,.int .u8 6,.string ⟨#[114,114]⟩,.int .u8 7,.string ⟨#[114,114]⟩,.int .u8 8,.string ⟨#[114,114,112]⟩,.int .u8 9,.string ⟨#[116]⟩,.int .u8 10,.string ⟨#[114,116]⟩,.int .u8 11,.string ⟨#[114,116]⟩]) (.int .i64 6)).run Try.prog w=.ok (.agg #[.int .u8 7,.string ⟨#[114,114]⟩]) w:=by kernel_rfl
theorem formIx7 (w:World):(Instr.index 171 (.agg #[.int .u8 1,.string ⟨#[]⟩,.int .u8 2,.string ⟨#[]⟩,.int .u8 3,.string ⟨#[114,110]⟩,.int .u8 4,.string ⟨#[114,114]⟩,.int .u8 5,.string ⟨#[114,114]⟩,.int .u8 6,.string ⟨#[114,114]⟩,.int .u8 7,.string ⟨#[114,114]⟩,.int .u8 8,.string ⟨#[114,114,112]⟩,.int .u8 9,.string ⟨#[116]⟩,.int .u8 10,.string ⟨#[114,116]⟩,.int .u8 11,.string ⟨#[114,116]⟩]) (.int .i64 7)).run Try.prog w=.ok (.agg #[.int .u8 8,.string ⟨#[114,114,112]⟩]) w:=by kernel_rfl
theorem formIx8 (w:World):(Instr.index 171 (.agg #[.int .u8 1,.string ⟨#[]⟩,.int .u8 2,.string ⟨#[]⟩,.int .u8 3,.string ⟨#[114,110]⟩,.int .u8 4,.string ⟨#[114,114]⟩,.int .u8 5,.string ⟨#[114,114]⟩,.int .u8 6,.string ⟨#[114,114]⟩,.int .u8 7,.string ⟨#[114,114]⟩,.int .u8 8,.string ⟨#[114,114,112]⟩,.int .u8 9,.string ⟨#[116]⟩,.int .u8 10,.string ⟨#[114,116]⟩,.int .u8 11,.string ⟨#[114,116]⟩]) (.int .i64 8)).run Try.prog w=.ok (.agg #[.int .u8 9,.string ⟨#[116]⟩]) w:=by kernel_rfl
theorem formIx9 (w:World):(Instr.index 171 (.agg #[.int .u8 1,.string ⟨#[]⟩,.int .u8 2,.string ⟨#[]⟩,.int .u8 3,.string ⟨#[114,110]⟩,.int .u8 4,.string ⟨#[114,114]⟩,.int .u8 5,.string ⟨#[114,114]⟩,.int .u8 6,.string ⟨#[114,114]⟩,.int .u8 7,.string ⟨#[114,114]⟩,.int .u8 8,.string ⟨#[114,114,112]⟩,.int .u8 9,.string ⟨#[116]⟩,.int .u8 10,.string ⟨#[114,116]⟩,.int .u8 11,.string ⟨#[114,116]⟩]) (.int .i64 9)).run Try.prog w=.ok (.agg #[.int .u8 10,.string ⟨#[114,116]⟩]) w:=by kernel_rfl
theorem formIx10 (w:World):(Instr.index 171 (.agg #[.int .u8 1,.string ⟨#[]⟩,.int .u8 2,.string ⟨#[]⟩,.int .u8 3,.string ⟨#[114,110]⟩,.int .u8 4,.string ⟨#[114,114]⟩,.int .u8 5,.string ⟨#[114,114]⟩,.int .u8 6,.string ⟨#[114,114]⟩,.int .u8 7,.string ⟨#[114,114]⟩,.int .u8 8,.string ⟨#[114,114,112]⟩,.int .u8 9,.string ⟨#[116]⟩,.int .u8 10,.string ⟨#[114,116]⟩,.int .u8 11,.string ⟨#[114,116]⟩]) (.int .i64 10)).run Try.prog w=.ok (.agg #[.int .u8 11,.string ⟨#[114,116]⟩]) w:=by kernel_rfl
theorem form_rrr (op:Int)(w:World)(h0:32 < op)(h1:op≤49)  :
  Calls Try.prog 39 #[.int .u8 op] w fun e w'=>e=.returned (.tuple #[.string ⟨#[114,114,114]⟩,.bool true])∧Below w.heap.size w w':=by
 go_enter Try.func39,Try.ntmps39
 go_wp2
 go_ret2
 exact⟨rfl,Below.refl _ _⟩
set_option maxRecDepth 100000 in
set_option maxHeartbeats 4000000 in
theorem form_lo (op:Int)(w:World)(h0:0≤op)(h1:op≤32) :
  Calls Try.prog 39 #[.int .u8 op] w fun e w'=>e=.returned (.tuple #[.string (y6_ (formC op)),.bool (formC op != 0)])∧Below w.heap.size w w':=by
 go_enter Try.func39,Try.ntmps39
 go_wp2
 go_loopw [24] (fun k wr=>∃n:Nat,k=.int .i64 n∧n≤11∧(op < 1∨(n:Int) < op)∧Below w.heap.size w wr) (fun k _=>11 - (intOf k).toNat)
 case atStart=>exact⟨0,rfl,by omega,by omega,Below.refl _ _⟩
 case round=>
  obtain⟨n,rfl,hn,hop,hb⟩:=hrel
  have hz:=hb.size
  have HB:=Lib.hid hb
  clear hb
  have hN:n=0∨n=1∨n=2∨n=3∨n=4∨n=5∨n=6∨n=7∨n=8∨n=9∨n=10∨n=11:=by omega
  rcases hN with rfl|rfl|rfl|rfl|rfl|rfl|rfl|rfl|rfl|rfl|rfl|rfl
  ·have i0:=formIx0
   go_wp2
   ·have he:(1:Int)=op:=beq_iff_eq.1 (by assumption)
    subst he
    go_ret2
    exact⟨rfl,HB.out.alloc hz _⟩
   ·have he:(1:Int)≠op:=beq_eq_false_iff_ne.1 (by assumption)
    go_roundw
    case rel=>exact⟨1,by go_num,by omega,by omega,HB.out.alloc hz _⟩
    case measure=>simp[intOf]
  ·have i0:=formIx1
   go_wp2
   ·have he:(2:Int)=op:=beq_iff_eq.1 (by assumption)
    subst he
    go_ret2
    exact⟨rfl,HB.out.alloc hz _⟩
   ·have he:(2:Int)≠op:=beq_eq_false_iff_ne.1 (by assumption)
    go_roundw
    case rel=>exact⟨2,by go_num,by omega,by omega,HB.out.alloc hz _⟩
    case measure=>simp[intOf]
  ·have i0:=formIx2
   go_wp2
   ·have he:(3:Int)=op:=beq_iff_eq.1 (by assumption)
    subst he
    go_ret2
    exact⟨rfl,HB.out.alloc hz _⟩
   ·have he:(3:Int)≠op:=beq_eq_false_iff_ne.1 (by assumption)
    go_roundw
    case rel=>exact⟨3,by go_num,by omega,by omega,HB.out.alloc hz _⟩
    case measure=>simp[intOf]
  ·have i0:=formIx3
   go_wp2
   ·have he:(4:Int)=op:=beq_iff_eq.1 (by assumption)
    subst he
    go_ret2
    exact⟨rfl,HB.out.alloc hz _⟩
   ·have he:(4:Int)≠op:=beq_eq_false_iff_ne.1 (by assumption)
    go_roundw
    case rel=>exact⟨4,by go_num,by omega,by omega,HB.out.alloc hz _⟩
    case measure=>simp[intOf]
  ·have i0:=formIx4
   go_wp2
   ·have he:(5:Int)=op:=beq_iff_eq.1 (by assumption)
    subst he
    go_ret2
    exact⟨rfl,HB.out.alloc hz _⟩
   ·have he:(5:Int)≠op:=beq_eq_false_iff_ne.1 (by assumption)
    go_roundw
    case rel=>exact⟨5,by go_num,by omega,by omega,HB.out.alloc hz _⟩
    case measure=>simp[intOf]
  ·have i0:=formIx5
   go_wp2
   ·have he:(6:Int)=op:=beq_iff_eq.1 (by assumption)
    subst he
    go_ret2
    exact⟨rfl,HB.out.alloc hz _⟩
   ·have he:(6:Int)≠op:=beq_eq_false_iff_ne.1 (by assumption)
    go_roundw
    case rel=>exact⟨6,by go_num,by omega,by omega,HB.out.alloc hz _⟩
    case measure=>simp[intOf]
  ·have i0:=formIx6
   go_wp2
   ·have he:(7:Int)=op:=beq_iff_eq.1 (by assumption)
    subst he
    go_ret2
    exact⟨rfl,HB.out.alloc hz _⟩
   ·have he:(7:Int)≠op:=beq_eq_false_iff_ne.1 (by assumption)
    go_roundw
    case rel=>exact⟨7,by go_num,by omega,by omega,HB.out.alloc hz _⟩
    case measure=>simp[intOf]
  ·have i0:=formIx7
   go_wp2
   ·have he:(8:Int)=op:=beq_iff_eq.1 (by assumption)
    subst he
    go_ret2
    exact⟨rfl,HB.out.alloc hz _⟩
   ·have he:(8:Int)≠op:=beq_eq_false_iff_ne.1 (by assumption)
    go_roundw
    case rel=>exact⟨8,by go_num,by omega,by omega,HB.out.alloc hz _⟩
    case measure=>simp[intOf]
  ·have i0:=formIx8
   go_wp2
   ·have he:(9:Int)=op:=beq_iff_eq.1 (by assumption)
    subst he
    go_ret2
    exact⟨rfl,HB.out.alloc hz _⟩
   ·have he:(9:Int)≠op:=beq_eq_false_iff_ne.1 (by assumption)
    go_roundw
    case rel=>exact⟨9,by go_num,by omega,by omega,HB.out.alloc hz _⟩
    case measure=>simp[intOf]
  ·have i0:=formIx9
   go_wp2
   ·have he:(10:Int)=op:=beq_iff_eq.1 (by assumption)
    subst he
    go_ret2
    exact⟨rfl,HB.out.alloc hz _⟩
   ·have he:(10:Int)≠op:=beq_eq_false_iff_ne.1 (by assumption)
    go_roundw
    case rel=>exact⟨10,by go_num,by omega,by omega,HB.out.alloc hz _⟩
    case measure=>simp[intOf]
  ·have i0:=formIx10
   go_wp2
   ·have he:(11:Int)=op:=beq_iff_eq.1 (by assumption)
    subst he
    go_ret2
    exact⟨rfl,HB.out.alloc hz _⟩
   ·have he:(11:Int)≠op:=beq_eq_false_iff_ne.1 (by assumption)
    go_roundw
    case rel=>exact⟨11,by go_num,by omega,by omega,HB.out.alloc hz _⟩
    case measure=>simp[intOf]
  ·go_wp2
   go_ret2
   refine⟨?_,HB.out⟩
   rw[formC_none op (by omega)]
   rfl
set_option maxRecDepth 100000 in
set_option maxHeartbeats 4000000 in
theorem form_hi (op:Int)(w:World)(h1:49 < op) :
  Calls Try.prog 39 #[.int .u8 op] w fun e w'=>e=.returned (.tuple #[.string (y6_ (formC op)),.bool (formC op != 0)])∧Below w.heap.size w w':=by
 have h32:32 < op:=by omega
 go_enter Try.func39,Try.ntmps39
 go_wp2
 go_loopw [24] (fun k wr=>∃n:Nat,k=.int .i64 n∧n≤11∧(op < 1∨(n:Int) < op)∧Below w.heap.size w wr) (fun k _=>11 - (intOf k).toNat)
 case atStart=>exact⟨0,rfl,by omega,by omega,Below.refl _ _⟩
 case round=>
  obtain⟨n,rfl,hn,hop,hb⟩:=hrel
  have hz:=hb.size
  have HB:=Lib.hid hb
  clear hb
  have hN:n=0∨n=1∨n=2∨n=3∨n=4∨n=5∨n=6∨n=7∨n=8∨n=9∨n=10∨n=11:=by omega
  rcases hN with rfl|rfl|rfl|rfl|rfl|rfl|rfl|rfl|rfl|rfl|rfl|rfl
  ·have i0:=formIx0
   have he:((1:Int) == op)=false:=beq_eq_false_iff_ne.2 (by omega)
   go_wp2
   go_roundw
   case rel=>exact⟨1,by go_num,by omega,by omega,HB.out.alloc hz _⟩
   case measure=>simp[intOf]
  ·have i0:=formIx1
   have he:((2:Int) == op)=false:=beq_eq_false_iff_ne.2 (by omega)
   go_wp2
   go_roundw
   case rel=>exact⟨2,by go_num,by omega,by omega,HB.out.alloc hz _⟩
   case measure=>simp[intOf]
  ·have i0:=formIx2
   have he:((3:Int) == op)=false:=beq_eq_false_iff_ne.2 (by omega)
   go_wp2
   go_roundw
   case rel=>exact⟨3,by go_num,by omega,by omega,HB.out.alloc hz _⟩
   case measure=>simp[intOf]
  ·have i0:=formIx3
   have he:((4:Int) == op)=false:=beq_eq_false_iff_ne.2 (by omega)
   go_wp2
   go_roundw
   case rel=>exact⟨4,by go_num,by omega,by omega,HB.out.alloc hz _⟩
   case measure=>simp[intOf]
  ·have i0:=formIx4
   have he:((5:Int) == op)=false:=beq_eq_false_iff_ne.2 (by omega)
   go_wp2
   go_roundw
   case rel=>exact⟨5,by go_num,by omega,by omega,HB.out.alloc hz _⟩
   case measure=>simp[intOf]
  ·have i0:=formIx5
   have he:((6:Int) == op)=false:=beq_eq_false_iff_ne.2 (by omega)
   go_wp2
   go_roundw
   case rel=>exact⟨6,by go_num,by omega,by omega,HB.out.alloc hz _⟩
   case measure=>simp[intOf]
  ·have i0:=formIx6
   have he:((7:Int) == op)=false:=beq_eq_false_iff_ne.2 (by omega)
   go_wp2
   go_roundw
   case rel=>exact⟨7,by go_num,by omega,by omega,HB.out.alloc hz _⟩
   case measure=>simp[intOf]
  ·have i0:=formIx7
   have he:((8:Int) == op)=false:=beq_eq_false_iff_ne.2 (by omega)
   go_wp2
   go_roundw
   case rel=>exact⟨8,by go_num,by omega,by omega,HB.out.alloc hz _⟩
   case measure=>simp[intOf]
  ·have i0:=formIx8
   have he:((9:Int) == op)=false:=beq_eq_false_iff_ne.2 (by omega)
   go_wp2
   go_roundw
   case rel=>exact⟨9,by go_num,by omega,by omega,HB.out.alloc hz _⟩
   case measure=>simp[intOf]
  ·have i0:=formIx9
   have he:((10:Int) == op)=false:=beq_eq_false_iff_ne.2 (by omega)
   go_wp2
   go_roundw
   case rel=>exact⟨10,by go_num,by omega,by omega,HB.out.alloc hz _⟩
   case measure=>simp[intOf]
  ·have i0:=formIx10
   have he:((11:Int) == op)=false:=beq_eq_false_iff_ne.2 (by omega)
   go_wp2
   go_roundw
   case rel=>exact⟨11,by go_num,by omega,by omega,HB.out.alloc hz _⟩
   case measure=>simp[intOf]
  ·go_wp2
   go_ret2
   refine⟨?_,HB.out⟩
   rw[formC_none op (by omega)]
   rfl
theorem eq3 (x y z a b c:Int)(w:World):(Op.equalIn 10000 107 (.agg #[.int .u8 x,.int .u8 y,.int .u8 z]) (.agg #[.int .u8 a,.int .u8 b,.int .u8 c])).run Try.prog w=.ok (x == a && (y == b && z == c)) w:=by
 have h1:∀(x a:Int) (w:World),(Op.equalIn 9999 5 (.int .u8 x) (.int .u8 a)).run Try.prog w=.ok (x == a) w:=fun x a w=>run_equalIn_int w 9998 5 .u8 .u8 x a (by kernel_rfl)
 have hs:∀w,(sizeOf 5).run Try.prog w=.ok 1 w:=fun w=>by kernel_rfl
 have hu:∀w,(underlying 107).run Try.prog w=.ok (.array 3 5) w:=fun w=>by kernel_rfl
 have p0:∀(x y z:Int) w,(part 5 #[.int .u8 x,.int .u8 y,.int .u8 z] 0).run Try.prog w=.ok (.int .u8 x) w:=fun x y z w=>by kernel_rfl
 have p1:∀(x y z:Int) w,(part 5 #[.int .u8 x,.int .u8 y,.int .u8 z] 1).run Try.prog w=.ok (.int .u8 y) w:=fun x y z w=>by kernel_rfl
 have p2:∀(x y z:Int) w,(part 5 #[.int .u8 x,.int .u8 y,.int .u8 z] 2).run Try.prog w=.ok (.int .u8 z) w:=fun x y z w=>by kernel_rfl
 rw[Op.equalIn]
 simp only[Sem.run_bind,hu,Result.andThen_ok,hs]
 simp only[Std.Legacy.Range.forIn_eq_forIn_range',Std.Legacy.Range.size]
 simp[List.range'_succ,p0,p1,p2,h1,ite_okB]
end Go.Proofs.Ytmljmabbopkpiaa
end
