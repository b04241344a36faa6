import Derived.Test.YtjliakjbdcplcaaGreatQ1
import Derived.Test.YtjliakjbdcplcaaGreatQ6
import Derived.Test.YtjliakjbdcplcaaGreatQ7
import Derived.Test.YtjliakjbdcplcaaGreatQ9
import Derived.Test.YtjliakjbdcplcaaGreatQ20
import Derived.Test.YtjliakjbdcplcaaGreatQ21
import Derived.Test.YtjliakjbdcplcaaGreatQ22
set_option linter.unusedSimpArgs false
set_option linter.unusedVariables false
set_option maxRecDepth 100000
set_option maxHeartbeats 4000000
section
open Go.Proofs.YtjliakjbdcplcaaGreat.Vm Go.RowKit
attribute [local push_cast] prS zo_ zp_ xt_ y8_ y7_ y6_ y5_ y4_ xs_ y3_ y2_ y1_ zn_ z2_ z4_ z1_ zu_ zt_ iOf
section
namespace Go.Proofs.YtjliakjbdcplcaaGreat.Vm
open Go.RowKit
def fuelF (f:Int):Int:=if 600 < f∧f≤4096 then 600 else f
theorem fuel_lit (P:List Ins)(v:Evi)(t s q o y d f:Int)(cs:List Int)(p1 p2:Nat):zs_ Tryz.prog 46 [.agg [.sl 1 2 [] 5 0 P.length (some p1),.agg [.int .u64 v.seed,.int .i64 v.process,.int .i64 v.ports,.int .i64 v.look,.int .i64 v.now],.agg [.agg [.int .i64 t,.int .i64 s,.int .i64 q],.int .i64 o,.int .i64 y],.sl 3 4 [] 1 0 cs.length (some p2),.int .i64 d,.int .i64 f]] [.gone,.gone,.ro (.arr P.length 5 (prS P)),.gone,.ro (.arr cs.length 1 (zp_ cs))] (.int .i64 (fuelF f)) [.gone]:=by
 by_cases h1:600 < f
 ·by_cases h2:f≤4096
  ·rw[show fuelF f=600 from if_pos ⟨h1,h2⟩]
   refine zf_ (fn:=Tryz.f46) 5 13 0 rfl rfl rfl rfl rfl u15_ rfl fun w0 M E hro=>?_
   repeat' (first|refine Ctl.h ?_ |((with_reducible intro hif);first |(focus (cases hif;done)) |((try simp only[JH]at hif);try exact hy_)) |((with_reducible first|apply J22 zv_ za_|apply J23 fol zv_ za_|apply J24);(·rfl);(· exact k117_);(try kernel_rfl);try exact yr_)|fail)
   apply At.endsRet za_ (fn:=Tryz.f46) (rs:=[.tmp 2]) Anc.refl hro (lb_ rfl) rfl
   ·exact yl_
   ·exact k6_
   ·exact k7_
   ·rfl
   ·exact x0_
   ·exact k9_
   ·exact fun β=>rfl
   ·exact x0_
  ·rw[show fuelF f=f from if_neg (fun h=>h2 h.2)]
   refine zf_ (fn:=Tryz.f46) 5 13 0 rfl rfl rfl rfl rfl u15_ rfl fun w0 M E hro=>?_
   repeat' (first|refine Ctl.h ?_ |((with_reducible intro hif);first |(focus (cases hif;done)) |((try simp only[JH]at hif);try exact hy_)) |((with_reducible first|apply J22 zv_ za_|apply J23 fol zv_ za_|apply J24);(·rfl);(· exact k117_);(try kernel_rfl);try exact yr_)|fail)
   apply At.endsRet za_ (fn:=Tryz.f46) (rs:=[.tmp 2]) Anc.refl hro (lb_ rfl) rfl
   ·exact yl_
   ·exact k6_
   ·exact k7_
   ·rfl
   ·exact x0_
   ·exact k9_
   ·exact fun β=>rfl
   ·exact x0_
 ·rw[show fuelF f=f from if_neg (fun h=>h1 h.1)]
  refine zf_ (fn:=Tryz.f46) 5 13 0 rfl rfl rfl rfl rfl u15_ rfl fun w0 M E hro=>?_
  repeat' (first|refine Ctl.h ?_ |((with_reducible intro hif);first |(focus (cases hif;done)) |((try simp only[JH]at hif);try exact hy_)) |((with_reducible first|apply J22 zv_ za_|apply J23 fol zv_ za_|apply J24);(·rfl);(· exact k118_);(try kernel_rfl);try exact yr_)|fail)
  apply At.endsRet za_ (fn:=Tryz.f46) (rs:=[.tmp 2]) Anc.refl hro (lb_ rfl) rfl
  ·exact yl_
  ·exact k6_
  ·exact k7_
  ·rfl
  ·exact x0_
  ·exact k9_
  ·exact fun β=>rfl
  ·exact x0_
theorem small_lit (P:List Ins)(v:Evi)(t s q o y d f:Int)(cs:List Int)(p1 p2:Nat):zs_ Tryz.prog 33 [.agg [.sl 1 2 [] 5 0 P.length (some p1),.agg [.int .u64 v.seed,.int .i64 v.process,.int .i64 v.ports,.int .i64 v.look,.int .i64 v.now],.agg [.agg [.int .i64 t,.int .i64 s,.int .i64 q],.int .i64 o,.int .i64 y],.sl 3 4 [] 1 0 cs.length (some p2),.int .i64 d,.int .i64 f]] [.gone,.gone,.ro (.arr P.length 5 (prS P)),.gone,.ro (.arr cs.length 1 (zp_ cs))] (.bool (decide (P.length≤60) && decide (cs.length≤1100))) [.gone]:=by
 by_cases h1:P.length≤60
 ·by_cases h2:cs.length≤1100
  ·rw[decide_eq_true h1,decide_eq_true h2]
   refine zf_ (fn:=Tryz.f33) 5 13 0 rfl rfl rfl rfl rfl u15_ rfl fun w0 M E hro=>?_
   repeat' (first|refine Ctl.h ?_ |((with_reducible intro hif);first |(focus (cases hif;done)) |((try simp only[JH]at hif);try exact hy_)) |((with_reducible first|apply J22 zv_ za_|apply J23 fol zv_ za_|apply J24);(·rfl);(· exact k117_);(try kernel_rfl);try exact yr_)|fail)
   apply At.endsRet za_ (fn:=Tryz.f33) (rs:=[.tmp 2]) Anc.refl hro (lb_ rfl) rfl
   ·exact yl_
   ·exact k6_
   ·exact k7_
   ·rfl
   ·exact x0_
   ·exact k9_
   ·exact fun β=>rfl
   ·exact x0_
  ·rw[decide_eq_true h1,decide_eq_false h2]
   refine zf_ (fn:=Tryz.f33) 5 13 0 rfl rfl rfl rfl rfl u15_ rfl fun w0 M E hro=>?_
   repeat' (first|refine Ctl.h ?_ |((with_reducible intro hif);first |(focus (cases hif;done)) |((try simp only[JH]at hif);try exact hy_)) |((with_reducible first|apply J22 zv_ za_|apply J23 fol zv_ za_|apply J24);(·rfl);(· exact k117_);(try kernel_rfl);try exact yr_)|fail)
   apply At.endsRet za_ (fn:=Tryz.f33) (rs:=[.tmp 2]) Anc.refl hro (lb_ rfl) rfl
   ·exact yl_
   ·exact k6_
   ·exact k7_
   ·rfl
   ·exact x0_
   ·exact k9_
   ·exact fun β=>rfl
   ·exact x0_
 ·rw[decide_eq_false h1]
  refine zf_ (fn:=Tryz.f33) 5 13 0 rfl rfl rfl rfl rfl u15_ rfl fun w0 M E hro=>?_
  repeat' (first|refine Ctl.h ?_ |((with_reducible intro hif);first |(focus (cases hif;done)) |((try simp only[JH]at hif);try exact hy_)) |((with_reducible first|apply J22 zv_ za_|apply J23 fol zv_ za_|apply J24);(·rfl);(· exact k118_);(try kernel_rfl);try exact yr_)|fail)
  apply At.endsRet za_ (fn:=Tryz.f33) (rs:=[.tmp 2]) Anc.refl hro (lb_ rfl) rfl
  ·exact yl_
  ·exact k6_
  ·exact k7_
  ·rfl
  ·exact x0_
  ·exact k9_
  ·exact fun β=>rfl
  ·exact x0_
def sCFuel:yn_:=fun args h m=>match args with
 | [.agg [v1,.agg [v2,v3,v4,v5,v6],.agg [.agg [v7,v8,v9],v10,v11],v12,v13,v14]]=>match xm_ h 5 (.tup []) v1,xm_ h 1 (.tup []) v12 with
  | some (c1,n1,f1,r1),some (c12,n12,f12,r12)=>bif isI .u64 v2 && isI .i64 v3 && isI .i64 v4 && isI .i64 v5 && isI .i64 v6 && isI .i64 v7 && isI .i64 v8 && isI .i64 v9 && isI .i64 v10 && isI .i64 v11 && isI .i64 v13 && isI .i64 v14 then some (c1∧c12∧(∀q,q < n1→isIns (f1 q)=true)∧(∀q,q < n12→isI .i64 (f12 q)=true),.int .i64 (fuelF (iOf v14)),r1++r12,[])else none
  | _,_=>none
 | _=>none
theorem sCFuel_ok:zi_ Tryz.prog 46 sCFuel:=by
 refine⟨zg_ (by kernel_rfl),fun args h m c v rd wr hs hm hc w0 M β h' w R hrd hwr hst=>?_⟩
 unfold sCFuel at hs
 split at hs
 ·rename_i v1 v2 v3 v4 v5 v6 v7 v8 v9 v10 v11 v12 v13 v14
  split at hs
  ·rename_i c1 n1 f1 r1 c12 n12 f12 r12 a1 a12
   obtain⟨hb,hs⟩:=zl_ hs
   simp only[Option.some.injEq,Prod.mk.injEq]at hs
   obtain⟨rfl,rfl,rfl,rfl⟩:=hs
   simp only[Bool.and_eq_true]at hb
   obtain⟨⟨⟨⟨⟨⟨⟨⟨⟨⟨⟨b2,b3⟩,b4⟩,b5⟩,b6⟩,b7⟩,b8⟩,b9⟩,b10⟩,b11⟩,b13⟩,b14⟩:=hb
   obtain⟨k1,k12,g1,g12⟩:=hc
   obtain⟨A1,p1,d1,e1,t1⟩:=zh_ R a1 k1 (fun i hi=>hrd i (List.mem_append_left _ hi)) (by omega)
   obtain⟨A12,p12,d12,e12,t12⟩:=zh_ R a12 k12 (fun i hi=>hrd i (List.mem_append_right _ hi)) (by omega)
   refine yh_ (views:=[⟨5,(ls zm_ n1 f1).length,prS (ls zm_ n1 f1),A1,p1⟩,⟨1,(ls iOf n12 f12).length,zp_ (ls iOf n12 f12),A12,p12⟩]) (fuel_lit (ls zm_ n1 f1) ⟨(iOf v2),(iOf v3),(iOf v4),(iOf v5),(iOf v6)⟩ (iOf v7) (iOf v8) (iOf v9) (iOf v10) (iOf v11) (iOf v13) (iOf v14) (ls iOf n12 f12) p1 p12) ?_ R hm hwr ?_ ?_ ?_
   ·exact d43_
   ·exact d44_
   ·exact x0_
   ·exact x0_
  ·cases hs
 ·cases hs
def y0_:yn_:=fun args h m=>match args with
 | [.agg [v1,.agg [v2,v3,v4,v5,v6],.agg [.agg [v7,v8,v9],v10,v11],v12,v13,v14]]=>match xm_ h 5 (.tup []) v1,xm_ h 1 (.tup []) v12 with
  | some (c1,n1,f1,r1),some (c12,n12,f12,r12)=>bif isI .u64 v2 && isI .i64 v3 && isI .i64 v4 && isI .i64 v5 && isI .i64 v6 && isI .i64 v7 && isI .i64 v8 && isI .i64 v9 && isI .i64 v10 && isI .i64 v11 && isI .i64 v13 && isI .i64 v14 then some (c1∧c12∧(∀q,q < n1→isIns (f1 q)=true)∧(∀q,q < n12→isI .i64 (f12 q)=true),.bool (decide ((ls zm_ n1 f1).length≤60) && decide ((ls iOf n12 f12).length≤1100)),r1++r12,[])else none
  | _,_=>none
 | _=>none
theorem sCSmall_ok:zi_ Tryz.prog 33 y0_:=by
 refine⟨zg_ (by kernel_rfl),fun args h m c v rd wr hs hm hc w0 M β h' w R hrd hwr hst=>?_⟩
 unfold y0_ at hs
 split at hs
 ·rename_i v1 v2 v3 v4 v5 v6 v7 v8 v9 v10 v11 v12 v13 v14
  split at hs
  ·rename_i c1 n1 f1 r1 c12 n12 f12 r12 a1 a12
   obtain⟨hb,hs⟩:=zl_ hs
   simp only[Option.some.injEq,Prod.mk.injEq]at hs
   obtain⟨rfl,rfl,rfl,rfl⟩:=hs
   simp only[Bool.and_eq_true]at hb
   obtain⟨⟨⟨⟨⟨⟨⟨⟨⟨⟨⟨b2,b3⟩,b4⟩,b5⟩,b6⟩,b7⟩,b8⟩,b9⟩,b10⟩,b11⟩,b13⟩,b14⟩:=hb
   obtain⟨k1,k12,g1,g12⟩:=hc
   obtain⟨A1,p1,d1,e1,t1⟩:=zh_ R a1 k1 (fun i hi=>hrd i (List.mem_append_left _ hi)) (by omega)
   obtain⟨A12,p12,d12,e12,t12⟩:=zh_ R a12 k12 (fun i hi=>hrd i (List.mem_append_right _ hi)) (by omega)
   refine yh_ (views:=[⟨5,(ls zm_ n1 f1).length,prS (ls zm_ n1 f1),A1,p1⟩,⟨1,(ls iOf n12 f12).length,zp_ (ls iOf n12 f12),A12,p12⟩]) (small_lit (ls zm_ n1 f1) ⟨(iOf v2),(iOf v3),(iOf v4),(iOf v5),(iOf v6)⟩ (iOf v7) (iOf v8) (iOf v9) (iOf v10) (iOf v11) (iOf v13) (iOf v14) (ls iOf n12 f12) p1 p12) ?_ R hm hwr ?_ ?_ ?_
   ·exact d43_
   ·exact d44_
   ·exact x0_
   ·exact x0_
  ·cases hs
 ·cases hs
def sWhole:yn_:=fun args h m=>match args with
 | [v1,.agg [v2,v3,v4,v5,v6],v7,v8,v9,v10,v11,v12]=>match xm_ h 5 (.tup []) v1,xm_ h 1 (.tup []) v10 with
  | some (c1,n1,f1,r1),some (c10,n10,f10,r10)=>bif isI .u64 v2 && isI .i64 v3 && isI .i64 v4 && isI .i64 v5 && isI .i64 v6 && isI .i64 v7 && isI .i64 v8 && isI .i64 v9 && isI .i64 v11 && isI .i64 v12 then some (c1∧c10∧(∀q,q < n1→isIns (f1 q)=true)∧(∀q,q < n10→isI .i64 (f10 q)=true)∧((∀x∈(ls zm_ n1 f1),x.ok))∧(n1≤1000000)∧(n10≤1000000)∧((∀k,R64 ((ls iOf n10 f10).getD k 0)))∧(R64 (iOf v7))∧(R64 (iOf v8))∧(R64 (iOf v9)),.agg [.sl m m [] 1 0 (xp_ (ls zm_ n1 f1) ⟨(iOf v2),(iOf v3),(iOf v4),(iOf v5),(iOf v6)⟩ (yo_ (iOf v7) (iOf v8) (iOf v9) (ls iOf n10 f10) (iOf v11)) (iOf v12)).tr.length none,.int .i64 (xp_ (ls zm_ n1 f1) ⟨(iOf v2),(iOf v3),(iOf v4),(iOf v5),(iOf v6)⟩ (yo_ (iOf v7) (iOf v8) (iOf v9) (ls iOf n10 f10) (iOf v11)) (iOf v12)).at_,.int .i64 (xp_ (ls zm_ n1 f1) ⟨(iOf v2),(iOf v3),(iOf v4),(iOf v5),(iOf v6)⟩ (yo_ (iOf v7) (iOf v8) (iOf v9) (ls iOf n10 f10) (iOf v11)) (iOf v12)).bad,sr (xp_ (ls zm_ n1 f1) ⟨(iOf v2),(iOf v3),(iOf v4),(iOf v5),(iOf v6)⟩ (yo_ (iOf v7) (iOf v8) (iOf v9) (ls iOf n10 f10) (iOf v11)) (iOf v12)).s (.sl (m+1) (m+1) [] 1 0 (xp_ (ls zm_ n1 f1) ⟨(iOf v2),(iOf v3),(iOf v4),(iOf v5),(iOf v6)⟩ (yo_ (iOf v7) (iOf v8) (iOf v9) (ls iOf n10 f10) (iOf v11)) (iOf v12)).s.cells.length none) (.sl (m+2) (m+2) [] 3 0 (xp_ (ls zm_ n1 f1) ⟨(iOf v2),(iOf v3),(iOf v4),(iOf v5),(iOf v6)⟩ (yo_ (iOf v7) (iOf v8) (iOf v9) (ls iOf n10 f10) (iOf v11)) (iOf v12)).s.sends.length none)],r1++r10,[(m,trO (xp_ (ls zm_ n1 f1) ⟨(iOf v2),(iOf v3),(iOf v4),(iOf v5),(iOf v6)⟩ (yo_ (iOf v7) (iOf v8) (iOf v9) (ls iOf n10 f10) (iOf v11)) (iOf v12)).tr),(m+1,cRf (xp_ (ls zm_ n1 f1) ⟨(iOf v2),(iOf v3),(iOf v4),(iOf v5),(iOf v6)⟩ (yo_ (iOf v7) (iOf v8) (iOf v9) (ls iOf n10 f10) (iOf v11)) (iOf v12)).s.cells),(m+2,sRf (xp_ (ls zm_ n1 f1) ⟨(iOf v2),(iOf v3),(iOf v4),(iOf v5),(iOf v6)⟩ (yo_ (iOf v7) (iOf v8) (iOf v9) (ls iOf n10 f10) (iOf v11)) (iOf v12)).s.sends)])else none
  | _,_=>none
 | _=>none
theorem sWhole_ok:zi_ Tryz.prog 87 sWhole:=by
 refine⟨zg_ (by kernel_rfl),fun args h m c v rd wr hs hm hc w0 M β h' w R hrd hwr hst=>?_⟩
 unfold sWhole at hs
 split at hs
 ·rename_i v1 v2 v3 v4 v5 v6 v7 v8 v9 v10 v11 v12
  split at hs
  ·rename_i c1 n1 f1 r1 c10 n10 f10 r10 a1 a10
   obtain⟨hb,hs⟩:=zl_ hs
   simp only[Option.some.injEq,Prod.mk.injEq]at hs
   obtain⟨rfl,rfl,rfl,rfl⟩:=hs
   simp only[Bool.and_eq_true]at hb
   obtain⟨⟨⟨⟨⟨⟨⟨⟨⟨b2,b3⟩,b4⟩,b5⟩,b6⟩,b7⟩,b8⟩,b9⟩,b11⟩,b12⟩:=hb
   obtain⟨k1,k10,g1,g10,y1,y2,y3,y4,y5,y6,y7⟩:=hc
   obtain⟨A1,p1,d1,e1,t1⟩:=zh_ R a1 k1 (fun i hi=>hrd i (List.mem_append_left _ hi)) (by omega)
   obtain⟨A10,p10,d10,e10,t10⟩:=zh_ R a10 k10 (fun i hi=>hrd i (List.mem_append_right _ hi)) (by omega)
   refine yh_ (views:=[⟨5,(ls zm_ n1 f1).length,prS (ls zm_ n1 f1),A1,p1⟩,⟨1,(ls iOf n10 f10).length,zp_ (ls iOf n10 f10),A10,p10⟩]) (whole_lit (ls zm_ n1 f1) ⟨(iOf v2),(iOf v3),(iOf v4),(iOf v5),(iOf v6)⟩ (iOf v7) (iOf v8) (iOf v9) (iOf v11) (iOf v12) (ls iOf n10 f10) p1 p10 y1 (by rw[zb_];exact y2) (by rw[zb_];exact y3) y4 y5 y6 y7 _ rfl) ?_ R hm hwr ?_ ?_ ?_
   ·intro x hx
    simp only[List.mem_cons,List.not_mem_nil,or_false]at hx
    rcases hx with rfl|rfl
    ·exact x2_ t1 e1 g1
    ·exact z5_ t10 e10 g10
   ·intro β1 hv
    simp only[Vd,zb_,and_true]at hv
    obtain⟨z1,z10⟩:=hv
    simp only[denL,yb_,ya_,z9_,zx_,zb_,yu_,evS,sr,csl,ssl,z1,z10,d1,d10,zd_ b2,zd_ b3,zd_ b4,zd_ b5,zd_ b6,zd_ b7,zd_ b8,zd_ b9,zd_ b11,zd_ b12]
   ·exact x0_
   ·exact x0_
  ·cases hs
 ·cases hs
def cTw:FuncId→Option yn_:=y9_ [(37,sTh14),(46,sCFuel),(87,sWhole)]
theorem cTw_ok:∀f S,cTw f=some S→zi_ Tryz.prog f S:=zr_ ⟨sTh14_ok,sCFuel_ok,sWhole_ok,trivial⟩
theorem cwhole_lit (P:List Ins)(v:Evi)(t s q o y d f:Int)(cs:List Int)(p1 p2:Nat)(hok:∀x∈P,x.ok)(hn:P.length≤1000000)(hc:cs.length≤1000000)(hw:∀k,R64 (cs.getD k 0))(hy:R64 y)(ht:R64 t)(hs:R64 s)(R:RR)(hR:xp_ P v (yo_ y t s cs d) (fuelF f)=R):zs_ Tryz.prog 45 [.agg [.sl 1 2 [] 5 0 P.length (some p1),.agg [.int .u64 v.seed,.int .i64 v.process,.int .i64 v.ports,.int .i64 v.look,.int .i64 v.now],.agg [.agg [.int .i64 t,.int .i64 s,.int .i64 q],.int .i64 o,.int .i64 y],.sl 3 4 [] 1 0 cs.length (some p2),.int .i64 d,.int .i64 f]] [.gone,.gone,.ro (.arr P.length 5 (prS P)),.gone,.ro (.arr cs.length 1 (zp_ cs))]
  (.agg [.sl 5 5 [] 1 0 R.tr.length none,.int .i64 R.at_,.int .i64 R.bad,sr R.s (.sl 6 6 [] 1 0 R.s.cells.length none) (.sl 7 7 [] 3 0 R.s.sends.length none)]) [.gone,.gone,.gone,.gone,.gone,trO R.tr,cRf R.s.cells,sRf R.s.sends]:=by
 refine zf_ (fn:=Tryz.f45) 5 26 0 rfl rfl rfl rfl rfl u15_ rfl fun w0 M E hro=>?_
 repeat' (first|refine Ctl.h ?_ |((with_reducible intro hif);first |(focus (cases hif;done)) |((try simp only[JH]at hif);try exact hy_)) |((with_reducible first|apply J22 cTw_ok za_|apply J23 fol cTw_ok za_|apply J24);(·rfl);(· (simp only[push_cast,↓JP,Nat.reduceAdd,Nat.reduceEqDiff,Nat.reduceLT,Nat.reduceMul,Nat.reduceLeDiff,reduceCtorEq,reduceIte,↓JK,JE,cTw,sTh14,sCFuel,sWhole,prT,sr,evS,zu_,zt_,iOf,zb_,inR,inN,hR];rfl));(try kernel_rfl);(try (focus (first|exact True.intro |((try simp only[JE,iOf,zb_]);(repeat' (first|exact True.intro|exact hok|exact hw|assumption|apply And.intro|rfl|omega|decide|intro _));done) |((try simp only[JS,implies_true,forall_const,yc_,z7_,x4_,inR,inN]);(repeat' (first|assumption|exact True.intro|omega|apply And.intro));done)))))|fail)
 apply At.endsPick [0,1,2,3,4,8,9,10] za_ (fn:=Tryz.f45) (rs:=[.cell 2 112]) Anc.refl hro (lb_ rfl) rfl
 ·exact yl_
 ·exact xz_
 ·rfl
 ·rfl
 ·rfl
 ·exact k40_
 ·rfl
 ·exact x0_
 ·exact k9_
 ·exact fun β=>rfl
 ·exact x0_
def sCWhole:yn_:=fun args h m=>match args with
 | [.agg [v1,.agg [v2,v3,v4,v5,v6],.agg [.agg [v7,v8,v9],v10,v11],v12,v13,v14]]=>match xm_ h 5 (.tup []) v1,xm_ h 1 (.tup []) v12 with
  | some (c1,n1,f1,r1),some (c12,n12,f12,r12)=>bif isI .u64 v2 && isI .i64 v3 && isI .i64 v4 && isI .i64 v5 && isI .i64 v6 && isI .i64 v7 && isI .i64 v8 && isI .i64 v9 && isI .i64 v10 && isI .i64 v11 && isI .i64 v13 && isI .i64 v14 then some (c1∧c12∧(∀q,q < n1→isIns (f1 q)=true)∧(∀q,q < n12→isI .i64 (f12 q)=true)∧((∀x∈(ls zm_ n1 f1),x.ok))∧(n1≤1000000)∧(n12≤1000000)∧((∀k,R64 ((ls iOf n12 f12).getD k 0)))∧(R64 (iOf v11))∧(R64 (iOf v7))∧(R64 (iOf v8)),.agg [.sl m m [] 1 0 (xp_ (ls zm_ n1 f1) ⟨(iOf v2),(iOf v3),(iOf v4),(iOf v5),(iOf v6)⟩ (yo_ (iOf v11) (iOf v7) (iOf v8) (ls iOf n12 f12) (iOf v13)) (fuelF (iOf v14))).tr.length none,.int .i64 (xp_ (ls zm_ n1 f1) ⟨(iOf v2),(iOf v3),(iOf v4),(iOf v5),(iOf v6)⟩ (yo_ (iOf v11) (iOf v7) (iOf v8) (ls iOf n12 f12) (iOf v13)) (fuelF (iOf v14))).at_,.int .i64 (xp_ (ls zm_ n1 f1) ⟨(iOf v2),(iOf v3),(iOf v4),(iOf v5),(iOf v6)⟩ (yo_ (iOf v11) (iOf v7) (iOf v8) (ls iOf n12 f12) (iOf v13)) (fuelF (iOf v14))).bad,sr (xp_ (ls zm_ n1 f1) ⟨(iOf v2),(iOf v3),(iOf v4),(iOf v5),(iOf v6)⟩ (yo_ (iOf v11) (iOf v7) (iOf v8) (ls iOf n12 f12) (iOf v13)) (fuelF (iOf v14))).s (.sl (m+1) (m+1) [] 1 0 (xp_ (ls zm_ n1 f1) ⟨(iOf v2),(iOf v3),(iOf v4),(iOf v5),(iOf v6)⟩ (yo_ (iOf v11) (iOf v7) (iOf v8) (ls iOf n12 f12) (iOf v13)) (fuelF (iOf v14))).s.cells.length none) (.sl (m+2) (m+2) [] 3 0 (xp_ (ls zm_ n1 f1) ⟨(iOf v2),(iOf v3),(iOf v4),(iOf v5),(iOf v6)⟩ (yo_ (iOf v11) (iOf v7) (iOf v8) (ls iOf n12 f12) (iOf v13)) (fuelF (iOf v14))).s.sends.length none)],r1++r12,[(m,trO (xp_ (ls zm_ n1 f1) ⟨(iOf v2),(iOf v3),(iOf v4),(iOf v5),(iOf v6)⟩ (yo_ (iOf v11) (iOf v7) (iOf v8) (ls iOf n12 f12) (iOf v13)) (fuelF (iOf v14))).tr),(m+1,cRf (xp_ (ls zm_ n1 f1) ⟨(iOf v2),(iOf v3),(iOf v4),(iOf v5),(iOf v6)⟩ (yo_ (iOf v11) (iOf v7) (iOf v8) (ls iOf n12 f12) (iOf v13)) (fuelF (iOf v14))).s.cells),(m+2,sRf (xp_ (ls zm_ n1 f1) ⟨(iOf v2),(iOf v3),(iOf v4),(iOf v5),(iOf v6)⟩ (yo_ (iOf v11) (iOf v7) (iOf v8) (ls iOf n12 f12) (iOf v13)) (fuelF (iOf v14))).s.sends)])else none
  | _,_=>none
 | _=>none
theorem sCWhole_ok:zi_ Tryz.prog 45 sCWhole:=by
 refine⟨zg_ (by kernel_rfl),fun args h m c v rd wr hs hm hc w0 M β h' w R hrd hwr hst=>?_⟩
 unfold sCWhole at hs
 split at hs
 ·rename_i v1 v2 v3 v4 v5 v6 v7 v8 v9 v10 v11 v12 v13 v14
  split at hs
  ·rename_i c1 n1 f1 r1 c12 n12 f12 r12 a1 a12
   obtain⟨hb,hs⟩:=zl_ hs
   simp only[Option.some.injEq,Prod.mk.injEq]at hs
   obtain⟨rfl,rfl,rfl,rfl⟩:=hs
   simp only[Bool.and_eq_true]at hb
   obtain⟨⟨⟨⟨⟨⟨⟨⟨⟨⟨⟨b2,b3⟩,b4⟩,b5⟩,b6⟩,b7⟩,b8⟩,b9⟩,b10⟩,b11⟩,b13⟩,b14⟩:=hb
   obtain⟨k1,k12,g1,g12,y1,y2,y3,y4,y5,y6,y7⟩:=hc
   obtain⟨A1,p1,d1,e1,t1⟩:=zh_ R a1 k1 (fun i hi=>hrd i (List.mem_append_left _ hi)) (by omega)
   obtain⟨A12,p12,d12,e12,t12⟩:=zh_ R a12 k12 (fun i hi=>hrd i (List.mem_append_right _ hi)) (by omega)
   refine yh_ (views:=[⟨5,(ls zm_ n1 f1).length,prS (ls zm_ n1 f1),A1,p1⟩,⟨1,(ls iOf n12 f12).length,zp_ (ls iOf n12 f12),A12,p12⟩]) (cwhole_lit (ls zm_ n1 f1) ⟨(iOf v2),(iOf v3),(iOf v4),(iOf v5),(iOf v6)⟩ (iOf v7) (iOf v8) (iOf v9) (iOf v10) (iOf v11) (iOf v13) (iOf v14) (ls iOf n12 f12) p1 p12 y1 (by rw[zb_];exact y2) (by rw[zb_];exact y3) y4 y5 y6 y7 _ rfl) ?_ R hm hwr ?_ ?_ ?_
   ·exact d43_
   ·exact d44_
   ·exact x0_
   ·exact x0_
  ·cases hs
 ·cases hs
def resB (used at_:Int)(cl:List Int)(dr:Int)(sl:List Snd)(tr:List Int)(wat wbad:Int)(w:Sta):Bool:=
 if used≠tr.length∨at_≠wat then false else if wbad≠0 then decide ((cl.length:Int)+sl.length+dr=0)else sameB ⟨w.at_,true,w.regs,cl,dr,sl⟩ w
def sTh18:yn_:=fun args h m=>match args with
 | [.agg [v1,.bool v2,.arr 8 1 v3,v4,v5,v6]]=>match xm_ h 1 (.tup []) v4,xm_ h 3 (.tup []) v6 with
  | some (c4,n4,f4,r4),some (c6,n6,f6,r6)=>bif isI .i64 v1 && isI .i64 v5 then some (c4∧c6∧(∀q,q < n4→isI .i64 (f4 q)=true)∧(∀q,q < n6→isSnd (f6 q)=true)∧(∀q,q < 8→isI .i64 (v3 q)=true)∧(n4≤1000000)∧(n6≤1000000),sr ⟨(iOf v1),v2,(fun q=>iOf (v3 q)),(ls iOf n4 f4),(iOf v5),(ls zw_ n6 f6)⟩ (.sl m m [] 1 0 (ls iOf n4 f4).length none) (.sl (m+1) (m+1) [] 3 0 (ls zw_ n6 f6).length none),r4++r6,[(m,cRf (ls iOf n4 f4)),(m+1,sRf (ls zw_ n6 f6))])else none
  | _,_=>none
 | _=>none
theorem sTh18_ok:zi_ Tryz.prog 42 sTh18:=by
 refine⟨zg_ (by kernel_rfl),fun args h m c v rd wr hs hm hc w0 M β h' w R hrd hwr hst=>?_⟩
 unfold sTh18 at hs
 split at hs
 ·rename_i v1 v2 v3 v4 v5 v6
  split at hs
  ·rename_i c4 n4 f4 r4 c6 n6 f6 r6 a4 a6
   obtain⟨hb,hs⟩:=zl_ hs
   simp only[Option.some.injEq,Prod.mk.injEq]at hs
   obtain⟨rfl,rfl,rfl,rfl⟩:=hs
   simp only[Bool.and_eq_true]at hb
   obtain⟨b1,b5⟩:=hb
   obtain⟨k4,k6,g4,g6,g3,y1,y2⟩:=hc
   obtain⟨A4,p4,d4,e4,t4⟩:=zh_ R a4 k4 (fun i hi=>hrd i (List.mem_append_left _ hi)) (by omega)
   obtain⟨A6,p6,d6,e6,t6⟩:=zh_ R a6 k6 (fun i hi=>hrd i (List.mem_append_right _ hi)) (by omega)
   refine yh_ (views:=[⟨1,(ls iOf n4 f4).length,zp_ (ls iOf n4 f4),A4,p4⟩,⟨3,(ls zw_ n6 f6).length,zo_ (ls zw_ n6 f6),A6,p6⟩]) (th18_lit ⟨(iOf v1),v2,(fun q=>iOf (v3 q)),(ls iOf n4 f4),(iOf v5),(ls zw_ n6 f6)⟩ p4 p6 (by rw[zb_];exact y1) (by rw[zb_];exact y2)) ?_ R hm hwr ?_ ?_ ?_
   ·exact d42_
   ·intro β1 hv
    simp only[Vd,zb_,and_true]at hv
    obtain⟨z4,z6⟩:=hv
    simp only[denL,yb_,ya_,z9_,zx_,zb_,yu_,evS,sr,csl,ssl,z4,z6,d4,d6,zd_ b1,zd_ b5,←r8Den (β:=β) (β1:=β1) g3]
   ·exact x0_
   ·exact x0_
  ·cases hs
 ·cases hs
def cRs:FuncId→Option yn_:=y9_ [(42,sTh18),(41,wg_)]
theorem cRs_ok:∀f S,cRs f=some S→zi_ Tryz.prog f S:=zr_ ⟨sTh18_ok,sRSame_ok,trivial⟩
theorem result_lit (used at_ dr wat wbad:Int)(cl:List Int)(sl:List Snd)(tr:List Int)(w:Sta)(p1 p2 p3 p4 p5:Nat)(h1:cl.length≤1000000)(h2:sl.length≤1000000)(h3:0≤dr∧dr≤1099511627776)(h4:tr.length≤1000000)(h5:w.cells.length≤1000000)(h6:w.sends.length≤1000000) :
  zs_ Tryz.prog 47 [.agg [.int .i64 used,.int .i64 at_,.sl 1 2 [] 1 0 cl.length (some p1),.int .i64 dr,.sl 3 4 [] 3 0 sl.length (some p2)],.agg [.sl 5 6 [] 1 0 tr.length (some p3),.int .i64 wat,.int .i64 wbad,sr w (.sl 7 8 [] 1 0 w.cells.length (some p4)) (.sl 9 10 [] 3 0 w.sends.length (some p5))]]
  [.gone,.gone,.ro (.arr cl.length 1 (zp_ cl)),.gone,.ro (.arr sl.length 3 (zo_ sl)),.gone,.ro (.arr tr.length 1 (zp_ tr)),.gone,.ro (.arr w.cells.length 1 (zp_ w.cells)),.gone,.ro (.arr w.sends.length 3 (zo_ w.sends))] (.bool (resB used at_ cl dr sl tr wat wbad w)) [.gone]:=by
 simp only[sr]
 by_cases a1:used=tr.length
 case neg=>
  rw[show resB used at_ cl dr sl tr wat wbad w=false from if_pos (.inl a1)]
  refine zf_ (fn:=Tryz.f47) 11 51 0 rfl rfl rfl rfl rfl u15_ rfl fun w0 M E hro=>?_
  repeat' (first|refine Ctl.h ?_ |((with_reducible intro hif);first |(focus (cases hif;done)) |((try simp only[JH]at hif);try exact hy_)) |((with_reducible first|apply J22 cRs_ok za_|apply J23 fol cRs_ok za_|apply J24);(·rfl);(· (simp only[push_cast,↓JP,Nat.reduceAdd,Nat.reduceEqDiff,Nat.reduceLT,Nat.reduceMul,Nat.reduceLeDiff,reduceCtorEq,reduceIte,↓JK,a1];rfl));(try kernel_rfl);try exact yr_)|fail)
  apply At.endsRet za_ (fn:=Tryz.f47) (rs:=[.tmp 4]) Anc.refl hro (lb_ rfl) rfl
  ·exact yl_
  ·exact k6_
  ·exact k7_
  ·rfl
  ·exact x0_
  ·exact k9_
  ·exact fun β=>rfl
  ·exact x0_
 by_cases a2:at_=wat
 case neg=>
  rw[show resB used at_ cl dr sl tr wat wbad w=false from if_pos (.inr a2)]
  refine zf_ (fn:=Tryz.f47) 11 51 0 rfl rfl rfl rfl rfl u15_ rfl fun w0 M E hro=>?_
  repeat' (first|refine Ctl.h ?_ |((with_reducible intro hif);first |(focus (cases hif;done)) |((try simp only[JH]at hif);try exact hy_)) |((with_reducible first|apply J22 cRs_ok za_|apply J23 fol cRs_ok za_|apply J24);(·rfl);(· (simp only[push_cast,↓JP,Nat.reduceAdd,Nat.reduceEqDiff,Nat.reduceLT,Nat.reduceMul,Nat.reduceLeDiff,reduceCtorEq,reduceIte,↓JK,(eq_true a1),a2];rfl));(try kernel_rfl);try exact yr_)|fail)
  apply At.endsRet za_ (fn:=Tryz.f47) (rs:=[.tmp 4]) Anc.refl hro (lb_ rfl) rfl
  ·exact yl_
  ·exact k6_
  ·exact k7_
  ·rfl
  ·exact x0_
  ·exact k9_
  ·exact fun β=>rfl
  ·exact x0_
 have a3:¬(used≠tr.length∨at_≠wat):=by omega
 by_cases a4:wbad=0
 ·rw[show resB used at_ cl dr sl tr wat wbad w=sameB ⟨w.at_,true,w.regs,cl,dr,sl⟩ w by unfold resB;rw[if_neg a3,if_neg (fun h=>h a4)]]
  refine zf_ (fn:=Tryz.f47) 11 51 0 rfl rfl rfl rfl rfl u15_ rfl fun w0 M E hro=>?_
  repeat' (first|refine Ctl.h ?_ |((with_reducible intro hif);first |(focus (cases hif;done)) |((try simp only[JH]at hif);try exact hy_)) |((with_reducible first|apply J22 cRs_ok za_|apply J23 fol cRs_ok za_|apply J24);(·rfl);(· (simp only[push_cast,↓JP,Nat.reduceAdd,Nat.reduceEqDiff,Nat.reduceLT,Nat.reduceMul,Nat.reduceLeDiff,reduceCtorEq,reduceIte,↓JK,JE,cRs,sTh18,wg_,sr,cRf,sRf,zu_,zt_,iOf,zb_,inR,inN,(eq_true a1),(eq_true a2),(eq_true a4)];rfl));(try kernel_rfl);(try (focus (first|exact True.intro |((try simp only[JE,iOf,zb_]);(repeat' (first|exact True.intro|assumption|apply And.intro|rfl|omega|decide|intro _));done) |((try simp only[JS,implies_true,forall_const,yc_,z7_,x4_,inR,inN]);(repeat' (first|assumption|exact True.intro|omega|apply And.intro));done)))))|fail)
  apply At.endsRet za_ (fn:=Tryz.f47) (rs:=[.tmp 4]) Anc.refl hro (lb_ rfl) rfl
  ·exact yl_
  ·exact k6_
  ·exact k7_
  ·rfl
  ·exact x0_
  ·exact k9_
  ·exact fun β=>rfl
  ·exact x0_
 ·rw[show resB used at_ cl dr sl tr wat wbad w=decide ((cl.length:Int)+sl.length+dr=0) by unfold resB;rw[if_neg a3,if_pos a4]]
  refine zf_ (fn:=Tryz.f47) 11 51 0 rfl rfl rfl rfl rfl u15_ rfl fun w0 M E hro=>?_
  repeat' (first|refine Ctl.h ?_ |((with_reducible intro hif);first |(focus (cases hif;done)) |((try simp only[JH]at hif);try exact hy_)) |((with_reducible first|apply J22 cRs_ok za_|apply J23 fol cRs_ok za_|apply J24);(·rfl);(· (simp only[push_cast,↓JP,Nat.reduceAdd,Nat.reduceEqDiff,Nat.reduceLT,Nat.reduceMul,Nat.reduceLeDiff,reduceCtorEq,reduceIte,↓JK,(eq_true a1),(eq_true a2),a4,inR,inN];rfl));(try kernel_rfl);try exact k15_)|fail)
  apply At.endsRet za_ (fn:=Tryz.f47) (rs:=[.tmp 4]) Anc.refl hro (lb_ rfl) rfl
  ·exact yl_
  ·exact k6_
  ·exact k7_
  ·rfl
  ·exact x0_
  ·exact k9_
  ·exact fun β=>rfl
  ·exact x0_
def sRes:yn_:=fun args h m=>match args with
 | [.agg [v1,v2,v3,v4,v5],.agg [v6,v7,v8,.agg [v9,.bool v10,.arr 8 1 v11,v12,v13,v14]]]=>match xm_ h 1 (.tup []) v3,xm_ h 3 (.tup []) v5,xm_ h 1 (.tup []) v6,xm_ h 1 (.tup []) v12,xm_ h 3 (.tup []) v14 with
  | some (c3,n3,f3,r3),some (c5,n5,f5,r5),some (c6,n6,f6,r6),some (c12,n12,f12,r12),some (c14,n14,f14,r14)=>bif isI .i64 v1 && isI .i64 v2 && isI .i64 v4 && isI .i64 v7 && isI .i64 v8 && isI .i64 v9 && isI .i64 v13 then some (c3∧c5∧c6∧c12∧c14∧(∀q,q < n3→isI .i64 (f3 q)=true)∧(∀q,q < n5→isSnd (f5 q)=true)∧(∀q,q < n6→isI .i64 (f6 q)=true)∧(∀q,q < n12→isI .i64 (f12 q)=true)∧(∀q,q < n14→isSnd (f14 q)=true)∧(∀q,q < 8→isI .i64 (v11 q)=true)∧(n3≤1000000)∧(n5≤1000000)∧(0≤(iOf v4)∧(iOf v4)≤1099511627776)∧(n6≤1000000)∧(n12≤1000000)∧(n14≤1000000),.bool (resB (iOf v1) (iOf v2) (ls iOf n3 f3) (iOf v4) (ls zw_ n5 f5) (ls iOf n6 f6) (iOf v7) (iOf v8) ⟨(iOf v9),v10,(fun q=>iOf (v11 q)),(ls iOf n12 f12),(iOf v13),(ls zw_ n14 f14)⟩),r3++r5++r6++r12++r14,[])else none
  | _,_,_,_,_=>none
 | _=>none
theorem sRes_ok:zi_ Tryz.prog 47 sRes:=by
 refine⟨zg_ (by kernel_rfl),fun args h m c v rd wr hs hm hc w0 M β h' w R hrd hwr hst=>?_⟩
 unfold sRes at hs
 split at hs
 ·rename_i v1 v2 v3 v4 v5 v6 v7 v8 v9 v10 v11 v12 v13 v14
  split at hs
  ·rename_i c3 n3 f3 r3 c5 n5 f5 r5 c6 n6 f6 r6 c12 n12 f12 r12 c14 n14 f14 r14 a3 a5 a6 a12 a14
   obtain⟨hb,hs⟩:=zl_ hs
   simp only[Option.some.injEq,Prod.mk.injEq]at hs
   obtain⟨rfl,rfl,rfl,rfl⟩:=hs
   simp only[Bool.and_eq_true]at hb
   obtain⟨⟨⟨⟨⟨⟨b1,b2⟩,b4⟩,b7⟩,b8⟩,b9⟩,b13⟩:=hb
   obtain⟨k3,k5,k6,k12,k14,g3,g5,g6,g12,g14,g11,y1,y2,y3,y4,y5,y6⟩:=hc
   obtain⟨A3,p3,d3,e3,t3⟩:=zh_ R a3 k3 (fun i hi=>hrd i (List.mem_append_left _ (List.mem_append_left _ (List.mem_append_left _ (List.mem_append_left _ hi))))) (by omega)
   obtain⟨A5,p5,d5,e5,t5⟩:=zh_ R a5 k5 (fun i hi=>hrd i (List.mem_append_left _ (List.mem_append_left _ (List.mem_append_left _ (List.mem_append_right _ hi))))) (by omega)
   obtain⟨A6,p6,d6,e6,t6⟩:=zh_ R a6 k6 (fun i hi=>hrd i (List.mem_append_left _ (List.mem_append_left _ (List.mem_append_right _ hi)))) (by omega)
   obtain⟨A12,p12,d12,e12,t12⟩:=zh_ R a12 k12 (fun i hi=>hrd i (List.mem_append_left _ (List.mem_append_right _ hi))) (by omega)
   obtain⟨A14,p14,d14,e14,t14⟩:=zh_ R a14 k14 (fun i hi=>hrd i (List.mem_append_right _ hi)) (by omega)
   refine yh_ (views:=[⟨1,(ls iOf n3 f3).length,zp_ (ls iOf n3 f3),A3,p3⟩,⟨3,(ls zw_ n5 f5).length,zo_ (ls zw_ n5 f5),A5,p5⟩,⟨1,(ls iOf n6 f6).length,zp_ (ls iOf n6 f6),A6,p6⟩,⟨1,(ls iOf n12 f12).length,zp_ (ls iOf n12 f12),A12,p12⟩,⟨3,(ls zw_ n14 f14).length,zo_ (ls zw_ n14 f14),A14,p14⟩]) (result_lit (iOf v1) (iOf v2) (iOf v4) (iOf v7) (iOf v8) (ls iOf n3 f3) (ls zw_ n5 f5) (ls iOf n6 f6) ⟨(iOf v9),v10,(fun q=>iOf (v11 q)),(ls iOf n12 f12),(iOf v13),(ls zw_ n14 f14)⟩ p3 p5 p6 p12 p14 (by rw[zb_];exact y1) (by rw[zb_];exact y2) y3 (by rw[zb_];exact y4) (by show List.length (ls _ _ _)≤_;rw[zb_];exact y5) (by show List.length (ls _ _ _)≤_;rw[zb_];exact y6)) ?_ R hm hwr ?_ ?_ ?_
   ·intro x hx
    simp only[List.mem_cons,List.not_mem_nil,or_false]at hx
    rcases hx with rfl|rfl|rfl|rfl|rfl
    ·exact z5_ t3 e3 g3
    ·exact viewSnd t5 e5 g5
    ·exact z5_ t6 e6 g6
    ·exact z5_ t12 e12 g12
    ·exact viewSnd t14 e14 g14
   ·intro β1 hv
    simp only[Vd,zb_,and_true]at hv
    obtain⟨z3,z5,z6,z12,z14⟩:=hv
    simp only[denL,yb_,ya_,z9_,zx_,zb_,yu_,evS,sr,csl,ssl,z3,z5,z6,z12,z14,d3,d5,d6,d12,d14,zd_ b1,zd_ b2,zd_ b4,zd_ b7,zd_ b8,zd_ b9,zd_ b13,←r8Den (β:=β) (β1:=β1) g11]
   ·exact x0_
   ·exact x0_
  ·cases hs
 ·cases hs
structure ZC where
 j:Nat
 l:List Int
structure ZX where
 j:Nat
 l:List Snd
theorem less_iset {t n:Nat}{b:Bool}{σ : Nat→Nat}{l:List Int}{k:Nat}{y:Int}{g:Nat→SV}(hl:l.length=n)(hk:k < n)(hg:∀β q,(g q).cl β = [.int .i64 (bif decide (q=k)then y else l.getD q 0)]):Less (.own t (.arr n 1 g) b) ((HB.own t (.arr n 1 (zp_ (l.set k y))) b).ren σ):=
 less_arL _ fun β q hq=>by rw[hg,getD_setL (by omega)]
theorem getD_setS {l:List Snd}{k q:Nat}{y:Snd}(hk:k < l.length):(l.set k y).getD q ⟨0,0,0⟩=bif decide (q=k)then y else l.getD q ⟨0,0,0⟩ :=  d7_
theorem less_sset {t n:Nat}{b:Bool}{σ : Nat→Nat}{l:List Snd}{k:Nat}{y:Snd}{g:Nat→SV}(hl:l.length=n)(hk:k < n)(hg:∀β q,(g q).cl β =(sndS (bif decide (q=k)then y else l.getD q ⟨0,0,0⟩)).cl β):Less (.own t (.arr n 3 g) b) ((HB.own t (.arr n 3 (zo_ (l.set k y))) b).ren σ):=by
 have e:(HB.own t (.arr n 3 (zo_ (l.set k y))) b).ren σ = .own t (.arr n 3 (zo_ (l.set k y))) b:=by
  simp only[HB.ren,SV.ren];rw[sndsS_ren]
 rw[e]
 refine .val (fun β=>arrCl fun q hq=>?_) (fun n1 k1 f1 e=>by injection e with e1 e2 e3;subst e1 e2;exact⟨_,rfl⟩) (fun n1 k1 f1 e=>by injection e with e1 e2 e3;subst e1 e2;exact⟨_,rfl⟩)
 rw[hg]
 unfold zo_
 rw[getD_setS (by omega)]
theorem spoil_nil:zs_ Tryz.prog 40 [.sl 0 0 [] 0 0 0 (some 0),.sl 0 0 [] 0 0 0 (some 0)] [.gone] (.tup []) [.gone]:=by
 refine zf_ (fn:=Tryz.f40) 1 25 0 rfl rfl rfl rfl rfl u15_ rfl fun w0 M E hro=>?_
 repeat' (first|refine Ctl.h ?_ |((with_reducible intro hif);first |(focus (cases hif;done)) |((try simp only[JH]at hif);try exact hy_)) |((with_reducible first|apply J22 cRs_ok za_|apply J23 fol cRs_ok za_|apply J24);(·rfl);(· exact k20_);(try kernel_rfl);try exact yr_)|fail)
 refine WF.loopAt (fun (j:Nat)=>j=0) (fun (j:Nat)=>[(1,.sl 0 0 [] 0 0 0 (some 0)),(7,.nat .i64 0),(8,.nat .i64 j)]) (fun (j:Nat)=>[.gone]) (fun (j:Nat)=>j) 0 rfl ?_ ?_ rfl ?_ ?_ rfl ?_
 ·exact we_
 ·exact k7_
 ·exact x0_
 ·exact x0_
 rintro j rfl
 repeat' (first|refine Ctl.h ?_ |((with_reducible intro hif);first |(focus (cases hif;done)) |((try simp only[JH]at hif);try exact hy_)) |((with_reducible first|apply J22 cRs_ok za_|apply J23 fol cRs_ok za_|apply J24);(·rfl);(· exact k20_);(try kernel_rfl);try exact yr_)|fail)
 refine WF.loopAt (fun (j:Nat)=>j=0) (fun (j:Nat)=>[(16,.nat .i64 0),(17,.nat .i64 j)]) (fun (j:Nat)=>[.gone]) (fun (j:Nat)=>j) 0 rfl ?_ ?_ rfl ?_ ?_ rfl ?_
 ·exact we_
 ·exact k7_
 ·exact x0_
 ·exact x0_
 rintro j rfl
 repeat' (first|refine Ctl.h ?_ |((with_reducible intro hif);first |(focus (cases hif;done)) |((try simp only[JH]at hif);try exact hy_)) |((with_reducible first|apply J22 cRs_ok za_|apply J23 fol cRs_ok za_|apply J24);(·rfl);(· exact k20_);(try kernel_rfl);try exact yr_)|fail)
 apply At.endsNormal za_ (fn:=Tryz.f40) (rs:=[]) Anc.refl hro (lb_ rfl) rfl
 ·exact yl_
 ·exact k6_
 ·exact k7_
 ·rfl
 ·exact x0_
 ·exact k9_
 ·exact fun β=>rfl
 ·exact x0_
theorem spoil_lit (c:List Int)(x:List Snd)(hc:c.length≤1000000)(hx:x.length≤1000000):zs_ Tryz.prog 40 [.sl 1 1 [] 1 0 c.length none,.sl 2 2 [] 3 0 x.length none] [.gone,.own 2 (.arr c.length 1 (zp_ c)) false,.own 125 (.arr x.length 3 (zo_ x)) false] (.tup []) [.gone,.gone,.gone]:=by
 refine zf_ (fn:=Tryz.f40) 3 25 0 rfl rfl rfl rfl rfl u15_ rfl fun w0 M E hro=>?_
 repeat' (first|refine Ctl.h ?_ |((with_reducible intro hif);first |(focus (cases hif;done)) |((try simp only[JH]at hif);try exact hy_)) |((with_reducible first|apply J22 cRs_ok za_|apply J23 fol cRs_ok za_|apply J24);(·rfl);(· exact k20_);(try kernel_rfl);try exact yr_)|fail)
 refine WF.loopAt (fun (z:ZC)=>z.j≤c.length∧z.l.length=c.length) (fun (z:ZC)=>[(0,.sl 1 1 [] 1 0 c.length none),(1,.sl 2 2 [] 3 0 x.length none),(7,.nat .i64 c.length),(8,.nat .i64 z.j)]) (fun (z:ZC)=>[.gone,.own 2 (.arr c.length 1 (zp_ z.l)) false,.own 125 (.arr x.length 3 (zo_ x)) false]) (fun (z:ZC)=>c.length - z.j) ⟨0,c⟩ ⟨Nat.zero_le _,rfl⟩ ?_ ?_ rfl ?_ ?_ rfl ?_
 ·exact we_
 ·exact k7_
 ·exact x0_
 ·exact x0_
 rintro⟨j,l⟩ ⟨hj,hl⟩
 dsimp only at hj hl ⊢
 by_cases hjl:j < c.length
 ·repeat' (first|refine Ctl.h ?_ |((with_reducible intro hif);first |(focus (cases hif;done)) |((try simp only[JH]at hif);try exact hy_)) |((with_reducible first|apply J22 cRs_ok za_|apply J23 fol cRs_ok za_|apply J24);(·rfl);(· exact k119_);(try kernel_rfl);try exact k15_)|fail)
  refine At.nextPick [0,1,2] ⟨j+1,l.set j (-99)⟩ ?_ rfl rfl rfl ?_ rfl ?_ ?_ ?_ rfl
  ·exact k114_
  ·exact k115_
  ·exact x0_
  ·exact k32_
  ·exact x0_
 ·obtain rfl:j=c.length:=by omega
  repeat' (first|refine Ctl.h ?_ |((with_reducible intro hif);first |(focus (cases hif;done)) |((try simp only[JH]at hif);try exact hy_)) |((with_reducible first|apply J22 cRs_ok za_|apply J23 fol cRs_ok za_|apply J24);(·rfl);(· exact k120_);(try kernel_rfl);try exact yr_)|fail)
  refine WF.loopAt (fun (z:ZX)=>z.j≤x.length∧z.l.length=x.length) (fun (z:ZX)=>[(1,.sl 2 2 [] 3 0 x.length none),(16,.nat .i64 x.length),(17,.nat .i64 z.j)]) (fun (z:ZX)=>[.gone,.gone,.own 125 (.arr x.length 3 (zo_ z.l)) false]) (fun (z:ZX)=>x.length - z.j) ⟨0,x⟩ ⟨Nat.zero_le _,rfl⟩ ?_ ?_ rfl ?_ ?_ rfl ?_
  ·exact we_
  ·exact k7_
  ·exact x0_
  ·exact x0_
  rintro⟨j,y⟩ ⟨hj2,hl2⟩
  dsimp only at hj2 hl2 ⊢
  by_cases hjl2:j < x.length
  ·repeat' (first|refine Ctl.h ?_ |((with_reducible intro hif);first |(focus (cases hif;done)) |((try simp only[JH]at hif);try exact hy_)) |((with_reducible first|apply J22 cRs_ok za_|apply J23 fol cRs_ok za_|apply J24);(·rfl);(· (simp only[push_cast,↓JP,Nat.reduceAdd,Nat.reduceEqDiff,Nat.reduceLT,Nat.reduceMul,Nat.reduceLeDiff,reduceCtorEq,reduceIte,↓JK,hjl2,zo_,sndS,inR,inN];rfl));(try kernel_rfl);try exact k15_)|fail)
   refine At.nextPick [0,1,2] ⟨j+1,y.set j ⟨-99,(y.getD j ⟨0,0,0⟩).delay,(y.getD j ⟨0,0,0⟩).value⟩⟩ ?_ rfl rfl rfl ?_ rfl ?_ ?_ ?_ rfl
   ·exact⟨⟨hjl2,by rw[List.length_set];exact hl2⟩,by show x.length - (j+1) < x.length - j;omega⟩
   ·(repeat' (first|exact trivial|exact .inl rfl|exact .inr (.same _)|exact .inr .loose|exact .inr (.arr (by assumption))|apply And.intro |(refine .inr (less_sset hl2 hjl2 (fun β q=>?_));rw[xk_];cases decide (q=j)<;>rfl)))
   ·exact x0_
   ·exact k32_
   ·exact x0_
  ·obtain rfl:j=x.length:=by omega
   repeat' (first|refine Ctl.h ?_ |((with_reducible intro hif);first |(focus (cases hif;done)) |((try simp only[JH]at hif);try exact hy_)) |((with_reducible first|apply J22 cRs_ok za_|apply J23 fol cRs_ok za_|apply J24);(·rfl);(· (simp only[push_cast,↓JP,Nat.reduceAdd,Nat.reduceEqDiff,Nat.reduceLT,Nat.reduceMul,Nat.reduceLeDiff,reduceCtorEq,reduceIte,↓JK,hjl2];rfl));(try kernel_rfl);try exact yr_)|fail)
   apply At.endsNormal za_ (fn:=Tryz.f40) (rs:=[]) Anc.refl hro (lb_ rfl) rfl
   ·exact yl_
   ·exact k6_
   ·exact k7_
   ·rfl
   ·exact x0_
   ·exact k9_
   ·exact fun β=>rfl
   ·exact x0_
theorem prR_st {h:HM}{P:List Ins}:(prR P).stable h:=fun q=>prS_stable q
theorem pS_ok:zi_ Tryz.prog 122 pS:=by
 refine⟨zg_ (by kernel_rfl),fun args h m c v rd wr hs hm hc w0 M β h' w R hrd hwr hst=>?_⟩
 unfold pS at hs
 split at hs
 ·rename_i g z i n
  split at hs
  ·rename_i s v x c k ok n' P ok2 hmp hpp
   obtain⟨hb,hs⟩:=zl_ hs
   simp only[Option.some.injEq,Prod.mk.injEq]at hs
   obtain⟨rfl,rfl,rfl,rfl⟩:=hs
   simp only[Bool.and_eq_true]at hb
   obtain⟨⟨hzi,hnn⟩,hnd⟩:=hb
   have hzi:=Nat.eq_of_beq_eq_true hzi
   have hnn:=Nat.eq_of_beq_eq_true hnn
   subst hzi hnn
   have hnl:=prP_len hpp
   obtain⟨⟨hok,hok2⟩,hP,hV,hS⟩:=hc
   have eg:=hrd g (by simp)
   have ec:=hrd c (by simp)
   have ek:=hrd k (by simp)
   have ei:=hrd z (by simp)
   exact bun_ok (h:=h) (m:=m) [0,g,c,k,z] (step_lit P s v x hP hV hS) R rfl (by simp) rfl rfl hnd
    ⟨Fit.gone (by rw[R.nil0];rfl),bun_mac hmp hok eg rfl rfl,bun_cel hmp hok ec,bun_snd hmp hok ek,bun_pr hpp hok2 ei,trivial⟩ hm
    (fun p hp=>by
     simp only[newB,List.drop,List.length_cons,List.length_nil,List.mem_cons,List.not_mem_nil,or_false]at hp
     subst hp
     exact hwr (m,sB (xx_ P v s)) (by simp)) (by simp) rfl
    ⟨trivial,mB_st rfl rfl,cB_st,sB_st,prR_st,trivial⟩ ⟨rfl,⟨rfl,rfl⟩,trivial⟩
    ⟨trivial, mB_st rfl rfl, cB_st, trivial, prR_st, sB_st, trivial⟩ trivial (by rw [hnl]; rfl) rfl (by
     have e:wd_ [0,g,c,k,z] m 5=m:=by simp[wd_]
     show [(g,(mB _ v _ 2 5).ren _),(c,(cB _).ren _),(k,HB.gone.ren _),(m,(sB _).ren _)]=_
     rw[mB_ren,cB_ren,sB_ren,e];rfl)
  ·cases hs
 ·cases hs
def sCheck:yn_:=fun args h m=>match args with
 | [v1]=>match xm_ h 5 (.tup []) v1 with
  | some (c1,n1,f1,r1)=>some (c1∧(∀q,q < n1→isIns (f1 q)=true)∧((∀x∈(ls zm_ n1 f1),x.ok))∧(n1≤281474976710656),.tup [.int .i64 (checkI (ls zm_ n1 f1)).1,.int .i64 (checkI (ls zm_ n1 f1)).2],r1,[])
  | _=>none
 | _=>none
theorem sCheck_ok:zi_ Tryz.prog 109 sCheck:=by
 refine⟨zg_ (by kernel_rfl),fun args h m c v rd wr hs hm hc w0 M β h' w R hrd hwr hst=>?_⟩
 unfold sCheck at hs
 split at hs
 ·rename_i v1
  split at hs
  ·rename_i c1 n1 f1 r1 a1
   simp only[Option.some.injEq,Prod.mk.injEq]at hs
   obtain⟨rfl,rfl,rfl,rfl⟩:=hs
   obtain⟨k1,g1,y1,y2⟩:=hc
   obtain⟨A1,p1,d1,e1,t1⟩:=zh_ R a1 k1 (fun i hi=>hrd i hi) (by omega)
   rw[elems_ins g1]at t1
   simp only[denL,yb_,ya_,z9_,zx_,d1]
   exact(check_c A1 n1 p1 (by omega) (ls zm_ n1 f1) y1 w t1).mono fun e w' he=>post_read R (by(repeat' (first|exact trivial|exact rfl|assumption|apply zc_.ite|apply And.intro|intro _ |(simp only[zc_,ze_,zp_,prS,yu_,zo_,sndS];done)))) rfl he.1 he.2
  ·cases hs
 ·cases hs
def cOp:FuncId→Option yn_:=y9_ [(109,sCheck),(138,sVRight),(139,sSRight),(93,sCopied)]
theorem cOp_ok:∀f S,cOp f=some S→zi_ Tryz.prog f S:=zr_ ⟨sCheck_ok,sVRight_ok,sSRight_ok,sCopied_ok,trivial⟩
theorem less_mac0 {σ : Nat→Nat}{c k c' k':Nat}(s:Sta)(v:Evi)(hc:σ c=c')(hk:σ k=k') :
  Less (.own 186 (.agg [.agg [.int .i64 s.at_,.bool s.ended,.arr 8 1 (fun q=>.int .i64 (s.regs q)),.sl c' c' [] 1 0 s.cells.length none,.int .i64 s.draws,.sl k' k' [] 3 0 s.sends.length none],.agg [.int .u64 v.seed,.int .i64 v.process,.int .i64 v.ports,.int .i64 v.look,.int .i64 v.now],.agg [.nat .u8 0,.nat .u8 0,.nat .u8 0,.nat .u8 0,.nat .i64 0]]) true) ((mB s v Ins0 c k).ren σ):=by
 subst hc hk
 rw[mB_ren]
 exact .val (fun β=>rfl) (fun n k f e=>by cases e) (fun n k f e=>by cases e)
theorem open_good (P:List Ins)(v:Evi)(s:Sta)(p1 p2 p3:Nat)(hP:∀x∈P,x.ok)(hn:P.length≤281474976710656)(hc:s.cells.length≤1000000)(hs:s.sends.length≤1000000)(hE:yt_ P v s=0):zs_ Tryz.prog 115 [.sl 1 2 [] 5 0 P.length (some p1),.agg [.int .u64 v.seed,.int .i64 v.process,.int .i64 v.ports,.int .i64 v.look,.int .i64 v.now],.agg [.int .i64 s.at_,.bool s.ended,.arr 8 1 (fun q=>.int .i64 (s.regs q)),.sl 3 4 [] 1 0 s.cells.length (some p2),.int .i64 s.draws,.sl 5 6 [] 3 0 s.sends.length (some p3)]]
  [.gone,.gone,.ro (.arr P.length 5 (prS P)),.gone,.ro (.arr s.cells.length 1 (zp_ s.cells)),.gone,.ro (.arr s.sends.length 3 (zo_ s.sends))]
  (.tup [.ptr 7 [],.int .i64 0]) [.gone,.gone,.gone,.gone,.gone,.gone,.gone,mB s v Ins0 8 9,cB s,sB s]:=by
 unfold yt_ at hE
 have q1:(checkI P).2=0:=by
  by_cases q:(checkI P).2=0
  ·exact q
  ·rw[if_pos q]at hE;cases hE
 rw[if_neg (fun h=>h q1)]at hE
 have q2:v.rightB=true:=by
  cases q:v.rightB
  ·rw[if_pos q]at hE;cases hE
  ·rfl
 rw[if_neg (by rw[q2];exact Bool.noConfusion)]at hE
 have q3:s.rightB P.length=true:=by
  cases q:s.rightB P.length
  ·rw[if_pos q]at hE;cases hE
  ·rfl
 refine zf_ (fn:=Tryz.f115) 7 32 0 rfl rfl rfl rfl rfl u16_ rfl fun w0 M E hro=>?_
 repeat' (first|refine Ctl.h ?_ |((with_reducible intro hif);first |(focus (cases hif;done)) |((try simp only[JH]at hif);try exact hy_)) |((with_reducible first|apply J22 cOp_ok za_|apply J23 fol cOp_ok za_|apply J24);(·rfl);(· exact k122_);(try kernel_rfl);try exact k121_)|fail)
 apply At.endsPick [0,1,2,3,4,5,6,11,9,10] za_ (fn:=Tryz.f115) (rs:=[.tmp 6,.tmp 7]) Anc.refl hro (lb_ rfl) rfl
 ·exact yl_
 ·exact xz_
 ·rfl
 ·rfl
 ·rfl
 ·(repeat' (first|exact trivial|exact .inl rfl|exact .inr (.same _)|exact .inr .loose|exact .inr (.arr (by assumption))|apply And.intro |(refine .inr (less_mac0 _ _ ?_ ?_)<;>rfl)))
 ·rfl
 ·exact k116_
 ·exact k9_
 ·exact fun β=>rfl
 ·exact k116_
theorem open_bad (P:List Ins)(v:Evi)(s:Sta)(p1 p2 p3:Nat)(hP:∀x∈P,x.ok)(hn:P.length≤281474976710656)(hc:s.cells.length≤1000000)(hs:s.sends.length≤1000000)(hE:yt_ P v s≠0):zs_ Tryz.prog 115 [.sl 1 2 [] 5 0 P.length (some p1),.agg [.int .u64 v.seed,.int .i64 v.process,.int .i64 v.ports,.int .i64 v.look,.int .i64 v.now],.agg [.int .i64 s.at_,.bool s.ended,.arr 8 1 (fun q=>.int .i64 (s.regs q)),.sl 3 4 [] 1 0 s.cells.length (some p2),.int .i64 s.draws,.sl 5 6 [] 3 0 s.sends.length (some p3)]]
  [.gone,.gone,.ro (.arr P.length 5 (prS P)),.gone,.ro (.arr s.cells.length 1 (zp_ s.cells)),.gone,.ro (.arr s.sends.length 3 (zo_ s.sends))]
  (.tup [.nilp,.int .i64 (yt_ P v s)]) [.gone]:=by
 by_cases q1:(checkI P).2=0
 ·cases q2:v.rightB
  ·have e:yt_ P v s=181:=by unfold yt_;rw[if_neg (fun h=>h q1),if_pos q2]
   rw[e]
   refine zf_ (fn:=Tryz.f115) 7 32 0 rfl rfl rfl rfl rfl u16_ rfl fun w0 M E hro=>?_
   repeat' (first|refine Ctl.h ?_ |((with_reducible intro hif);first |(focus (cases hif;done)) |((try simp only[JH]at hif);try exact hy_)) |((with_reducible first|apply J22 cOp_ok za_|apply J23 fol cOp_ok za_|apply J24);(·rfl);(· (simp only[push_cast,↓JP,Nat.reduceAdd,Nat.reduceEqDiff,Nat.reduceLT,Nat.reduceMul,Nat.reduceLeDiff,reduceCtorEq,reduceIte,↓JK,JM,cOp,sCheck,sVRight,sSRight,sCopied,JE,inR,inN,q1,q2];rfl));(try kernel_rfl);try exact k121_)|fail)
   apply At.endsRet za_ (fn:=Tryz.f115) (rs:=[.tmp 6,.tmp 7]) Anc.refl hro (lb_ rfl) rfl
   ·exact yl_
   ·exact k6_
   ·exact k7_
   ·rfl
   ·exact k116_
   ·exact k9_
   ·exact fun β=>rfl
   ·exact k116_
  ·cases q3:s.rightB P.length
   ·have e:yt_ P v s=182:=by unfold yt_;rw[if_neg (fun h=>h q1),if_neg (by rw[q2];exact Bool.noConfusion),if_pos q3]
    rw[e]
    refine zf_ (fn:=Tryz.f115) 7 32 0 rfl rfl rfl rfl rfl u16_ rfl fun w0 M E hro=>?_
    repeat' (first|refine Ctl.h ?_ |((with_reducible intro hif);first |(focus (cases hif;done)) |((try simp only[JH]at hif);try exact hy_)) |((with_reducible first|apply J22 cOp_ok za_|apply J23 fol cOp_ok za_|apply J24);(·rfl);(· exact k122_);(try kernel_rfl);try exact k121_)|fail)
    apply At.endsRet za_ (fn:=Tryz.f115) (rs:=[.tmp 6,.tmp 7]) Anc.refl hro (lb_ rfl) rfl
    ·exact yl_
    ·exact k6_
    ·exact k7_
    ·rfl
    ·exact k116_
    ·exact k9_
    ·exact fun β=>rfl
    ·exact k116_
   ·exact absurd (by unfold yt_;rw[if_neg (fun h=>h q1),if_neg (by rw[q2];exact Bool.noConfusion),if_neg (by rw[q3];exact Bool.noConfusion)]) hE
 ·have e:yt_ P v s=180:=by unfold yt_;rw[if_pos q1]
  rw[e]
  refine zf_ (fn:=Tryz.f115) 7 32 0 rfl rfl rfl rfl rfl u16_ rfl fun w0 M E hro=>?_
  repeat' (first|refine Ctl.h ?_ |((with_reducible intro hif);first |(focus (cases hif;done)) |((try simp only[JH]at hif);try exact hy_)) |((with_reducible first|apply J22 cOp_ok za_|apply J23 fol cOp_ok za_|apply J24);(·rfl);(· (simp only[push_cast,↓JP,Nat.reduceAdd,Nat.reduceEqDiff,Nat.reduceLT,Nat.reduceMul,Nat.reduceLeDiff,reduceCtorEq,reduceIte,↓JK,JM,cOp,sCheck,sVRight,sSRight,sCopied,JE,inR,inN,q1];rfl));(try kernel_rfl);try exact k121_)|fail)
  apply At.endsRet za_ (fn:=Tryz.f115) (rs:=[.tmp 6,.tmp 7]) Anc.refl hro (lb_ rfl) rfl
  ·exact yl_
  ·exact k6_
  ·exact k7_
  ·rfl
  ·exact k116_
  ·exact k9_
  ·exact fun β=>rfl
  ·exact k116_
def sOpenG:yn_:=fun args h m=>match args with
 | [v1,.agg [v2,v3,v4,v5,v6],.agg [v7,.bool v8,.arr 8 1 v9,v10,v11,v12]]=>match xm_ h 5 (.tup []) v1,xm_ h 1 (.tup []) v10,xm_ h 3 (.tup []) v12 with
  | some (c1,n1,f1,r1),some (c10,n10,f10,r10),some (c12,n12,f12,r12)=>bif isI .u64 v2 && isI .i64 v3 && isI .i64 v4 && isI .i64 v5 && isI .i64 v6 && isI .i64 v7 && isI .i64 v11 then some (c1∧c10∧c12∧(∀q,q < n1→isIns (f1 q)=true)∧(∀q,q < n10→isI .i64 (f10 q)=true)∧(∀q,q < n12→isSnd (f12 q)=true)∧(∀q,q < 8→isI .i64 (v9 q)=true)∧((∀x∈(ls zm_ n1 f1),x.ok))∧(n1≤281474976710656)∧(n10≤1000000)∧(n12≤1000000)∧(yt_ (ls zm_ n1 f1) ⟨(iOf v2),(iOf v3),(iOf v4),(iOf v5),(iOf v6)⟩ ⟨(iOf v7),v8,(fun q=>iOf (v9 q)),(ls iOf n10 f10),(iOf v11),(ls zw_ n12 f12)⟩=0),.tup [.ptr m [],.int .i64 0],r1++r10++r12,[(m,mB ⟨(iOf v7),v8,(fun q=>iOf (v9 q)),(ls iOf n10 f10),(iOf v11),(ls zw_ n12 f12)⟩ ⟨(iOf v2),(iOf v3),(iOf v4),(iOf v5),(iOf v6)⟩ Ins0 (m+1) (m+2)),(m+1,cB ⟨(iOf v7),v8,(fun q=>iOf (v9 q)),(ls iOf n10 f10),(iOf v11),(ls zw_ n12 f12)⟩),(m+2,sB ⟨(iOf v7),v8,(fun q=>iOf (v9 q)),(ls iOf n10 f10),(iOf v11),(ls zw_ n12 f12)⟩)])else none
  | _,_,_=>none
 | _=>none
theorem sOpenG_ok:zi_ Tryz.prog 115 sOpenG:=by
 refine⟨zg_ (by kernel_rfl),fun args h m c v rd wr hs hm hc w0 M β h' w R hrd hwr hst=>?_⟩
 unfold sOpenG at hs
 split at hs
 ·rename_i v1 v2 v3 v4 v5 v6 v7 v8 v9 v10 v11 v12
  split at hs
  ·rename_i c1 n1 f1 r1 c10 n10 f10 r10 c12 n12 f12 r12 a1 a10 a12
   obtain⟨hb,hs⟩:=zl_ hs
   simp only[Option.some.injEq,Prod.mk.injEq]at hs
   obtain⟨rfl,rfl,rfl,rfl⟩:=hs
   simp only[Bool.and_eq_true]at hb
   obtain⟨⟨⟨⟨⟨⟨b2,b3⟩,b4⟩,b5⟩,b6⟩,b7⟩,b11⟩:=hb
   obtain⟨k1,k10,k12,g1,g10,g12,g9,y1,y2,y3,y4,y5⟩:=hc
   obtain⟨A1,p1,d1,e1,t1⟩:=zh_ R a1 k1 (fun i hi=>hrd i (List.mem_append_left _ (List.mem_append_left _ hi))) (by omega)
   obtain⟨A10,p10,d10,e10,t10⟩:=zh_ R a10 k10 (fun i hi=>hrd i (List.mem_append_left _ (List.mem_append_right _ hi))) (by omega)
   obtain⟨A12,p12,d12,e12,t12⟩:=zh_ R a12 k12 (fun i hi=>hrd i (List.mem_append_right _ hi)) (by omega)
   refine yh_ (views:=[⟨5,(ls zm_ n1 f1).length,prS (ls zm_ n1 f1),A1,p1⟩,⟨1,(ls iOf n10 f10).length,zp_ (ls iOf n10 f10),A10,p10⟩,⟨3,(ls zw_ n12 f12).length,zo_ (ls zw_ n12 f12),A12,p12⟩]) (open_good (ls zm_ n1 f1) ⟨(iOf v2),(iOf v3),(iOf v4),(iOf v5),(iOf v6)⟩ ⟨(iOf v7),v8,(fun q=>iOf (v9 q)),(ls iOf n10 f10),(iOf v11),(ls zw_ n12 f12)⟩ p1 p10 p12 y1 (by rw[zb_];exact y2) (by rw[zb_];exact y3) (by rw[zb_];exact y4) y5) ?_ R hm hwr ?_ ?_ ?_
   ·exact d41_
   ·exact d45_
   ·exact k116_
   ·exact k116_
  ·cases hs
 ·cases hs
def sOpenB:yn_:=fun args h m=>match args with
 | [v1,.agg [v2,v3,v4,v5,v6],.agg [v7,.bool v8,.arr 8 1 v9,v10,v11,v12]]=>match xm_ h 5 (.tup []) v1,xm_ h 1 (.tup []) v10,xm_ h 3 (.tup []) v12 with
  | some (c1,n1,f1,r1),some (c10,n10,f10,r10),some (c12,n12,f12,r12)=>bif isI .u64 v2 && isI .i64 v3 && isI .i64 v4 && isI .i64 v5 && isI .i64 v6 && isI .i64 v7 && isI .i64 v11 then some (c1∧c10∧c12∧(∀q,q < n1→isIns (f1 q)=true)∧(∀q,q < n10→isI .i64 (f10 q)=true)∧(∀q,q < n12→isSnd (f12 q)=true)∧(∀q,q < 8→isI .i64 (v9 q)=true)∧((∀x∈(ls zm_ n1 f1),x.ok))∧(n1≤281474976710656)∧(n10≤1000000)∧(n12≤1000000)∧(yt_ (ls zm_ n1 f1) ⟨(iOf v2),(iOf v3),(iOf v4),(iOf v5),(iOf v6)⟩ ⟨(iOf v7),v8,(fun q=>iOf (v9 q)),(ls iOf n10 f10),(iOf v11),(ls zw_ n12 f12)⟩≠0),.tup [.nilp,.int .i64 (yt_ (ls zm_ n1 f1) ⟨(iOf v2),(iOf v3),(iOf v4),(iOf v5),(iOf v6)⟩ ⟨(iOf v7),v8,(fun q=>iOf (v9 q)),(ls iOf n10 f10),(iOf v11),(ls zw_ n12 f12)⟩)],r1++r10++r12,[])else none
  | _,_,_=>none
 | _=>none
theorem sOpenB_ok:zi_ Tryz.prog 115 sOpenB:=by
 refine⟨zg_ (by kernel_rfl),fun args h m c v rd wr hs hm hc w0 M β h' w R hrd hwr hst=>?_⟩
 unfold sOpenB at hs
 split at hs
 ·rename_i v1 v2 v3 v4 v5 v6 v7 v8 v9 v10 v11 v12
  split at hs
  ·rename_i c1 n1 f1 r1 c10 n10 f10 r10 c12 n12 f12 r12 a1 a10 a12
   obtain⟨hb,hs⟩:=zl_ hs
   simp only[Option.some.injEq,Prod.mk.injEq]at hs
   obtain⟨rfl,rfl,rfl,rfl⟩:=hs
   simp only[Bool.and_eq_true]at hb
   obtain⟨⟨⟨⟨⟨⟨b2,b3⟩,b4⟩,b5⟩,b6⟩,b7⟩,b11⟩:=hb
   obtain⟨k1,k10,k12,g1,g10,g12,g9,y1,y2,y3,y4,y5⟩:=hc
   obtain⟨A1,p1,d1,e1,t1⟩:=zh_ R a1 k1 (fun i hi=>hrd i (List.mem_append_left _ (List.mem_append_left _ hi))) (by omega)
   obtain⟨A10,p10,d10,e10,t10⟩:=zh_ R a10 k10 (fun i hi=>hrd i (List.mem_append_left _ (List.mem_append_right _ hi))) (by omega)
   obtain⟨A12,p12,d12,e12,t12⟩:=zh_ R a12 k12 (fun i hi=>hrd i (List.mem_append_right _ hi)) (by omega)
   refine yh_ (views:=[⟨5,(ls zm_ n1 f1).length,prS (ls zm_ n1 f1),A1,p1⟩,⟨1,(ls iOf n10 f10).length,zp_ (ls iOf n10 f10),A10,p10⟩,⟨3,(ls zw_ n12 f12).length,zo_ (ls zw_ n12 f12),A12,p12⟩]) (open_bad (ls zm_ n1 f1) ⟨(iOf v2),(iOf v3),(iOf v4),(iOf v5),(iOf v6)⟩ ⟨(iOf v7),v8,(fun q=>iOf (v9 q)),(ls iOf n10 f10),(iOf v11),(ls zw_ n12 f12)⟩ p1 p10 p12 y1 (by rw[zb_];exact y2) (by rw[zb_];exact y3) (by rw[zb_];exact y4) y5) ?_ R hm hwr ?_ ?_ ?_
   ·exact d41_
   ·exact d45_
   ·exact k116_
   ·exact k116_
  ·cases hs
 ·cases hs
end Go.Proofs.YtjliakjbdcplcaaGreat.Vm
end
end
