import Derived.Test.YtjliakjbdcplcaaGreatQ1
import Derived.Test.YtjliakjbdcplcaaGreatQ32
set_option linter.unusedSimpArgs false
set_option linter.unusedVariables false
set_option maxRecDepth 100000
set_option maxHeartbeats 4000000
section
namespace Go.Proofs.YtjliakjbdcplcaaGreat.Vm
open Go.RowKit
attribute [local push_cast] prS zo_ zp_ xt_ y8_ y7_ y6_ y5_ y4_ xs_ y3_ y2_ y1_ zn_ z2_ z4_ z1_ zu_ zt_ iOf sTells19 sGoes19 sRunB sTrS sZGo sZBack sZState sZUsed sISm sAw19 sNil sNilN z3_ memN inR inN
def pgm0:List Ins:=[⟨1,0,0,0,0⟩]
theorem pgm0_ls:ls zm_ 1 (prS pgm0)=pgm0:=ls_prS pgm0
theorem pgm0_ok:∀x∈ls zm_ 1 (prS pgm0),x.ok:=by
 rw[pgm0_ls]
 intro x hx
 simp only[pgm0,List.mem_cons,List.not_mem_nil,or_false]at hx
 rcases hx with rfl<;>(refine⟨?_,?_,?_,?_,?_,?_,?_,?_,?_,?_⟩<;>decide)
theorem pgm0_less (t:Nat)(b:Bool):Less (.own t (.arr 1 5 (fun i=>[SV.agg [.nat .u8 1,.nat .u8 0,.nat .u8 0,.nat .u8 0,.nat .i64 0]].getD i (.agg [.nat .u8 0,.nat .u8 0,.nat .u8 0,.nat .u8 0,.nat .i64 0]))) b) (.own t (.arr 1 5 (prS pgm0)) b):=
 .val (fun β=>arrCl fun q hq=>by rcases q with _|q<;>first|rfl |(exfalso;omega)) (fun n1 k1 f1 e=>by injection e with e1 e2 e3;subst e1 e2;exact⟨_,rfl⟩) (fun n1 k1 f1 e=>by injection e with e1 e2 e3;subst e1 e2;exact⟨_,rfl⟩)
def pgm1:List Ins:=[⟨2,0,0,0,0⟩]
theorem pgm1_ls:ls zm_ 1 (prS pgm1)=pgm1:=ls_prS pgm1
theorem pgm1_ok:∀x∈ls zm_ 1 (prS pgm1),x.ok:=by
 rw[pgm1_ls]
 intro x hx
 simp only[pgm1,List.mem_cons,List.not_mem_nil,or_false]at hx
 rcases hx with rfl<;>(refine⟨?_,?_,?_,?_,?_,?_,?_,?_,?_,?_⟩<;>decide)
theorem pgm1_less (t:Nat)(b:Bool):Less (.own t (.arr 1 5 (fun i=>[SV.agg [.nat .u8 2,.nat .u8 0,.nat .u8 0,.nat .u8 0,.nat .i64 0]].getD i (.agg [.nat .u8 0,.nat .u8 0,.nat .u8 0,.nat .u8 0,.nat .i64 0]))) b) (.own t (.arr 1 5 (prS pgm1)) b):=
 .val (fun β=>arrCl fun q hq=>by rcases q with _|q<;>first|rfl |(exfalso;omega)) (fun n1 k1 f1 e=>by injection e with e1 e2 e3;subst e1 e2;exact⟨_,rfl⟩) (fun n1 k1 f1 e=>by injection e with e1 e2 e3;subst e1 e2;exact⟨_,rfl⟩)
def pgm2:List Ins:=[⟨3,3,0,0,2⟩,⟨3,4,0,0,1⟩,⟨34,3,3,4,0⟩,⟨6,3,5,0,0⟩,⟨8,4,3,0,1⟩,⟨10,3,0,0,7⟩,⟨9,0,0,0,2⟩,⟨1,0,0,0,0⟩]
theorem pgm2_ls:ls zm_ 8 (prS pgm2)=pgm2:=ls_prS pgm2
theorem pgm2_ok:∀x∈ls zm_ 8 (prS pgm2),x.ok:=by
 rw[pgm2_ls]
 intro x hx
 simp only[pgm2,List.mem_cons,List.not_mem_nil,or_false]at hx
 rcases hx with rfl|rfl|rfl|rfl|rfl|rfl|rfl|rfl<;>(refine⟨?_,?_,?_,?_,?_,?_,?_,?_,?_,?_⟩<;>decide)
theorem pgm2_less (t:Nat)(b:Bool):Less (.own t (.arr 8 5 (fun i=>[SV.agg [.nat .u8 3,.nat .u8 3,.nat .u8 0,.nat .u8 0,.nat .i64 2],SV.agg [.nat .u8 3,.nat .u8 4,.nat .u8 0,.nat .u8 0,.nat .i64 1],SV.agg [.nat .u8 34,.nat .u8 3,.nat .u8 3,.nat .u8 4,.nat .i64 0],SV.agg [.nat .u8 6,.nat .u8 3,.nat .u8 5,.nat .u8 0,.nat .i64 0],SV.agg [.nat .u8 8,.nat .u8 4,.nat .u8 3,.nat .u8 0,.nat .i64 1],SV.agg [.nat .u8 10,.nat .u8 3,.nat .u8 0,.nat .u8 0,.nat .i64 7],SV.agg [.nat .u8 9,.nat .u8 0,.nat .u8 0,.nat .u8 0,.nat .i64 2],SV.agg [.nat .u8 1,.nat .u8 0,.nat .u8 0,.nat .u8 0,.nat .i64 0]].getD i (.agg [.nat .u8 0,.nat .u8 0,.nat .u8 0,.nat .u8 0,.nat .i64 0]))) b) (.own t (.arr 8 5 (prS pgm2)) b):=
 .val (fun β=>arrCl fun q hq=>by rcases q with _|_|_|_|_|_|_|_|q<;>first|rfl |(exfalso;omega)) (fun n1 k1 f1 e=>by injection e with e1 e2 e3;subst e1 e2;exact⟨_,rfl⟩) (fun n1 k1 f1 e=>by injection e with e1 e2 e3;subst e1 e2;exact⟨_,rfl⟩)
def pgm3:List Ins:=[⟨3,3,0,0,9⟩,⟨7,4,3,0,0⟩,⟨6,4,5,0,0⟩,⟨36,1,0,7,0⟩,⟨1,0,0,0,0⟩]
theorem pgm3_ls:ls zm_ 5 (prS pgm3)=pgm3:=ls_prS pgm3
theorem pgm3_ok:∀x∈ls zm_ 5 (prS pgm3),x.ok:=by
 rw[pgm3_ls]
 intro x hx
 simp only[pgm3,List.mem_cons,List.not_mem_nil,or_false]at hx
 rcases hx with rfl|rfl|rfl|rfl|rfl<;>(refine⟨?_,?_,?_,?_,?_,?_,?_,?_,?_,?_⟩<;>decide)
theorem pgm3_less (t:Nat)(b:Bool):Less (.own t (.arr 5 5 (fun i=>[SV.agg [.nat .u8 3,.nat .u8 3,.nat .u8 0,.nat .u8 0,.nat .i64 9],SV.agg [.nat .u8 7,.nat .u8 4,.nat .u8 3,.nat .u8 0,.nat .i64 0],SV.agg [.nat .u8 6,.nat .u8 4,.nat .u8 5,.nat .u8 0,.nat .i64 0],SV.agg [.nat .u8 36,.nat .u8 1,.nat .u8 0,.nat .u8 7,.nat .i64 0],SV.agg [.nat .u8 1,.nat .u8 0,.nat .u8 0,.nat .u8 0,.nat .i64 0]].getD i (.agg [.nat .u8 0,.nat .u8 0,.nat .u8 0,.nat .u8 0,.nat .i64 0]))) b) (.own t (.arr 5 5 (prS pgm3)) b):=
 .val (fun β=>arrCl fun q hq=>by rcases q with _|_|_|_|_|q<;>first|rfl |(exfalso;omega)) (fun n1 k1 f1 e=>by injection e with e1 e2 e3;subst e1 e2;exact⟨_,rfl⟩) (fun n1 k1 f1 e=>by injection e with e1 e2 e3;subst e1 e2;exact⟨_,rfl⟩)
def pgm4:List Ins:=[⟨9,0,0,0,1⟩,⟨9,0,0,0,0⟩]
theorem pgm4_ls:ls zm_ 2 (prS pgm4)=pgm4:=ls_prS pgm4
theorem pgm4_ok:∀x∈ls zm_ 2 (prS pgm4),x.ok:=by
 rw[pgm4_ls]
 intro x hx
 simp only[pgm4,List.mem_cons,List.not_mem_nil,or_false]at hx
 rcases hx with rfl|rfl<;>(refine⟨?_,?_,?_,?_,?_,?_,?_,?_,?_,?_⟩<;>decide)
theorem pgm4_less (t:Nat)(b:Bool):Less (.own t (.arr 2 5 (fun i=>[SV.agg [.nat .u8 9,.nat .u8 0,.nat .u8 0,.nat .u8 0,.nat .i64 1],SV.agg [.nat .u8 9,.nat .u8 0,.nat .u8 0,.nat .u8 0,.nat .i64 0]].getD i (.agg [.nat .u8 0,.nat .u8 0,.nat .u8 0,.nat .u8 0,.nat .i64 0]))) b) (.own t (.arr 2 5 (prS pgm4)) b):=
 .val (fun β=>arrCl fun q hq=>by rcases q with _|_|q<;>first|rfl |(exfalso;omega)) (fun n1 k1 f1 e=>by injection e with e1 e2 e3;subst e1 e2;exact⟨_,rfl⟩) (fun n1 k1 f1 e=>by injection e with e1 e2 e3;subst e1 e2;exact⟨_,rfl⟩)
def progF:Nat→SV:=fun i=>SV.ite (decide (i=0)) (.sl 2 2 [] 5 0 1 none) (SV.ite (decide (i=1)) (.sl 3 3 [] 5 0 1 none) (SV.ite (decide (i=2)) (.sl 4 4 [] 5 0 8 none) (SV.ite (decide (i=3)) (.sl 5 5 [] 5 0 5 none) (.sl 6 6 [] 5 0 2 none))))
theorem progF_less (t:Nat)(b:Bool):Less (.own t (.arr 5 1 (fun i=>[SV.sl 2 2 [] 5 0 1 none,SV.sl 3 3 [] 5 0 1 none,SV.sl 4 4 [] 5 0 8 none,SV.sl 5 5 [] 5 0 5 none,SV.sl 6 6 [] 5 0 2 none].getD i (.sl 0 0 [] 0 0 0 (some 0)))) b) (.own t (.arr 5 1 progF) b):=.arr fun q hq=>by rcases q with _|_|_|_|_|q<;>first|rfl |(exfalso;omega)
def smlN:List Int:=[-9223372036854775808,-1,0,1,1024,1025,4095,4096,4097,1099511627776,1099511627777,9223372036854775807]
theorem smlN_less (t:Nat)(b:Bool):Less (.own t (.arr 12 1 (fun i=>[SV.int .i64 (-9223372036854775808),SV.int .i64 (-1),SV.nat .i64 0,SV.nat .i64 1,SV.nat .i64 1024,SV.nat .i64 1025,SV.nat .i64 4095,SV.nat .i64 4096,SV.nat .i64 4097,SV.nat .i64 1099511627776,SV.nat .i64 1099511627777,SV.nat .i64 9223372036854775807].getD i (.nat .i64 0))) b) (.own t (.arr 12 1 (zp_ smlN)) b):=
 .val (fun β=>arrCl fun q hq=>by rcases q with _|_|_|_|_|_|_|_|_|_|_|_|q<;>first|rfl |(exfalso;omega)) (fun n1 k1 f1 e=>by injection e with e1 e2 e3;subst e1 e2;exact⟨_,rfl⟩) (fun n1 k1 f1 e=>by injection e with e1 e2 e3;subst e1 e2;exact⟨_,rfl⟩)
theorem smlN_R (q:Nat):R64 (smlN.getD q 0):=by
 rcases q with _|_|_|_|_|_|_|_|_|_|_|_|q<;>first |(constructor<;>decide)|exact zero_R
def c8:List Int:=[8]
theorem c8_less (t:Nat)(b:Bool):Less (.own t (.arr 1 1 fun i=>[SV.nat .i64 8].getD i (.nat .i64 0)) b) (.own t (.arr 1 1 (zp_ c8)) b):=
 .val (fun β=>arrCl fun q hq=>by rcases q with _|q<;>first|rfl |(exfalso;omega)) (fun n1 k1 f1 e=>by injection e with e1 e2 e3;subst e1 e2;exact⟨_,rfl⟩) (fun n1 k1 f1 e=>by injection e with e1 e2 e3;subst e1 e2;exact⟨_,rfl⟩)
theorem c8R:∀k,R64 ((ls iOf 1 (zp_ c8)).getD k 0):=fun k=>by
 rcases k with _|k
 ·exact⟨by decide,by decide⟩
 ·exact zero_R
theorem natR {n:Nat}(h:n≤9223372036854775807):R64 (n:Int):=by unfold R64;omega
theorem m1R:R64 (-1):=by constructor<;>decide
theorem l1R {a z:SV}(h:R64 (iOf a)):∀k,R64 ((ls iOf 1 fun i=>[a].getD i z).getD k 0):=fun k=>by
 rcases k with _|k
 ·exact h
 ·exact zero_R
theorem l3R {a b c z:SV}(ha:R64 (iOf a))(hb:R64 (iOf b))(hc:R64 (iOf c)):∀k,R64 ((ls iOf 3 fun i=>[a,b,c].getD i z).getD k 0):=fun k=>by
 rcases k with _|_|_|k
 ·exact ha
 ·exact hb
 ·exact hc
 ·exact zero_R
theorem l6R {a b c d e f z:SV}(ha:R64 (iOf a))(hb:R64 (iOf b))(hc:R64 (iOf c))(hd:R64 (iOf d))(he:R64 (iOf e))(hf:R64 (iOf f)):∀k,R64 ((ls iOf 6 fun i=>[a,b,c,d,e,f].getD i z).getD k 0):=fun k=>by
 rcases k with _|_|_|_|_|_|k
 ·exact ha
 ·exact hb
 ·exact hc
 ·exact hd
 ·exact he
 ·exact hf
 ·exact zero_R
theorem lzR {m:Nat}:∀k,R64 ((ls iOf m fun _=>SV.nat .i64 0).getD k 0):=fun k=>by
 by_cases h:k < m
 ·rw[ls_getD h];exact zero_R
 ·rw[List.getD_eq_getElem?_getD,List.getElem?_eq_none (by rw[zb_];omega)];exact zero_R
theorem i1 {p:SV→Bool}{a z:SV}(h0:p a=true):∀q,q < 1→p ([a].getD q z)=true:=fun q hq=>by
 rcases q with _|q
 ·exact h0
 ·omega
theorem i3 {p:SV→Bool}{a b c z:SV}(h0:p a=true)(h1:p b=true)(h2:p c=true):∀q,q < 3→p ([a,b,c].getD q z)=true:=fun q hq=>by
 rcases q with _|_|_|q
 ·exact h0
 ·exact h1
 ·exact h2
 ·omega
theorem i6 {p:SV→Bool}{a b c d e f z:SV}(h0:p a=true)(h1:p b=true)(h2:p c=true)(h3:p d=true)(h4:p e=true)(h5:p f=true):∀q,q < 6→p ([a,b,c,d,e,f].getD q z)=true:=fun q hq=>by
 rcases q with _|_|_|_|_|_|q
 ·exact h0
 ·exact h1
 ·exact h2
 ·exact h3
 ·exact h4
 ·exact h5
 ·omega
theorem pgm4_ls':ls zm_ 2 (fun q=>yu_ (pgm4.getD q ⟨0,0,0,0,0⟩))=pgm4:=pgm4_ls
def vJ:Evi:=⟨3,1,2,1,5⟩
theorem jump_run:∀(m:Nat) (x:Ins) (tr:List Int) (a:Int),(xq_ pgm4 vJ (2*m) (yo_ 0 0 0 [] 0) x tr a).bad=190∧(xq_ pgm4 vJ (2*m) (yo_ 0 0 0 [] 0) x tr a).tr.length=tr.length+2*m∧(xq_ pgm4 vJ (2*m) (yo_ 0 0 0 [] 0) x tr a).at_=0
 | 0=>fun x tr a=>by
  rw[Nat.mul_zero,x7_ rfl]
  exact⟨rfl,rfl,rfl⟩
 | m+1=>fun x tr a=>by
  have e:2*(m+1)=2*m+1+1:=by omega
  have e2:xx_ pgm4 vJ (xx_ pgm4 vJ (yo_ 0 0 0 [] 0))=yo_ 0 0 0 [] 0:=rfl
  rw[e,runA_go (s:=yo_ 0 0 0 [] 0) rfl (by omega) (by kernel_rfl),runA_go (s:=xx_ pgm4 vJ (yo_ 0 0 0 [] 0)) rfl (by omega) (by kernel_rfl),e2,Nat.add_sub_cancel,Nat.add_sub_cancel]
  obtain⟨h1,h2,h3⟩:=jump_run m (stepX pgm4 (xx_ pgm4 vJ (yo_ 0 0 0 [] 0)) (stepX pgm4 (yo_ 0 0 0 [] 0) x)) (tr++[(yo_ 0 0 0 [] 0).at_]++[(xx_ pgm4 vJ (yo_ 0 0 0 [] 0)).at_]) (xx_ pgm4 vJ (yo_ 0 0 0 [] 0)).at_
  refine⟨h1,?_,h3⟩
  rw[h2]
  simp only[List.length_append,List.length_cons,List.length_nil]
  omega
theorem jump_all:(xp_ pgm4 ⟨3,1,2,1,5⟩ (yo_ 0 0 0 [] 0) 4096).bad=190∧(xp_ pgm4 ⟨3,1,2,1,5⟩ (yo_ 0 0 0 [] 0) 4096).tr.length=4096∧(xp_ pgm4 ⟨3,1,2,1,5⟩ (yo_ 0 0 0 [] 0) 4096).at_=0:=by
 rw[runO_of (by kernel_rfl) (by decide) (by decide)]
 have e:(4096:Int).toNat=2*2048:=by decide
 rw[e]
 exact jump_run 2048 Ins0 [] 0
attribute [local irreducible] xp_
def runF:Nat→SV:=fun i=>SV.ite (decide (i=0)) .nilp (.ptr 11 [])
theorem runF_less (t:Nat)(b:Bool):Less (.own t (.arr 2 1 (fun i=>[SV.nilp,SV.ptr 11 []].getD i .nilp)) b) (.own t (.arr 2 1 runF) b):=.arr fun q hq=>by rcases q with _|_|q<;>first|rfl |(exfalso;omega)
def cRS:FuncId→Option yn_:=y9_ [(12,sTells19),(10,sGoes19),(13,sRunB),(14,sTrS),(15,sZGo),(16,sZBack),(18,sZState),(19,sZUsed),(17,sISm),(11,sAw19)]
theorem yd_:∀f S,cRS f=some S→zi_ Tryz.prog f S:=zr_ ⟨sTells19_ok,sGoes19_ok,sRunB_ok,sTrS_ok,sZGo_ok,sZBack_ok,sZState_ok,sZUsed_ok,sISm_ok,sAw19_ok,trivial⟩
theorem small19_lit:zs_ Tryz.prog 5 [] [.gone] (.bool true) [.gone]:=by
 refine zf_ (fn:=Tryz.f5) 1 207 0 rfl rfl rfl rfl rfl trivial rfl fun w0 M E hro=>?_
 repeat' (first|refine Ctl.h ?_ |((with_reducible intro hif);first |(focus (cases hif;done)) |((try simp only[JH]at hif);try exact hy_)) |((with_reducible first|apply J22 yd_ za_|apply J23 fol yd_ za_|apply J24);(·rfl);(· exact k190_);(try kernel_rfl);(try (focus (first|exact True.intro |((try simp only[JS,implies_true,forall_const,yc_,z7_,x4_]);(first|first|omega|decide |(repeat' (first|assumption|exact True.intro|omega|apply And.intro)));done)))))|fail)
 have hl0:=pgm0_less 38 true
 have hl1:=pgm1_less 38 true
 have hl2:=pgm2_less 38 true
 have hl3:=pgm3_less 38 true
 have hl4:=pgm4_less 38 true
 have hl7:=c8_less 2 true
 have hl5:=progF_less 22 true
 refine WF.loopAt (fun (k:Nat)=>k≤5) (fun (k:Nat)=>[(1,.ptr 1 []),(2,.sl 7 7 [] 1 0 5 none),(45,.sl 7 7 [] 1 0 5 none),(46,.nat .i64 5),(47,.nat .i64 k)]) (fun (k:Nat)=>[.gone,.own 25 (.agg [.nat .u64 3,.nat .i64 1,.nat .i64 2,.nat .i64 1,.nat .i64 5]) true,.own 38 (.arr 1 5 (prS pgm0)) true,.own 38 (.arr 1 5 (prS pgm1)) true,.own 38 (.arr 8 5 (prS pgm2)) true,.own 38 (.arr 5 5 (prS pgm3)) true,.own 38 (.arr 2 5 (prS pgm4)) true,.own 22 (.arr 5 1 progF) true]) (fun (k:Nat)=>5 - k) 0 (Nat.zero_le _) ?_ ?_ rfl ?_ ?_ rfl ?_
 ·exact we_
 ·exact k7_
 ·exact xa_
 ·exact xa_
 intro k hk
 clear hl0 hl1 hl2 hl3 hl4 hl5
 rcases k with _|_|_|_|_|_|k
 ·repeat' (first|refine Ctl.h ?_ |((with_reducible intro hif);first |(focus (cases hif;done)) |((try simp only[JH]at hif);try exact hy_)) |((with_reducible first|apply J22 yd_ za_|apply J23 fol yd_ za_|apply J24);(·rfl);(· exact k192_);(try kernel_rfl);try exact k191_)|fail)
  refine WF.loopAt (fun (f:Nat)=>f≤16) (fun (f:Nat)=>[(1,.ptr 1 []),(2,.sl 7 7 [] 1 0 5 none),(4,.sl 2 2 [] 5 0 1 none),(45,.sl 7 7 [] 1 0 5 none),(46,.nat .i64 5),(47,.nat .i64 0),(51,.nat .i64 f)]) (fun (f:Nat)=>[.gone,.own 25 (.agg [.nat .u64 3,.nat .i64 1,.nat .i64 2,.nat .i64 1,.nat .i64 5]) true,.own 38 (.arr 1 5 (prS pgm0)) true,.own 38 (.arr 1 5 (prS pgm1)) true,.own 38 (.arr 8 5 (prS pgm2)) true,.own 38 (.arr 5 5 (prS pgm3)) true,.own 38 (.arr 2 5 (prS pgm4)) true,.own 22 (.arr 5 1 progF) true]) (fun (f:Nat)=>16 - f) 0 (Nat.zero_le _) ?_ ?_ rfl ?_ ?_ rfl ?_
  ·exact we_
  ·exact k7_
  ·exact xa_
  ·exact xa_
  intro f hf
  by_cases hf2:f < 16
  ·repeat' (first|refine Ctl.h ?_ |((with_reducible intro hif);first |(focus (cases hif;done)) |((try simp only[JH]at hif);try exact hy_)) |((with_reducible first|apply J22 yd_ za_|apply J23 fol yd_ za_|apply J24);(·rfl);(· exact k193_);(try kernel_rfl);try exact k191_)|fail)
   refine WF.loopAt (fun (z:Nat)=>z≤16) (fun (z:Nat)=>[(1,.ptr 1 []),(2,.sl 7 7 [] 1 0 5 none),(4,.sl 2 2 [] 5 0 1 none),(45,.sl 7 7 [] 1 0 5 none),(46,.nat .i64 5),(47,.nat .i64 0),(51,.nat .i64 f),(5,.nat .i64 f),(6,.ptr 9 []),(64,.nat .i64 z)]) (fun (z:Nat)=>[.gone,.own 25 (.agg [.nat .u64 3,.nat .i64 1,.nat .i64 2,.nat .i64 1,.nat .i64 5]) true,.own 38 (.arr 1 5 (prS pgm0)) true,.own 38 (.arr 1 5 (prS pgm1)) true,.own 38 (.arr 8 5 (prS pgm2)) true,.own 38 (.arr 5 5 (prS pgm3)) true,.own 38 (.arr 2 5 (prS pgm4)) true,.own 22 (.arr 5 1 progF) true,.own 2 (.arr 1 1 (zp_ c8)) true,.own 32 (.agg [.sl 2 2 [] 5 0 1 none,.agg [.nat .u64 3,.nat .i64 1,.nat .i64 2,.nat .i64 1,.nat .i64 5],.agg [.agg [.nat .i64 5,.nat .i64 0,.nat .i64 0],.nat .i64 0,.nat .i64 4],.sl 8 8 [] 1 0 1 none,.nat .i64 2,.nat .i64 f]) true]) (fun (z:Nat)=>16 - z) 0 (Nat.zero_le _) ?_ ?_ rfl ?_ ?_ rfl ?_
   ·exact we_
   ·exact k7_
   ·exact xa_
   ·exact xa_
   intro z hz
   by_cases hz2:z < 16
   ·exact d61_
   ·exact d62_
  ·obtain rfl:f=16:=by omega
   repeat' (first|refine Ctl.h ?_ |((with_reducible intro hif);first |(focus (cases hif;done)) |((try simp only[JH]at hif);try exact hy_)) |((with_reducible first|apply J22 yd_ za_|apply J23 fol yd_ za_|apply J24);(·rfl);(· exact k190_);(try kernel_rfl);try exact k191_)|fail)
   refine At.next 1 ?_ ?_ ?_ rfl ?_ ?_ rfl
   ·exact⟨by decide,by decide⟩
   ·exact we_
   ·exact k7_
   ·exact xa_
   ·exact xa_
 ·repeat' (first|refine Ctl.h ?_ |((with_reducible intro hif);first |(focus (cases hif;done)) |((try simp only[JH]at hif);try exact hy_)) |((with_reducible first|apply J22 yd_ za_|apply J23 fol yd_ za_|apply J24);(·rfl);(· exact k192_);(try kernel_rfl);try exact k191_)|fail)
  refine WF.loopAt (fun (f:Nat)=>f≤16) (fun (f:Nat)=>[(1,.ptr 1 []),(2,.sl 7 7 [] 1 0 5 none),(4,.sl 3 3 [] 5 0 1 none),(45,.sl 7 7 [] 1 0 5 none),(46,.nat .i64 5),(47,.nat .i64 1),(51,.nat .i64 f)]) (fun (f:Nat)=>[.gone,.own 25 (.agg [.nat .u64 3,.nat .i64 1,.nat .i64 2,.nat .i64 1,.nat .i64 5]) true,.own 38 (.arr 1 5 (prS pgm0)) true,.own 38 (.arr 1 5 (prS pgm1)) true,.own 38 (.arr 8 5 (prS pgm2)) true,.own 38 (.arr 5 5 (prS pgm3)) true,.own 38 (.arr 2 5 (prS pgm4)) true,.own 22 (.arr 5 1 progF) true]) (fun (f:Nat)=>16 - f) 0 (Nat.zero_le _) ?_ ?_ rfl ?_ ?_ rfl ?_
  ·exact we_
  ·exact k7_
  ·exact xa_
  ·exact xa_
  intro f hf
  by_cases hf2:f < 16
  ·repeat' (first|refine Ctl.h ?_ |((with_reducible intro hif);first |(focus (cases hif;done)) |((try simp only[JH]at hif);try exact hy_)) |((with_reducible first|apply J22 yd_ za_|apply J23 fol yd_ za_|apply J24);(·rfl);(· exact k193_);(try kernel_rfl);try exact k191_)|fail)
   refine WF.loopAt (fun (z:Nat)=>z≤16) (fun (z:Nat)=>[(1,.ptr 1 []),(2,.sl 7 7 [] 1 0 5 none),(4,.sl 3 3 [] 5 0 1 none),(45,.sl 7 7 [] 1 0 5 none),(46,.nat .i64 5),(47,.nat .i64 1),(51,.nat .i64 f),(5,.nat .i64 f),(6,.ptr 9 []),(64,.nat .i64 z)]) (fun (z:Nat)=>[.gone,.own 25 (.agg [.nat .u64 3,.nat .i64 1,.nat .i64 2,.nat .i64 1,.nat .i64 5]) true,.own 38 (.arr 1 5 (prS pgm0)) true,.own 38 (.arr 1 5 (prS pgm1)) true,.own 38 (.arr 8 5 (prS pgm2)) true,.own 38 (.arr 5 5 (prS pgm3)) true,.own 38 (.arr 2 5 (prS pgm4)) true,.own 22 (.arr 5 1 progF) true,.own 2 (.arr 1 1 (zp_ c8)) true,.own 32 (.agg [.sl 3 3 [] 5 0 1 none,.agg [.nat .u64 3,.nat .i64 1,.nat .i64 2,.nat .i64 1,.nat .i64 5],.agg [.agg [.nat .i64 5,.nat .i64 0,.nat .i64 0],.nat .i64 0,.nat .i64 4],.sl 8 8 [] 1 0 1 none,.nat .i64 2,.nat .i64 f]) true]) (fun (z:Nat)=>16 - z) 0 (Nat.zero_le _) ?_ ?_ rfl ?_ ?_ rfl ?_
   ·exact we_
   ·exact k7_
   ·exact xa_
   ·exact xa_
   intro z hz
   by_cases hz2:z < 16
   ·exact d61_
   ·exact d62_
  ·obtain rfl:f=16:=by omega
   repeat' (first|refine Ctl.h ?_ |((with_reducible intro hif);first |(focus (cases hif;done)) |((try simp only[JH]at hif);try exact hy_)) |((with_reducible first|apply J22 yd_ za_|apply J23 fol yd_ za_|apply J24);(·rfl);(· exact k190_);(try kernel_rfl);try exact k191_)|fail)
   refine At.next 2 ?_ ?_ ?_ rfl ?_ ?_ rfl
   ·exact⟨by decide,by decide⟩
   ·exact we_
   ·exact k7_
   ·exact xa_
   ·exact xa_
 ·repeat' (first|refine Ctl.h ?_ |((with_reducible intro hif);first |(focus (cases hif;done)) |((try simp only[JH]at hif);try exact hy_)) |((with_reducible first|apply J22 yd_ za_|apply J23 fol yd_ za_|apply J24);(·rfl);(· exact k192_);(try kernel_rfl);try exact k191_)|fail)
  refine WF.loopAt (fun (f:Nat)=>f≤16) (fun (f:Nat)=>[(1,.ptr 1 []),(2,.sl 7 7 [] 1 0 5 none),(4,.sl 4 4 [] 5 0 8 none),(45,.sl 7 7 [] 1 0 5 none),(46,.nat .i64 5),(47,.nat .i64 2),(51,.nat .i64 f)]) (fun (f:Nat)=>[.gone,.own 25 (.agg [.nat .u64 3,.nat .i64 1,.nat .i64 2,.nat .i64 1,.nat .i64 5]) true,.own 38 (.arr 1 5 (prS pgm0)) true,.own 38 (.arr 1 5 (prS pgm1)) true,.own 38 (.arr 8 5 (prS pgm2)) true,.own 38 (.arr 5 5 (prS pgm3)) true,.own 38 (.arr 2 5 (prS pgm4)) true,.own 22 (.arr 5 1 progF) true]) (fun (f:Nat)=>16 - f) 0 (Nat.zero_le _) ?_ ?_ rfl ?_ ?_ rfl ?_
  ·exact we_
  ·exact k7_
  ·exact xa_
  ·exact xa_
  intro f hf
  by_cases hf2:f < 16
  ·repeat' (first|refine Ctl.h ?_ |((with_reducible intro hif);first |(focus (cases hif;done)) |((try simp only[JH]at hif);try exact hy_)) |((with_reducible first|apply J22 yd_ za_|apply J23 fol yd_ za_|apply J24);(·rfl);(· exact k193_);(try kernel_rfl);try exact k191_)|fail)
   refine WF.loopAt (fun (z:Nat)=>z≤16) (fun (z:Nat)=>[(1,.ptr 1 []),(2,.sl 7 7 [] 1 0 5 none),(4,.sl 4 4 [] 5 0 8 none),(45,.sl 7 7 [] 1 0 5 none),(46,.nat .i64 5),(47,.nat .i64 2),(51,.nat .i64 f),(5,.nat .i64 f),(6,.ptr 9 []),(64,.nat .i64 z)]) (fun (z:Nat)=>[.gone,.own 25 (.agg [.nat .u64 3,.nat .i64 1,.nat .i64 2,.nat .i64 1,.nat .i64 5]) true,.own 38 (.arr 1 5 (prS pgm0)) true,.own 38 (.arr 1 5 (prS pgm1)) true,.own 38 (.arr 8 5 (prS pgm2)) true,.own 38 (.arr 5 5 (prS pgm3)) true,.own 38 (.arr 2 5 (prS pgm4)) true,.own 22 (.arr 5 1 progF) true,.own 2 (.arr 1 1 (zp_ c8)) true,.own 32 (.agg [.sl 4 4 [] 5 0 8 none,.agg [.nat .u64 3,.nat .i64 1,.nat .i64 2,.nat .i64 1,.nat .i64 5],.agg [.agg [.nat .i64 5,.nat .i64 0,.nat .i64 0],.nat .i64 0,.nat .i64 4],.sl 8 8 [] 1 0 1 none,.nat .i64 2,.nat .i64 f]) true]) (fun (z:Nat)=>16 - z) 0 (Nat.zero_le _) ?_ ?_ rfl ?_ ?_ rfl ?_
   ·exact we_
   ·exact k7_
   ·exact xa_
   ·exact xa_
   intro z hz
   by_cases hz2:z < 16
   ·exact d61_
   ·exact d62_
  ·obtain rfl:f=16:=by omega
   repeat' (first|refine Ctl.h ?_ |((with_reducible intro hif);first |(focus (cases hif;done)) |((try simp only[JH]at hif);try exact hy_)) |((with_reducible first|apply J22 yd_ za_|apply J23 fol yd_ za_|apply J24);(·rfl);(· exact k190_);(try kernel_rfl);try exact k191_)|fail)
   refine At.next 3 ?_ ?_ ?_ rfl ?_ ?_ rfl
   ·exact⟨by decide,by decide⟩
   ·exact we_
   ·exact k7_
   ·exact xa_
   ·exact xa_
 ·repeat' (first|refine Ctl.h ?_ |((with_reducible intro hif);first |(focus (cases hif;done)) |((try simp only[JH]at hif);try exact hy_)) |((with_reducible first|apply J22 yd_ za_|apply J23 fol yd_ za_|apply J24);(·rfl);(· exact k192_);(try kernel_rfl);try exact k191_)|fail)
  refine WF.loopAt (fun (f:Nat)=>f≤16) (fun (f:Nat)=>[(1,.ptr 1 []),(2,.sl 7 7 [] 1 0 5 none),(4,.sl 5 5 [] 5 0 5 none),(45,.sl 7 7 [] 1 0 5 none),(46,.nat .i64 5),(47,.nat .i64 3),(51,.nat .i64 f)]) (fun (f:Nat)=>[.gone,.own 25 (.agg [.nat .u64 3,.nat .i64 1,.nat .i64 2,.nat .i64 1,.nat .i64 5]) true,.own 38 (.arr 1 5 (prS pgm0)) true,.own 38 (.arr 1 5 (prS pgm1)) true,.own 38 (.arr 8 5 (prS pgm2)) true,.own 38 (.arr 5 5 (prS pgm3)) true,.own 38 (.arr 2 5 (prS pgm4)) true,.own 22 (.arr 5 1 progF) true]) (fun (f:Nat)=>16 - f) 0 (Nat.zero_le _) ?_ ?_ rfl ?_ ?_ rfl ?_
  ·exact we_
  ·exact k7_
  ·exact xa_
  ·exact xa_
  intro f hf
  by_cases hf2:f < 16
  ·repeat' (first|refine Ctl.h ?_ |((with_reducible intro hif);first |(focus (cases hif;done)) |((try simp only[JH]at hif);try exact hy_)) |((with_reducible first|apply J22 yd_ za_|apply J23 fol yd_ za_|apply J24);(·rfl);(· exact k193_);(try kernel_rfl);try exact k191_)|fail)
   refine WF.loopAt (fun (z:Nat)=>z≤16) (fun (z:Nat)=>[(1,.ptr 1 []),(2,.sl 7 7 [] 1 0 5 none),(4,.sl 5 5 [] 5 0 5 none),(45,.sl 7 7 [] 1 0 5 none),(46,.nat .i64 5),(47,.nat .i64 3),(51,.nat .i64 f),(5,.nat .i64 f),(6,.ptr 9 []),(64,.nat .i64 z)]) (fun (z:Nat)=>[.gone,.own 25 (.agg [.nat .u64 3,.nat .i64 1,.nat .i64 2,.nat .i64 1,.nat .i64 5]) true,.own 38 (.arr 1 5 (prS pgm0)) true,.own 38 (.arr 1 5 (prS pgm1)) true,.own 38 (.arr 8 5 (prS pgm2)) true,.own 38 (.arr 5 5 (prS pgm3)) true,.own 38 (.arr 2 5 (prS pgm4)) true,.own 22 (.arr 5 1 progF) true,.own 2 (.arr 1 1 (zp_ c8)) true,.own 32 (.agg [.sl 5 5 [] 5 0 5 none,.agg [.nat .u64 3,.nat .i64 1,.nat .i64 2,.nat .i64 1,.nat .i64 5],.agg [.agg [.nat .i64 5,.nat .i64 0,.nat .i64 0],.nat .i64 0,.nat .i64 4],.sl 8 8 [] 1 0 1 none,.nat .i64 2,.nat .i64 f]) true]) (fun (z:Nat)=>16 - z) 0 (Nat.zero_le _) ?_ ?_ rfl ?_ ?_ rfl ?_
   ·exact we_
   ·exact k7_
   ·exact xa_
   ·exact xa_
   intro z hz
   by_cases hz2:z < 16
   ·exact d61_
   ·exact d62_
  ·obtain rfl:f=16:=by omega
   repeat' (first|refine Ctl.h ?_ |((with_reducible intro hif);first |(focus (cases hif;done)) |((try simp only[JH]at hif);try exact hy_)) |((with_reducible first|apply J22 yd_ za_|apply J23 fol yd_ za_|apply J24);(·rfl);(· exact k190_);(try kernel_rfl);try exact k191_)|fail)
   refine At.next 4 ?_ ?_ ?_ rfl ?_ ?_ rfl
   ·exact⟨by decide,by decide⟩
   ·exact we_
   ·exact k7_
   ·exact xa_
   ·exact xa_
 ·repeat' (first|refine Ctl.h ?_ |((with_reducible intro hif);first |(focus (cases hif;done)) |((try simp only[JH]at hif);try exact hy_)) |((with_reducible first|apply J22 yd_ za_|apply J23 fol yd_ za_|apply J24);(·rfl);(· exact k192_);(try kernel_rfl);try exact k191_)|fail)
  refine WF.loopAt (fun (f:Nat)=>f≤16) (fun (f:Nat)=>[(1,.ptr 1 []),(2,.sl 7 7 [] 1 0 5 none),(4,.sl 6 6 [] 5 0 2 none),(45,.sl 7 7 [] 1 0 5 none),(46,.nat .i64 5),(47,.nat .i64 4),(51,.nat .i64 f)]) (fun (f:Nat)=>[.gone,.own 25 (.agg [.nat .u64 3,.nat .i64 1,.nat .i64 2,.nat .i64 1,.nat .i64 5]) true,.own 38 (.arr 1 5 (prS pgm0)) true,.own 38 (.arr 1 5 (prS pgm1)) true,.own 38 (.arr 8 5 (prS pgm2)) true,.own 38 (.arr 5 5 (prS pgm3)) true,.own 38 (.arr 2 5 (prS pgm4)) true,.own 22 (.arr 5 1 progF) true]) (fun (f:Nat)=>16 - f) 0 (Nat.zero_le _) ?_ ?_ rfl ?_ ?_ rfl ?_
  ·exact we_
  ·exact k7_
  ·exact xa_
  ·exact xa_
  intro f hf
  by_cases hf2:f < 16
  ·repeat' (first|refine Ctl.h ?_ |((with_reducible intro hif);first |(focus (cases hif;done)) |((try simp only[JH]at hif);try exact hy_)) |((with_reducible first|apply J22 yd_ za_|apply J23 fol yd_ za_|apply J24);(·rfl);(· exact k193_);(try kernel_rfl);try exact k191_)|fail)
   refine WF.loopAt (fun (z:Nat)=>z≤16) (fun (z:Nat)=>[(1,.ptr 1 []),(2,.sl 7 7 [] 1 0 5 none),(4,.sl 6 6 [] 5 0 2 none),(45,.sl 7 7 [] 1 0 5 none),(46,.nat .i64 5),(47,.nat .i64 4),(51,.nat .i64 f),(5,.nat .i64 f),(6,.ptr 9 []),(64,.nat .i64 z)]) (fun (z:Nat)=>[.gone,.own 25 (.agg [.nat .u64 3,.nat .i64 1,.nat .i64 2,.nat .i64 1,.nat .i64 5]) true,.own 38 (.arr 1 5 (prS pgm0)) true,.own 38 (.arr 1 5 (prS pgm1)) true,.own 38 (.arr 8 5 (prS pgm2)) true,.own 38 (.arr 5 5 (prS pgm3)) true,.own 38 (.arr 2 5 (prS pgm4)) true,.own 22 (.arr 5 1 progF) true,.own 2 (.arr 1 1 (zp_ c8)) true,.own 32 (.agg [.sl 6 6 [] 5 0 2 none,.agg [.nat .u64 3,.nat .i64 1,.nat .i64 2,.nat .i64 1,.nat .i64 5],.agg [.agg [.nat .i64 5,.nat .i64 0,.nat .i64 0],.nat .i64 0,.nat .i64 4],.sl 8 8 [] 1 0 1 none,.nat .i64 2,.nat .i64 f]) true]) (fun (z:Nat)=>16 - z) 0 (Nat.zero_le _) ?_ ?_ rfl ?_ ?_ rfl ?_
   ·exact we_
   ·exact k7_
   ·exact xa_
   ·exact xa_
   intro z hz
   by_cases hz2:z < 16
   ·exact d61_
   ·exact d62_
  ·obtain rfl:f=16:=by omega
   repeat' (first|refine Ctl.h ?_ |((with_reducible intro hif);first |(focus (cases hif;done)) |((try simp only[JH]at hif);try exact hy_)) |((with_reducible first|apply J22 yd_ za_|apply J23 fol yd_ za_|apply J24);(·rfl);(· exact k190_);(try kernel_rfl);try exact k191_)|fail)
   refine At.next 5 ?_ ?_ ?_ rfl ?_ ?_ rfl
   ·exact⟨by decide,by decide⟩
   ·exact we_
   ·exact k7_
   ·exact xa_
   ·exact xa_
 ·have hR:=smlN_R
  have hl6:=smlN_less 3 true
  obtain⟨N0,hN0⟩:∃N0,smlN=N0:=⟨_,rfl⟩
  rw[hN0]at hR hl6
  clear hN0
  repeat' (first|refine Ctl.h ?_ |((with_reducible intro hif);first |(focus (cases hif;done)) |((try simp only[JH]at hif);try exact hy_)) |((with_reducible first|apply J22 yd_ za_|apply J23 fol yd_ za_|apply J24);(·rfl);(· exact k190_);(try kernel_rfl);try exact k191_)|fail)
  refine WF.loopAt (fun (i:Nat)=>i≤12) (fun (i:Nat)=>[(1,.ptr 1 []),(2,.sl 7 7 [] 1 0 5 none),(79,.sl 8 8 [] 1 0 12 none),(80,.nat .i64 12),(81,.nat .i64 i)]) (fun (i:Nat)=>[.gone,.own 25 (.agg [.nat .u64 3,.nat .i64 1,.nat .i64 2,.nat .i64 1,.nat .i64 5]) true,.own 38 (.arr 1 5 (prS pgm0)) true,.own 38 (.arr 1 5 (prS pgm1)) true,.own 38 (.arr 8 5 (prS pgm2)) true,.own 38 (.arr 5 5 (prS pgm3)) true,.own 38 (.arr 2 5 (prS pgm4)) true,.own 22 (.arr 5 1 progF) true,.own 3 (.arr 12 1 (zp_ N0)) true]) (fun (i:Nat)=>12 - i) 0 (Nat.zero_le _) ?_ ?_ rfl ?_ ?_ rfl ?_
  ·exact we_
  ·exact k7_
  ·exact xa_
  ·exact xa_
  intro i hi
  clear hl6
  by_cases hi2:i < 12
  ·obtain⟨n,hn⟩:∃n,N0.getD i 0=n:=⟨_,rfl⟩
   have hnR:=hR i
   rw[hn]at hnR
   by_cases h0:0≤n
   ·by_cases h1:n < 1100
    ·exact d63_
    ·exact d63_
   ·repeat' (first|refine Ctl.h ?_ |((with_reducible intro hif);first |(focus (cases hif;done)) |((try simp only[JH]at hif);try exact hy_)) |((with_reducible first|apply J22 yd_ za_|apply J23 fol yd_ za_|apply J24);(·rfl);(· (simp only[push_cast,↓JP,Nat.reduceAdd,Nat.reduceEqDiff,Nat.reduceLT,Nat.reduceMul,Nat.reduceLeDiff,reduceCtorEq,reduceIte,↓JK,cRS,List.all_cons,List.all_nil,progF,hi2,hn,h0];rfl));(try kernel_rfl);try exact k191_)|fail)
    refine At.next (i+1) ?_ ?_ ?_ rfl ?_ ?_ rfl
    ·exact⟨hi2,by omega⟩
    ·exact we_
    ·exact k7_
    ·exact xa_
    ·exact xa_
  ·obtain rfl:i=12:=by omega
   obtain⟨bJ,tJ,aJ⟩:=jump_all
   obtain⟨R,hRJ⟩:∃R,xp_ pgm4 ⟨3,1,2,1,5⟩ (yo_ 0 0 0 [] 0) 4096=R:=⟨_,rfl⟩
   rw[hRJ]at bJ tJ aJ
   have nJ:R.bad≠0:=by rw[bJ];decide
   have mJ:R.tr.isEmpty=false:=by
    cases h:R.tr
    ·rw[h]at tJ;cases tJ
    ·rfl
   repeat' (first|refine Ctl.h ?_ |((with_reducible intro hif);first |(focus (cases hif;done)) |((try simp only[JH]at hif);try exact hy_)) |((with_reducible first|apply J22 yd_ za_|apply J23 fol yd_ za_|apply J24);(·rfl);(· (simp only[push_cast,↓JP,Nat.reduceAdd,Nat.reduceEqDiff,Nat.reduceLT,Nat.reduceMul,Nat.reduceLeDiff,reduceCtorEq,reduceIte,↓JK,cRS,List.all_cons,List.all_nil,JE,progF,pgm4_ls,pgm4_ls',ls_zero,nat_zero_int,hRJ,bJ,tJ,aJ];rfl));(try kernel_rfl);(try (focus (first|exact True.intro |((try simp only[JE,pgm4_ls,pgm4_ls',ls_zero,iOf,nat_zero_int,Int.cast_ofNat_Int,hRJ]);(repeat' (first|exact True.intro|assumption|exact pgm0_ok|exact pgm1_ok|exact pgm2_ok|exact pgm3_ok|exact pgm4_ok|exact c8R|exact l1R (natR (by decide))|exact l3R (natR (by decide)) hnR (natR (by decide))|exact l6R (natR (by omega)) (natR (by omega)) m1R (natR (by omega)) (natR (by omega)) (natR (by omega))|exact lzR|exact i1 rfl|exact i3 rfl rfl rfl|exact i6 rfl rfl rfl rfl rfl rfl|exact natR (by decide)|exact natR (by omega)|exact zero_R|exact fun q _=>rfl|apply And.intro|rfl|contradiction|omega|decide|intro _));done) |((try simp only[JS,implies_true,forall_const,yc_,z7_,x4_]);(repeat' (first|assumption|exact True.intro|omega|apply And.intro));done)))))|fail)
   have hl8:=runF_less 48 true
   refine WF.loopAt (fun (e:Nat)=>e≤2) (fun (e:Nat)=>[(172,.sl 12 12 [] 1 0 2 none),(173,.nat .i64 2),(174,.nat .i64 e)]) (fun (e:Nat)=>[.gone,.own 25 (.agg [.nat .u64 3,.nat .i64 1,.nat .i64 2,.nat .i64 1,.nat .i64 5]) true,.own 38 (.arr 1 5 (prS pgm0)) true,.own 38 (.arr 1 5 (prS pgm1)) true,.own 38 (.arr 8 5 (prS pgm2)) true,.own 38 (.arr 5 5 (prS pgm3)) true,.own 38 (.arr 2 5 (prS pgm4)) true,.own 22 (.arr 5 1 progF) true,.gone,.gone,.gone,zEB 0 false,.own 48 (.arr 2 1 runF) true]) (fun (e:Nat)=>2 - e) 0 (Nat.zero_le _) ?_ ?_ rfl ?_ ?_ rfl ?_
   ·exact we_
   ·exact k7_
   ·exact xa_
   ·exact xa_
   intro e he
   rcases e with _|_|_|e
   ·repeat' (first|refine Ctl.h ?_ |((with_reducible intro hif);first |(focus (cases hif;done)) |((try simp only[JH]at hif);try exact hy_)) |((with_reducible first|apply J22 yd_ za_|apply J23 fol yd_ za_|apply J24);(·rfl);(· exact k196_);(try kernel_rfl);try exact k191_)|fail)
    refine At.next 1 ?_ ?_ ?_ rfl ?_ ?_ rfl
    ·exact⟨by decide,by decide⟩
    ·exact we_
    ·exact k7_
    ·exact xa_
    ·exact xa_
   ·repeat' (first|refine Ctl.h ?_ |((with_reducible intro hif);first |(focus (cases hif;done)) |((try simp only[JH]at hif);try exact hy_)) |((with_reducible first|apply J22 yd_ za_|apply J23 fol yd_ za_|apply J24);(·rfl);(· exact k196_);(try kernel_rfl);try exact k191_)|fail)
    refine At.next 2 ?_ ?_ ?_ rfl ?_ ?_ rfl
    ·exact⟨by decide,by decide⟩
    ·exact we_
    ·exact k7_
    ·exact xa_
    ·exact xa_
   ·repeat' (first|refine Ctl.h ?_ |((with_reducible intro hif);first |(focus (cases hif;done)) |((try simp only[JH]at hif);try exact hy_)) |((with_reducible first|apply J22 yd_ za_|apply J23 fol yd_ za_|apply J24);(·rfl);(· exact k190_);(try kernel_rfl);try exact k191_)|fail)
    apply At.endsRet za_ (fn:=Tryz.f5) (rs:=[.tmp 0]) Anc.refl hro (lb_ rfl) rfl
    ·exact yl_
    ·exact k6_
    ·exact k7_
    ·rfl
    ·exact xa_
    ·exact k9_
    ·exact fun β=>rfl
    ·exact xa_
   ·omega
 ·omega
end Go.Proofs.YtjliakjbdcplcaaGreat.Vm
end
