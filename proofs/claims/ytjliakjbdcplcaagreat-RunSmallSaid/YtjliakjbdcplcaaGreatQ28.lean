import Derived.Test.YtjliakjbdcplcaaGreatQ1
import Derived.Test.YtjliakjbdcplcaaGreatQ5
import Derived.Test.YtjliakjbdcplcaaGreatQ6
import Derived.Test.YtjliakjbdcplcaaGreatQ7
import Derived.Test.YtjliakjbdcplcaaGreatQ10
import Derived.Test.YtjliakjbdcplcaaGreatQ18
import Derived.Test.YtjliakjbdcplcaaGreatQ21
import Derived.Test.YtjliakjbdcplcaaGreatQ27
import Derived.IntWalk
import Derived.Laws.ResultCell
import Derived.Laws.OwnMore
import Derived.Lib.OthersKept
import Derived.Deep.RegionHeld3
import Derived.StillTailTactics
import Derived.Deep.QuietTactic
import Derived.Deep.RegionLaw
import Derived.Deep.DrawnRows
import Derived.Laws.EntriesVeiled
import Derived.BigQuiet
import Derived.WalkSpells
import Derived.Handy
import Derived.Deep.DeepCutAuto
set_option linter.unusedSimpArgs false
set_option linter.unusedVariables false
set_option maxRecDepth 100000
set_option maxHeartbeats 4000000
section
namespace Go.Proofs.YtjliakjbdcplcaaGreat.Vm
open Go.RowKit
attribute [local push_cast] prS zo_ zp_ xt_ y8_ y7_ y6_ y5_ y4_ xs_ y3_ y2_ y1_ zn_ z2_ z4_ z1_ zu_ zt_ iOf JM eB prO JE inR inN z3_ memN
theorem goT_lit (P:List Ins)(s:Sta)(v:Evi)(x0:Ins)(u:Nat)(f:Int)(hP:PG P)(V:VOk v)(hG:SG P s)(hu:u≤4611686018427387904)(hf0:0≤f)(hf1:f≤4096)(r:RR)(hr:xq_ P v f.toNat s x0 [] 0=r):zs_ Tryz.prog 15 [.ptr 1 [],.int .i64 f] [.gone,rB 2 7 8 9 u true,eB 3 6 P.length,mB s v x0 4 5,cB s,sB s,prO P,.gone,.gone,.gone]
  (.tup [.bool (decide (r.bad=0)),.int .i64 (if r.bad=190 then 0 else r.bad)]) [.gone,rB 2 7 8 9 u true,eB 3 6 P.length,mB r.s v r.x 4 10,cB r.s,.gone,prO P,.gone,.gone,.gone,sB r.s]:=by
 have hrr:rrE f=0:=by unfold rrE;rw[if_neg (by omega)]
 refine zf_ (fn:=Tryz.f15) 10 44 0 rfl rfl rfl rfl rfl u22_ rfl fun w0 M E hro=>?_
 repeat' (first|refine Ctl.h ?_ |((with_reducible intro hif);first |(focus (cases hif;done)) |((try simp only[JH]at hif);try exact hy_)) |((with_reducible first|apply J22 zz_ za_|apply J23 fol zz_ za_|apply J24);(·rfl);(· exact k162_);(try kernel_rfl);try exact yr_)|fail)
 with_reducible apply WF.range (fn':=Tryz.f88) 28
 ·exact k129_
 ·exact xz_
 ·rfl
 ·rfl
 ·rfl
 ·rfl
 ·rfl
 ·rfl
 ·rfl
 intro E1 rec tmps after hE1 hrec hcf haft
 repeat' (first|refine Ctl.h ?_ |((with_reducible intro hif);first |(focus (cases hif;done)) |((try simp only[JH]at hif);try exact hy_)) |((with_reducible first|apply J22 zz_ za_|apply J23 fol zz_ za_|apply J24);(·rfl);(· exact k163_);(try kernel_rfl);try exact yr_)|fail)
 refine At.pick (L2:=[.gone,rB 2 7 8 9 u true,eB 3 6 P.length,mB s v x0 4 17,cB s,.gone,prO P,.gone,.gone,.gone,.own 48 (.ptr 1 []) true,.own 4 (.bool false) true,.own 43 (.nat .i64 0) true,pbB 2,fbB f,.raw (.deferred (some [])),.raw (.loop (rec .ready none)),sB s]) (φ2:=[(0,.yl 16),(1,.ptr 13 []),(2,.ptr 14 []),(4,.nat .i64 0)]) [0,1,2,3,4,5,6,7,8,9,10,11,12,13,14,15,16,5] rfl rfl rfl ?_ rfl ?_ ?_ ?_ rfl ?_
 ·exact k40_
 ·exact k151_
 ·exact k32_
 ·exact k151_
 refine WF.loopAt (fun (z:RS)=>RInv P v f r z) (fun (z:RS)=>[(0,.yl 16),(1,.ptr 13 []),(2,.ptr 14 []),(4,.nat .i64 z.k)]) (fun (z:RS)=>[.gone,rB 2 7 8 9 u true,eB 3 6 P.length,mB z.s v z.x 4 17,cB z.s,.gone,prO P,.gone,.gone,.gone,.own 48 (.ptr 1 []) true,.own 4 (.bool false) true,.own 43 (.nat .i64 0) true,pbB 2,fbB f,.raw (.deferred (some [])),.raw (.loop (rec .ready none)),sB z.s]) (fun (z:RS)=>f.toNat - z.k) ⟨0,s,x0,[],0⟩ ⟨Nat.zero_le _,hG,rfl,hr⟩ ?_ ?_ rfl ?_ ?_ rfl ?_
 ·exact we_
 ·exact k7_
 ·exact k151_
 ·exact k151_
 rintro⟨k,⟨at1,en,rg,ce,dr,se⟩,x,tr,a⟩ ⟨hk,hg,hl,hr1⟩
 dsimp only at hk hg hl hr1 ⊢
 cases en
 ·exact d47_
 ·exact d52_
end Go.Proofs.YtjliakjbdcplcaaGreat.Vm
end
section
open Go.Proofs.YtjliakjbdcplcaaGreat.Vm Go.RowKit
attribute [local push_cast] prS zo_ zp_ xt_ y8_ y7_ y6_ y5_ y4_ xs_ y3_ y2_ y1_ zn_ z2_ z4_ z1_ zu_ zt_ iOf
section
namespace Go.Proofs.YtjliakjbdcplcaaGreat.Vm
open Go.RowKit
def cBk:FuncId→Option yn_:=y9_ [(51,rN),(83,sBgG)]
theorem cBk_ok:∀f S,cBk f=some S→zi_ Tryz.prog f S:=zr_ ⟨rN_ok,sBgG_ok,trivial⟩
theorem back_lit (P:List Ins)(v:Evi)(s:Sta)(u:Nat)(w:Bool)(hs:s.sends=[])(hP:∀x∈P,x.ok)(hn:P.length≤1000000)(hc:s.cells.length≤1000000)(hE:yt_ P v s=0):zs_ Tryz.prog 16 [.ptr 1 []] [.gone,rB 2 3 4 5 u w,.gone,clA 6 P.length,clB v,clC s 7,prO P,cB s]
  (.int .i64 0) [.gone,rB 8 3 4 5 0 false,.gone,clA 6 P.length,clB v,clC s 7,prO P,cB s,eB 9 12 P.length,mB s v Ins0 10 11,cB s,sB s,prO P]:=by
 obtain⟨a0,e0,rg,cs,d,n0⟩:=s
 dsimp only at hs hc
 subst hs
 refine zf_ (fn:=Tryz.f16) 8 26 0 rfl rfl rfl rfl rfl (by simp only[ze_,zc_,hp,zp_,prS,yu_,zo_,sndS,stS,evS,macS,mB,cB,sB,eB,prO,prR,pbB,fbB,rB,rvS,clA,clB,clC,fsS,HB.stable];simp[HB.born,rB,rvS,clA,clB,clC,prO,cB]) rfl fun w0 M E hro=>?_
 repeat' (first|refine Ctl.h ?_ |((with_reducible intro hif);first |(focus (cases hif;done)) |((try simp only[JH]at hif);try exact hy_)) |((with_reducible first|apply J22 cBk_ok za_|apply J23 fol cBk_ok za_|apply J24);(·rfl);(· (simp only[push_cast,↓JP,Nat.reduceAdd,Nat.reduceEqDiff,Nat.reduceLT,Nat.reduceMul,Nat.reduceLeDiff,reduceCtorEq,reduceIte,↓JK,JM,JE,JB,cBk,rB,rvS,clA,clB,clC,fsS,prO,rN,sBgG,clP,prP,z3_,memN,inR,inN];rfl));(try kernel_rfl);(try (focus (first|exact True.intro |((try simp only[JS,implies_true,forall_const,yc_,z7_,x4_,inR,inN]);(first|first|omega|exact⟨hP,hn,hc,hE⟩ |(repeat' (first|assumption|exact True.intro|omega|apply And.intro)));done)))))|fail)
 apply At.endsPick [0,1,2,3,4,5,6,7,8,9,10,11,12] za_ (fn:=Tryz.f16) (rs:=[.tmp 2]) Anc.refl hro (lb_ rfl) rfl
 ·exact yl_
 ·exact xz_
 ·rfl
 ·rfl
 ·rfl
 ·exact k40_
 ·rfl
 ·exact k161_
 ·exact k9_
 ·exact fun β=>rfl
 ·exact k161_
def sNewG:yn_:=fun args h m=>match args with
 | [v1,.agg [v2,v3,v4,v5,v6],.agg [.agg [v7,v8,v9],v10,v11],v12,v13]=>match xm_ h 5 (.tup []) v1,xm_ h 1 (.tup []) v12 with
  | some (c1,n1,f1,r1),some (c12,n12,f12,r12)=>bif isI .u64 v2 && isI .i64 v3 && isI .i64 v4 && isI .i64 v5 && isI .i64 v6 && isI .i64 v7 && isI .i64 v8 && isI .i64 v9 && isI .i64 v10 && isI .i64 v11 && isI .i64 v13 then some (c1∧c12∧(∀q,q < n1→isIns (f1 q)=true)∧(∀q,q < n12→isI .i64 (f12 q)=true)∧((∀x∈(ls zm_ n1 f1),x.ok))∧(n1≤1000000)∧(n12≤1000000)∧(yt_ (ls zm_ n1 f1) ⟨(iOf v2),(iOf v3),(iOf v4),(iOf v5),(iOf v6)⟩ (yo_ (iOf v11) (iOf v7) (iOf v8) (ls iOf n12 f12) (iOf v13))=0),.tup [.ptr m [],.int .i64 0],r1++r12,[(m,rB (m+1) (m+6) (m+7) (m+8) 0 false),(m+1,eB (m+2) (m+5) (ls zm_ n1 f1).length),(m+2,mB (yo_ (iOf v11) (iOf v7) (iOf v8) (ls iOf n12 f12) (iOf v13)) ⟨(iOf v2),(iOf v3),(iOf v4),(iOf v5),(iOf v6)⟩ Ins0 (m+3) (m+4)),(m+3,cB (yo_ (iOf v11) (iOf v7) (iOf v8) (ls iOf n12 f12) (iOf v13))),(m+4,sB (yo_ (iOf v11) (iOf v7) (iOf v8) (ls iOf n12 f12) (iOf v13))),(m+5,prO (ls zm_ n1 f1)),(m+6,clA (m+9) (ls zm_ n1 f1).length),(m+7,clB ⟨(iOf v2),(iOf v3),(iOf v4),(iOf v5),(iOf v6)⟩),(m+8,clC (yo_ (iOf v11) (iOf v7) (iOf v8) (ls iOf n12 f12) (iOf v13)) (m+10)),(m+9,prO (ls zm_ n1 f1)),(m+10,cB (yo_ (iOf v11) (iOf v7) (iOf v8) (ls iOf n12 f12) (iOf v13)))])else none
  | _,_=>none
 | _=>none
theorem sNewG_ok:zi_ Tryz.prog 36 sNewG:=by
 refine⟨zg_ (by kernel_rfl),fun args h m c v rd wr hs hm hc w0 M β h' w R hrd hwr hst=>?_⟩
 unfold sNewG at hs
 split at hs
 ·rename_i v1 v2 v3 v4 v5 v6 v7 v8 v9 v10 v11 v12 v13
  split at hs
  ·rename_i c1 n1 f1 r1 c12 n12 f12 r12 a1 a12
   obtain⟨hb,hs⟩:=zl_ hs
   simp only[Option.some.injEq,Prod.mk.injEq]at hs
   obtain⟨rfl,rfl,rfl,rfl⟩:=hs
   simp only[Bool.and_eq_true]at hb
   obtain⟨⟨⟨⟨⟨⟨⟨⟨⟨⟨b2,b3⟩,b4⟩,b5⟩,b6⟩,b7⟩,b8⟩,b9⟩,b10⟩,b11⟩,b13⟩:=hb
   obtain⟨k1,k12,g1,g12,y1,y2,y3,y4⟩:=hc
   obtain⟨A1,p1,d1,e1,t1⟩:=zh_ R a1 k1 (fun i hi=>hrd i (List.mem_append_left _ hi)) (by omega)
   obtain⟨A12,p12,d12,e12,t12⟩:=zh_ R a12 k12 (fun i hi=>hrd i (List.mem_append_right _ hi)) (by omega)
   refine yh_ (views:=[⟨5,(ls zm_ n1 f1).length,prS (ls zm_ n1 f1),A1,p1⟩,⟨1,(ls iOf n12 f12).length,zp_ (ls iOf n12 f12),A12,p12⟩]) (new_good (ls zm_ n1 f1) ⟨(iOf v2),(iOf v3),(iOf v4),(iOf v5),(iOf v6)⟩ (iOf v7) (iOf v8) (iOf v9) (iOf v10) (iOf v11) (iOf v13) (ls iOf n12 f12) p1 p12 y1 (by rw[zb_];exact y2) (by rw[zb_];exact y3) y4) ?_ R hm hwr ?_ ?_ ?_
   ·exact d43_
   ·exact d53_
   ·exact k161_
   ·exact k161_
  ·cases hs
 ·cases hs
def sNewB:yn_:=fun args h m=>match args with
 | [v1,.agg [v2,v3,v4,v5,v6],.agg [.agg [v7,v8,v9],v10,v11],v12,v13]=>match xm_ h 5 (.tup []) v1,xm_ h 1 (.tup []) v12 with
  | some (c1,n1,f1,r1),some (c12,n12,f12,r12)=>bif isI .u64 v2 && isI .i64 v3 && isI .i64 v4 && isI .i64 v5 && isI .i64 v6 && isI .i64 v7 && isI .i64 v8 && isI .i64 v9 && isI .i64 v10 && isI .i64 v11 && isI .i64 v13 then some (c1∧c12∧(∀q,q < n1→isIns (f1 q)=true)∧(∀q,q < n12→isI .i64 (f12 q)=true)∧((∀x∈(ls zm_ n1 f1),x.ok))∧(n1≤1000000)∧(n12≤1000000)∧(yt_ (ls zm_ n1 f1) ⟨(iOf v2),(iOf v3),(iOf v4),(iOf v5),(iOf v6)⟩ (yo_ (iOf v11) (iOf v7) (iOf v8) (ls iOf n12 f12) (iOf v13))≠0),.tup [.nilp,.int .i64 (yt_ (ls zm_ n1 f1) ⟨(iOf v2),(iOf v3),(iOf v4),(iOf v5),(iOf v6)⟩ (yo_ (iOf v11) (iOf v7) (iOf v8) (ls iOf n12 f12) (iOf v13)))],r1++r12,[])else none
  | _,_=>none
 | _=>none
theorem sNewB_ok:zi_ Tryz.prog 36 sNewB:=by
 refine⟨zg_ (by kernel_rfl),fun args h m c v rd wr hs hm hc w0 M β h' w R hrd hwr hst=>?_⟩
 unfold sNewB at hs
 split at hs
 ·rename_i v1 v2 v3 v4 v5 v6 v7 v8 v9 v10 v11 v12 v13
  split at hs
  ·rename_i c1 n1 f1 r1 c12 n12 f12 r12 a1 a12
   obtain⟨hb,hs⟩:=zl_ hs
   simp only[Option.some.injEq,Prod.mk.injEq]at hs
   obtain⟨rfl,rfl,rfl,rfl⟩:=hs
   simp only[Bool.and_eq_true]at hb
   obtain⟨⟨⟨⟨⟨⟨⟨⟨⟨⟨b2,b3⟩,b4⟩,b5⟩,b6⟩,b7⟩,b8⟩,b9⟩,b10⟩,b11⟩,b13⟩:=hb
   obtain⟨k1,k12,g1,g12,y1,y2,y3,y4⟩:=hc
   obtain⟨A1,p1,d1,e1,t1⟩:=zh_ R a1 k1 (fun i hi=>hrd i (List.mem_append_left _ hi)) (by omega)
   obtain⟨A12,p12,d12,e12,t12⟩:=zh_ R a12 k12 (fun i hi=>hrd i (List.mem_append_right _ hi)) (by omega)
   refine yh_ (views:=[⟨5,(ls zm_ n1 f1).length,prS (ls zm_ n1 f1),A1,p1⟩,⟨1,(ls iOf n12 f12).length,zp_ (ls iOf n12 f12),A12,p12⟩]) (new_bad (ls zm_ n1 f1) ⟨(iOf v2),(iOf v3),(iOf v4),(iOf v5),(iOf v6)⟩ (iOf v7) (iOf v8) (iOf v9) (iOf v10) (iOf v11) (iOf v13) (ls iOf n12 f12) p1 p12 y1 (by rw[zb_];exact y2) (by rw[zb_];exact y3) y4) ?_ R hm hwr ?_ ?_ ?_
   ·exact d43_
   ·exact d53_
   ·exact k161_
   ·exact k161_
  ·cases hs
 ·cases hs
theorem litNat {f:FuncId}{a:SV}{k:IntKind}{n:Nat}{L0 L1:List HB}{v:SV}(H:zs_ Tryz.prog f [a,.int k n] L0 v L1):zs_ Tryz.prog f [a,.nat k n] L0 v L1:=fun w0 M β w R=>H w0 M β w R
def runP (h:HM)(r:Nat):Option (Nat×Bool×(Sta×Evi×Ins×List Ins)×(Nat×Nat×Nat×Nat×Nat)×(Nat×Nat×Nat)×Prop):=match h r with
 | .own t (.agg [.ptr e [],.fn fi [.ptr a [],.ptr b [],.ptr c []],.nat .i64 u,.bool w]) true=>match engP h e with
  | some (s,v,x,P,(g,c1,k,i),ok)=>bif Nat.beq t 52 && Nat.beq fi 83 && z3_ [0,r,e,g,c1,k,i,a,b,c] && ((h a).born && (h b).born && (h c).born)then some (u,w,(s,v,x,P),(e,g,c1,k,i),(a,b,c),ok)else none
  | none=>none
 | _=>none
theorem runP_val {h:HM}{r u:Nat}{w:Bool}{s:Sta}{v:Evi}{x:Ins}{P:List Ins}{e g c1 k i a b c:Nat}{ok:Prop}(hp:runP h r=some (u,w,(s,v,x,P),(e,g,c1,k,i),(a,b,c),ok)) :
  h r=rB e a b c u w∧engP h e=some (s,v,x,P,(g,c1,k,i),ok)∧z3_ [0,r,e,g,c1,k,i,a,b,c]=true∧(h a).born=true∧(h b).born=true∧(h c).born=true:=by
 unfold runP at hp
 split at hp
 ·rename_i t e fi a b c u w hr
  split at hp
  ·rename_i s v x P g c1 k i ok he
   obtain⟨hb,hs⟩:=zl_ hp
   simp only[Option.some.injEq,Prod.mk.injEq]at hs
   obtain⟨rfl,rfl,⟨rfl,rfl,rfl,rfl⟩,⟨rfl,rfl,rfl,rfl,rfl⟩,⟨rfl,rfl,rfl⟩,rfl⟩:=hs
   simp only[Bool.and_eq_true]at hb
   obtain⟨⟨⟨b1,b2⟩,hnd⟩,⟨b4,b5⟩,b6⟩:=hb
   have b1:=Nat.eq_of_beq_eq_true b1
   have b2:=Nat.eq_of_beq_eq_true b2
   subst b1 b2
   exact⟨hr,he,hnd,b4,b5,b6⟩
  ·cases hp
 ·cases hp
def goU (u:Nat)(w:Bool)(r:RR):Nat:=bif w then u else u+r.tr.length
def goW (w:Bool)(r:RR):Bool:=bif w then true else(decide (r.bad≠0) && decide (r.bad≠190))
def goV (r:RR):SV:=.tup [.bool (decide (r.bad=0)),.int .i64 (if r.bad=190 then 0 else r.bad)]
theorem go_lit (P:List Ins)(s:Sta)(v:Evi)(x0:Ins)(u:Nat)(w:Bool)(f:Int)(hP:PG P)(V:VOk v)(hG:SG P s)(hu:u≤4611686018427387904)(hf0:0≤f)(hf1:f≤4096)(r:RR)(hr:xq_ P v f.toNat s x0 [] 0=r):zs_ Tryz.prog 15 [.ptr 1 [],.int .i64 f] [.gone,rB 2 7 8 9 u w,eB 3 6 P.length,mB s v x0 4 5,cB s,sB s,prO P,.gone,.gone,.gone]
  (goV r) [.gone,rB 2 7 8 9 (goU u w r) (goW w r),eB 3 6 P.length,mB r.s v r.x 4 10,cB r.s,.gone,prO P,.gone,.gone,.gone,sB r.s]:=by
 cases w
 ·exact goF_lit P s v x0 u f hP V hG hu hf0 hf1 r hr
 ·exact goT_lit P s v x0 u f hP V hG hu hf0 hf1 r hr
def rGoQ (r:Nat)(f:Int)(h:HM)(m:Nat):Option (Prop×SV×List Nat×List (Nat×HB)):=match runP h r with
 | some (u,w,(s,v,x,P),(e,g,c1,k,i),(a,b,c),ok)=>some (ok∧PG P∧VOk v∧SG P s∧u≤4611686018427387904∧0≤f∧f≤4096,goV (xq_ P v f.toNat s x [] 0),[r,e,g,c1,k,i,a,b,c],[(r,rB e a b c (goU u w (xq_ P v f.toNat s x [] 0)) (goW w (xq_ P v f.toNat s x [] 0))),(e,eB g i P.length),(g,mB (xq_ P v f.toNat s x [] 0).s v (xq_ P v f.toNat s x [] 0).x c1 m),(c1,cB (xq_ P v f.toNat s x [] 0).s),(k,.gone),(i,prO P),(m,sB (xq_ P v f.toNat s x [] 0).s)])
 | none=>none
def rGo:yn_:=fun args h m=>match args with
 | [.ptr r [],.int .i64 f]=>rGoQ r f h m
 | [.ptr r [],.nat .i64 n]=>rGoQ r n h m
 | _=>none
theorem rGo_ok:zi_ Tryz.prog 15 rGo:=by
 refine⟨zg_ (by kernel_rfl),fun args h m c v rd wr hs hm hc w0 M β h' w R hrd hwr hst=>?_⟩
 unfold rGo at hs
 split at hs
 ·rename_i r f
  unfold rGoQ at hs
  split at hs
  ·rename_i u w s v x P e g c1 k i a b c ok hrp
   simp only[Option.some.injEq,Prod.mk.injEq]at hs
   obtain⟨rfl,rfl,rfl,rfl⟩:=hs
   obtain⟨hr,hep,hnd,ba,bb,bc⟩:=runP_val hrp
   obtain⟨ok1,ok2,rfl,hmp,hpp,he,_⟩:=engP_val hep
   obtain⟨⟨hok,hok2⟩,hP,hV,hG,hu,hf0,hf1⟩:=hc
   have er:=hrd r (by simp)
   have ee:=hrd e (by simp)
   have eg:=hrd g (by simp)
   have ec:=hrd c1 (by simp)
   have ek:=hrd k (by simp)
   have ei:=hrd i (by simp)
   exact bun_ok (h:=h) (m:=m) [0,r,e,g,c1,k,i,a,b,c] (go_lit P s v x u w f hP hV hG hu hf0 hf1 _ rfl) R rfl (by simp) rfl rfl hnd
    ⟨Fit.gone (by rw[R.nil0];rfl),bun_run hr er rfl rfl rfl rfl,bun_engO he ee rfl rfl,bun_mac hmp hok eg rfl rfl,bun_cel hmp hok ec,bun_snd hmp hok ek,bun_prO hpp hok2 ei,Fit.gone (by rw[hrd a (by simp)];exact ba),Fit.gone (by rw[hrd b (by simp)];exact bb),Fit.gone (by rw[hrd c (by simp)];exact bc),trivial⟩ hm
    (fun p hp=>by
     simp only[newB,List.drop,List.length_cons,List.length_nil,List.mem_cons,List.not_mem_nil,or_false]at hp
     subst hp
     exact hwr _ (.tail _ (.tail _ (.tail _ (.tail _ (.tail _ (.tail _ (.head _)))))))) (by simp) rfl
    ⟨trivial,rB_st rfl rfl rfl rfl,eB_st rfl rfl,mB_st rfl rfl,cB_st,sB_st,prO_st,trivial,trivial,trivial,trivial⟩ ⟨rfl,trivial,trivial⟩
    ⟨trivial,rB_st rfl rfl rfl rfl,eB_st rfl rfl,mB_st rfl rfl,cB_st,trivial,prO_st,trivial,trivial,trivial,sB_st,trivial⟩ (⟨trivial,trivial,trivial⟩) rfl rfl (by show [(r,(rB 2 7 8 9 _ _).ren _),(e,(eB 3 6 _).ren _),(g,(mB _ v _ 4 10).ren _),(c1,(cB _).ren _),(k,HB.gone.ren _),(i,(prO P).ren _),(m,(sB _).ren _)]=_;rw[rB_ren,eB_ren,mB_ren,cB_ren,sB_ren,prO_ren];simp[wd_,HB.ren])
  ·cases hs
 ·rename_i r f
  unfold rGoQ at hs
  split at hs
  ·rename_i u w s v x P e g c1 k i a b c ok hrp
   simp only[Option.some.injEq,Prod.mk.injEq]at hs
   obtain⟨rfl,rfl,rfl,rfl⟩:=hs
   obtain⟨hr,hep,hnd,ba,bb,bc⟩:=runP_val hrp
   obtain⟨ok1,ok2,rfl,hmp,hpp,he,_⟩:=engP_val hep
   obtain⟨⟨hok,hok2⟩,hP,hV,hG,hu,hf0,hf1⟩:=hc
   have er:=hrd r (by simp)
   have ee:=hrd e (by simp)
   have eg:=hrd g (by simp)
   have ec:=hrd c1 (by simp)
   have ek:=hrd k (by simp)
   have ei:=hrd i (by simp)
   exact bun_ok (h:=h) (m:=m) [0,r,e,g,c1,k,i,a,b,c] (litNat (go_lit P s v x u w (f:Int) hP hV hG hu hf0 hf1 _ rfl)) R rfl (by simp) rfl rfl hnd
    ⟨Fit.gone (by rw[R.nil0];rfl),bun_run hr er rfl rfl rfl rfl,bun_engO he ee rfl rfl,bun_mac hmp hok eg rfl rfl,bun_cel hmp hok ec,bun_snd hmp hok ek,bun_prO hpp hok2 ei,Fit.gone (by rw[hrd a (by simp)];exact ba),Fit.gone (by rw[hrd b (by simp)];exact bb),Fit.gone (by rw[hrd c (by simp)];exact bc),trivial⟩ hm
    (fun p hp=>by
     simp only[newB,List.drop,List.length_cons,List.length_nil,List.mem_cons,List.not_mem_nil,or_false]at hp
     subst hp
     exact hwr _ (.tail _ (.tail _ (.tail _ (.tail _ (.tail _ (.tail _ (.head _)))))))) (by simp) rfl
    ⟨trivial,rB_st rfl rfl rfl rfl,eB_st rfl rfl,mB_st rfl rfl,cB_st,sB_st,prO_st,trivial,trivial,trivial,trivial⟩ ⟨rfl,trivial,trivial⟩
    ⟨trivial,rB_st rfl rfl rfl rfl,eB_st rfl rfl,mB_st rfl rfl,cB_st,trivial,prO_st,trivial,trivial,trivial,sB_st,trivial⟩ (⟨trivial,trivial,trivial⟩) rfl rfl (by show [(r,(rB 2 7 8 9 _ _).ren _),(e,(eB 3 6 _).ren _),(g,(mB _ v _ 4 10).ren _),(c1,(cB _).ren _),(k,HB.gone.ren _),(i,(prO P).ren _),(m,(sB _).ren _)]=_;rw[rB_ren,eB_ren,mB_ren,cB_ren,sB_ren,prO_ren];simp[wd_,HB.ren])
  ·cases hs
 ·cases hs
def x8_ (r:Nat)(f:Int)(h:HM)(m:Nat):Option (Prop×SV×List Nat×List (Nat×HB)):=match runP h r with
 | some (u,w,(s,v,x,P),(e,g,c1,k,i),(a,b,c),ok)=>some (ok∧s.cells.length≤1000000∧s.sends.length≤1000000,stS s m (m+1),[r,e,g,c1,k,i,a,b,c],[(r,rB e a b c u w),(e,eB g i P.length),(g,mB s v x c1 k),(c1,cB s),(k,sB s),(i,prO P),(m,cB s),(m+1,sB s)])
 | none=>none
def rState:yn_:=fun args h m=>match args with
 | [.ptr r []]=>x8_ r 0 h m
 | _=>none
theorem rState_ok:zi_ Tryz.prog 18 rState:=by
 refine⟨zg_ (by kernel_rfl),fun args h m c v rd wr hs hm hc w0 M β h' w R hrd hwr hst=>?_⟩
 unfold rState at hs
 split at hs
 ·rename_i r
  unfold x8_ at hs
  split at hs
  ·rename_i u w s v x P e g c1 k i a b c ok hrp
   simp only[Option.some.injEq,Prod.mk.injEq]at hs
   obtain⟨rfl,rfl,rfl,rfl⟩:=hs
   obtain⟨hr,hep,hnd,ba,bb,bc⟩:=runP_val hrp
   obtain⟨ok1,ok2,rfl,hmp,hpp,he,_⟩:=engP_val hep
   obtain⟨⟨hok,hok2⟩,hc1,hs1⟩:=hc
   have er:=hrd r (by simp)
   have ee:=hrd e (by simp)
   have eg:=hrd g (by simp)
   have ec:=hrd c1 (by simp)
   have ek:=hrd k (by simp)
   have ei:=hrd i (by simp)
   exact bun_ok (h:=h) (m:=m) [0,r,e,g,c1,k,i,a,b,c] (rstate_lit P s v x u w hc1 hs1) R rfl (by simp) rfl rfl hnd
    ⟨Fit.gone (by rw[R.nil0];rfl),bun_run hr er rfl rfl rfl rfl,bun_engO he ee rfl rfl,bun_mac hmp hok eg rfl rfl,bun_cel hmp hok ec,bun_snd hmp hok ek,bun_prO hpp hok2 ei,Fit.gone (by rw[hrd a (by simp)];exact ba),Fit.gone (by rw[hrd b (by simp)];exact bb),Fit.gone (by rw[hrd c (by simp)];exact bc),trivial⟩ hm
    (fun p hp=>by
     simp only[newB,List.drop,List.length_cons,List.length_nil,List.mem_cons,List.not_mem_nil,or_false]at hp
     rcases hp with rfl|rfl
     ·exact hwr (m,cB s) (by simp)
     ·exact hwr (m+1,sB s) (by simp)) (by simp) rfl
    ⟨trivial,rB_st rfl rfl rfl rfl,eB_st rfl rfl,mB_st rfl rfl,cB_st,sB_st,prO_st,trivial,trivial,trivial,trivial⟩ ⟨rfl,trivial⟩
    ⟨trivial,rB_st rfl rfl rfl rfl,eB_st rfl rfl,mB_st rfl rfl,cB_st,sB_st,prO_st,trivial,trivial,trivial,cB_st,sB_st,trivial⟩ (by simp[stS,zc_,ze_];exact⟨rfl,rfl⟩) rfl rfl (by show [(r,(rB 2 7 8 9 _ _).ren _),(e,(eB 3 6 _).ren _),(g,(mB _ v _ 4 5).ren _),(c1,(cB _).ren _),(k,(sB _).ren _),(i,(prO P).ren _),(m,(cB _).ren _),(m+1,(sB _).ren _)]=_;rw[rB_ren,eB_ren,mB_ren,cB_ren,sB_ren,prO_ren];rfl)
  ·cases hs
 ·cases hs
def rGoRQ (r:Nat)(f:Int)(h:HM)(m:Nat):Option (Prop×SV×List Nat×List (Nat×HB)):=match h r with
 | .own t (.agg [.ptr e [],.fn fi [.ptr a [],.ptr b [],.ptr c []],.nat .i64 u,.bool w]) true=>bif Nat.beq t 52 && Nat.beq fi 83 && z3_ [0,r,e,a,b,c] && ((h e).born && (h a).born && (h b).born && (h c).born)then some (rrE f≠0,.tup [.bool false,.int .i64 2],[r,e,a,b,c],[(r,rB e a b c u w)])else none
 | _=>none
def rGoR:yn_:=fun args h m=>match args with
 | [.ptr r [],.int .i64 f]=>rGoRQ r f h m
 | [.ptr r [],.nat .i64 n]=>rGoRQ r n h m
 | _=>none
theorem rGoR_ok:zi_ Tryz.prog 15 rGoR:=by
 refine⟨zg_ (by kernel_rfl),fun args h m c v rd wr hs hm hc w0 M β h' w R hrd hwr hst=>?_⟩
 unfold rGoR at hs
 split at hs
 ·rename_i r f
  unfold rGoRQ at hs
  split at hs
  ·rename_i t e fi a b c u w hr
   obtain⟨hb,hs⟩:=zl_ hs
   simp only[Option.some.injEq,Prod.mk.injEq]at hs
   obtain⟨rfl,rfl,rfl,rfl⟩:=hs
   simp only[Bool.and_eq_true]at hb
   obtain⟨⟨⟨b1,b2⟩,hnd⟩,⟨⟨b3,b4⟩,b5⟩,b6⟩:=hb
   have b1:=Nat.eq_of_beq_eq_true b1
   have b2:=Nat.eq_of_beq_eq_true b2
   subst b1 b2
   exact bun_ok (h:=h) (m:=m) [0,r,e,a,b,c] (goR_lit u w f hc) R rfl (by simp) rfl rfl hnd
    ⟨Fit.gone (by rw[R.nil0];rfl),bun_run hr (hrd r (by simp)) rfl rfl rfl rfl,Fit.gone (by rw[hrd e (by simp)];exact b3),Fit.gone (by rw[hrd a (by simp)];exact b4),Fit.gone (by rw[hrd b (by simp)];exact b5),Fit.gone (by rw[hrd c (by simp)];exact b6),trivial⟩ hm
    (fun p hp=>by cases hp) (by simp) rfl
    ⟨trivial,rB_st rfl rfl rfl rfl,trivial,trivial,trivial,trivial,trivial⟩ ⟨rfl,trivial,trivial⟩
    ⟨trivial,rB_st rfl rfl rfl rfl,trivial,trivial,trivial,trivial,trivial⟩ (by simp[zc_,ze_]) rfl rfl rfl
  ·cases hs
 ·rename_i r f
  unfold rGoRQ at hs
  split at hs
  ·rename_i t e fi a b c u w hr
   obtain⟨hb,hs⟩:=zl_ hs
   simp only[Option.some.injEq,Prod.mk.injEq]at hs
   obtain⟨rfl,rfl,rfl,rfl⟩:=hs
   simp only[Bool.and_eq_true]at hb
   obtain⟨⟨⟨b1,b2⟩,hnd⟩,⟨⟨b3,b4⟩,b5⟩,b6⟩:=hb
   have b1:=Nat.eq_of_beq_eq_true b1
   have b2:=Nat.eq_of_beq_eq_true b2
   subst b1 b2
   exact bun_ok (h:=h) (m:=m) [0,r,e,a,b,c] (litNat (goR_lit u w (f:Int) hc)) R rfl (by simp) rfl rfl hnd
    ⟨Fit.gone (by rw[R.nil0];rfl),bun_run hr (hrd r (by simp)) rfl rfl rfl rfl,Fit.gone (by rw[hrd e (by simp)];exact b3),Fit.gone (by rw[hrd a (by simp)];exact b4),Fit.gone (by rw[hrd b (by simp)];exact b5),Fit.gone (by rw[hrd c (by simp)];exact b6),trivial⟩ hm
    (fun p hp=>by cases hp) (by simp) rfl
    ⟨trivial,rB_st rfl rfl rfl rfl,trivial,trivial,trivial,trivial,trivial⟩ ⟨rfl,trivial,trivial⟩
    ⟨trivial,rB_st rfl rfl rfl rfl,trivial,trivial,trivial,trivial,trivial⟩ (by simp[zc_,ze_]) rfl rfl rfl
  ·cases hs
 ·cases hs
def rUsedQ (r:Nat)(f:Int)(h:HM)(m:Nat):Option (Prop×SV×List Nat×List (Nat×HB)):=match h r with
 | .own t (.agg [.ptr e [],.fn fi [.ptr a [],.ptr b [],.ptr c []],.nat .i64 u,.bool w]) true=>bif Nat.beq t 52 && Nat.beq fi 83 && z3_ [0,r,e,a,b,c] && ((h e).born && (h a).born && (h b).born && (h c).born)then some (True,.nat .i64 u,[r,e,a,b,c],[(r,rB e a b c u w)])else none
 | _=>none
def rUsed:yn_:=fun args h m=>match args with
 | [.ptr r []]=>rUsedQ r 0 h m
 | _=>none
theorem rUsed_ok:zi_ Tryz.prog 19 rUsed:=by
 refine⟨zg_ (by kernel_rfl),fun args h m c v rd wr hs hm hc w0 M β h' w R hrd hwr hst=>?_⟩
 unfold rUsed at hs
 split at hs
 ·rename_i r
  unfold rUsedQ at hs
  split at hs
  ·rename_i t e fi a b c u w hr
   obtain⟨hb,hs⟩:=zl_ hs
   simp only[Option.some.injEq,Prod.mk.injEq]at hs
   obtain⟨rfl,rfl,rfl,rfl⟩:=hs
   simp only[Bool.and_eq_true]at hb
   obtain⟨⟨⟨b1,b2⟩,hnd⟩,⟨⟨b3,b4⟩,b5⟩,b6⟩:=hb
   have b1:=Nat.eq_of_beq_eq_true b1
   have b2:=Nat.eq_of_beq_eq_true b2
   subst b1 b2
   exact bun_ok (h:=h) (m:=m) [0,r,e,a,b,c] (used_lit u w) R rfl (by simp) rfl rfl hnd
    ⟨Fit.gone (by rw[R.nil0];rfl),bun_run hr (hrd r (by simp)) rfl rfl rfl rfl,Fit.gone (by rw[hrd e (by simp)];exact b3),Fit.gone (by rw[hrd a (by simp)];exact b4),Fit.gone (by rw[hrd b (by simp)];exact b5),Fit.gone (by rw[hrd c (by simp)];exact b6),trivial⟩ hm
    (fun p hp=>by cases hp) (by simp) rfl
    ⟨trivial,rB_st rfl rfl rfl rfl,trivial,trivial,trivial,trivial,trivial⟩ ⟨rfl,trivial⟩
    ⟨trivial,rB_st rfl rfl rfl rfl,trivial,trivial,trivial,trivial,trivial⟩ (by simp[zc_,ze_]) rfl rfl rfl
  ·cases hs
 ·cases hs
theorem bun_clA {ρ : Nat→Nat}{h h':HM}{a i x n:Nat}(ha:h a=clA i n)(ea:h' a=h a)(hx:ρ x=i):Bun1 ρ (h' a) (clA x n):=by
 show Less (h' a) (.own 22 ((SV.sl x x [] 5 0 n none).ren ρ) true)
 rw[ea,ha]
 simp only[SV.ren,hx]
 exact .same _
theorem bun_clB {ρ : Nat→Nat}{h h':HM}{b:Nat}{v:Evi}(hb:h b=clB v)(eb:h' b=h b):Bun1 ρ (h' b) (clB v):=by
 show Less (h' b) (.own 25 ((evS v).ren ρ) true)
 rw[eb,hb]
 exact .same _
theorem bun_clJO {ρ : Nat→Nat}{h h':HM}{j:Nat}{s:Sta}{cf:Nat→SV}(hj:h j=.own 2 (.arr s.cells.length 1 cf) false)(hr:∀q,q < s.cells.length→isI .i64 (cf q)=true)(hq:s.cells=ls iOf s.cells.length cf)(ej:h' j=h j):Bun1 ρ (h' j) (cB s):=by
 show Less (h' j) (.own 2 (.arr s.cells.length 1 (zp_ s.cells)) false)
 rw[ej,hj]
 refine .val (fun β=>arrCl fun q hlt=>?_) (fun n k f e=>by injection e with e1 e2 e3;subst e1 e2;exact⟨_,rfl⟩) (fun n k f e=>by injection e with e1 e2 e3;subst e1 e2;exact⟨_,rfl⟩)
 rw[isI_cl (hr q hlt)]
 unfold zp_
 rw[hq,ls_getD hlt];rfl
def rBack:yn_:=fun args h m=>match args with
 | [.ptr r []]=>match h r with
  | .own t (.agg [.ptr e [],.fn fi [.ptr a [],.ptr b [],.ptr c []],.nat .i64 u,.bool w]) true=>match clP h a b c with
   | some (P,v,s,i,j,ok)=>bif Nat.beq t 52 && Nat.beq fi 83 && z3_ [0,r,e,a,b,c,i,j] && (h e).born then
     some (ok∧(∀x∈P,x.ok)∧P.length≤1000000∧s.cells.length≤1000000∧yt_ P v s=0,.int .i64 0,[r,e,a,b,c,i,j],
      [(r,rB m a b c 0 false),(a,clA i P.length),(b,clB v),(c,clC s j),(i,prO P),(j,cB s),(m,eB (m+1) (m+4) P.length),(m+1,mB s v Ins0 (m+2) (m+3)),(m+2,cB s),(m+3,sB s),(m+4,prO P)])else none
   | none=>none
  | _=>none
 | _=>none
theorem rBack_ok:zi_ Tryz.prog 16 rBack:=by
 refine⟨zg_ (by kernel_rfl),fun args h m c v rd wr hs hm hc w0 M β h' w R hrd hwr hst=>?_⟩
 unfold rBack at hs
 split at hs
 ·rename_i r
  split at hs
  ·rename_i t e fi a b c u w hr
   split at hs
   ·rename_i P v s i j ok hcp
    obtain⟨hb,hs⟩:=zl_ hs
    simp only[Option.some.injEq,Prod.mk.injEq]at hs
    obtain⟨rfl,rfl,rfl,rfl⟩:=hs
    simp only[Bool.and_eq_true]at hb
    obtain⟨⟨⟨b1,b2⟩,hnd⟩,be⟩:=hb
    have b1:=Nat.eq_of_beq_eq_true b1
    have b2:=Nat.eq_of_beq_eq_true b2
    subst b1 b2
    obtain⟨hs0,ok2,rg,cf,rfl,hpp,ha,hbb,hcc,hj,hq,hql⟩:=clP_val hcp
    obtain⟨⟨hok2,hrg,hcf⟩,hP,hn,hcl,hE⟩:=hc
    have hwrm:∀p∈[(m,eB (m+1) (m+4) P.length),(m+1,mB s v Ins0 (m+2) (m+3)),(m+2,cB s),(m+3,sB s),(m+4,prO P)],h' p.1=h p.1:=fun p hp=>hwr p (.tail _ (.tail _ (.tail _ (.tail _ (.tail _ (.tail _ hp))))))
    exact bun_ok (h:=h) (m:=m) [0,r,e,a,b,c,i,j] (back_lit P v s u w hs0 hP hn hcl hE) R rfl (by simp) rfl rfl hnd
     ⟨Fit.gone (by rw[R.nil0];rfl),bun_run hr (hrd r (by simp)) rfl rfl rfl rfl,Fit.gone (by rw[hrd e (by simp)];exact be),bun_clA ha (hrd a (by simp)) rfl,bun_clB hbb (hrd b (by simp)),(bun_clC hcc hrg hq (hrd c (by simp)) rfl rfl).2,bun_prO hpp hok2 (hrd i (by simp)),bun_clJO hj hcf hql (hrd j (by simp)),trivial⟩ hm
     (fun p hp=>by
      simp only[newB,List.drop,List.length_cons,List.length_nil,List.mem_cons,List.not_mem_nil,or_false]at hp
      rcases hp with rfl|rfl|rfl|rfl|rfl
      ·exact hwrm (m,eB (m+1) (m+4) P.length) (by simp)
      ·exact hwrm (m+1,mB s v Ins0 (m+2) (m+3)) (by simp)
      ·exact hwrm (m+2,cB s) (by simp)
      ·exact hwrm (m+3,sB s) (by simp)
      ·exact hwrm (m+4,prO P) (by simp)) (by simp) rfl
     ⟨trivial,rB_st rfl rfl rfl rfl,trivial,clA_st rfl,clB_st,clC_st rfl rfl,prO_st,cB_st,trivial⟩ ⟨rfl,trivial⟩
     ⟨trivial, rB_st rfl rfl rfl rfl, trivial, clA_st rfl, clB_st, clC_st rfl rfl, prO_st, cB_st, eB_st rfl rfl, mB_st rfl rfl, cB_st, sB_st, prO_st, trivial⟩ trivial rfl rfl (by
      show [(r,(rB 8 3 4 5 0 false).ren _),(a,(clA 6 _).ren _),(b,(clB v).ren _),(c,(clC s 7).ren _),(i,(prO P).ren _),(j,(cB s).ren _),(m,(eB 9 12 _).ren _),(m+1,(mB s v Ins0 10 11).ren _),(m+2,(cB s).ren _),(m+3,(sB s).ren _),(m+4,(prO P).ren _)]=_
      rw[rB_ren,eB_ren,mB_ren,cB_ren,sB_ren,prO_ren]
      simp[wd_,clA,clB,clC,HB.ren,SV.ren,renL,fsS,evS])
   ·cases hs
  ·cases hs
 ·cases hs
theorem eqI64_lit (xs ys:List Int)(p1 p2:Nat)(hx:xs.length≤281474976710656):zs_ Tryz.prog 44 [.sl 1 2 [] 1 0 xs.length (some p1),.sl 3 4 [] 1 0 ys.length (some p2)] [.gone,.gone,.ro (.arr xs.length 1 (zp_ xs)),.gone,.ro (.arr ys.length 1 (zp_ ys))] (.bool (eqL xs ys)) [.gone]:=by
 refine zf_ (fn:=Tryz.f44) 5 26 0 rfl rfl rfl rfl rfl u2_ rfl fun w0 M E hro=>?_
 repeat' (first|refine Ctl.h ?_ |((with_reducible intro hif);first |(focus (cases hif;done)) |((try simp only[JH]at hif);try exact hy_)) |((with_reducible first|apply J22 zv_ za_|apply J23 fol zv_ za_|apply J24);(·rfl);(· exact k13_);(try kernel_rfl);try exact yr_)|fail)
 ·have hne:xs≠ys:=fun e=>hif (by rw[e])
  apply At.endsRet za_ (fn:=Tryz.f44) (rs:=[.tmp 4]) Anc.refl hro (lb_ rfl) rfl
  ·exact k5_
  ·exact k6_
  ·exact k7_
  ·rfl
  ·exact k8_
  ·exact k9_
  ·rw[eqL_false hne];exact fun β=>rfl
  ·exact k8_
 ·refine WF.loopAt (fun j=>j≤xs.length∧∀q,q < j→xs.getD q 0=ys.getD q 0) (fun j=>[(0,.sl 1 2 [] 1 0 xs.length (some p1)),(1,.sl 3 4 [] 1 0 ys.length (some p2)),(12,.nat .i64 xs.length),(13,.nat .i64 j)]) (fun j=>[.gone,.gone,.ro (.arr xs.length 1 (zp_ xs)),.gone,.ro (.arr ys.length 1 (zp_ ys))]) (fun j=>xs.length - j) 0 ⟨Nat.zero_le _,fun q hq=>absurd hq (Nat.not_lt_zero q)⟩ ?_ ?_ rfl ?_ ?_ rfl ?_
  ·exact we_
  ·exact k7_
  ·exact k8_
  ·exact k8_
  have hlen:=hif
  rintro j ⟨hj,heq⟩
  repeat' (first|refine Ctl.h ?_ |((with_reducible intro hif);first |(focus (cases hif;done)) |((try simp only[JH]at hif);try exact hy_)) |((with_reducible first|apply J22 zv_ za_|apply J23 fol zv_ za_|apply J24);(·rfl);(· (simp only[push_cast,↓JP,Nat.reduceAdd,Nat.reduceEqDiff,Nat.reduceLT,Nat.reduceMul,Nat.reduceLeDiff,reduceCtorEq,reduceIte,zp_,zp_,inN];rfl));(try kernel_rfl);try exact k14_)|fail)
  ·have hne:xs≠ys:=by rintro rfl;simp at hif
   apply At.endsRet za_ (fn:=Tryz.f44) (rs:=[.tmp 4]) Anc.refl hro (lb_ rfl) rfl
   ·exact k5_
   ·exact k6_
   ·exact k7_
   ·rfl
   ·exact k8_
   ·exact k9_
   ·rw[eqL_false hne];exact fun β=>rfl
   ·exact k8_
  ·exact d54_
  ·have hjn:j=xs.length:=by omega
   subst hjn
   have he:xs=ys:=ext_getD 0 hlen heq
   apply At.endsRet za_ (fn:=Tryz.f44) (rs:=[.tmp 4]) Anc.refl hro (lb_ rfl) rfl
   ·exact k5_
   ·exact k6_
   ·exact k7_
   ·rfl
   ·exact k8_
   ·exact k9_
   ·rw[eqL_true he];exact fun β=>rfl
   ·exact k8_
def sEqI64:yn_:=fun args h m=>match args with
 | [v1,v2]=>match xm_ h 1 (.tup []) v1,xm_ h 1 (.tup []) v2 with
  | some (c1,n1,f1,r1),some (c2,n2,f2,r2)=>some (c1∧c2∧(∀q,q < n1→isI .i64 (f1 q)=true)∧(∀q,q < n2→isI .i64 (f2 q)=true)∧((ls iOf n1 f1).length≤281474976710656),.bool (eqL (ls iOf n1 f1) (ls iOf n2 f2)),r1++r2,[])
  | _,_=>none
 | _=>none
theorem sEqI64_ok:zi_ Tryz.prog 44 sEqI64:=by
 refine⟨zg_ (by kernel_rfl),fun args h m c v rd wr hs hm hc w0 M β h' w R hrd hwr hst=>?_⟩
 unfold sEqI64 at hs
 split at hs
 ·rename_i v1 v2
  split at hs
  ·rename_i c1 n1 f1 r1 c2 n2 f2 r2 a1 a2
   simp only[Option.some.injEq,Prod.mk.injEq]at hs
   obtain⟨rfl,rfl,rfl,rfl⟩:=hs
   obtain⟨k1,k2,g1,g2,y1⟩:=hc
   obtain⟨A1,p1,d1,e1,t1⟩:=zh_ R a1 k1 (fun i hi=>hrd i (List.mem_append_left _ hi)) (by omega)
   obtain⟨A2,p2,d2,e2,t2⟩:=zh_ R a2 k2 (fun i hi=>hrd i (List.mem_append_right _ hi)) (by omega)
   refine yh_ (views:=[⟨1,(ls iOf n1 f1).length,zp_ (ls iOf n1 f1),A1,p1⟩,⟨1,(ls iOf n2 f2).length,zp_ (ls iOf n2 f2),A2,p2⟩]) (eqI64_lit (ls iOf n1 f1) (ls iOf n2 f2) p1 p2 y1) ?_ R hm hwr ?_ ?_ ?_
   ·exact d31_
   ·exact d25_
   ·exact k8_
   ·exact k8_
  ·cases hs
 ·cases hs
end Go.Proofs.YtjliakjbdcplcaaGreat.Vm
end
section
namespace Go.Proofs.YtjliakjbdcplcaaGreat.Vm
open Go.RowKit
def sRunA:yn_:=fun args h m=>match args with
 | [_,_,_,_,_,.nat .i64 2]=>sRunG args h m
 | _=>sRunB args h m
theorem sRunA_ok:zi_ Tryz.prog 13 sRunA:=by
 refine⟨zg_ (by kernel_rfl),fun args h m c v rd wr hs hm hc w0 M β h' w R hrd hwr hst=>?_⟩
 unfold sRunA at hs
 split at hs
 ·exact sRunG_ok.2 _ h m c v rd wr hs hm hc w0 M β h' w R hrd hwr hst
 ·exact sRunB_ok.2 _ h m c v rd wr hs hm hc w0 M β h' w R hrd hwr hst
def cAw:FuncId→Option yn_:=y9_ [(13,sRunA),(36,sNewG),(15,rGo),(18,rState),(16,rBack),(19,rUsed),(44,sEqI64)]
theorem cAw_ok:∀f S,cAw f=some S→zi_ Tryz.prog f S:=zr_ ⟨sRunA_ok,sNewG_ok,rGo_ok,rState_ok,rBack_ok,rUsed_ok,sEqI64_ok,trivial⟩
theorem ls_one {α : Type}(g:SV→α)(f:Nat→SV):ls g 1 f=[g (f 0)]:=rfl
theorem ls_two {α : Type}(g:SV→α)(f:Nat→SV):ls g 2 f=[g (f 0),g (f 1)]:=rfl
theorem ls_three {α : Type}(g:SV→α)(f:Nat→SV):ls g 3 f=[g (f 0),g (f 1),g (f 2)]:=rfl
theorem nat_zero_int:((0:Nat):Int)=0:=rfl
theorem insOf_agg (a b c d e:SV):zm_ (.agg [a,b,c,d,e])=⟨iOf a,iOf b,iOf c,iOf d,iOf e⟩:=rfl
theorem toNat2:Int.toNat 2=2:=rfl
theorem awake_lit:zs_ Tryz.prog 11 [] [.gone] (.bool true) [.gone]:=by
 have k1:∀x∈([⟨34,0,0,3,0⟩,⟨1,0,0,0,0⟩]:List Ins),x.ok:=by intro x hx;simp only[List.mem_cons,List.not_mem_nil,or_false]at hx;rcases hx with rfl|rfl<;>(refine⟨?_,?_,?_,?_,?_,?_,?_,?_,?_,?_⟩<;>decide)
 have k2:∀x∈([⟨9,0,0,0,0⟩,⟨1,0,0,0,0⟩]:List Ins),x.ok:=by intro x hx;simp only[List.mem_cons,List.not_mem_nil,or_false]at hx;rcases hx with rfl|rfl<;>(refine⟨?_,?_,?_,?_,?_,?_,?_,?_,?_,?_⟩<;>decide)
 have k3:∀x∈([⟨3,4,0,0,7⟩,⟨6,4,3,0,0⟩,⟨2,0,0,0,0⟩]:List Ins),x.ok:=by intro x hx;simp only[List.mem_cons,List.not_mem_nil,or_false]at hx;rcases hx with rfl|rfl|rfl<;>(refine⟨?_,?_,?_,?_,?_,?_,?_,?_,?_,?_⟩<;>decide)
 have b1:(xp_ [⟨34,0,0,3,0⟩,⟨1,0,0,0,0⟩] ⟨0,0,0,1,0⟩ (yo_ 0 0 0 [] 0) 2).bad=0:=by kernel_rfl
 have t1:(xp_ [⟨34,0,0,3,0⟩,⟨1,0,0,0,0⟩] ⟨0,0,0,1,0⟩ (yo_ 0 0 0 [] 0) 2).tr.length=2:=by kernel_rfl
 have a1:(xp_ [⟨34,0,0,3,0⟩,⟨1,0,0,0,0⟩] ⟨0,0,0,1,0⟩ (yo_ 0 0 0 [] 0) 2).at_=1:=by kernel_rfl
 have b2:(xp_ [⟨34,0,0,3,0⟩,⟨1,0,0,0,0⟩] ⟨0,0,0,1,0⟩ (yo_ 0 0 0 [] 0) 1).bad=190:=by kernel_rfl
 have t2:(xp_ [⟨34,0,0,3,0⟩,⟨1,0,0,0,0⟩] ⟨0,0,0,1,0⟩ (yo_ 0 0 0 [] 0) 1).tr.length=1:=by kernel_rfl
 have a2:(xp_ [⟨34,0,0,3,0⟩,⟨1,0,0,0,0⟩] ⟨0,0,0,1,0⟩ (yo_ 0 0 0 [] 0) 1).at_=1:=by kernel_rfl
 have n2:(xp_ [⟨34,0,0,3,0⟩,⟨1,0,0,0,0⟩] ⟨0,0,0,1,0⟩ (yo_ 0 0 0 [] 0) 1).bad≠0:=by rw[b2];decide
 have b3:(xp_ [⟨34,0,0,3,0⟩,⟨1,0,0,0,0⟩] ⟨0,0,0,1,0⟩ (yo_ 0 0 0 [] 0) 0).bad=190:=by kernel_rfl
 have t3:(xp_ [⟨34,0,0,3,0⟩,⟨1,0,0,0,0⟩] ⟨0,0,0,1,0⟩ (yo_ 0 0 0 [] 0) 0).tr.length=0:=by kernel_rfl
 have a3:(xp_ [⟨34,0,0,3,0⟩,⟨1,0,0,0,0⟩] ⟨0,0,0,1,0⟩ (yo_ 0 0 0 [] 0) 0).at_=0:=by kernel_rfl
 have n3:(xp_ [⟨34,0,0,3,0⟩,⟨1,0,0,0,0⟩] ⟨0,0,0,1,0⟩ (yo_ 0 0 0 [] 0) 0).bad≠0:=by rw[b3];decide
 have b4:(xp_ [⟨9,0,0,0,0⟩,⟨1,0,0,0,0⟩] ⟨0,0,0,1,0⟩ (yo_ 0 0 0 [] 0) 100).bad=190:=by kernel_rfl
 have t4:(xp_ [⟨9,0,0,0,0⟩,⟨1,0,0,0,0⟩] ⟨0,0,0,1,0⟩ (yo_ 0 0 0 [] 0) 100).tr.length=100:=by kernel_rfl
 have a4:(xp_ [⟨9,0,0,0,0⟩,⟨1,0,0,0,0⟩] ⟨0,0,0,1,0⟩ (yo_ 0 0 0 [] 0) 100).at_=0:=by kernel_rfl
 have n4:(xp_ [⟨9,0,0,0,0⟩,⟨1,0,0,0,0⟩] ⟨0,0,0,1,0⟩ (yo_ 0 0 0 [] 0) 100).bad≠0:=by rw[b4];decide
 have b5:(xp_ [⟨3,4,0,0,7⟩,⟨6,4,3,0,0⟩,⟨2,0,0,0,0⟩] ⟨0,0,0,1,0⟩ (yo_ 0 0 0 [0] 0) 9).bad=184:=by kernel_rfl
 have t5:(xp_ [⟨3,4,0,0,7⟩,⟨6,4,3,0,0⟩,⟨2,0,0,0,0⟩] ⟨0,0,0,1,0⟩ (yo_ 0 0 0 [0] 0) 9).tr.length=3:=by kernel_rfl
 have a5:(xp_ [⟨3,4,0,0,7⟩,⟨6,4,3,0,0⟩,⟨2,0,0,0,0⟩] ⟨0,0,0,1,0⟩ (yo_ 0 0 0 [0] 0) 9).at_=2:=by kernel_rfl
 have n5:(xp_ [⟨3,4,0,0,7⟩,⟨6,4,3,0,0⟩,⟨2,0,0,0,0⟩] ⟨0,0,0,1,0⟩ (yo_ 0 0 0 [0] 0) 9).bad≠0:=by rw[b5];decide
 have p3:PG [⟨3,4,0,0,7⟩,⟨6,4,3,0,0⟩,⟨2,0,0,0,0⟩]:=by exact⟨k3,by kernel_rfl⟩
 have v3:VOk ⟨0,0,0,1,0⟩:=by exact⟨by decide,by decide,by decide,by decide,by decide,by decide⟩
 have s3:SG [⟨3,4,0,0,7⟩,⟨6,4,3,0,0⟩,⟨2,0,0,0,0⟩] (yo_ 0 0 0 [0] 0):=by exact⟨by decide,by decide,by decide,by decide,by decide,by decide⟩
 have e3:yt_ [⟨3,4,0,0,7⟩,⟨6,4,3,0,0⟩,⟨2,0,0,0,0⟩] ⟨0,0,0,1,0⟩ (yo_ 0 0 0 [0] 0)=0:=by kernel_rfl
 have g1:(xq_ [⟨3,4,0,0,7⟩,⟨6,4,3,0,0⟩,⟨2,0,0,0,0⟩] ⟨0,0,0,1,0⟩ 2 (yo_ 0 0 0 [0] 0) Ins0 [] 0).bad=190:=by kernel_rfl
 have g2:(xq_ [⟨3,4,0,0,7⟩,⟨6,4,3,0,0⟩,⟨2,0,0,0,0⟩] ⟨0,0,0,1,0⟩ 2 (yo_ 0 0 0 [0] 0) Ins0 [] 0).tr.length=2:=by kernel_rfl
 have g3:(xq_ [⟨3,4,0,0,7⟩,⟨6,4,3,0,0⟩,⟨2,0,0,0,0⟩] ⟨0,0,0,1,0⟩ 2 (yo_ 0 0 0 [0] 0) Ins0 [] 0).s.cells=[7]:=by kernel_rfl
 refine zf_ (fn:=Tryz.f11) 1 186 0 rfl rfl rfl rfl rfl trivial rfl fun w0 M E hro=>?_
 repeat' (first|refine Ctl.h ?_ |((with_reducible intro hif);first |(focus (cases hif;done)) |((try simp only[JH]at hif);try exact hy_)) |((with_reducible first|apply J22 cAw_ok za_|apply J23 fol cAw_ok za_|apply J24);(·rfl);(· (simp only[push_cast,↓JP,Nat.reduceAdd,Nat.reduceEqDiff,Nat.reduceLT,Nat.reduceMul,Nat.reduceLeDiff,reduceCtorEq,reduceIte,↓JK,JM,JE,JB,cAw,sRunA,sRunG,sRunB,ls_one,ls_two,ls_three,insOf_agg,nat_zero_int,toNat2,inR,inN,b1,t1,a1,b2,t2,a2,b3,t3,a3,b4,t4,a4,b5,t5,a5,g1,g2,g3];rfl));(try kernel_rfl);(try (focus (first|exact True.intro |((try simp only[JS,implies_true,forall_const,yc_,z7_,x4_,iOf,insOf_agg,ls_one,ls_two,ls_three,ls_zero,nat_zero_int,Nat.zero_add,List.getD_cons_zero,List.getD_cons_succ,Int.cast_ofNat_Int,beg_fold]);(repeat' (first|exact True.intro|assumption|apply And.intro|decide |(intro q hq;first|rfl|exact hq.elim|exact k1 q hq|exact k2 q hq|exact k3 q hq |((rcases q with _|_|_|q)<;>first|rfl |(exfalso;revert hq;simp;done)))));done) |((try simp only[JS,implies_true,forall_const,yc_,z7_,x4_,inR,inN]);(repeat' (first|assumption|exact True.intro|omega|apply And.intro));done)))))|fail)
 apply At.endsRet za_ (fn:=Tryz.f11) (rs:=[.tmp 0]) Anc.refl hro (lb_ rfl) rfl
 ·simp only[push_cast,↓JP,Nat.reduceAdd,Nat.reduceEqDiff,Nat.reduceLT,Nat.reduceMul,Nat.reduceLeDiff,reduceCtorEq,reduceIte,↓JK,resV,resV1,ls_one,ls_two,ls_three];rfl
 ·exact k6_
 ·exact k7_
 ·rfl
 ·exact k171_
 ·exact k9_
 ·first|exact fun β=>rfl |(intro β;kernel_rfl)
 ·exact k171_
def sAw19:yn_:=fun args h m=>match args with
 | []=>some (True,.bool true,[],[])
 | _=>none
theorem sAw19_ok:zi_ Tryz.prog 11 sAw19:=by
 refine⟨zg_ (by kernel_rfl),fun args h m c v rd wr hs hm hc w0 M β h' w R hrd hwr hst=>?_⟩
 unfold sAw19 at hs
 split at hs
 ·skip
  simp only[Option.some.injEq,Prod.mk.injEq]at hs
  obtain⟨rfl,rfl,rfl,rfl⟩:=hs
  refine yh_ (views:=[]) (awake_lit) ?_ R hm hwr ?_ ?_ ?_
  ·intro x hx;cases hx
  ·intro β1 hv
   simp only[denL,yb_,ya_,z9_,zx_,zb_]
  ·exact k171_
  ·exact k171_
 ·cases hs
end Go.Proofs.YtjliakjbdcplcaaGreat.Vm
end
end
section
namespace Go.Proofs.YtjliakjbdcplcaaGreat
open Go.RowKit
structure MI (w:World) (B:Nat) (x:Ins) (S:ByteArray) (p:Nat) (out:Ins) (X:World):Prop where
 it:X.heap[B+2]? = some (.stringIter S p)
 b8:Blk X B 38 #[.int .u8 out.op,.int .u8 out.a,.int .u8 out.b,.int .u8 out.c,.int .i64 out.n]
 b2:Blk X w.heap.size 194 #[.int .u8 x.op,.int .u8 x.a,.int .u8 x.b,.int .u8 x.c,.int .i64 x.n]
 b9:Blk X (B+1) 226 #[.pointer (some ⟨B,1,none⟩),.pointer (some ⟨B,2,none⟩),.pointer (some ⟨B,3,none⟩)]
 b4:Blk X (w.heap.size+1) 38 #[.int .u8 0,.int .u8 0,.int .u8 0,.int .u8 0,.int .i64 0]
 below:Below w.heap.size w X
section
variable {w X:World} {B:Nat} {x out:Ins} {S:ByteArray} {p:Nat}
theorem MI.next (h:MI w B x S p out X)(hB:w.heap.size+1 < B)(q:Nat):MI w B x S q out (X.iterAt (B+2) S q):=
 have f:∀{g t cs},g≠B+2→Blk X g t cs→Blk (X.iterAt (B+2) S q) g t cs:=fun hg hb=>(Lib.iterAt_other X (B+2) _ S q hg).trans hb
 ⟨Lib.iterAt_heap X (B+2) S p q h.it,f (by omega) h.b8,f (by omega) h.b2,f (by omega) h.b9,f (by omega) h.b4,Lib.below_iterAt h.below (by omega) S q⟩
theorem MI.alloc (h:MI w B x S p out X)(o:Obj):MI w B x S p out (X.alloc o):=
 ⟨(Below.heap_alloc X o _ (Array.getElem?_eq_some_iff.1 h.it).1).trans h.it,h.b8.alloc o,h.b2.alloc o,h.b9.alloc o,h.b4.alloc o,h.below.alloc h.below.size o⟩
theorem MI.drew (h:MI w B x S p out X):MI w B x S p out X.drew:=⟨h.it,h.b8,h.b2,h.b9,h.b4,h.below.drew⟩
theorem MI.set (h:MI w B x S p out X)(hB:w.heap.size+1 < B)(i:Nat)(u:Value)(out':Ins)(ho:(#[.int .u8 out.op,.int .u8 out.a,.int .u8 out.b,.int .u8 out.c,.int .i64 out.n]:Array Value).setIfInBounds i u = #[.int .u8 out'.op,.int .u8 out'.a,.int .u8 out'.b,.int .u8 out'.c,.int .i64 out'.n]) :
  MI w B x S p out' (X.setCell ⟨B,i,none⟩ u):=
 ⟨(Below.heap_setCell X ⟨B,i,none⟩ u (B+2) (by show B+2≠B;omega)).trans h.it,ho ▸ h.b8.set_ i u,h.b2.far (p:=⟨B,i,none⟩) (by show w.heap.size≠B;omega) u,h.b9.far (p:=⟨B,i,none⟩) (by show B+1≠B;omega) u,h.b4.far (p:=⟨B,i,none⟩) (by show w.heap.size+1≠B;omega) u,h.below.setCell (p:=⟨B,i,none⟩) (by show w.heap.size≤B;omega) u⟩
end
end Go.Proofs.YtjliakjbdcplcaaGreat
end
section
namespace Go.Proofs.YtjliakjbdcplcaaGreat
open Go.RowKit
theorem formC_cases (op:Int):x1_ op=0∨x1_ op=1∨x1_ op=2∨x1_ op=3∨x1_ op=4∨x1_ op=5∨x1_ op=6∨x1_ op=7:=by
 unfold x1_;repeat (first |(split;· simp)|simp)
theorem formS_size (k:Nat):(xh_ k).size≤100:=by
 unfold xh_;split<;>decide
end Go.Proofs.YtjliakjbdcplcaaGreat
end
section
namespace Go.Proofs.YtjliakjbdcplcaaGreat.Vm
open Go.RowKit
end Go.Proofs.YtjliakjbdcplcaaGreat.Vm
end
