import Derived.Test.YtmljmabbopkpiaaV1
import Derived.Test.YtmljmabbopkpiaaV14
set_option linter.unusedSimpArgs false
set_option linter.unusedVariables false
set_option maxRecDepth 100000
set_option maxHeartbeats 4000000
section
open Go.Proofs.Ytmljmabbopkpiaa.Vm Go.RowKit
attribute [local push_cast] eqB eqBL allB prS sndsS i64S nav_ins nav_ins0 nav_ins1 nav_ins2 nav_ins3 nav_ins4 nav_snd nav_snd0 nav_snd1 nav_snd2 yz_ zf_ yy_ yx_ isI_int isI_nat iOf nav_k nav_k0 nav_k1 nav_ka nav_kai nav_ft nav_ft0 nav_ft1 isKn_kS knOf_kS isKa_kaS kaOf_kaS isFt_ftS ftOf_ftS setp_ka setp_ftk setp_ftr setp_fti evm_ins evm_snd evm_k evm_ka evm_ft
section
namespace Go.Proofs.Ytmljmabbopkpiaa.Vm
open Go.RowKit
def meetTo (a b:Nat→Kn)(j:Nat):Nat→Kn:=fun k=>if k < j then meetK (a k) (b k)else a k
theorem meetTo_self (a b:Nat→Kn)(j:Nat):meetTo a b j j=a j:=by unfold meetTo;rw[if_neg (Nat.lt_irrefl j)]
theorem meet_lit (a b:Ft):LitOk Try.prog 101 [ftS a,ftS b] [.gone] (ftS ⟨a.reached,meetR a.regs b.regs⟩) [.gone]:=by
 refine litOkM (fn:=Try.f101) 1 24 0 rfl rfl rfl rfl rfl (by simp only[zd_,zb_,hp];simp[HB.born,ftS,kaS,kS,zb_,zd_]) rfl fun w0 M E hro=>?_
 repeat' (first|refine Ctl.h ?_ |((with_reducible intro hif);first |(focus (cases hif;done)) |((try simp only[JH]at hif);try exact hy_)) |((with_reducible first|apply J22 yc_ za_|apply J23 fol yc_ za_|apply J24);(·rfl);(· exact k66_);(try kernel_rfl);try exact k11_)|fail)
 have e0:∀q,(meetTo a.regs b.regs 0) q=a.regs q:=fun q=>by unfold meetTo;rw[if_neg (Nat.not_lt_zero q)]
 have l0:∀ex,Less (.own 44 (ftS a) ex) (.own 44 (ftS ⟨a.reached,meetTo a.regs b.regs 0⟩) ex):=fun ex=>less_ft (F:=fun q=>kS (a.regs q)) fun q _ β=>by rw[e0]
 have l0':=l0 true
 refine WF.loopAt (fun j=>j≤8) (fun j=>[(2,.ptr 1 []),(3,.ptr 2 []),(4,.ptr 3 []),(6,.nat .i64 j)]) (fun j=>[.gone,.own 44 (ftS ⟨a.reached,meetTo a.regs b.regs j⟩) true,.own 44 (ftS b) true,.own 44 (.agg [.bool false,.arr 8 2 fun _=>.agg [.bool false,.nat .i64 0]]) true]) (fun j=>8 - j) 0 (Nat.zero_le _) ?_ ?_ rfl ?_ ?_ rfl ?_
 ·exact k13_
 ·exact k5_
 ·exact zl_
 ·exact zl_
 intro j hj
 repeat' (first|refine Ctl.h ?_ |((with_reducible intro hif);first |(focus (cases hif;done)) |((try simp only[JH]at hif);try exact hy_)) |((with_reducible first|apply J22 yc_ za_|apply J23 fol yc_ za_|apply J24);(·rfl);(· (simp only[push_cast,↓JP,Nat.reduceAdd,Nat.reduceEqDiff,Nat.reduceLT,Nat.reduceMul,Nat.reduceLeDiff,reduceCtorEq,reduceIte,↓JK,↓JF,meetTo_self,↓kn_eqZ,inN,inR,setp_ftz];rfl));(try kernel_rfl);try exact k16_)|fail)
 ·have hne:a.regs j≠b.regs j:=by simpa using hif
  have lj:Less (.own 44 (.agg [.bool a.reached,.arr 8 2 fun j_1=>SV.ite (decide (j_1=j)) (.agg [.bool false,.nat .i64 0]) (kS (meetTo a.regs b.regs j j_1))]) true) (.own 44 (ftS ⟨a.reached,meetTo a.regs b.regs (j+1)⟩) true):=less_ft fun q hq β=>by
   rw[ite_eq]
   by_cases h:q=j
   ·subst h
    simp only[decide_true,cond_true]
    unfold meetTo meetK
    rw[if_pos (by omega),if_neg hne]
    rfl
   ·simp only[h,decide_false,cond_false]
    unfold meetTo
    by_cases h2:q < j
    ·rw[if_pos h2,if_pos (by omega)]
    ·rw[if_neg h2,if_neg (by omega)]
  refine At.next (j+1) ?_ ?_ ?_ rfl ?_ ?_ rfl
  ·omega
  ·exact k13_
  ·exact k5_
  ·exact zl_
  ·exact zl_
 ·have he:a.regs j=b.regs j:=by simpa using hif
  have lj:Less (.own 44 (ftS ⟨a.reached,meetTo a.regs b.regs j⟩) true) (.own 44 (ftS ⟨a.reached,meetTo a.regs b.regs (j+1)⟩) true):=less_ft (F:=fun q=>kS (meetTo a.regs b.regs j q)) fun q hq β=>by
   congr 2
   unfold meetTo
   by_cases h2:q < j
   ·rw[if_pos h2,if_pos (by omega)]
   ·rw[if_neg h2]
    by_cases h:q=j
    ·subst h
     rw[if_pos (by omega)]
     unfold meetK
     rw[if_pos he]
    ·rw[if_neg (by omega)]
  refine At.next (j+1) ?_ ?_ ?_ rfl ?_ ?_ rfl
  ·omega
  ·exact k13_
  ·exact k5_
  ·exact zl_
  ·exact zl_
 ·have h8:j=8:=by omega
  subst h8
  apply At.endsRet za_ (fn:=Try.f101) (rs:=[.cell 4 44]) Anc.refl hro (lb_ rfl) rfl
  ·exact k62_
  ·exact k4_
  ·exact k5_
  ·rfl
  ·exact zl_
  ·exact k7_
  ·intro β;show (ftS _).den β =(ftS _).den β;rw[ftS_den,ftS_den];rfl
  ·exact zl_
def sMeet:Spec:=fun args h m=>match args with
 | [v1,v2]=>bif isFt v1 && isFt v2 then some (True,ftS ⟨(ftOf v1).reached,meetR (ftOf v1).regs (ftOf v2).regs⟩,[],[])else none
 | _=>none
theorem sMeet_ok:zs_ Try.prog 101 sMeet:=by
 refine⟨zp_ (by kernel_rfl),fun args h m c v rd wr hs hm hc w0 M β h' w R hrd hwr hst=>?_⟩
 unfold sMeet at hs
 split at hs
 ·rename_i v1 v2
  obtain⟨hb,hs⟩:=zq_ hs
  simp only[Option.some.injEq,Prod.mk.injEq]at hs
  obtain⟨rfl,rfl,rfl,rfl⟩:=hs
  simp only[Bool.and_eq_true]at hb
  obtain⟨b1,b2⟩:=hb
  refine callRo (views:=[]) (meet_lit (ftOf v1) (ftOf v2)) ?_ R hm hwr ?_ ?_ ?_
  ·intro x hx;cases hx
  ·intro β1 hv
   simp only[denL,aggDen,intDen,natDen,yr_,zi_,ftOf_den b1,ftOf_den b2,ftS_den]
  ·exact zl_
  ·exact zl_
 ·cases hs
theorem ftS_ren (ρ : Nat→Nat)(f:Ft):(ftS f).ren ρ = ftS f:=by simp only[ftS,kaS,kS,SV.ren,renL]
theorem hands_lit (n p k:Nat)(f:Ft):LitOk Try.prog 100 [.sl 1 2 [] 5 0 n (some p),.nat .i64 k,ftS f] [.gone,.gone,.gone] (.fn 125 [.ptr 3 [],.ptr 4 [],.ptr 5 []]) [.gone,.gone,.gone,.own 25 (.sl 1 2 [] 5 0 n (some p)) true,.own 3 (.nat .i64 k) true,.own 44 (ftS f) true]:=by
 refine litOkM (fn:=Try.f100) 3 8 0 rfl rfl rfl rfl rfl (by simp only[zd_,zb_,hp];simp[HB.born,ftS,kaS,kS,zb_,zd_]) rfl fun w0 M E hro=>?_
 repeat' (first|refine Ctl.h ?_ |((with_reducible intro hif);first |(focus (cases hif;done)) |((try simp only[JH]at hif);try exact hy_)) |((with_reducible first|apply J22 yc_ za_|apply J23 fol yc_ za_|apply J24);(·rfl);(· exact k66_);(try kernel_rfl);try exact k11_)|fail)
 apply At.endsRet za_ (fn:=Try.f100) (rs:=[.tmp 6]) Anc.refl hro (lb_ rfl) rfl
 ·exact k62_
 ·exact k4_
 ·exact k5_
 ·rfl
 ·exact zl_
 ·exact k7_
 ·exact fun β=>rfl
 ·exact zl_
def sHands:Spec:=fun args h m=>match args with
 | [.sl z i [] 5 0 n (some p),.nat .i64 k,u]=>bif (h z).born && (h i).born && isFt u then some (True,.fn 125 [.ptr m [],.ptr (m+1) [],.ptr (m+2) []],[z,i],[(m,.own 25 (.sl z i [] 5 0 n (some p)) true),(m+1,.own 3 (.nat .i64 k) true),(m+2,.own 44 (ftS (ftOf u)) true)])else none
 | _=>none
theorem sHands_ok:zs_ Try.prog 100 sHands:=by
 refine⟨zp_ (by kernel_rfl),fun args h m c v rd wr hs hm hc w0 M β h' w R hrd hwr hst=>?_⟩
 unfold sHands at hs
 split at hs
 ·rename_i z i n p k u
  obtain⟨hb,hs2⟩:=zq_ hs
  clear hs
  simp only[Bool.and_eq_true]at hb
  obtain⟨⟨hz,hi⟩,hu⟩:=hb
  simp only[Option.some.injEq,Prod.mk.injEq]at hs2
  obtain⟨rfl,rfl,rfl,rfl⟩:=hs2
  have ei:h' i=h i:=hrd i (by simp)
  have ez:h' z=h z:=hrd z (by simp)
  have C:=callG (L1:=[.gone,.gone,.gone,.own 25 (.sl 1 2 [] 5 0 n (some p)) true,.own 3 (.nat .i64 k) true,.own 44 (ftS (ftOf u)) true]) (h:=h) (m:=m) [0,z,i] (hands_lit n p k (ftOf u)) R rfl (by simp) rfl rfl rfl
   ⟨.gone (by rw[R.nil0];rfl),.gone (by rw[ez];exact hz),.gone (by rw[ei];exact hi),trivial⟩ hm (by simpa [newB,rhoL,HB.ren,ftS_ren]using hwr) (by simp)
   (by simp[yt_,HB.stable]) (by simp[zd_,zb_,hp,HB.born,ftS_stable]) (by simp[NewL,HB.stable,zb_,HB.isRo,hG,hp,HB.born,ftS_stable]) (by simp[zb_,zd_,hG,hp,HB.born])
  have e0:denL β (renL (rhoL [0,z,i] m) [SV.sl 1 2 [] 5 0 n (some p),.nat .i64 k,ftS (ftOf u)])=denL β [.sl z i [] 5 0 n (some p),.nat .i64 k,u]:=by
   simp[renL,SV.ren,rhoL,ftS_ren,denL,ftOf_den hu,ftS_den]
  rw[e0]at C
  refine C.mono fun e w' he=>?_
  simpa [newB,rhoL,HB.ren,SV.ren,renL,ftS_ren]using he
 ·cases hs
end Go.Proofs.Ytmljmabbopkpiaa.Vm
end
end
