import Derived.Test.YtjliakjbdcplcaaU17
import Derived.Test.YtjliakjbdcplcaaU23
import Derived.Test.YtjliakjbdcplcaaU28
import Derived.Test.YtjliakjbdcplcaaU34
set_option linter.unusedSimpArgs false
set_option linter.unusedVariables false
section
namespace Go.Proofs.Ytjliakjbdcplcaa.Vm
open Go.RowKit
structure DZ where
 D:List Int
 W:List Int
def visZ (i:Int)(z:DZ)(k:Int):DZ:=if z.D.getD k.toNat 0 < 0 then ⟨z.D.set k.toNat (z.D.getD i.toNat 0+1),z.W++[k]⟩ else z
def disS (p:List Ins)(z:DZ):DZ:=match z.W with
 | []=>z
 | i::w=>(yg_ (p.getD i.toNat ⟨0,0,0,0,0⟩) i).foldl (visZ i) ⟨z.D,w⟩
def cntD (D:List Int):Nat:=D.countP fun x=>decide (0≤x)
theorem cnt_le (D:List Int):cntD D≤D.length:=List.countP_le_length
theorem cnt_set:∀(D:List Int) (k:Nat) (y:Int),k < D.length→D.getD k 0 < 0→0≤y→cntD (D.set k y)=cntD D+1
 | [],k,y,h,_,_=>by simp at h
 | x::D,0,y,_,h1,h2=>by
  have h1':¬0≤x:=by simpa using h1
  simp[cntD,h1',h2]
 | x::D,k+1,y,h,h1,h2=>by
  have:=cnt_set D k y (by simpa using h) (by simpa using h1) h2
  unfold cntD at this ⊢
  simp only[List.set_cons_succ,List.countP_cons]
  omega
theorem getD_set {D:List Int}{k j:Nat}{y:Int}(h:k < D.length):(D.set k y).getD j 0=if j=k then y else D.getD j 0:=by
 rw[List.getD_eq_getElem?_getD,List.getElem?_set]
 by_cases q:k=j
 ·subst q;simp[h]
 ·rw[if_neg q,if_neg (fun e=>q e.symm),List.getD_eq_getElem?_getD]
structure DI (p:List Ins) (z:DZ):Prop where
 len:z.D.length=p.length
 mem:∀w∈z.W,0≤w∧w < p.length∧0≤z.D.getD w.toNat 0
 zero:0≤z.D.getD 0 0
 up:∀k,z.D.getD k 0 < cntD z.D
 lo:∀k,-1≤z.D.getD k 0
 cl:∀k,k < p.length→0≤z.D.getD k 0→(k:Int)∈z.W∨∀t∈yg_ (p.getD k ⟨0,0,0,0,0⟩) k,0≤z.D.getD t.toNat 0
structure DJ (p:List Ins) (i:Int) (l:List Int) (z:DZ):Prop where
 len:z.D.length=p.length
 mem:∀w∈z.W,0≤w∧w < p.length∧0≤z.D.getD w.toNat 0
 zero:0≤z.D.getD 0 0
 up:∀k,z.D.getD k 0 < cntD z.D
 lo:∀k,-1≤z.D.getD k 0
 i0:0≤i∧i < p.length∧0≤z.D.getD i.toNat 0
 dn:∀t∈l,0≤z.D.getD t.toNat 0
 cl:∀k,k < p.length→(k:Int)≠i→0≤z.D.getD k 0→(k:Int)∈z.W∨∀t∈yg_ (p.getD k ⟨0,0,0,0,0⟩) k,0≤z.D.getD t.toNat 0
theorem DJ.vis {p:List Ins}{i k:Int}{l:List Int}{z:DZ}(J:DJ p i l z)(h0:0≤k)(h1:k < p.length):DJ p i (l++[k]) (visZ i z k)∧(visZ i z k).W.length+(p.length - cntD (visZ i z k).D)=z.W.length+(p.length - cntD z.D):=by
 unfold visZ
 split
 ·rename_i hk
  have hkl:k.toNat < z.D.length:=by rw[J.len];omega
  have hi:=J.i0.2.2
  have hc:=cnt_set z.D k.toNat (z.D.getD i.toNat 0+1) hkl hk (by omega)
  have hle:=cnt_le (z.D.set k.toNat (z.D.getD i.toNat 0+1))
  rw[List.length_set,J.len]at hle
  have mono:∀j,0≤z.D.getD j 0→0≤(z.D.set k.toNat (z.D.getD i.toNat 0+1)).getD j 0:=fun j hj=>by
   rw[getD_set hkl]
   split
   ·omega
   ·exact hj
  have hkk:0≤(z.D.set k.toNat (z.D.getD i.toNat 0+1)).getD k.toNat 0:=by rw[getD_set hkl,if_pos rfl];omega
  refine⟨⟨by rw[List.length_set];exact J.len,fun w hw=>?_,mono 0 J.zero,fun j=>?_,fun j=>?_,⟨J.i0.1,J.i0.2.1,mono _ hi⟩,fun t ht=>?_,fun j hj hji hjd=>?_⟩,?_⟩
  ·rcases List.mem_append.1 hw with h|h
   ·obtain⟨a,b,c⟩:=J.mem w h
    exact⟨a,b,mono _ c⟩
   ·rw[List.mem_singleton]at h
    subst h
    exact⟨h0,h1,hkk⟩
  ·show (z.D.set k.toNat (z.D.getD i.toNat 0+1)).getD j 0 < cntD (z.D.set k.toNat (z.D.getD i.toNat 0+1))
   rw[hc,getD_set hkl]
   have:=J.up i.toNat
   have:=J.up j
   split<;>omega
  ·show -1≤(z.D.set k.toNat (z.D.getD i.toNat 0+1)).getD j 0
   rw[getD_set hkl]
   split
   ·omega
   ·exact J.lo j
  ·rcases List.mem_append.1 ht with h|h
   ·exact mono _ (J.dn t h)
   ·rw[List.mem_singleton]at h
    subst h
    exact hkk
  ·by_cases q:j=k.toNat
   ·refine .inl (List.mem_append_right _ ?_)
    rw[List.mem_singleton];omega
   ·have hjd':0≤z.D.getD j 0:=by
     have:0≤(z.D.set k.toNat (z.D.getD i.toNat 0+1)).getD j 0:=hjd
     rw[getD_set hkl,if_neg q]at this
     exact this
    rcases J.cl j hj hji hjd' with h|h
    ·exact .inl (List.mem_append_left _ h)
    ·exact .inr fun t ht=>mono _ (h t ht)
  ·show (z.W++[k]).length+(p.length - cntD (z.D.set k.toNat (z.D.getD i.toNat 0+1)))=_
   rw[hc,List.length_append,List.length_singleton]
   rw[hc]at hle
   omega
 ·rename_i hk
  refine⟨⟨J.len,J.mem,J.zero,J.up,J.lo,J.i0,fun t ht=>?_,J.cl⟩,rfl⟩
  rcases List.mem_append.1 ht with h|h
  ·exact J.dn t h
  ·rw[List.mem_singleton]at h
   subst h
   omega
theorem DJ.folds {p:List Ins}{i:Int}:∀(e l:List Int) (z:DZ),DJ p i l z→(∀t∈e,0≤t∧t < p.length)→DJ p i (l++e) (e.foldl (visZ i) z)∧(e.foldl (visZ i) z).W.length+(p.length - cntD (e.foldl (visZ i) z).D)=z.W.length+(p.length - cntD z.D)
 | [],l,z,J,_=>by rw[List.append_nil];exact⟨J,rfl⟩
 | k::e,l,z,J,h=>by
  obtain⟨h0,h1⟩:=h k (List.mem_cons_self ..)
  obtain⟨J1,m1⟩:=J.vis h0 h1
  obtain⟨J2,m2⟩:=DJ.folds e (l++[k]) (visZ i z k) J1 fun t ht=>h t (List.mem_cons_of_mem _ ht)
  rw[List.append_assoc]at J2
  exact⟨J2,m2.trans m1⟩
theorem edges_in {n k:Nat}{x:Ins}(hR:RightI n k x):∀t∈yg_ x k,0≤t∧t < n:=by
 intro t ht
 unfold yg_ at ht
 simp only[List.mem_append]at ht
 rcases ht with (h|h)|h
 ·split at h
  ·rename_i q
   rw[List.mem_singleton]at h
   subst h
   exact hR.targ q.1
  ·cases h
 ·split at h
  ·rename_i q
   rw[List.mem_singleton]at h
   subst h
   have:=hR.goes q
   omega
  ·cases h
 ·split at h
  ·rename_i q
   rw[List.mem_singleton]at h
   subst h
   exact hR.targ q.1
  ·cases h
theorem DI.pop {p:List Ins}{i:Int}{w:List Int}{D:List Int}(I:DI p ⟨D,i::w⟩):DJ p i [] ⟨D,w⟩:=by
 refine⟨I.len,fun v hv=>I.mem v (List.mem_cons_of_mem _ hv),I.zero,I.up,I.lo,I.mem i (List.mem_cons_self ..),fun t ht=>(by cases ht),fun k hk hki hd=>?_⟩
 rcases I.cl k hk hd with h|h
 ·rcases List.mem_cons.1 h with h|h
  ·exact absurd h hki
  ·exact .inl h
 ·exact .inr h
theorem DI.step {p:List Ins}(hx:∀x∈p,x.ok)(hc:(y8_ p).2=0){i:Int}{w D:List Int}(I:DI p ⟨D,i::w⟩):DI p (disS p ⟨D,i::w⟩)∧(disS p ⟨D,i::w⟩).W.length+(p.length - cntD (disS p ⟨D,i::w⟩).D) < (i::w).length+(p.length - cntD D):=by
 obtain⟨h0,h1,h2⟩:=I.mem i (List.mem_cons_self ..)
 have hR:=right_at hx hc (k:=i.toNat) (by omega)
 have he:=edges_in hR
 have e0:((i.toNat:Nat):Int)=i:=by omega
 rw[e0]at he
 obtain⟨J,m⟩:=DJ.folds (yg_ (p.getD i.toNat ⟨0,0,0,0,0⟩) i) [] ⟨D,w⟩ I.pop he
 refine⟨⟨J.len,J.mem,J.zero,J.up,J.lo,fun k hk hd=>?_⟩,?_⟩
 ·by_cases q:(k:Int)=i
  ·refine .inr fun t ht=>J.dn t ?_
   have:k=i.toNat:=by omega
   subst this
   rw[e0]at ht
   exact ht
  ·exact J.cl k hk q hd
 ·show (List.foldl (visZ i) ⟨D,w⟩ _).W.length+(p.length - cntD (List.foldl (visZ i) ⟨D,w⟩ _).D) < w.length+1+_
  rw[m]
  show w.length+(p.length - cntD D) < _
  omega
theorem mem_go {x:Ins}{i:Int}(h:goesB x=true):i+1∈yg_ x i:=by
 unfold yg_
 simp only[List.mem_append]
 exact .inl (.inr (by rw[if_pos h];exact List.mem_singleton.2 rfl))
theorem mem_to {x:Ins}{i:Int}(h:xj_ x=true):y7_ x∈yg_ x i:=by
 by_cases q:y7_ x≤i
 ·unfold yg_
  simp only[List.mem_append]
  exact .inl (.inl (by rw[if_pos ⟨h,q⟩];exact List.mem_singleton.2 rfl))
 ·by_cases g:goesB x=true
  ·by_cases e:y7_ x=i+1
   ·rw[e];exact mem_go g
   ·unfold yg_
    simp only[List.mem_append]
    exact .inr (by rw[if_pos ⟨h,by omega,.inl (by omega)⟩];exact List.mem_singleton.2 rfl)
  ·unfold yg_
   simp only[List.mem_append]
   exact .inr (by rw[if_pos ⟨h,by omega,.inr (by simpa using g)⟩];exact List.mem_singleton.2 rfl)
theorem made_open (xs:List Ins){v:Evi}{y t s d:Int}{cs:List Int}(p0:0≤v.process)(p1:v.process≤65536)(o0:0≤v.ports)(l0:1≤v.look)(t0:0≤v.now)(t1:v.now≤281474976710656)(hc:cs.length≤1024)(d0:0≤d)(d1:d≤1099511627776):openE (zq_ xs) v (ya_ y t s cs d)=0:=by
 unfold openE
 have h3:v.rightB=true:=decide_eq_true ⟨p0,p1,o0,l0,t0,t1⟩
 have hl:=(made14_le xs).1
 have h4:(ya_ y t s cs d).rightB (zq_ xs).length=true:=decide_eq_true ⟨Int.le_refl 0,by show (0:Int) < _;omega,by show (cs.length:Int)≤1024;omega,d0,d1⟩
 rw[if_neg (fun h=>h (made14_right xs)),if_neg (by rw[h3];exact Bool.noConfusion),if_neg (by rw[h4];exact Bool.noConfusion)]
end Go.Proofs.Ytjliakjbdcplcaa.Vm
end
section
namespace Go.Proofs.Ytjliakjbdcplcaa.Vm
open Go.RowKit
section
variable {P:List Ins} {v:Evi}
theorem runA_le:∀(n:Nat) (s:Sta) (x:Ins) (tr:List Int) (a:Int),tr.length≤(runA P v n s x tr a).tr.length∧(runA P v n s x tr a).tr.length≤tr.length+n
 | 0,s,x,tr,a=>by
  unfold runA
  split<;>simp
 | n+1,s,x,tr,a=>by
  unfold runA
  split
  ·simp
  ·split
   ·have:=runA_le n (stepS P v s) (stepX P s x) (tr++[s.at_]) s.at_
    simp at this
    omega
   ·simp
theorem runA_fuel:∀(n:Nat) (s:Sta) (x:Ins) (tr:List Int) (a:Int),(runA P v n s x tr a).bad=190→(runA P v n s x tr a).s.ended=false∧(runA P v n s x tr a).tr.length=tr.length+n∧∀m,∃a',runA P v (n+m) s x tr a=runA P v m (runA P v n s x tr a).s (runA P v n s x tr a).x (runA P v n s x tr a).tr a'
 | 0,s,x,tr,a,h=>by
  cases he:s.ended
  ·rw[runA_zero he]
   exact⟨he,rfl,fun m=>⟨a,by rw[Nat.zero_add]⟩⟩
  ·rw[runA_end he]at h;cases h
 | n+1,s,x,tr,a,h=>by
  cases he:s.ended
  ·by_cases hs:stepE P v s=0
   ·rw[runA_go he (Nat.succ_pos n) hs]at h ⊢
    obtain⟨h1,h2,h3⟩:=runA_fuel n _ _ _ _ h
    refine⟨h1,?_,fun m=>?_⟩
    ·show (runA P v n (stepS P v s) (stepX P s x) (tr++[s.at_]) s.at_).tr.length=_
     rw[h2];simp;omega
    ·rw[show n+1+m=(n+m)+1 by omega,runA_go he (Nat.succ_pos _) hs]
     exact h3 m
   ·rw[runA_bad he (Nat.succ_pos _) hs]at h
    exact absurd h (stepE_ne190 P v s)
  ·rw[runA_end he]at h;cases h
theorem runA_more {m:Nat}{s:Sta}{x:Ins}{tr:List Int}{a:Int}(he:s.ended=false)(hm:0 < m):tr.length < (runA P v m s x tr a).tr.length:=by
 by_cases hs:stepE P v s=0
 ·rw[runA_go he hm hs]
  have:=(runA_le (P:=P) (v:=v) (m - 1) (stepS P v s) (stepX P s x) (tr++[s.at_]) s.at_).1
  simp at this
  omega
 ·rw[runA_bad he hm hs];simp
variable {s:Sta} {F n:Int}
theorem ropE_of (hO:openE P v s=0)(h0:0≤F)(h1:F≤4096):ropE P v s F=0:=by
 unfold ropE
 have:rrE F=0:=by unfold rrE;rw[if_neg (by omega)]
 rw[if_pos this];exact hO
theorem runO_of (hO:openE P v s=0)(h0:0≤F)(h1:F≤4096):xd_ P v s F=runA P v F.toNat s Ins0 [] 0:=by
 unfold xd_;rw[if_pos (ropE_of hO h0 h1)]
theorem runO_le (hO:openE P v s=0)(h0:0≤F)(h1:F≤4096):((xd_ P v s F).tr.length:Int)≤F:=by
 rw[runO_of hO h0 h1]
 have:=(runA_le (P:=P) (v:=v) F.toNat s Ins0 [] 0).2
 simp at this
 omega
theorem runO_fuel (hO:openE P v s=0)(h0:0≤F)(hn:0≤n)(h1:F+n≤4096)(hb:(xd_ P v s F).bad=190):((xd_ P v s F).tr.length:Int)=F∧(0 < n→F < ((xd_ P v s (F+n)).tr.length:Int)):=by
 rw[runO_of hO h0 (by omega)]at hb ⊢
 obtain⟨q1,q2,q3⟩:=runA_fuel _ _ _ _ _ hb
 refine⟨by rw[q2];simp;omega,fun hp=>?_⟩
 rw[runO_of hO (by omega) h1,show (F+n).toNat=F.toNat+n.toNat by omega]
 obtain⟨a',e⟩:=q3 n.toNat
 rw[e]
 have:=runA_more (P:=P) (v:=v) (x:=(runA P v F.toNat s Ins0 [] 0).x) (tr:=(runA P v F.toNat s Ins0 [] 0).tr) (a:=a') q1 (show 0 < n.toNat by omega)
 rw[q2]at this
 simp at this
 omega
end
theorem runA_good {P:List Ins}{v:Evi}(hP:PG P):∀(n:Nat) (s:Sta) (x:Ins) (tr:List Int) (a:Int),SG P s→SG P (runA P v n s x tr a).s
 | 0,s,x,tr,a,h=>by
  unfold runA
  split<;>exact h
 | n+1,s,x,tr,a,h=>by
  unfold runA
  split
  ·exact h
  ·split
   ·exact runA_good hP n _ _ _ _ (stepS_good h hP)
   ·exact stepS_good h hP
theorem runO_good' {P:List Ins}{v:Evi}{s:Sta}{F:Int}(hx:∀x∈P,x.ok)(hO:openE P v s=0)(hn:s.sends.length≤1000000)(h0:0≤F)(h1:F≤4096):SG P (xd_ P v s F).s:=by
 rw[runO_of hO h0 h1]
 have q:=openE_zero hO
 exact runA_good ⟨hx,q.1⟩ _ _ _ _ _ (SG.of q.2.2 hn)
end Go.Proofs.Ytjliakjbdcplcaa.Vm
end
