import Derived.Test.YtjliakjbdcplcaaU33
import Derived.Test.YtjliakjbdcplcaaU35
set_option linter.unusedSimpArgs false
set_option linter.unusedVariables false
section
namespace Go.Proofs.Ytjliakjbdcplcaa.Vm
open Go.RowKit
def toMS (s:Sta):MS:=⟨s.regs,s.cells,s.draws⟩
theorem doE_md {x:Ins}{s:Sta}{v:Evi}{lp:Int}(h1:x.op≠1)(he:doE s v x=0)(hp8:x.op=8→x.n < v.ports→x.n < lp):mdE lp v.look (toMS s) x=true:=by
 unfold doE at he
 unfold mdE toMS
 split at he
 ·cases he
 rename_i q2
 rw[if_neg (by omega)]
 split at he
 ·rename_i q5
  rw[if_pos q5]
  split at he
  ·cases he
  ·rename_i q;exact decide_eq_true (by dsimp only;omega)
 rename_i q5
 rw[if_neg q5]
 split at he
 ·rename_i q7
  rw[if_pos q7]
  split at he
  ·cases he
  ·rename_i q;exact decide_eq_true (by dsimp only;omega)
 rename_i q7
 rw[if_neg q7]
 split at he
 ·rename_i q8
  rw[if_pos q8]
  unfold sendE at he
  split at he
  ·cases he
  ·rename_i q
   split at he
   ·cases he
   ·rename_i q'
    exact decide_eq_true ⟨hp8 q8 (by omega),by dsimp only;omega⟩
 rename_i q8
 rw[if_neg q8]
 split at he
 ·rename_i q;rw[if_pos q]
 ·rename_i q;rw[if_neg q,he];rfl
theorem doS_regs {x:Ins}{s:Sta}{v:Evi}(h1:x.op≠1)(he:doE s v x=0)(o:List Int)(h7:x.op≠7)(hcl:x.op=1∨x.op=2∨x.op=3∨x.op=4∨x.op=5∨x.op=6∨x.op=7∨x.op=8∨x.op=9∨x.op=10∨x.op=11∨(33≤x.op∧x.op≤49)):(doS s v x).regs=(mdS o (toMS s) x).regs:=by
 unfold doS mdS toMS MS.put Sta.put
 rw[if_neg (fun h=>h he)]
 rcases hcl with q|q|q|q|q|q|q|q|q|q|q|q
 ·exact absurd q h1
 ·simp[q]
  unfold doE at he;rw[if_pos q]at he;cases he
 ·simp[q]
 ·simp[q]
 ·simp[q]
 ·simp[q]
 ·exact absurd q h7
 ·simp[q]
 ·simp[q]
 ·simp[q]
 ·simp[q]
 ·rw[if_neg h1,if_neg (by omega),if_neg (by omega),if_neg (by omega),if_neg (by omega),if_neg (by omega),if_neg (by omega),if_neg (by omega),if_neg (by omega),if_neg (by omega)]
  rw[if_neg (by omega),if_neg (by omega),if_neg (by omega),if_neg (by omega),if_neg (by omega),if_pos (by omega)]
theorem ite_sta {c:Prop}[Decidable c]{a b:Sta}(Q:Sta→Prop)(ha:c→Q a)(hb:¬c→Q b):Q (if c then a else b):=by
 by_cases h:c
 ·rw[if_pos h];exact ha h
 ·rw[if_neg h];exact hb h
theorem doS_next {x:Ins}{s:Sta}{v:Evi}{k:Int}(hk:s.at_=k)(h1:x.op≠1)(he:doE s v x=0):(doS s v x).at_=mdN (toMS s) x k:=by
 subst hk
 by_cases q9:x.op=9
 ·rw[show mdN (toMS s) x s.at_=x.n by unfold mdN;rw[if_pos q9]]
  unfold doS
  rw[if_neg (fun h=>h he),if_neg h1,if_neg (by omega),if_neg (by omega),if_neg (by omega),if_neg (by omega),if_neg (by omega),if_neg (by omega),if_pos q9]
 by_cases q10:x.op=10
 ·rw[show mdN (toMS s) x s.at_=if s.regs x.a.toNat=0 then x.n else s.at_+1 by unfold mdN;rw[if_neg q9,if_pos q10];rfl]
  unfold doS
  rw[if_neg (fun h=>h he),if_neg h1,if_neg (by omega),if_neg (by omega),if_neg (by omega),if_neg (by omega),if_neg (by omega),if_neg (by omega),if_neg q9,if_pos q10]
 by_cases q11:x.op=11
 ·rw[show mdN (toMS s) x s.at_=if s.regs x.a.toNat < 0 then x.n else s.at_+1 by unfold mdN;rw[if_neg q9,if_neg q10,if_pos q11];rfl]
  unfold doS
  rw[if_neg (fun h=>h he),if_neg h1,if_neg (by omega),if_neg (by omega),if_neg (by omega),if_neg (by omega),if_neg (by omega),if_neg (by omega),if_neg q9,if_neg q10,if_pos q11]
 rw[show mdN (toMS s) x s.at_=s.at_+1 by unfold mdN;rw[if_neg q9,if_neg q10,if_neg q11]]
 unfold doS
 rw[if_neg (fun h=>h he),if_neg h1]
 repeat' (first|exact rfl|refine ite_sta (fun t=>t.at_=s.at_+1) (fun h=>(by first|rfl|exact absurd h q9|exact absurd h q10|exact absurd h q11)) fun _=>?_)
theorem doS_ended {x:Ins}{s:Sta}{v:Evi}(h1:x.op≠1):(doS s v x).ended=s.ended:=by
 unfold doS
 refine ite_sta (fun t=>t.ended=s.ended) (fun _=>rfl) fun _=>?_
 refine ite_sta (fun t=>t.ended=s.ended) (fun h=>absurd h h1) fun _=>?_
 repeat' (first|exact rfl|refine ite_sta (fun t=>t.ended=s.ended) (fun _=>rfl) fun _=>?_)
theorem doS_cells {x:Ins}{s:Sta}{v:Evi}:(doS s v x).cells.length=s.cells.length:=by
 unfold doS
 repeat' (first|exact rfl|exact List.length_set .. | refine ite_sta (fun t=>t.cells.length=s.cells.length) (fun _=>(by first|rfl|exact List.length_set ..)) fun _=>?_)
theorem do_sound {n k:Nat}{x:Ins}(hR:RightI n k x){s:Sta}{v:Evi}{f:Ft}(hk:s.at_=k)(hf:Mt f s.regs)(h1:x.op≠1)(he:doE s v x=0)(hfr:f.reached=true):∃h,((doS s v x).at_,h)∈yl_ x k f∧Mt h (doS s v x).regs:=by
 have hgo:mdE v.ports v.look (toMS s) x=true:=doE_md h1 he (fun _ h=>h)
 rw[doS_next hk h1 he]
 by_cases h7:x.op=7
 ·have ha8:x.a.toNat < 8:=by have:=hR.a;omega
  obtain⟨h,hm,hM⟩:=step_sound hR (o:=[]) hf hgo
  have hh:h=⟨f.reached,setK f.regs x.a.toNat K0⟩:=by
   unfold yl_ at hm
   rw[if_pos (by omega)]at hm
   have:=(mem_emit hm).1
   rw[this]
   unfold resK
   rw[if_neg (by omega),if_neg (by omega),if_pos (by omega)]
  refine⟨h,hm,?_⟩
  rw[hh]
  have e:(doS s v x).regs=fun j=>if j=x.a.toNat then drawI v.seed v.process s.draws (s.regs x.b.toNat)else s.regs j:=by
   unfold doS
   rw[if_neg (fun h=>h he),if_neg h1,if_neg (by omega),if_neg (by omega),if_neg (by omega),if_neg (by omega),if_pos h7]
   rfl
  rw[e]
  exact hf.set fun h=>by cases h
 ·rw[doS_regs h1 he [] h7 hR.cls]
  exact step_sound hR hf hgo
section
variable {P:List Ins} {v:Evi} {F:List Ft} {lc lp:Int}
structure TG (P:List Ins) (v:Evi) (F:List Ft) (lc lp:Int) (tr:List Int):Prop where
 inr:∀i,i < tr.length→0≤tr.getD i 0∧tr.getD i 0 < P.length∧(ys_ F (tr.getD i 0).toNat).reached=true
 hd:0 < tr.length→tr.getD 0 0=0
 nx:∀i,i+1 < tr.length→tr.getD (i+1) 0∈yg_ (insAt P (tr.getD i 0)) (tr.getD i 0)
 nd:∀i,i+1 < tr.length→whyE lc lp v.look (insAt P (tr.getD i 0)) (ys_ F (tr.getD i 0).toNat)=0
structure TI (P:List Ins) (v:Evi) (F:List Ft) (lc lp:Int) (tr:List Int) (s:Sta):Prop where
 g:TG P v F lc lp tr
 a0:0≤s.at_
 a1:s.at_ < P.length
 re:(ys_ F s.at_.toNat).reached=true
 mt:Mt (ys_ F s.at_.toNat) s.regs
 cl:(s.cells.length:Int)=lc
 z:tr.length=0→s.at_=0
 lx:0 < tr.length→s.at_∈yg_ (insAt P (tr.getD (tr.length - 1) 0)) (tr.getD (tr.length - 1) 0)∧whyE lc lp v.look (insAt P (tr.getD (tr.length - 1) 0)) (ys_ F (tr.getD (tr.length - 1) 0).toNat)=0
theorem getD_snoc {l:List Int}{a:Int}{i:Nat}:(l++[a]).getD i 0=if i < l.length then l.getD i 0 else if i=l.length then a else 0:=by
 rw[List.getD_eq_getElem?_getD,List.getD_eq_getElem?_getD]
 by_cases h:i < l.length
 ·rw[if_pos h,List.getElem?_append_left h]
 ·rw[if_neg h,List.getElem?_append_right (by omega)]
  by_cases h2:i=l.length
  ·subst h2;simp
  ·rw[if_neg h2,List.getElem?_eq_none (by simp;omega)];rfl
theorem TI.app {tr:List Int}{s:Sta}(h:TI P v F lc lp tr s):TG P v F lc lp (tr++[s.at_]):=by
 have hl:(tr++[s.at_]).length=tr.length+1:=by simp
 refine⟨fun i hi=>?_,fun _=>?_,fun i hi=>?_,fun i hi=>?_⟩
 ·rw[hl]at hi
  rw[getD_snoc]
  split
  ·rename_i q;exact h.g.inr i q
  ·rw[if_pos (by omega)];exact⟨h.a0,h.a1,h.re⟩
 ·rw[getD_snoc]
  split
  ·rename_i q;exact h.g.hd q
  ·rename_i q;rw[if_pos (by omega)];exact h.z (by omega)
 ·rw[hl]at hi
  rw[getD_snoc,getD_snoc,if_pos (show i < tr.length by omega)]
  split
  ·rename_i q;exact h.g.nx i q
  ·rename_i q
   rw[if_pos (by omega)]
   have e:i=tr.length - 1:=by omega
   rw[e];exact(h.lx (by omega)).1
 ·rw[hl]at hi
  rw[getD_snoc,if_pos (show i < tr.length by omega)]
  by_cases q:i+1 < tr.length
  ·exact h.g.nd i q
  ·have e:i=tr.length - 1:=by omega
   rw[e];exact(h.lx (by omega)).2
theorem ti_step (hP:PG P)(hF:F=factsS P)(hlp:lp=min v.ports 16){tr:List Int}{s:Sta}(h:TI P v F lc lp tr s)(h1:(insAt P s.at_).op≠1)(he:doE s v (insAt P s.at_)=0):TI P v F lc lp (tr++[s.at_]) (doS s v (insAt P s.at_)):=by
 have hk:s.at_.toNat < P.length:=by have:=h.a0;have:=h.a1;omega
 have hR:RightI P.length s.at_.toNat (insAt P s.at_):=right_at hP.ok hP.chk hk
 have hI:RI (insAt P s.at_):=ri_at hP.ok hP.chk hk
 have ha:s.at_=(s.at_.toNat:Int):=(Int.toNat_of_nonneg h.a0).symm
 obtain⟨f,hm,hM⟩:=do_sound hR (v:=v) ha h.mt h1 he h.re
 obtain⟨m1,m2,m3,m4,_⟩:=hands_mem hR hm
 subst hF
 obtain⟨c1,c2⟩:=facts_closed hP.ok hP.chk hk h.re hm
 have hl:(tr++[s.at_]).length=tr.length+1:=by simp
 refine⟨h.app,m2,m3,c1,fun r hr hi=>?_,by rw[doS_cells];exact h.cl,fun e=>by omega,fun _=>?_⟩
 ·rw[←c2 r hr hi]
  exact hM r hr (by rw[c2 r hr hi];exact hi)
 ·rw[hl,Nat.add_sub_cancel,getD_snoc,if_neg (by omega),if_pos rfl]
  refine⟨?_,?_⟩
  ·rcases m4 with ⟨e,e2⟩|⟨e,e2⟩
   ·rw[e,←ha];exact mem_go e2
   ·rw[e];exact mem_to e2
  ·exact not_doomed hR (s:=toMS s) h.mt (doE_md h1 he fun q8 q=>by have:=hI.snd q8;rw[hlp];show (insAt P s.at_).n < min v.ports 16;omega) h.cl
theorem stepS_op1 {s:Sta}(h1:(insAt P s.at_).op=1)(he:s.ended=false):stepE P v s=0∧(stepS P v s).ended=true:=by
 have e:doE s v (insAt P s.at_)=0:=by unfold doE;rw[if_neg (by omega),if_neg (by omega),if_neg (by omega),if_neg (by omega),if_pos (by omega)]
 refine⟨by unfold stepE;rw[he];exact e,?_⟩
 unfold stepS
 rw[he,if_neg (by decide)]
 unfold doS
 rw[if_neg (fun h=>h e),if_pos h1]
theorem run_TG (hP:PG P)(hF:F=factsS P)(hlp:lp=min v.ports 16):∀(n:Nat) (s:Sta) (x:Ins) (tr:List Int) (a:Int),TI P v F lc lp tr s→s.ended=false →
  TG P v F lc lp (runA P v n s x tr a).tr∧((runA P v n s x tr a).bad≠190→0 < (runA P v n s x tr a).tr.length∧(runA P v n s x tr a).tr.getD ((runA P v n s x tr a).tr.length - 1) 0=(runA P v n s x tr a).at_∧((insAt P (runA P v n s x tr a).at_).op=1↔(runA P v n s x tr a).bad=0))
 | 0,s,x,tr,a,h,he=>by
  rw[runA_zero he]
  exact⟨h.g,fun q=>absurd rfl q⟩
 | n+1,s,x,tr,a,h,he=>by
  by_cases hs:stepE P v s=0
  ·rw[runA_go he (by omega) hs,Nat.add_sub_cancel]
   by_cases h1:(insAt P s.at_).op=1
   ·rw[runA_end (stepS_op1 h1 he).2]
    refine⟨h.app,fun _=>⟨by simp,?_,⟨fun _=>rfl,fun _=>h1⟩⟩⟩
    show (tr++[s.at_]).getD ((tr++[s.at_]).length - 1) 0=s.at_
    rw[getD_snoc,if_neg (by simp),if_pos (by simp)]
   ·have hd:doE s v (insAt P s.at_)=0:=by unfold stepE at hs;rw[he]at hs;exact hs
    have e:stepS P v s=doS s v (insAt P s.at_):=by unfold stepS;rw[he];rfl
    rw[e]
    exact run_TG hP hF hlp n _ _ _ _ (ti_step hP hF hlp h h1 hd) (by rw[doS_ended h1];exact he)
  ·rw[runA_bad he (by omega) hs]
   refine⟨h.app,fun _=>⟨by simp,?_,⟨fun h1=>absurd (stepS_op1 (v:=v) h1 he).1 hs,fun h0=>absurd h0 hs⟩⟩⟩
   show (tr++[s.at_]).getD ((tr++[s.at_]).length - 1) 0=s.at_
   rw[getD_snoc,if_neg (by simp),if_pos (by simp)]
theorem ti_beg (hP:PG P)(hF:F=factsS P){value time source:Int}{cells:List Int}{draws:Int}(hl:(cells.length:Int)=lc):TI P v F lc lp [] (ya_ value time source cells draws):=by
 have I:=facts_FI' hP.ok hP.chk
 subst hF
 refine⟨⟨fun i hi=>absurd hi (Nat.not_lt_zero i),fun h=>absurd h (Nat.lt_irrefl 0),fun i hi=>absurd hi (Nat.not_lt_zero _),fun i hi=>absurd hi (Nat.not_lt_zero _)⟩,Int.le_refl 0,?_,I.r0,fun r hr hi=>?_,hl,fun _=>rfl,fun h=>absurd h (Nat.lt_irrefl 0)⟩
 ·have:=hP.len0
  show (0:Int) < P.length
  omega
 ·have e:(ya_ value time source cells draws).at_.toNat=0:=rfl
  rw[e]at hi ⊢
  rcases I.at0 r with q|⟨q3,q⟩
  ·rw[q]at hi;cases hi
  ·rw[q]
   show (0:Int)=begR value time source r
   unfold begR
   rw[if_neg (by omega),if_neg (by omega),if_neg (by omega)]
end
end Go.Proofs.Ytjliakjbdcplcaa.Vm
end
