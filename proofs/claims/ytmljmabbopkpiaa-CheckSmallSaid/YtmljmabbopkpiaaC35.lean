import Derived.Test.YtmljmabbopkpiaaC1
import Derived.Test.YtmljmabbopkpiaaC7
import Derived.Test.YtmljmabbopkpiaaC8
import Derived.Test.YtmljmabbopkpiaaC9
import Derived.Test.YtmljmabbopkpiaaC11
import Derived.Test.YtmljmabbopkpiaaC12
import Derived.Test.YtmljmabbopkpiaaC16
import Derived.Test.YtmljmabbopkpiaaC34
import Derived.Test.YtmljmabbopkpiaaProg
import Derived.WalkSpells
set_option linter.unusedSimpArgs false
set_option linter.unusedVariables false
set_option maxRecDepth 100000
set_option maxHeartbeats 4000000
section
namespace Go.Proofs.Ytmljmabbopkpiaa.Vm
open Go.RowKit
def stS (s:Sta)(c k:Nat):SV:=.agg [.int .i64 s.at_,.bool s.ended,.arr 8 1 fun q=>.int .i64 (s.regs q),.sl c c [] 1 0 s.cells.length none,.int .i64 s.draws,.sl k k [] 3 0 s.sends.length none]
def evS (v:Evi):SV:=.agg [.int .u64 v.seed,.int .i64 v.process,.int .i64 v.ports,.int .i64 v.look,.int .i64 v.now]
def macS (s:Sta)(v:Evi)(x:Ins)(c k:Nat):SV:=.agg [stS s c k,evS v,insS x]
def mB (s:Sta)(v:Evi)(x:Ins)(c k:Nat):HB:=.own 152 (macS s v x c k) true
def cB (s:Sta):HB:=.own 2 (.arr s.cells.length 1 (zw_ s.cells)) false
def sB (s:Sta):HB:=.own 64 (.arr s.sends.length 3 (sndsS s.sends)) false
theorem stS_eq (s:Sta)(c k:Nat):stS s c k=.agg [.int .i64 s.at_,.bool s.ended,.arr 8 1 fun q=>.int .i64 (s.regs q),.sl c c [] 1 0 s.cells.length none,.int .i64 s.draws,.sl k k [] 3 0 s.sends.length none]:=rfl
theorem evS_eq (v:Evi):evS v=.agg [.int .u64 v.seed,.int .i64 v.process,.int .i64 v.ports,.int .i64 v.look,.int .i64 v.now]:=rfl
theorem macS_eq (s:Sta)(v:Evi)(x:Ins)(c k:Nat):macS s v x c k=.agg [stS s c k,evS v,insS x]:=rfl
theorem mB_eq (s:Sta)(v:Evi)(x:Ins)(c k:Nat):mB s v x c k=.own 152 (macS s v x c k) true:=rfl
theorem cB_eq (s:Sta):cB s=.own 2 (.arr s.cells.length 1 (zw_ s.cells)) false:=rfl
theorem sB_eq (s:Sta):sB s=.own 64 (.arr s.sends.length 3 (sndsS s.sends)) false:=rfl
set_option linter.defProp false in
def JM:=And.intro @stS_eq (And.intro @evS_eq (And.intro @macS_eq (And.intro @mB_eq (And.intro @cB_eq @sB_eq))))
def macP (h:HM)(g:Nat):Option (Sta×Evi×Ins×Nat×Nat×Prop):=match h g with
 | .own t (.agg [.agg [a,.bool e,.arr 8 1 rg,.sl z c [] 1 0 nc none,d,.sl z2 k [] 3 0 ns none],.agg [e0,e1,e2,e3,e4],iv]) true=>match h c,h k with
  | .own t1 (.arr n1 1 cf) false,.own t2 (.arr n2 3 sf) false=>
   bif (Nat.beq t 152 && Nat.beq t1 2 && Nat.beq t2 64) && (Nat.beq z c && Nat.beq z2 k && Nat.beq n1 nc && Nat.beq n2 ns) && (isI .i64 a && isI .i64 d) && (isI .u64 e0 && isI .i64 e1 && isI .i64 e2 && isI .i64 e3 && isI .i64 e4) && xt_ iv then
    some (⟨iOf a,e,fun q=>iOf (rg q),ls iOf nc cf,iOf d,ls sndOf ns sf⟩,⟨iOf e0,iOf e1,iOf e2,iOf e3,iOf e4⟩,zd_ iv,c,k,(∀q,q < 8→isI .i64 (rg q)=true)∧(∀q,q < nc→isI .i64 (cf q)=true)∧∀q,q < ns→isSnd (sf q)=true)else none
  | _,_=>none
 | _=>none
section
variable {w0 w:World} {M:Nat→Prop} {β : Env} {h h':HM} {g c k:Nat} {s:Sta} {v:Evi} {x:Ins} {ok:Prop}
end
abbrev MF:=List SV→Sta→Evi→Ins→Option (Prop×(Nat→SV)×Sta×Ins×Bool)
def mS (F:MF):y4_:=fun args h m=>match args with
 | .ptr g []::ar=>match macP h g with
  | some (s,v,x,c,k,ok)=>match F ar s v x with
   | some (cond,val,s',x',mv)=>some (ok∧cond,val c,[g,c,k],bif mv then [(g,mB s' v x' c m),(c,cB s'),(k,.gone),(m,sB s')] else [(g,mB s' v x' c k),(c,cB s'),(k,sB s')])
   | none=>none
  | none=>none
 | _=>none
abbrev RF:=Sta→Evi→Ins→Option (Prop×SV)
def rS (F:RF):y4_:=fun args h m=>match args with
 | [.ptr g []]=>match macP h g with
  | some (s,v,x,c,k,ok)=>match F s v x with
   | some (cond,val)=>some (ok∧cond,val,[g,c,k],[])
   | none=>none
  | none=>none
 | _=>none
end Go.Proofs.Ytmljmabbopkpiaa.Vm
end
section
open Go.Proofs.Ytmljmabbopkpiaa.Vm Go.RowKit
attribute [local push_cast] eqB eqBL allB prS sndsS zw_ nav_ins xs_ xr_ xq_ xp_ xo_ nav_snd xn_ xm_ xl_ yo_ yi_ yv_ yq_ yz_ yy_ iOf
section
namespace Go.Proofs.Ytmljmabbopkpiaa.Vm
open Go.RowKit
theorem ls_i64S2 (l:List Int):ls iOf l.length (fun q=>.int .i64 (l.getD q 0))=l:=yu_ l
theorem ls_sndsS2 (l:List Snd):ls sndOf l.length (fun q=>sndS (l.getD q ⟨0,0,0⟩))=l:=ls_sndsS l
def aF:RF:=fun s v x=>some (0≤x.a∧x.a < 8,.int .i64 (s.regs x.a.toNat))
def bF:RF:=fun s v x=>some (0≤x.b∧x.b < 8,.int .i64 (s.regs x.b.toNat))
def cF:RF:=fun s v x=>some (0≤x.c∧x.c < 8,.int .i64 (s.regs x.c.toNat))
def putF:MF:=fun ar s v x=>match ar with
 | [.int .i64 n]=>some (0≤x.a∧x.a < 8∧0≤s.at_∧s.at_≤256,fun _=>.int .i64 0,s.put x.a.toNat n,x,false)
 | _=>none
def jumpIfF:MF:=fun ar s v x=>match ar with
 | [.bool is]=>some (0≤s.at_∧s.at_≤256∧0≤x.n∧x.n < 256,fun _=>.int .i64 0,{ s with at_:=if is=true then x.n else s.at_+1 },x,false)
 | _=>none
end Go.Proofs.Ytmljmabbopkpiaa.Vm
end
section
namespace Go.Proofs.Ytmljmabbopkpiaa.Vm
open Go.RowKit
attribute [local push_cast] eqB eqBL allB prS sndsS zw_ nav_ins xs_ xr_ xq_ xp_ xo_ nav_snd xn_ xm_ xl_ yo_ yi_ yv_ yq_ yz_ yy_ iOf JM rS mS macP aF bF cF putF jumpIfF sApply inR inN
def sDraw:y4_:=fun args h m=>match args with
 | [v1,v2,v3,v4]=>bif isI .u64 v1 && isI .i64 v2 && isI .i64 v3 && isI .i64 v4 then some ((0≤(iOf v2))∧((iOf v2)≤65536)∧(0≤(iOf v3))∧((iOf v3)≤281474976710656)∧(1≤(iOf v4)),.tup [.int .i64 (drawI (iOf v1) (iOf v2) (iOf v3) (iOf v4)),.int .i64 0],[],[])else none
 | _=>none
set_option linter.defProp false in
def JE:=And.intro @sta_eta (And.intro @evi_eta (And.intro @yu_ (And.intro @yl_ (And.intro @ls_i64S2 (And.intro @ls_sndsS (And.intro @ls_sndsS' (And.intro @ls_sndsS2 (And.intro @y9_ (And.intro @yt_ @ys_)))))))))
def kF (k:Int)(mv:Bool):MF:=fun ar s v x=>match ar with
 | []=>some (x.op=k∧RI x∧VOk v∧SOk s,fun _=>.int .i64 (doE s v x),doS s v x,x,mv)
 | _=>none
def cM1:FuncId→Option y4_:=xz_ [(169,rS aF),(167,rS bF),(171,rS cF),(166,mS putF),(170,mS jumpIfF),(29,sApply),(27,sDraw)]
def wF:MF:=fun ar s v x=>match ar with
 | []=>some (32 < x.op∧RI x∧VOk v∧SOk s,fun _=>.int .i64 (doE s v x),doS s v x,x,false)
 | _=>none
-- ----------------------------------------
end Go.Proofs.Ytmljmabbopkpiaa.Vm
end
section
namespace Go.Proofs.Ytmljmabbopkpiaa.Vm
open Go.RowKit
attribute [local push_cast] eqB eqBL allB prS sndsS zw_ nav_ins xs_ xr_ xq_ xp_ xo_ nav_snd xn_ xm_ xl_ yo_ yi_ yv_ yq_ yz_ yy_ iOf JM cM1 rS mS macP aF bF cF putF jumpIfF sApply sDraw JE inR inN
end Go.Proofs.Ytmljmabbopkpiaa.Vm
end
section
namespace Go.Proofs.Ytmljmabbopkpiaa.Vm
open Go.RowKit
attribute [local push_cast] eqB eqBL allB prS sndsS zw_ nav_ins xs_ xr_ xq_ xp_ xo_ nav_snd xn_ xm_ xl_ yo_ yi_ yv_ yq_ yz_ yy_ iOf JM mS macP kF wF JE inR inN
end Go.Proofs.Ytmljmabbopkpiaa.Vm
end
section
namespace Go.Proofs.Ytmljmabbopkpiaa.Vm
open Go.RowKit
def nodupN:List Nat→Bool
 | []=>true
 | j::l=>!memN j l && nodupN l
structure PG (P:List Ins):Prop where
 ok:∀x∈P,x.ok
 chk:(zu_ P).2=0
structure SG (P:List Ins) (s:Sta):Prop where
 a0:0≤s.at_
 a1:s.at_ < P.length
 d0:0≤s.draws
 d1:s.draws≤1099511627776
 c1:s.cells.length≤1024
 n1:s.sends.length≤1000000
theorem PG.len {P:List Ins}(h:PG P):P.length≤256:=(yr_ h.chk).2.1
theorem SG.of {P:List Ins}{s:Sta}(h:s.rightB P.length=true)(hn:s.sends.length≤1000000):SG P s:=by
 have:=of_decide_eq_true (show decide _=true from h)
 exact⟨by omega,by omega,by omega,by omega,by omega,hn⟩
structure RR where
 tr:List Int
 at_:Int
 bad:Int
 s:Sta
 x:Ins
end Go.Proofs.Ytmljmabbopkpiaa.Vm
end
section
namespace Go.Proofs.Ytmljmabbopkpiaa.Vm
open Go.RowKit
section
variable {ρ : Nat→Nat} {h h':HM} {g c k a b:Nat} {s:Sta} {v:Evi} {x:Ins} {ok:Prop}
variable {i n:Nat} {P:List Ins}
end
end Go.Proofs.Ytmljmabbopkpiaa.Vm
end
section
namespace Go.Proofs.Ytmljmabbopkpiaa
open Go.RowKit
set_option maxRecDepth 100000 in
set_option maxHeartbeats 1000000 in
theorem cloneIns_some (ad:Addr)(n c:Nat)(xs:List Value)(w:World)(h:xi_ w w.heap.size 5 (some ad) n xs)(h1:∀u∈xs,u.oneCell'=true)(hn:n*16≤140737488355328)(hm:n≤maxLen) :
    Calls Try.prog 32 #[.slice (some ad) n c] w fun e w'=>∃v,e=.returned v∧w'.ownsRow w.heap.size 28 5 v (0+n) ([]++xs)∧Below w.heap.size w w':=by
  obtain⟨i0,hi,hz0,hz1,hz2⟩:=info_parts infoIns
  have hr:=(h.alloc (Nat.le_refl _) (.cells #[] 28))
  have H1:=Lib.hid h1
  have HN:=Lib.hid hn
  have HM:=Lib.hid hm
  have HR:=Lib.hid hr
  clear h h1 hn hm hr
  have kn:=fun (w:World) (a:Option Addr) (n c:Nat)=>eql_nil (P:=Try.prog) w 25 28 a n c Try.underlying25
  go_enter Try.func32,Try.ntmps32
  go_wp2_with (at_builtin
               refine wpList_append_any _ rfl (.tmp 5) (.tmp 6) _ rfl w.heap.size 28 i0 _ 5 16 Try.underlying25 hi hz0 hz1 hz2 rfl (by omega) (.slice (some ⟨w.heap.size,0,none⟩) 0 0) 0 [] rfl
                 (World.ownsRow_made w #[] 0 (Nat.le_refl _) (Nat.zero_le _) rfl) w.heap.size (some ad) n c xs rfl HR.out H1.out (by have:=HM.out;omega) (by have:=HN.out;omega) (by simp) ?_
               intro v1 w1 hown1 hg1 hat1)
  go_ret
  refine⟨v1,rfl,hown1,((Below.refl _ w).alloc (Nat.le_refl _) _).grown hg1 (by simp) (fun k hk=>?_)⟩
  rcases hat1 with e|e<;>simp[Value.ownBlock]at hk<;>omega
theorem cloneIns_nil (n c:Nat)(w:World) :
  Calls Try.prog 32 #[.slice none n c] w fun e w'=>e=.returned (.slice none 0 0)∧w=w':=by
 have kn:=fun (w:World) (a:Option Addr) (n c:Nat)=>eql_nil (P:=Try.prog) w 25 28 a n c Try.underlying25
 go_enter Try.func32,Try.ntmps32
 go_wp2
 go_ret
 exact⟨rfl,rfl⟩
theorem cloneIns_c (A:Option Addr)(n c:Nat)(xs:List Value)(w:World)(h:xi_ w w.heap.size 5 A n xs)(h1:∀u∈xs,u.oneCell'=true)(hn:n*16≤140737488355328) :
  Calls Try.prog 32 #[.slice A n c] w fun e w'=>∃v,e=.returned v∧w'.ownsRow w.heap.size 28 5 v n xs∧Below w.heap.size w w':=by
 cases A with
 | none=>
  have hn0:n=0:=by
   rcases Nat.eq_zero_or_pos n with h0|h0
   ·exact h0
   ·obtain⟨ad,e,_⟩:=h.2 h0
    cases e
  subst hn0
  have hx:xs=[]:=List.eq_nil_of_length_eq_zero (by simpa using h.1)
  subst hx
  refine(cloneIns_nil 0 c w).mono ?_
  rintro e w' ⟨rfl,rfl⟩
  exact⟨_,rfl,World.ownsRow_nil _ _ _ _,Below.refl _ _⟩
 | some ad=>
  have hm:n≤maxLen:=by unfold maxLen;omega
  refine(cloneIns_some ad n c xs w h h1 hn hm).mono ?_
  rintro e w' ⟨v,rfl,ho,hb⟩
  exact⟨v,rfl,by simpa using ho,hb⟩
end Go.Proofs.Ytmljmabbopkpiaa
end
section
namespace Go.Proofs.Ytmljmabbopkpiaa.Vm
open Go.RowKit
def sClI:y4_:=fun args h m=>match args with
 | [v]=>match srcV h 5 (.tup []) v with
  | some (c,n,f,rd)=>some (c∧(∀q,q < n→xt_ (f q)=true)∧n≤1000000,.sl m m [] 5 0 n none,rd,[(m,.own 28 (.arr n 5 (prS (ls zd_ n f))) false)])
  | _=>none
 | _=>none
theorem sClI_ok:zm_ Try.prog 32 sClI:=by
 refine⟨zg_ (by kernel_rfl),fun args h m c v rd wr hs hm hc w0 M β h' w R hrd hwr hst=>?_⟩
 unfold sClI at hs
 split at hs
 ·rename_i v0
  split at hs
  ·rename_i c' n f rd' ha
   simp only[Option.some.injEq,Prod.mk.injEq]at hs
   obtain⟨rfl,rfl,rfl,rfl⟩:=hs
   obtain⟨hc1,hi,hn⟩:=hc
   obtain⟨A,cap,hden,hnc,hr⟩:=zp_ R ha hc1 hrd (by omega)
   simp only[denL,hden]
   refine(cloneIns_c A n cap _ w hr (fun u hu=>elems_sane u hu) (by omega)).mono fun e w' he=>?_
   obtain⟨p,rfl,ho,hb⟩:=he
   have hmd:h' m=.dead:=(hwr _ (.head _)).trans (hm m (Nat.le_refl _))
   obtain ⟨e', R', hv⟩ := (R.below hb).made (f := prS (ls zd_ n f)) hmd ho R.size (by
     rw[elems_ins hi]
     have:=elems_prS (β:=β) (ls zd_ n f)
     rwa [zc_] at this) prS_stable (fun g i a' hg hmi hai e=>by
    have:=R.lt i a' hmi hai
    obtain⟨_,⟨rfl,_⟩|⟨g',cap',cur,rfl,hg',_⟩⟩:=ho
    ·cases hg
    ·simp[Value.ownBlock]at hg
     omega)
   exact⟨_,yd_ hmd,R',stable_new,by rw[hv]⟩
  ·cases hs
 ·cases hs
def prT (P:List Ins):HB:=.own 202 (.arr P.length 5 (prS P)) false
theorem getD_app_l {α : Type}{l m:List α}{q:Nat}{d:α}(h:q < l.length):(l++m).getD q d=l.getD q d:=by
 rw[List.getD_eq_getElem?_getD,List.getD_eq_getElem?_getD,List.getElem?_append_left h]
theorem less_catQ {t:Nat}{σ : Nat→Nat}{b:Bool}(S:List Ins)(x:Ins){n:Nat}{U:List Ins}(hn:S.length=n)(hU:S++[x]=U){m:Nat}(hm:m=U.length){g:Nat→SV}{xv z:SV}(hg:g=fun q=>SV.ite (decide (q < n)) (insS (S.getD q ⟨0,0,0,0,0⟩)) ([xv].getD (q - n) z))(hx:∀β,xv.cl β = x.cells) :
  Less (.own t (.arr m 5 g) b) ((HB.own t (.arr m 5 (prS U)) b).ren σ):=by
 subst hm
 have e:(HB.own t (.arr U.length 5 (prS U)) b).ren σ = .own t (.arr U.length 5 (prS U)) b:=by
  simp only[HB.ren,SV.ren];rw[prS_ren]
 rw[e]
 refine .val (fun β=>arrCl fun q hq=>?_) (fun n1 k1 f1 e=>by injection e with e1 e2 e3;subst e1 e2;exact⟨_,rfl⟩) (fun n1 k1 f1 e=>by injection e with e1 e2 e3;subst e1 e2;exact⟨_,rfl⟩)
 subst hg hU hn
 dsimp only
 rw[x1_]
 unfold prS
 by_cases h:q < S.length
 ·simp only[h,decide_true,cond_true]
  rw[getD_app_l h]
 ·have hq':q=S.length:=by rw[List.length_append]at hq;simp at hq;omega
  subst hq'
  simp only[h,decide_false,cond_false,Nat.sub_self,List.getD_cons_zero,hx]
  rw[List.getD_eq_getElem?_getD,List.getElem?_append_right (Nat.le_refl _),Nat.sub_self,isIns_cl (yo_ _),yi_];rfl
theorem prS_st (P:List Ins)(h:HM)(q:Nat):zb_ h (prS P q):=by simp[prS,insS,zb_,zh_]
theorem take_sn {l:List Ins}{k:Nat}(hk:k < l.length):l.take k++[l.getD k ⟨0,0,0,0,0⟩]=l.take (k+1):=by
 rw[List.getD_eq_getElem?_getD,List.getElem?_eq_getElem hk,List.take_add_one,List.getElem?_eq_getElem hk];rfl
theorem th14_lit (P:List Ins)(p1:Nat)(hn:P.length≤1000000):zz_ Try.prog 67 [.sl 1 2 [] 5 0 P.length (some p1)] [.gone,.gone,.ro (.arr P.length 5 (prS P))] (.sl 3 3 [] 5 0 P.length none) [.gone,.gone,.gone,prT P]:=by
 refine zf_ (fn:=Try.f67) 3 18 0 rfl rfl rfl rfl rfl (by simp only[zh_,zb_,hp,zw_,prS,insS,sndsS,sndS,prT,HB.stable];simp[HB.born]) rfl fun w0 M E hro=>?_
 repeat' (first|refine Ctl.h ?_ |((with_reducible intro hif);first |(focus (cases hif;done)) |((try simp only[JH]at hif);try exact hy_)) |((with_reducible first|apply J22 zl_ za_|apply J23 fol zl_ za_|apply J24);(·rfl);(· exact k40_);(try kernel_rfl);try exact k9_)|fail)
 refine WF.nilFr (φ2:=[(3,.sl 3 3 [] 5 0 0 none),(6,.sl 1 2 [] 5 0 P.length (some p1)),(7,.nat .i64 P.length),(8,.nat .i64 0)]) 202 5 (prS []) (fun h q=>prS_st [] h q) rfl ?_ ?_ ?_
 ·refine⟨⟨_,rfl,fun β h0 hx=>(nilB_cl h0 (show β 3=(none,0) from hx) 5).symm⟩,⟨_,rfl,fun β _ _=>rfl⟩,⟨_,rfl,fun β _ _=>rfl⟩,⟨_,rfl,fun β _ _=>rfl⟩,trivial⟩
 ·simp[xe_,zb_,hp,HB.born]
 simp only[List.cons_append,List.nil_append]
 have hz:Less (.own 202 (.arr 0 5 (prS [])) false) (.own 202 (.arr 0 5 (prS (P.take 0))) false):=.same _
 refine WF.loopAt (fun (j:Nat)=>j≤P.length) (fun (j:Nat)=>[(3,.sl 3 3 [] 5 0 j none),(6,.sl 1 2 [] 5 0 P.length (some p1)),(7,.nat .i64 P.length),(8,.nat .i64 j)]) (fun (j:Nat)=>[.gone,.gone,.ro (.arr P.length 5 (prS P)),.own 202 (.arr j 5 (prS (P.take j))) false]) (fun (j:Nat)=>P.length - j) 0 (Nat.zero_le _) ?_ ?_ rfl ?_ ?_ rfl ?_
 ·exact k8_
 ·exact k5_
 ·exact k144_
 ·exact k144_
 intro j hj
 by_cases hjl:j < P.length
 ·have hTl:(P.take j).length=j:=by rw[List.length_take];omega
  have hUl:j+1=(P.take (j+1)).length:=by rw[List.length_take];omega
  repeat' (first|refine Ctl.h ?_ |((with_reducible intro hif);first |(focus (cases hif;done)) |((try simp only[JH]at hif);try exact hy_)) |((with_reducible first|apply J22 zl_ za_|apply J23 fol zl_ za_|apply J24);(·rfl);(· (simp only[push_cast,↓JP,Nat.reduceAdd,Nat.reduceEqDiff,Nat.reduceLT,Nat.reduceMul,Nat.reduceLeDiff,reduceCtorEq,reduceIte,↓JK,hjl,inR,inN,List.all_cons,List.all_nil];rfl));(try kernel_rfl);try exact k30_)|fail)
  refine At.nextPick [0,1,2,6] (j+1) ?_ rfl rfl rfl ?_ rfl ?_ ?_ ?_ rfl
  ·omega
  ·(repeat' (first|exact trivial|exact .inl rfl|exact .inr (.same _)|exact .inr .loose|exact .inr (.arr (by assumption))|apply And.intro |(exact .inr (less_catQ (P.take j) (P.getD j ⟨0,0,0,0,0⟩) hTl (take_sn hjl) hUl rfl (fun β=>by rw[isIns_cl (yo_ _),yi_])))))
  ·exact k144_
  ·exact k48_
  ·exact k144_
 ·obtain rfl:j=P.length:=by omega
  repeat' (first|refine Ctl.h ?_ |((with_reducible intro hif);first |(focus (cases hif;done)) |((try simp only[JH]at hif);try exact hy_)) |((with_reducible first|apply J22 zl_ za_|apply J23 fol zl_ za_|apply J24);(·rfl);(· (simp only[push_cast,↓JP,Nat.reduceAdd,Nat.reduceEqDiff,Nat.reduceLT,Nat.reduceMul,Nat.reduceLeDiff,reduceCtorEq,reduceIte,↓JK,hjl,List.take_length];rfl));(try kernel_rfl);try exact k9_)|fail)
  apply At.endsPick [0,1,2,3] za_ (fn:=Try.f67) (rs:=[.tmp 2]) Anc.refl hro (lb_ rfl) rfl
  ·exact k33_
  ·exact k39_
  ·rfl
  ·rfl
  ·rfl
  ·(repeat' (first|exact trivial|exact .inl rfl|exact .inr (.same _)|exact .inr .loose|exact .inr (.arr (by assumption))|apply And.intro |(exact .inr (.same _))))
  ·rfl
  ·exact k144_
  ·exact k7_
  ·exact fun β=>rfl
  ·exact k144_
def sTh14:y4_:=fun args h m=>match args with
 | [v1]=>match srcV h 5 (.tup []) v1 with
  | some (c1,n1,f1,r1)=>some (c1∧(∀q,q < n1→xt_ (f1 q)=true)∧(n1≤1000000),.sl m m [] 5 0 (ls zd_ n1 f1).length none,r1,[(m,prT (ls zd_ n1 f1))])
  | _=>none
 | _=>none
theorem sTh14_ok:zm_ Try.prog 67 sTh14:=by
 refine⟨zg_ (by kernel_rfl),fun args h m c v rd wr hs hm hc w0 M β h' w R hrd hwr hst=>?_⟩
 unfold sTh14 at hs
 split at hs
 ·rename_i v1
  split at hs
  ·rename_i c1 n1 f1 r1 a1
   simp only[Option.some.injEq,Prod.mk.injEq]at hs
   obtain⟨rfl,rfl,rfl,rfl⟩:=hs
   obtain⟨k1,g1,y1⟩:=hc
   obtain⟨A1,p1,d1,e1,t1⟩:=zp_ R a1 k1 (fun i hi=>hrd i hi) (by omega)
   refine yb_ (views:=[⟨5,(ls zd_ n1 f1).length,prS (ls zd_ n1 f1),A1,p1⟩]) (th14_lit (ls zd_ n1 f1) p1 (by rw[zc_];exact y1)) ?_ R hm hwr ?_ ?_ ?_
   ·exact d20_
   ·exact d21_
   ·exact k144_
   ·exact k144_
  ·cases hs
 ·cases hs
end Go.Proofs.Ytmljmabbopkpiaa.Vm
end
end
